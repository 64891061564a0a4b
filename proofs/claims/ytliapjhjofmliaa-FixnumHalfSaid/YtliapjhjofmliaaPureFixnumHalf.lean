/- FixnumHalf: what is rounded is off by half of one at most, and of Down by less than one, below; ties go up, or to the even one; for every input. -/
import Derived.Test.YtliapjhjofmliaaPFixnumHalfx1
import Derived.Test.YtliapjhjofmliaaF2
namespace Go.Proofs.Ytliapjhjofmliaa.Pure
open Go.RowKit Go.Proofs.Ytliapjhjofmliaa.PFixnumHalf Go.Proofs.YtliapjhjofmliaaW.PrintWords Go.Proofs.YtliapjhjofmliaaW.PrintLast
open Go.Proofs.Ytliapjhjofmliaa.H Go.Proofs.Ytliapjhjofmliaa.Math
set_option linter.unusedVariables false
set_option linter.unusedSimpArgs false

theorem awakeHalf : quittancelaw01_awake.f = some true := by kernel_rfl
theorem half_end (k : Nat) {n d m v t : Int} (hm : 1 ≤ m ∧ m ≤ 3) (hd : 1 ≤ d ∧ d ≤ 4096) (hn : -1000000 ≤ n ∧ n ≤ 1000000) (hv : n - v * d = t) (ht : -d ≤ t ∧ t < d)
    (h3 : m = 3 → 0 ≤ t) (h1 : m = 1 → -d ≤ 2 * t ∧ 2 * t < d) (h2 : m = 2 → (-d < 2 * t ∧ 2 * t < d) ∨ ((2 * t = d ∨ 2 * t = -d) ∧ v % 2 = 0)) :
    quittancelaw01_FixnumHalf.j0 (k + 1) n d m v false = some true := by
  simp only [quittancelaw01_FixnumHalf.j0]
  rw [w64 (x := v * d) (by omega) (by omega), hv, w64 (x := t) (by omega) (by omega), w64 (x := 2 * t) (by omega) (by omega), w64 (x := 2 * d) (by omega) (by omega), w64 (x := -d) (by omega) (by omega)]
  have e2 := tmod2 v
  generalize ho : 2 * t = o at *
  clear hv
  rw [if_neg (by simp)]
  by_cases c3 : m = 3
  · have := h3 c3
    rw [if_pos c3]
    repeat' split
    all_goals first | (simp; omega) | (exfalso; omega)
  rw [if_neg c3]
  by_cases c1 : m = 1
  · obtain ⟨a, b⟩ := h1 c1
    rw [if_pos c1, if_pos (by omega)]
    simp; omega
  rw [if_neg c1]
  rcases h2 (by omega) with ⟨a, b⟩ | ⟨a, b⟩
  · rw [if_pos (by omega), if_pos (by omega)]
  · have e3 := e2.2 b
    rw [e3]
    rcases a with a | a
    · by_cases hz : o > -d
      · rw [if_pos hz, if_neg (by omega), if_pos a]; rfl
      · rw [if_neg hz, if_pos a]; rfl
    · rw [if_neg (by omega), if_neg (by omega), if_pos a]; rfl

theorem FixnumHalf : quittancelaw01_FixnumHalf.Pure := by
  intro a0 a1 a2 w0 w1 w2
  refine ⟨1, ?_⟩
  unfold quittancelaw01_FixnumHalf.f
  have hm := umod3 a2
  generalize wrap64 (1 + wrap64 (Int.tmod (IntKind.u64.wrap a2) 3)) = m at *
  have hn := tmod_bd a0 (m := 1000000) (by decide)
  generalize Int.tmod a0 1000000 = n at *
  rw [i64_and4095, w64 (x := 1 + a1 % 4096) (by omega) (by omega), of_yes hm, awakeHalf]
  have hd : 1 ≤ 1 + a1 % 4096 ∧ 1 + a1 % 4096 ≤ 4096 := by omega
  generalize 1 + a1 % 4096 = d at *
  simp only [Option.bind_some]
  rw [div_yes ⟨by omega, by omega⟩ ⟨by omega, by omega⟩ ⟨by omega, by omega⟩ (rnd_fit (B := 1000000) (by omega) (by omega) (by omega) (by decide) (by decide))]
  simp only [Option.bind_some, if_true]
  rw [show ((0 : Int) != 0) = false from rfl]
  obtain ⟨q, r, e, r0, r1, _, _, hv⟩ := rnd_spec n d m (by omega)
  rw [hv]
  by_cases hu : H.up q r d m
  · rw [if_pos hu]
    unfold H.up at hu
    refine half_end 0 (t := r - d) hm hd ⟨by omega, by omega⟩ (by rw [Int.add_mul, Int.one_mul]; omega) ⟨by omega, by omega⟩ (by omega) (by omega) ?_
    intro h2
    rcases hu with ⟨h, _⟩ | ⟨_, h | ⟨h, h'⟩⟩
    · omega
    · left; omega
    · right; exact ⟨by omega, by omega⟩
  · rw [if_neg hu]
    unfold H.up at hu
    refine half_end 0 (t := r) hm hd ⟨by omega, by omega⟩ (by omega) ⟨by omega, by omega⟩ (by omega) (by omega) ?_
    intro h2
    by_cases h : 2 * r = d
    · right; exact ⟨by omega, by omega⟩
    · left; omega
end Go.Proofs.Ytliapjhjofmliaa.Pure
