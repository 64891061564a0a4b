/- FixnumShift: whole numbers more are whole numbers more of what comes out; for every input. -/
import Derived.Test.YtliapjhjofmliaaPFixnumShiftx1
import Derived.Test.YtliapjhjofmliaaF2
namespace Go.Proofs.Ytliapjhjofmliaa.Pure
open Go.RowKit Go.Proofs.Ytliapjhjofmliaa.PFixnumShift Go.Proofs.YtliapjhjofmliaaW.PrintWords Go.Proofs.YtliapjhjofmliaaW.PrintLast
open Go.Proofs.Ytliapjhjofmliaa.H Go.Proofs.Ytliapjhjofmliaa.Math
set_option linter.unusedVariables false
set_option linter.unusedSimpArgs false

theorem awakeShift : quittancelaw01_awake.f = some true := by kernel_rfl
theorem rnd_shift (n d m M : Int) (hd : 0 < d) (hM : M % 2 = 0) : rnd (n + M * d) d m = rnd n d m + M := by
  unfold rnd
  rw [Int.add_mul_ediv_right _ _ (by omega), Int.add_mul_emod_self_right]
  have : H.up (n / d + M) (n % d) d m ↔ H.up (n / d) (n % d) d m := by unfold H.up; omega
  simp only [this]
  split <;> omega
theorem rnd_scale (n d m : Int) (hd : 0 < d) : rnd (n * 7) (7 * d) m = rnd n d m := by
  unfold rnd
  rw [Int.mul_comm n 7, Int.mul_ediv_mul_of_pos _ _ (by decide), Int.mul_emod_mul_of_pos _ _ (by decide)]
  have : H.up (n / d) (7 * (n % d)) (7 * d) m ↔ H.up (n / d) (n % d) d m := by unfold H.up; omega
  simp only [this]
theorem FixnumShift : quittancelaw01_FixnumShift.Pure := by
  intro a0 a1 a2 a3 w0 w1 w2 w3
  unfold quittancelaw01_FixnumShift.f
  have hm := umod3 a3
  generalize wrap64 (1 + wrap64 (Int.tmod (IntKind.u64.wrap a3) 3)) = m at *
  have hn := tmod_bd a0 (m := 1000000) (by decide)
  generalize Int.tmod a0 1000000 = n at *
  have hM := tmod_bd a2 (m := 1000) (by decide)
  generalize Int.tmod a2 1000 = M0 at *
  rw [i64_and4095, w64 (x := 1 + a1 % 4096) (by omega) (by omega), of_yes hm, awakeShift, w64 (x := 2 * M0) (by omega) (by omega)]
  have hd : 1 ≤ 1 + a1 % 4096 ∧ 1 + a1 % 4096 ≤ 4096 := by omega
  generalize 1 + a1 % 4096 = d at *
  have hM2 : (2 * M0) % 2 = 0 := by omega
  have hM3 : -2000 ≤ 2 * M0 ∧ 2 * M0 ≤ 2000 := by omega
  generalize 2 * M0 = M at *
  have p1 := Int.mul_le_mul_of_nonneg_right hM3.1 (show 0 ≤ d by omega)
  have p2 := Int.mul_le_mul_of_nonneg_right hM3.2 (show 0 ≤ d by omega)
  rw [w64 (x := M * d) (by omega) (by omega), w64 (x := n + M * d) (by omega) (by omega), w64 (x := 7 * d) (by omega) (by omega)]
  simp only [Option.bind_some]
  have f1 := rnd_fit (n := n) (d := d) (mode := m) (B := 1000000) (by omega) (by omega) (by omega) (by decide) (by decide)
  have f2 := rnd_fit (n := n + M * d) (d := d) (mode := m) (B := 100000000) (by omega) (by omega) (by omega) (by decide) (by decide)
  have f3 := f2
  rw [← rnd_scale _ _ _ (by omega)] at f3
  rw [div_yes ⟨by omega, by omega⟩ ⟨by omega, by omega⟩ ⟨by omega, by omega⟩ f1, div_yes ⟨by omega, by omega⟩ ⟨by omega, by omega⟩ ⟨by omega, by omega⟩ f2,
    rat_yes ⟨by omega, by omega⟩ (by decide) ⟨by omega, by omega⟩ ⟨by omega, by omega⟩ f3, rnd_scale _ _ _ (by omega), rnd_shift _ _ _ _ (by omega) hM2]
  simp only [Option.bind_some, if_true]
  have b1 := f1.1
  have b2 := f1.2
  rw [w64 (by omega) (by omega)]
  simp
end Go.Proofs.Ytliapjhjofmliaa.Pure
