/- FixnumTurned: of halves that go to the even one what is below 0 is rounded as what is above; of others not, but where nothing is left; for every input. -/
import Derived.Test.YtliapjhjofmliaaPFixnumTurnedx1
import Derived.Test.YtliapjhjofmliaaF2
namespace Go.Proofs.Ytliapjhjofmliaa.Pure
open Go.RowKit Go.Proofs.Ytliapjhjofmliaa.PFixnumTurned Go.Proofs.YtliapjhjofmliaaW.PrintWords Go.Proofs.YtliapjhjofmliaaW.PrintLast
open Go.Proofs.Ytliapjhjofmliaa.H Go.Proofs.Ytliapjhjofmliaa.Math
set_option linter.unusedVariables false
set_option linter.unusedSimpArgs false

theorem awakeTurned : quittancelaw01_awake.f = some true := by kernel_rfl
theorem neg_parts (n : Int) {d : Int} (hd : 0 < d) : (n % d = 0 → (-n) / d = -(n / d) ∧ (-n) % d = 0) ∧ (0 < n % d → (-n) / d = -(n / d) - 1 ∧ (-n) % d = d - n % d) := by
  have e := Int.mul_ediv_add_emod n d
  have m1 := Int.emod_lt_of_pos n hd
  refine ⟨fun h => ?_, fun h => ?_⟩
  · have he : -n = -(n / d) * d := by rw [Int.neg_mul, Int.mul_comm (n / d) d]; omega
    rw [he]
    exact ⟨Int.mul_ediv_cancel _ (by omega), Int.mul_emod_left _ _⟩
  · have he : -n = (d - n % d) + (-(n / d) - 1) * d := by rw [Int.sub_mul, Int.neg_mul, Int.mul_comm (n / d) d]; omega
    rw [he, Int.add_mul_ediv_right _ _ (by omega), Int.add_mul_emod_self_right, Int.ediv_eq_zero_of_lt (by omega) (by omega), Int.emod_eq_of_lt (by omega) (by omega)]
    omega
theorem tmod_r (n : Int) {d : Int} (hd : 0 < d) : Int.tmod n d = if 0 ≤ n ∨ n % d = 0 then n % d else n % d - d := by
  rw [Int.tmod_eq_emod]
  by_cases h : 0 ≤ n ∨ d ∣ n
  · rw [if_pos h, if_pos (h.imp id Int.emod_eq_zero_of_dvd)]; omega
  · rw [if_neg h, if_neg (fun h' => h (h'.imp id Int.dvd_of_emod_eq_zero))]
    have : d.natAbs = d := by omega
    omega
theorem turned_facts (n : Int) {d : Int} (hd : 0 < d) :
    rnd n d 2 = -(rnd (-n) d 2) ∧ ((rnd n d 1 + rnd (-n) d 1 = 1) ↔ 2 * (n % d) = d) ∧ (¬ 2 * (n % d) = d → rnd n d 1 = -(rnd (-n) d 1)) ∧
    ((rnd n d 3 = -(rnd (-n) d 3)) ↔ n % d = 0) ∧ (¬ n % d = 0 → rnd n d 3 + rnd (-n) d 3 = -1) := by
  obtain ⟨h0, h1⟩ := neg_parts n hd
  have m0 := Int.emod_nonneg n (show d ≠ 0 by omega)
  have m1 := Int.emod_lt_of_pos n hd
  unfold rnd H.up
  by_cases hr : n % d = 0
  · obtain ⟨a, b⟩ := h0 hr
    rw [a, b, hr]
    generalize n / d = q
    repeat' split
    all_goals first | omega | (refine ⟨?_, ?_, ?_, ?_, ?_⟩ <;> omega)
  · obtain ⟨a, b⟩ := h1 (by omega)
    rw [a, b]
    generalize n / d = q
    generalize n % d = r at *
    repeat' split
    all_goals first | omega | (refine ⟨?_, ?_, ?_, ?_, ?_⟩ <;> omega)
theorem FixnumTurned : quittancelaw01_FixnumTurned.Pure := by
  intro a0 a1 w0 w1
  unfold quittancelaw01_FixnumTurned.f
  have hn := tmod_bd a0 (m := 1000000000) (by decide)
  generalize Int.tmod a0 1000000000 = n at *
  rw [i64_and65535, w64 (x := 1 + a1 % 65536) (by omega) (by omega), awakeTurned, of_yes (by omega), of_yes (by omega), of_yes (by omega), w64 (x := -n) (by omega) (by omega)]
  have hd : 1 ≤ 1 + a1 % 65536 ∧ 1 + a1 % 65536 ≤ 65536 := by omega
  generalize 1 + a1 % 65536 = d at *
  simp only [Option.bind_some]
  have f : ∀ m, fits (rnd n d m) := fun m => rnd_fit (B := 1000000000) (by omega) (by omega) (by omega) (by decide) (by decide)
  have g : ∀ m, fits (rnd (-n) d m) := fun m => rnd_fit (B := 1000000000) (by omega) (by omega) (by omega) (by decide) (by decide)
  rw [div_yes ⟨by omega, by omega⟩ ⟨by omega, by omega⟩ ⟨by omega, by omega⟩ (f 2), div_yes ⟨by omega, by omega⟩ ⟨by omega, by omega⟩ ⟨by omega, by omega⟩ (g 2),
    div_yes ⟨by omega, by omega⟩ ⟨by omega, by omega⟩ ⟨by omega, by omega⟩ (f 1), div_yes ⟨by omega, by omega⟩ ⟨by omega, by omega⟩ ⟨by omega, by omega⟩ (g 1),
    div_yes ⟨by omega, by omega⟩ ⟨by omega, by omega⟩ ⟨by omega, by omega⟩ (f 3), div_yes ⟨by omega, by omega⟩ ⟨by omega, by omega⟩ ⟨by omega, by omega⟩ (g 3)]
  simp only [Option.bind_some, if_true]
  obtain ⟨t1, t2, t3, t4, t5⟩ := turned_facts n (d := d) (by omega)
  have f1 := f 1
  have f2 := f 2
  have f3 := f 3
  have g1 := g 1
  have g2 := g 2
  have g3 := g 3
  clear f g
  unfold fits at f1 f2 f3 g1 g2 g3
  generalize rnd n d 1 = U at *
  generalize rnd (-n) d 1 = V at *
  generalize rnd n d 2 = A at *
  generalize rnd (-n) d 2 = B at *
  generalize rnd n d 3 = X at *
  generalize rnd (-n) d 3 = Y at *
  have m0 := Int.emod_nonneg n (show d ≠ 0 by omega)
  have m1 := Int.emod_lt_of_pos n (show 0 < d by omega)
  have hN : (2 * Int.tmod n d = d ∨ 2 * Int.tmod n d = -d) ↔ 2 * (n % d) = d := by
    rw [tmod_r n (by omega)]; split <;> omega
  have hN0 : Int.tmod n d = 0 ↔ n % d = 0 := by
    rw [tmod_r n (by omega)]; split <;> omega
  have hNb : -65536 ≤ Int.tmod n d ∧ Int.tmod n d ≤ 65536 := by
    rw [tmod_r n (by omega)]; split <;> omega
  generalize Int.tmod n d = N at *
  generalize n % d = r at *
  rw [if_neg (show ¬ d = 0 by omega), w64 (x := 2 * N) (by omega) (by omega), w64 (x := -d) (by omega) (by omega), w64 (x := -B) (by omega) (by omega), w64 (x := U + V) (by omega) (by omega), w64 (x := -Y) (by omega) (by omega), w64 (x := X + Y) (by omega) (by omega), w64 (x := -V) (by omega) (by omega), if_pos t1]
  have hX : (X == -Y) = (N == 0) := by
    by_cases h : N = 0
    · rw [beq_iff_eq.2 (t4.2 (hN0.1 h)), beq_iff_eq.2 h]
    · rw [beq_eq_false_iff_ne.2 (fun e => h (hN0.2 (t4.1 e))), beq_eq_false_iff_ne.2 h]
  have hE : (if N = 0 then some true else some (X + Y == -1)) = some true := by
    by_cases h : N = 0
    · rw [if_pos h]
    · rw [if_neg h, beq_iff_eq.2 (t5 (fun e => h (hN0.2 e)))]
  rw [hX, hE]
  by_cases c : 2 * N = d
  · rw [if_pos c, beq_iff_eq.2 (t2.2 (hN.1 (Or.inl c)))]
    simp [t1]
  · rw [if_neg c]
    by_cases c2 : 2 * N = -d
    · rw [beq_iff_eq.2 (t2.2 (hN.1 (Or.inr c2))), beq_iff_eq.2 c2]
      simp [c2, t1]
    · have h2 : ¬ 2 * r = d := fun h => (hN.2 h).elim c c2
      rw [beq_eq_false_iff_ne.2 (fun e => h2 (t2.1 e)), beq_eq_false_iff_ne.2 c2, if_neg c2, if_pos (t3 h2)]
      simp [t1]
end Go.Proofs.Ytliapjhjofmliaa.Pure
