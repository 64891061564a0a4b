/- The document's Times is times. -/
import Derived.Test.YtliapjhjofmliaaPRTx1
import Derived.Test.YtliapjhjofmliaaF2
namespace Go.Proofs.Ytliapjhjofmliaa.H
open Go.RowKit Go.Proofs.YtliapjhjofmliaaW.PrintWords Go.Proofs.YtliapjhjofmliaaW.PrintLast
open Go.Proofs.Ytliapjhjofmliaa.Math
set_option linter.unusedVariables false
set_option linter.unusedSimpArgs false
theorem rfits (v : Int) : PRT.quittanceref01_Fits.f v = some (decide (fits v)) := by
  unfold PRT.quittanceref01_Fits.f fits
  by_cases h : v ≥ -1000000000000000 <;> simp [h]
/-- A product is in bounds where its factor is not above the bound by the other one. -/
theorem mul_bd {x y : Int} (hx : 0 ≤ x) (hy : 0 < y) : x ≤ 1000000000000000 / y ↔ x * y ≤ 1000000000000000 :=
  Int.le_ediv_iff_mul_le hy
theorem times_end {v n b m : Int} (k : Nat) (hv : fits v) (hn : -1000000000000000 ≤ n ∧ n ≤ 1000000000000000) (hn0 : n ≠ 0) (hb : b = if v < 0 then -v else v) :
    PRT.quittanceref01_Times.j2 (k + 1) v n b n = some (times v n) := by
  obtain ⟨v1, v2⟩ := id hv
  have hs := abs_mul v n
  rw [← hb] at hs
  have b0 : 0 ≤ b := by rw [hb]; split <;> omega
  have key : ∀ y : Int, 0 < y → y ≤ 1000000000000000 → b * y = (if v * n < 0 then -(v * n) else v * n) → (if b > wrap64 (Int.tdiv 1000000000000000 y) then some ((0 : Int), (3 : Int)) else some (wrap64 (v * n), 0)) = some (times v n) := by
    intro y hy hy2 hp
    rw [Int.tdiv_eq_ediv_of_nonneg (by decide)]
    have q0 := Int.ediv_nonneg (show (0 : Int) ≤ 1000000000000000 by decide) (show 0 ≤ y by omega)
    have q1 := Int.ediv_le_self y (show (0 : Int) ≤ 1000000000000000 by decide)
    rw [w64 (by omega) (by omega)]
    have hb2 := mul_bd b0 hy
    rw [hp] at hb2
    unfold times
    by_cases hz : b ≤ 1000000000000000 / y
    · have := hb2.1 hz
      rw [if_neg (by omega), if_pos ⟨hv, by unfold fits; split at this <;> omega⟩, w64 (by split at this <;> omega) (by split at this <;> omega)]
    · have := fun h => hz (hb2.2 h)
      rw [if_pos (by omega), if_neg (fun h => this (by have := h.2; unfold fits at this; split <;> omega))]
  simp only [PRT.quittanceref01_Times.j2]
  by_cases hneg : n < 0
  · rw [if_pos hneg, w64 (x := -n) (by omega) (by omega), if_neg (by omega)]
    rw [if_pos hneg] at hs
    exact key (-n) (by omega) (by omega) hs
  · rw [if_neg hneg, if_neg hn0]
    rw [if_neg hneg] at hs
    exact key n (by omega) (by omega) hs
theorem times_is {v n : Int} (hn : inr n) : PRT.quittanceref01_Times.f 3 v n = some (times v n) := by
  unfold PRT.quittanceref01_Times.f
  rw [rfits]
  simp only [Option.bind_some, decide_eq_true_eq]
  by_cases hv : fits v
  · obtain ⟨v1, v2⟩ := id hv
    rw [if_pos hv]
    by_cases hv0 : v = 0
    · rw [if_pos hv0]
      subst hv0
      simp only [PRT.quittanceref01_Times.j0, if_true]
      unfold times
      rw [Int.zero_mul, if_pos ⟨hv, hv⟩]
    rw [if_neg hv0]
    by_cases hn0 : n = 0
    · subst hn0
      simp only [PRT.quittanceref01_Times.j0, show ((0 : Int) == 0) = true from rfl, if_true]
      unfold times
      rw [Int.mul_zero, if_pos ⟨hv, by decide⟩]
    have e : (n == 0) = false := by simpa using hn0
    rw [e]
    simp only [PRT.quittanceref01_Times.j0, Bool.false_eq_true, if_false]
    have big : ∀ x y : Int, 0 < x → 1000000000000000 < y → 1000000000000000 < x * y := fun x y hx hy => by
      have := Int.mul_le_mul_of_nonneg_right (show 1 ≤ x by omega) (show 0 ≤ y by omega)
      omega
    by_cases h1 : n > 1000000000000000
    · rw [if_pos h1]
      simp only [PRT.quittanceref01_Times.j1, if_true]
      unfold times
      rw [if_neg]
      rintro ⟨_, f1, f2⟩
      rcases Int.lt_or_le v 0 with h | h
      · have := big (-v) n (by omega) (by omega); rw [Int.neg_mul] at this; omega
      · have := big v n (by omega) (by omega); omega
    rw [if_neg h1]
    by_cases h2 : n < -1000000000000000
    · rw [decide_eq_true h2]
      simp only [PRT.quittanceref01_Times.j1, if_true]
      unfold times
      rw [if_neg]
      rintro ⟨_, f1, f2⟩
      rcases Int.lt_or_le v 0 with h | h
      · have := big (-v) (-n) (by omega) (by omega); rw [Int.neg_mul_neg] at this; omega
      · have := big v (-n) (by omega) (by omega); rw [Int.mul_neg] at this; omega
    rw [decide_eq_false h2]
    simp only [PRT.quittanceref01_Times.j1, Bool.false_eq_true, if_false]
    by_cases hneg : v < 0
    · rw [if_pos hneg, w64 (x := -v) (by omega) (by omega)]
      exact times_end (m := 0) 0 hv ⟨by omega, by omega⟩ hn0 (by rw [if_pos hneg])
    · rw [if_neg hneg]
      exact times_end (m := 0) 0 hv ⟨by omega, by omega⟩ hn0 (by rw [if_neg hneg])
  · rw [if_neg hv]
    unfold times
    rw [if_neg (fun h => hv h.1)]
def ref_Times.f (v n : Int) : Option (Int × Int) := if inr n then some (times v n) else none
theorem ref_Times.calls (a0 a1 r1 r2 : Int) (w : World) (h : ref_Times.f a0 a1 = some (r1, r2)) : Calls Try.prog 25 #[.int .i64 a0, .int .i64 a1] w fun e w' => e = .returned (.tuple #[.int .i64 r1, .int .i64 r2]) ∧ Drawn0 w w' := by
  unfold ref_Times.f at h
  by_cases hn : inr a1
  · rw [if_pos hn] at h
    exact PRT.quittanceref01_Times.calls 3 a0 a1 r1 r2 w ((times_is hn).trans h)
  · rw [if_neg hn] at h
    cases h
end Go.Proofs.Ytliapjhjofmliaa.H
