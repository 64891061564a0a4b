/- Plain laws of fixnum's exported functions. -/
import Derived.Test.YtliapjhjofmliaaE8
namespace Go.Proofs.Ytliapjhjofmliaa.H
open Go.RowKit
open Go.Proofs.Ytliapjhjofmliaa.Math
set_option linter.unusedVariables false
set_option linter.unusedSimpArgs false
theorem wf_r {x : Int} (h : (Lit.int .i64 x).wf = true) : inr x := by
  simp only [Lit.wf, Bool.and_eq_true, decide_eq_true_eq] at h
  exact ⟨h.1, h.2⟩
theorem div_arg {mode a d : Int} (ha : inr a) (hd : inr d) (h : ¬ (mode ≠ 0 ∧ 0 < d)) : fixnum_Divide.f mode a d = some (0, 1) := by
  unfold fixnum_Divide.f ratio
  rw [if_neg h, if_pos ⟨ha, hd, by decide⟩]
theorem rat_arg {mode a b d : Int} (ha : inr a) (hb : inr b) (hd : inr d) (h : ¬ (mode ≠ 0 ∧ 0 < d)) : fixnum_Ratio.f mode a b d = some (0, 1) := by
  unfold fixnum_Ratio.f ratio
  rw [if_neg h, if_pos ⟨ha, hb, hd, by decide⟩]
theorem rat_yes {mode a b d : Int} (ha : inr a) (hb : inr b) (hd : inr d) (h : mode ≠ 0 ∧ 0 < d) (hf : fits (rnd (a * b) d mode)) : fixnum_Ratio.f mode a b d = some (rnd (a * b) d mode, 0) := by
  unfold fixnum_Ratio.f ratio
  rw [if_pos h, if_pos hf, if_pos ⟨ha, hb, hd, by simp⟩]
theorem div_yes {mode a d : Int} (ha : inr a) (hd : inr d) (h : mode ≠ 0 ∧ 0 < d) (hf : fits (rnd a d mode)) : fixnum_Divide.f mode a d = some (rnd a d mode, 0) := by
  unfold fixnum_Divide.f ratio
  rw [Int.mul_one, if_pos h, if_pos hf, if_pos ⟨ha, hd, by simp⟩]
theorem of_yes {mode : Int} (h : 1 ≤ mode ∧ mode ≤ 3) : PA.fixnum_Of.f mode = some (mode, 0) := by
  unfold PA.fixnum_Of.f
  rw [if_neg (by omega), if_neg (by omega)]
theorem of_no {mode : Int} (h : ¬ (1 ≤ mode ∧ mode ≤ 3)) : PA.fixnum_Of.f mode = some (0, 1) := by
  unfold PA.fixnum_Of.f
  by_cases h1 : mode < 1
  · rw [if_pos h1]
  · rw [if_neg h1, if_pos (by omega)]
end Go.Proofs.Ytliapjhjofmliaa.H
