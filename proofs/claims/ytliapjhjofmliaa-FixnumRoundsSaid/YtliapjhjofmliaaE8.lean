/- Contracts by hand, for the printer: fixnum's exported functions. -/
import Derived.Test.YtliapjhjofmliaaE7
namespace Go.Proofs.Ytliapjhjofmliaa.H
open Go.RowKit Go.Proofs.YtliapjhjofmliaaW.PrintWords Go.Proofs.YtliapjhjofmliaaW.PrintLast Go.Proofs.YtliapjhjofmliaaW.PrintMore
open Go.Proofs.Ytliapjhjofmliaa.Math
set_option linter.unusedVariables false
set_option linter.unusedSimpArgs false
def inr (x : Int) : Prop := -9223372036854775808 ≤ x ∧ x ≤ 9223372036854775807
instance (x : Int) : Decidable (inr x) := by unfold inr; exact inferInstance
def ratio (mode a b d : Int) : Int × Int := if mode ≠ 0 ∧ 0 < d then (if fits (rnd (a * b) d mode) then (rnd (a * b) d mode, 0) else (0, 3)) else (0, 1)
def plus (a b : Int) : Int × Int := if fits a ∧ fits b ∧ fits (a + b) then (a + b, 0) else (0, 3)
def times (v n : Int) : Int × Int := if fits v ∧ fits (v * n) then (v * n, 0) else (0, 3)
def fixnum_Ratio.f (a0_0 a1 a2 a3 : Int) : Option (Int × Int) := if inr a1 ∧ inr a2 ∧ inr a3 ∧ (ratio a0_0 a1 a2 a3).2 ≠ 3 then some (ratio a0_0 a1 a2 a3) else none
def fixnum_Divide.f (a0_0 a1 a2 : Int) : Option (Int × Int) := if inr a1 ∧ inr a2 ∧ (ratio a0_0 a1 1 a2).2 ≠ 3 then some (ratio a0_0 a1 1 a2) else none
def fixnum_Plus.f (a0 a1 : Int) : Option (Int × Int) := some (plus a0 a1)
def fixnum_Times.f (a0 a1 : Int) : Option (Int × Int) := if inr a1 then some (times a0 a1) else none
theorem fixnum_Plus.calls (a0 a1 r1 r2 : Int) (w : World) (h : fixnum_Plus.f a0 a1 = some (r1, r2)) : Calls Try.prog 22 #[.int .i64 a0, .int .i64 a1] w fun e w' => e = .returned (.tuple #[.int .i64 r1, .int .i64 r2]) ∧ Below w.heap.size w w' := by
  unfold fixnum_Plus.f plus at h
  by_cases h0 : fits a0
  · by_cases h1 : fits a1
    · by_cases h2 : fits (a0 + a1)
      · rw [if_pos ⟨h0, h1, h2⟩] at h
        obtain ⟨rfl, rfl⟩ := Prod.mk.inj (Option.some.inj h)
        exact Plus_yes h0 h1 h2 w
      · rw [if_neg (fun h => h2 h.2.2)] at h
        obtain ⟨rfl, rfl⟩ := Prod.mk.inj (Option.some.inj h)
        exact Plus_no2 h0 h1 h2 w
    · rw [if_neg (fun h => h1 h.2.1)] at h
      obtain ⟨rfl, rfl⟩ := Prod.mk.inj (Option.some.inj h)
      exact Plus_no1 h0 h1 w
  · rw [if_neg (fun h => h0 h.1)] at h
    obtain ⟨rfl, rfl⟩ := Prod.mk.inj (Option.some.inj h)
    exact Plus_no0 h0 w
theorem fixnum_Times.calls (a0 a1 r1 r2 : Int) (w : World) (h : fixnum_Times.f a0 a1 = some (r1, r2)) : Calls Try.prog 24 #[.int .i64 a0, .int .i64 a1] w fun e w' => e = .returned (.tuple #[.int .i64 r1, .int .i64 r2]) ∧ Below w.heap.size w w' := by
  unfold fixnum_Times.f times at h
  split at h
  · rename_i hn
    by_cases h0 : fits a0
    · by_cases h2 : fits (a0 * a1)
      · rw [if_pos ⟨h0, h2⟩] at h
        obtain ⟨rfl, rfl⟩ := Prod.mk.inj (Option.some.inj h)
        exact Times_yes h0 hn h2 w
      · rw [if_neg (fun h => h2 h.2)] at h
        obtain ⟨rfl, rfl⟩ := Prod.mk.inj (Option.some.inj h)
        exact Times_no1 h0 hn h2 w
    · rw [if_neg (fun h => h0 h.1)] at h
      obtain ⟨rfl, rfl⟩ := Prod.mk.inj (Option.some.inj h)
      exact Times_no0 h0 w
  · cases h
theorem fixnum_Ratio.calls (a0_0 a1 a2 a3 r1 r2 : Int) (w : World) (h : fixnum_Ratio.f a0_0 a1 a2 a3 = some (r1, r2)) : Calls Try.prog 18 #[.agg #[.int .i64 a0_0], .int .i64 a1, .int .i64 a2, .int .i64 a3] w fun e w' => e = .returned (.tuple #[.int .i64 r1, .int .i64 r2]) ∧ Below w.heap.size w w' := by
  unfold fixnum_Ratio.f at h
  by_cases hn : inr a1 ∧ inr a2 ∧ inr a3 ∧ (ratio a0_0 a1 a2 a3).2 ≠ 3
  · rw [if_pos hn] at h
    obtain ⟨h1, h2, h3, h4⟩ := hn
    unfold ratio at h h4
    by_cases hm : a0_0 ≠ 0 ∧ 0 < a3
    · rw [if_pos hm] at h h4
      by_cases hf : fits (rnd (a1 * a2) a3 a0_0)
      · rw [if_pos hf] at h
        obtain ⟨rfl, rfl⟩ := Prod.mk.inj (Option.some.inj h)
        exact Ratio_yes hm.1 h1.1 h1.2 h2.1 h2.2 hm.2 h3.2 hf w
      · rw [if_neg hf] at h4
        exact absurd rfl h4
    · rw [if_neg hm] at h
      obtain ⟨rfl, rfl⟩ := Prod.mk.inj (Option.some.inj h)
      exact Ratio_arg hm w
  · rw [if_neg hn] at h
    cases h
theorem fixnum_Divide.calls (a0_0 a1 a2 r1 r2 : Int) (w : World) (h : fixnum_Divide.f a0_0 a1 a2 = some (r1, r2)) : Calls Try.prog 17 #[.agg #[.int .i64 a0_0], .int .i64 a1, .int .i64 a2] w fun e w' => e = .returned (.tuple #[.int .i64 r1, .int .i64 r2]) ∧ Below w.heap.size w w' := by
  refine Divide_is (fun w0 => fixnum_Ratio.calls a0_0 a1 1 a2 r1 r2 w0 ?_) w
  unfold fixnum_Divide.f at h
  unfold fixnum_Ratio.f
  by_cases hn : inr a1 ∧ inr a2 ∧ (ratio a0_0 a1 1 a2).2 ≠ 3
  · rw [if_pos hn] at h
    rw [if_pos ⟨hn.1, by decide, hn.2⟩]
    exact h
  · rw [if_neg hn] at h
    cases h
end Go.Proofs.Ytliapjhjofmliaa.H
