/- Plain: one instalment, day by day. -/
import Derived.Test.YtcbebbiedegjlaaLe
namespace Go.Proofs.Ytcbebbiedegjlaa.Pd
open Go.RowKit Go.Proofs.YtcbebbiedegjlaaW.PrintWords Go.Proofs.YtcbebbiedegjlaaW.PrintLast Go.Proofs.YtcbebbiedegjlaaW.PrintMore Go.Proofs.Ytcbebbiedegjlaa.HW
open Pm
set_option linter.unusedVariables false
set_option linter.unusedSimpArgs false
theorem wf_of {x : Int} (h0 : -9223372036854775808 ≤ x) (h1 : x ≤ 9223372036854775807) : (Lit.int .i64 x).wf = true := by
  refine (Bool.and_eq_true _ _).mpr ⟨decide_eq_true ?_, decide_eq_true ?_⟩
  · exact h0
  · exact h1
theorem ok_late {rows : List (List Int)} {cp : Int} (h : rows ≠ []) (h8 : rows.length ≤ 8) (h0 : 0 ≤ cp) (h1 : cp ≤ 10000000000000) (ht : tiersOk 0 0 rows = true) : ok (lateP rows cp) = true := by
  have a : shapeOk plainP = true := by decide +kernel
  have b : ratesOk plainP = true := by decide +kernel
  have c : ordOk plainP = true := by decide +kernel
  have d : daysOk plainP = true := by decide +kernel
  have e : lateOk (lateP rows cp) = true := by
    unfold lateOk
    rw [Bool.and_eq_true]
    exact ⟨decide_eq_true ⟨h8, ⟨h0, h1⟩, fun e => absurd e h⟩, ht⟩
  unfold ok
  rw [e, Bool.and_true, show shapeOk (lateP rows cp) = true from a, show ratesOk (lateP rows cp) = true from b, show ordOk (lateP rows cp) = true from c, show daysOk (lateP rows cp) = true from d]
  rfl
theorem tiers_two {d1 d2 f : Int} (b1 : 1 ≤ d1 ∧ d1 ≤ 100) (b2 : d1 + 1 ≤ d2 ∧ d2 ≤ d1 + 100) (bf : 0 ≤ f ∧ f < 10000) : tiersOk 0 0 [[d1, f], [d2, 2 * f]] = true := by
  simp only [tiersOk, List.getD_cons_zero, List.getD_cons_succ, Bool.and_eq_true, decide_eq_true_eq, Bool.and_true]
  omega
theorem ok_two {d1 d2 f cap : Int} (b1 : 1 ≤ d1 ∧ d1 ≤ 100) (b2 : d1 + 1 ≤ d2 ∧ d2 ≤ d1 + 100) (bf : 0 ≤ f ∧ f < 10000) (bc : 0 ≤ cap ∧ cap < 50000) : ok (lateP [[d1, f], [d2, 2 * f]] cap) = true :=
  ok_late (by simp) (show 2 ≤ 8 by decide) (by omega) (by omega) (tiers_two b1 b2 bf)
/-- How it stands k days behind the due day. -/
def Inv (d1 d2 f cap k s t : Int) : Prop :=
  (k ≤ d1 → s = 0 ∧ t = 0) ∧ (d1 < k → k ≤ d2 → s = min f cap ∧ 0 ≤ t ∧ t ≤ 1) ∧ (d2 < k → s = min (3 * f) cap ∧ 0 ≤ t ∧ t ≤ 2)
theorem inv_zero {d1 d2 f cap : Int} (b1 : 1 ≤ d1 ∧ d1 ≤ 100) (b2 : d1 + 1 ≤ d2 ∧ d2 ≤ d1 + 100) : Inv d1 d2 f cap 0 0 0 :=
  ⟨fun _ => ⟨rfl, rfl⟩, fun h => by omega, fun h => by omega⟩
theorem one_day {d1 d2 f cap : Int} (b1 : 1 ≤ d1 ∧ d1 ≤ 100) (b2 : d1 + 1 ≤ d2 ∧ d2 ≤ d1 + 100) (bf : 0 ≤ f ∧ f < 10000) (bc : 0 ≤ cap ∧ cap < 50000) (day : Int) {k : Nat} {s t : Int} (h : Inv d1 d2 f cap k s t) :
    ∃ v, lateOn (lateP [[d1, f], [d2, 2 * f]] cap) [[1, day, 5, 0]] (day + k) s = (v, 0) ∧ (v = 0 ∧ Inv d1 d2 f cap ((k + 1 : Nat) : Int) s t ∨ 0 < v ∧ v ≤ 20000 ∧ ((k : Int) = d1 ∨ (k : Int) = d2) ∧ Inv d1 d2 f cap ((k + 1 : Nat) : Int) (s + v) (t + 1)) ∧ (0 ≤ s ∧ s ≤ 30000) ∧ (0 ≤ t ∧ t ≤ 2) := by
  obtain ⟨i1, i2, i3⟩ := h
  have hs : (0 ≤ s ∧ s ≤ 30000) ∧ (0 ≤ t ∧ t ≤ 2) := by
    by_cases c1 : (k : Int) ≤ d1
    · have := i1 c1; omega
    · by_cases c2 : (k : Int) ≤ d2
      · have := i2 (by omega) c2; omega
      · have := i3 (by omega); omega
  have e : lateOn (lateP [[d1, f], [d2, 2 * f]] cap) [[1, day, 5, 0]] (day + k) s = (onR [[d1, f], [d2, 2 * f]] (day + k) (max (cap - s) 0) 0 [[1, day, 5, 0]], 0) := by
    unfold lateOn
    rw [if_pos (ok_two b1 b2 bf bc), if_pos (by omega)]
    rfl
  refine ⟨_, e, ?_, hs.1, hs.2⟩
  · simp only [onR, look, List.getD_cons_zero, List.getD_cons_succ]
    by_cases c0 : day < day + (k : Int)
    · rw [if_pos c0]
      by_cases c1 : (k : Int) = d1
      · rw [if_pos (by omega)]
        have := i1 (by omega)
        by_cases cz : min f cap = 0
        · left; refine ⟨by omega, ⟨fun h => by omega, fun _ _ => by omega, fun h => by omega⟩⟩
        · right; refine ⟨by omega, by omega, Or.inl c1, ⟨fun h => by omega, fun _ _ => by omega, fun h => by omega⟩⟩
      · rw [if_neg (by omega)]
        by_cases c2 : (k : Int) = d2
        · rw [if_pos (by omega)]
          have := i2 (by omega) (by omega)
          by_cases cz : min (0 + 2 * f) (max (cap - s) 0) = 0
          · left; refine ⟨by omega, ⟨fun h => by omega, fun _ _ => by omega, fun h => by omega⟩⟩
          · right; refine ⟨by omega, by omega, Or.inr c2, ⟨fun h => by omega, fun _ _ => by omega, fun h => by omega⟩⟩
        · rw [if_neg (by omega)]
          left
          refine ⟨by omega, ⟨fun h => i1 (by omega), fun h1 h2 => i2 (by omega) (by omega), fun h => i3 (by omega)⟩⟩
    · rw [if_neg c0]
      left
      refine ⟨rfl, ⟨fun h => i1 (by omega), fun h1 h2 => by omega, fun h => by omega⟩⟩
end Go.Proofs.Ytcbebbiedegjlaa.Pd
