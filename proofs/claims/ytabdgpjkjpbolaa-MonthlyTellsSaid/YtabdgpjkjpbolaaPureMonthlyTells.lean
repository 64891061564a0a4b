/- MonthlyTells: so many months behind any day, or ahead; the days of any instalments, or why none; for every input. -/
import Derived.Test.YtabdgpjkjpbolaaPMonthlyTellsx1
namespace Go.Proofs.Ytabdgpjkjpbolaa.Pure
open Go.RowKit Go.Proofs.Ytabdgpjkjpbolaa.PMonthlyTells Go.Proofs.YtabdgpjkjpbolaaW.PrintWords Go.Proofs.YtabdgpjkjpbolaaW.PrintLast
open Go.Proofs.Ytabdgpjkjpbolaa.Math Go.Proofs.Ytabdgpjkjpbolaa.H
set_option linter.unusedVariables false
set_option linter.unusedSimpArgs false

theorem awakeTells04 : quittancelaw04_awake.f = some true := by kernel_rfl
/-- The days so many months apart, i of them being told. -/
def dates : Nat → Int → Int → Int → List Int → List Int × Int
  | 0, _, _, _, l => (l, 0)
  | m + 1, n, e, i, l => if (add n ((i + 1) * e)).2 = 0 then dates m n e (i + 1) (l ++ [(add n ((i + 1) * e)).1]) else ([], (add n ((i + 1) * e)).2)
theorem dates_len : ∀ (m : Nat) (n e i : Int) (l : List Int), (dates m n e i l).1.length ≤ l.length + m
  | 0, n, e, i, l => by simp [dates]
  | m + 1, n, e, i, l => by
    unfold dates
    split
    · have := dates_len m n e (i + 1) (l ++ [(add n ((i + 1) * e)).1])
      simp at this ⊢
      omega
    · simp
theorem mul_small {i e : Int} (h1 : 0 ≤ i) (h2 : i ≤ 700) (e1 : 1 ≤ e) (e2 : e ≤ 12) : 0 ≤ i * e ∧ i * e ≤ 8400 := by
  have a := Int.mul_le_mul_of_nonneg_right h2 (show 0 ≤ e by omega)
  have b := Int.mul_nonneg h1 (show 0 ≤ e by omega)
  omega
theorem civ_loop : ∀ (m : Nat) {n e t i : Int} (l : List Int), 1 ≤ e → e ≤ 12 → 0 ≤ i → t ≤ 600 → i + m = t → l.length ≤ 100000 - m → m ≤ 600 →
    monthly_Dates.l0 (m + 1) n e l t i = some (dates m n e i l)
  | 0, n, e, t, i, l, e1, e2, i0, t0, h, hl, hm => by
    simp only [monthly_Dates.l0]
    rw [if_neg (by omega)]
    rfl
  | m + 1, n, e, t, i, l, e1, e2, i0, t0, h, hl, hm => by
    rw [monthly_Dates.l0]
    obtain ⟨p1, p2⟩ := mul_small (i := i + 1) (by omega) (by omega) e1 e2
    rw [if_pos (by omega), w64 (x := i + 1) (by omega) (by omega), w64 (x := (i + 1) * e) (by omega) (by omega)]
    simp only [monthly_from_add.f, monthly_Add.f, Option.bind_some]
    rw [dates]
    by_cases hz : (add n ((i + 1) * e)).2 = 0
    · rw [if_pos hz, if_pos hz, if_pos (by omega)]
      exact civ_loop m _ e1 e2 (by omega) t0 (by omega) (by simp; omega) (by omega)
    · rw [if_neg hz, if_neg hz]
theorem ref_loop : ∀ (m : Nat) {n e t i : Int} (l : List Int), 1 ≤ e → e ≤ 12 → 0 ≤ i → t ≤ 600 → i + m = t → l.length ≤ 100000 - m → m ≤ 600 →
    quittanceref04_Dates.l0 (m + 1) n e t l (i + 1) = some (dates m n e i l)
  | 0, n, e, t, i, l, e1, e2, i0, t0, h, hl, hm => by
    simp only [quittanceref04_Dates.l0]
    rw [if_neg (by omega)]
    rfl
  | m + 1, n, e, t, i, l, e1, e2, i0, t0, h, hl, hm => by
    rw [quittanceref04_Dates.l0]
    obtain ⟨p1, p2⟩ := mul_small (i := i + 1) (by omega) (by omega) e1 e2
    rw [if_pos (by omega), w64 (x := (i + 1) * e) (by omega) (by omega), w64 (x := i + 1 + 1) (by omega) (by omega)]
    simp only [quittanceref04_Add.f, Option.bind_some]
    rw [dates]
    by_cases hz : (add n ((i + 1) * e)).2 = 0
    · rw [if_pos hz, if_pos hz, if_pos (by omega)]
      exact ref_loop m _ e1 e2 (by omega) t0 (by omega) (by simp; omega) (by omega)
    · rw [if_neg hz, if_neg hz]
theorem civ_dates {n e t : Int} : ∃ r : List Int × Int, r.1.length ≤ 600 ∧ monthly_Dates.f (t.toNat + 2) n e t = some r ∧ quittanceref04_Dates.f (t.toNat + 2) n e t = some r := by
  by_cases h : 1 ≤ e ∧ e ≤ 12 ∧ 1 ≤ t ∧ t ≤ 600
  · obtain ⟨e1, e2, t1, t2⟩ := h
    refine ⟨dates t.toNat n e 0 [], ?_, ?_, ?_⟩
    · have := dates_len t.toNat n e 0 []
      simp at this
      omega
    · unfold monthly_Dates.f
      rw [if_neg (by omega), if_neg (by omega), if_neg (by omega), decide_eq_false (by omega)]
      simp only [monthly_Dates.j0, Bool.false_eq_true, if_false]
      exact civ_loop t.toNat [] e1 e2 (by omega) t2 (by omega) (by first | (simp; done) | (simp; omega)) (by omega)
    · unfold quittanceref04_Dates.f
      rw [if_neg (by omega), if_neg (by omega), if_neg (by omega), decide_eq_false (by omega)]
      simp only [quittanceref04_Dates.j0, Bool.false_eq_true, if_false]
      exact ref_loop t.toNat (i := 0) [] e1 e2 (by omega) t2 (by omega) (by first | (simp; done) | (simp; omega)) (by omega)
  · refine ⟨([], 1), by simp, ?_, ?_⟩
    · unfold monthly_Dates.f
      repeat' split
      all_goals first | rfl | (rw [decide_eq_true (by omega)]; done) | (rw [decide_eq_true (by omega)]; rfl)
    · unfold quittanceref04_Dates.f
      repeat' split
      all_goals first | rfl | (rw [decide_eq_true (by omega)]; done) | (rw [decide_eq_true (by omega)]; rfl)
theorem MonthlyTells : quittancelaw04_MonthlyTells.Pure := by
  intro a0 a1 a2 a3 _ _ _ _
  refine ⟨a3.toNat + 2, ?_⟩
  obtain ⟨r, hr, h1, h2⟩ := @civ_dates a0 a2 a3
  unfold quittancelaw04_MonthlyTells.f
  rw [h1, h2, awakeTells04]
  simp only [monthly_Add.f, quittanceref04_Add.f, help_Plain_int.f, Option.bind_some, if_true]
  rw [if_pos (by omega)]
  simp
end Go.Proofs.Ytabdgpjkjpbolaa.Pure
