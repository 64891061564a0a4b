/- CivilNext: a day more is the next one of the month, or the first of the next one; the week goes round; for every input. -/
import Derived.Test.YtabdgpjkjpbolaaPCivilNextx2
import Derived.Test.YtabdgpjkjpbolaaArith
namespace Go.Proofs.Ytabdgpjkjpbolaa.Pure
open Go.RowKit Go.Proofs.Ytabdgpjkjpbolaa.PCivilNext Go.Proofs.YtabdgpjkjpbolaaW.PrintWords Go.Proofs.YtabdgpjkjpbolaaW.PrintLast
open Go.Proofs.Ytabdgpjkjpbolaa.Math Go.Proofs.Ytabdgpjkjpbolaa.H
set_option linter.unusedVariables false
set_option linter.unusedSimpArgs false

theorem awake03n (k : Nat) : quittancelaw03_awake.f (k + 1) = some true := by kernel_rfl
theorem week_next {n : Int} (h : isDay n) : weekday (n + 1) == Int.tmod (wrap64 (weekday n + 1)) 7 := by
  unfold weekday
  rw [w64 (by omega) (by omega), tmod_pos (by omega)]
  simp
  omega
theorem next_end (k : Nat) {n y m d z : Int} (hd : isDay n) (hd' : isDay (n + 1)) (h : (m > 12 ∧ yearOf (n + 1) = y + 1 ∧ monthOf (n + 1) = 1 ∧ dayOf (n + 1) = d) ∨ (¬ m > 12 ∧ yearOf (n + 1) = y ∧ monthOf (n + 1) = m ∧ dayOf (n + 1) = d)) (hy : -1000 ≤ y ∧ y ≤ 100000) :
    quittancelaw03_CivilNext.j1 (k + 1) n 0 (yearOf (n + 1)) (monthOf (n + 1)) (dayOf (n + 1)) y m d = some true := by
  obtain ⟨h1, h2⟩ := id hd
  simp only [quittancelaw03_CivilNext.j1, civil_Weekday.f, Option.bind_some, if_true]
  rw [w64 (x := n + 1) (by omega) (by omega), w64 (x := y + 1) (by omega) (by omega), week_next hd]
  rcases h with ⟨a, b, c, e⟩ | ⟨a, b, c, e⟩
  · rw [if_pos a, b, c, e]; simp
  · rw [if_neg a, b, c, e]; simp

theorem CivilNext : quittancelaw03_CivilNext.Pure := by
  intro a0 _
  refine ⟨5, ?_⟩
  unfold quittancelaw03_CivilNext.f quittancelaw03_day.f
  obtain ⟨n1, n2⟩ := umod a0 109938 (by omega) (by omega)
  generalize wrap64 (Int.tmod (IntKind.u64.wrap a0) 109938) = n0 at *
  rw [w64 (x := -25567 + n0) (by omega) (by omega)]
  have hd : isDay (-25567 + n0) := ⟨by omega, by omega⟩
  generalize -25567 + n0 = n at *
  obtain ⟨d1, d2⟩ := id hd
  simp only [H.civil_Date.f, Option.bind_some, awake03n, if_true]
  rw [w64 (x := n + 1) (by omega) (by omega), date_yes hd]
  by_cases he : n = 84370
  · subst he
    obtain ⟨_, f1, f2, f3⟩ := date_unique (y := 2200) (m := 12) (d := 31) (n := 84370) ⟨by decide, by decide, by decide, by decide⟩ (by decide)
    rw [date_no (show ¬ isDay (84370 + 1) by unfold isDay; omega), ← f1, ← f2, ← f3]
    simp [quittancelaw03_CivilNext.j0]
  have hd' : isDay (n + 1) := ⟨by omega, by omega⟩
  rw [date_yes hd']
  obtain ⟨⟨y1, y2, e1, e2⟩, m1, m2, e3⟩ := date_ok hd
  have hl := leap_01 (yearOf n)
  have hm := mlen_lo (yearOf n) (monthOf n) m1 m2
  simp only [quittancelaw03_CivilNext.j0, civil_Month.f, Option.bind_some]
  rw [if_neg (by simp), if_neg he, w64 (x := dayOf n + 1) (by omega) (by omega), w64 (x := monthOf n + 1) (by omega) (by omega)]
  by_cases hb : dayOf n + 1 > mlen (yearOf n) (monthOf n)
  · rw [if_pos hb]
    have hc := cum_succ (yearOf n) (monthOf n) m1 m2
    refine next_end 3 (z := 0) hd hd' ?_ (by omega)
    by_cases h12 : monthOf n = 12
    · left
      have ho := opens_succ (yearOf n)
      have c13 : cum (yearOf n) (12 + 1) = 365 + leap (yearOf n) := rfl
      have c1 : cum (yearOf n + 1) 1 = 0 := rfl
      have ml1 : mlen (yearOf n + 1) 1 = 31 := rfl
      have hy : yearOf n ≠ 2200 := by
        intro e
        rw [h12, c13, e] at hc
        rw [h12, e] at e3 hb
        have o : opens 2200 = 84006 := by decide
        have l : leap 2200 = 0 := by decide
        omega
      have h12' : mlen (yearOf n) (monthOf n) = mlen (yearOf n) 12 := by rw [h12]
      rw [h12] at hc e3 hb
      obtain ⟨_, f1, f2, f3⟩ := date_unique (y := yearOf n + 1) (m := 1) (d := 1) (n := n + 1) ⟨by omega, by omega, by omega, by omega⟩ (by omega)
      exact ⟨by omega, f1.symm, f2.symm, f3.symm⟩
    · right
      have hm' := mlen_lo (yearOf n) (monthOf n + 1) (by omega) (by omega)
      obtain ⟨_, f1, f2, f3⟩ := date_unique (y := yearOf n) (m := monthOf n + 1) (d := 1) (n := n + 1) ⟨by omega, by omega, by omega, by omega⟩ (by omega)
      exact ⟨by omega, f1.symm, f2.symm, f3.symm⟩
  · rw [if_neg hb]
    refine next_end 3 (z := 0) hd hd' ?_ (by omega)
    right
    obtain ⟨_, f1, f2, f3⟩ := date_unique (y := yearOf n) (m := monthOf n) (d := dayOf n + 1) (n := n + 1) ⟨by omega, by omega, by omega, by omega⟩ (by omega)
    exact ⟨by omega, f1.symm, f2.symm, f3.symm⟩
end Go.Proofs.Ytabdgpjkjpbolaa.Pure
