/- CivilYears: years have 365 days, or 366; four hundred of them as many as four hundred others; months are a year; for every input. -/
import Derived.Test.YtabdgpjkjpbolaaPFx1
import Derived.Test.YtabdgpjkjpbolaaArith
namespace Go.Proofs.Ytabdgpjkjpbolaa.Pure
open Go.RowKit Go.Proofs.Ytabdgpjkjpbolaa.PF Go.Proofs.YtabdgpjkjpbolaaW.PrintWords Go.Proofs.YtabdgpjkjpbolaaW.PrintLast
open Go.Proofs.Ytabdgpjkjpbolaa.Math Go.Proofs.Ytabdgpjkjpbolaa.H
set_option linter.unusedVariables false
set_option linter.unusedSimpArgs false

theorem awake03 (k : Nat) : quittancelaw03_awake.f (k + 1) = some true := by kernel_rfl
theorem long_400 (y : Int) : long (y + 400) = long y := by
  unfold long
  rw [show (y + 400) % 4 = y % 4 by omega, show (y + 400) % 100 = y % 100 by omega, show (y + 400) % 400 = y % 400 by omega]
theorem years_loop (y a e b f : Int) (d : Nat) : ∀ (k : Nat) (s i : Int), 1 ≤ i → 13 - i = d → s = cum y i → d < k →
    ∃ j, k ≤ j + d + 1 ∧ quittancelaw03_CivilYears.l0 k y a e b f s i = if long y = true then quittancelaw03_CivilYears.j1 j y a e b f (365 + leap y) 366 else quittancelaw03_CivilYears.j1 j y a e b f (365 + leap y) 365 := by
  induction d with
  | zero =>
    intro k s i h1 h2 h3 h4
    obtain ⟨k, rfl⟩ : ∃ m, k = m + 1 := ⟨k - 1, by omega⟩
    refine ⟨k, by omega, ?_⟩
    obtain rfl : i = 13 := by omega
    simp only [quittancelaw03_CivilYears.l0, civil_Long.f, Option.bind_some]
    rw [if_neg (by omega), h3]
    rfl
  | succ d ih =>
    intro k s i h1 h2 h3 h4
    obtain ⟨k, rfl⟩ : ∃ m, k = m + 1 := ⟨k - 1, by omega⟩
    have hl := mlen_bd y i
    have hb := cum_bd y i h1 (by omega)
    obtain ⟨j, hj, e'⟩ := ih k (cum y (i + 1)) (i + 1) (by omega) (by omega) rfl (by omega)
    refine ⟨j, by omega, ?_⟩
    have hc := cum_succ y i h1 (by omega)
    simp only [quittancelaw03_CivilYears.l0, civil_Month.f, Option.bind_some]
    rw [if_pos (by omega), w64 (x := s + mlen y i) (by omega) (by omega), w64 (x := i + 1) (by omega) (by omega), show s + mlen y i = cum y (i + 1) by omega]
    exact e'
theorem years_end (j : Nat) (y x3 x5 want : Int) (h1 : x5 - x3 = want) (h2 : 365 + leap y = want) (hb : -1000000000 ≤ y ∧ y ≤ 1000000000) : quittancelaw03_CivilYears.j1 (j + 2) y x3 0 x5 0 (365 + leap y) want = some true := by
  have hl := leap_01 y
  have m0 : mlen y 0 = 0 := rfl
  have m13 : mlen y 13 = 0 := rfl
  simp only [quittancelaw03_CivilYears.j1, awake03, civil_Long.f, civil_Month.f, Option.bind_some, if_true]
  rw [w64 (x := x5 - x3) (by omega) (by omega), w64 (x := y + 400) (by omega) (by omega), long_400, if_pos h1, if_pos h2, m0, m13]
  simp

theorem CivilYears : quittancelaw03_CivilYears.Pure := by
  intro a0 _
  refine ⟨20, ?_⟩
  unfold quittancelaw03_CivilYears.f
  obtain ⟨n1, n2⟩ := umod a0 300 (by omega) (by omega)
  generalize wrap64 (Int.tmod (IntKind.u64.wrap a0) 300) = n0 at *
  rw [w64 (x := 1900 + n0) (by omega) (by omega), w64 (x := 1900 + n0 + 1) (by omega) (by omega)]
  generalize hy : 1900 + n0 = y at *
  have m1 : mlen y 1 = 31 := rfl
  have m1' : mlen (y + 1) 1 = 31 := rfl
  have c1 : cum y 1 = 0 := rfl
  have c1' : cum (y + 1) 1 = 0 := rfl
  have hl := leap_01 y
  have ho := opens_succ y
  simp only [H.civil_Number.f, Option.bind_some]
  rw [number_yes (y := y) (m := 1) (d := 1) (by unfold okDate; omega), number_yes (y := y + 1) (m := 1) (d := 1) (by unfold okDate; omega)]
  obtain ⟨j, hj, e⟩ := years_loop y (opens y + cum y 1 + 1 - 1) 0 (opens (y + 1) + cum (y + 1) 1 + 1 - 1) 0 12 20 0 1 (by omega) (by omega) c1.symm (by omega)
  rw [e]
  obtain ⟨j, rfl⟩ : ∃ m, j = m + 2 := ⟨j - 2, by omega⟩
  cases hb : long y with
  | true =>
    have h1 := leap_of_long hb
    rw [if_pos rfl]
    exact years_end j y _ _ 366 (by omega) (by omega) (by omega)
  | false =>
    have h1 := leap_of_not hb
    rw [if_neg (by decide)]
    exact years_end j y _ _ 365 (by omega) (by omega) (by omega)
end Go.Proofs.Ytabdgpjkjpbolaa.Pure
