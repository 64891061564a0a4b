/- FractionYears: from a day of a year to the same one of another year there are so many years' parts; for every input. -/
import Derived.Test.YtabdgpjkjpbolaaPFractionYearsx1
import Derived.Test.YtabdgpjkjpbolaaPureFractionMonths
import Derived.Test.YtabdgpjkjpbolaaPureFractionSplits
namespace Go.Proofs.Ytabdgpjkjpbolaa.Pure
open Go.RowKit Go.Proofs.Ytabdgpjkjpbolaa.PFractionYears Go.Proofs.YtabdgpjkjpbolaaW.PrintWords Go.Proofs.YtabdgpjkjpbolaaW.PrintLast
open Go.Proofs.Ytabdgpjkjpbolaa.Math Go.Proofs.Ytabdgpjkjpbolaa.H
set_option linter.unusedVariables false
set_option linter.unusedSimpArgs false
theorem awake06y : quittancelaw06_awake.f = some true := by kernel_rfl
theorem longs_loop (d : Nat) : ∀ (k : Nat) (y s i : Int), 1900 ≤ i → y ≤ 3000 → y - i = d → d < k → s = opens i + 25567 - 365 * (i - 1900) →
    quittancelaw06_longs.l0 k y s i = some (opens y + 25567 - 365 * (y - 1900)) := by
  induction d with
  | zero =>
    intro k y s i h1 h2 h3 h4 h5
    obtain ⟨k, rfl⟩ : ∃ m, k = m + 1 := ⟨k - 1, by omega⟩
    obtain rfl : y = i := by omega
    simp only [quittancelaw06_longs.l0]
    rw [if_neg (by omega), h5]
  | succ d ih =>
    intro k y s i h1 h2 h3 h4 h5
    obtain ⟨k, rfl⟩ : ∃ m, k = m + 1 := ⟨k - 1, by omega⟩
    have ho := opens_succ i
    have hob := opens_bd (y := i) (by omega) (by omega)
    have next := fun (s' : Int) (e : s' = opens (i + 1) + 25567 - 365 * (i + 1 - 1900)) => ih k y s' (i + 1) (by omega) h2 (by omega) (by omega) e
    have e1 : wrap64 (i + 1) = i + 1 := w64 (by omega) (by omega)
    have e2 : wrap64 (s + 1) = s + 1 := w64 (by omega) (by omega)
    simp only [quittancelaw06_longs.l0, tmod_zero]
    rw [if_pos (by omega), e1, e2]
    have hl : leap i = if i % 4 = 0 ∧ (¬ i % 100 = 0 ∨ i % 400 = 0) then 1 else 0 := rfl
    by_cases a : i % 4 = 0
    · rw [if_pos a]
      by_cases b : i % 100 = 0
      · rw [if_pos b]
        by_cases c : i % 400 = 0
        · rw [if_pos c]; rw [if_pos ⟨a, Or.inr c⟩] at hl; exact next _ (by omega)
        · rw [if_neg c]; rw [if_neg (by omega)] at hl; exact next _ (by omega)
      · rw [if_neg b]; rw [if_pos ⟨a, Or.inl b⟩] at hl; exact next _ (by omega)
    · rw [if_neg a]; rw [if_neg (by omega)] at hl; exact next _ (by omega)
theorem first_day (k : Nat) (hk : 400 ≤ k) {y : Int} (h1 : 1900 ≤ y) (h2 : y ≤ 2200) : quittancelaw06_FractionYears_1.f k y = some (opens y) := by
  have hob := opens_bd (y := y) (by omega) (by omega)
  unfold quittancelaw06_FractionYears_1.f quittancelaw06_longs.f
  rw [longs_loop (y - 1900).toNat k y 0 1900 (by omega) (by omega) (by omega) (by omega) (by decide)]
  simp only [Option.bind_some]
  rw [w64 (x := y - 1900) (by omega) (by omega), w64 (x := 365 * (y - 1900)) (by omega) (by omega), w64 (x := -25567 + 365 * (y - 1900)) (by omega) (by omega), w64 (by omega) (by omega)]
  congr 1; omega
theorem FractionYears : quittancelaw06_FractionYears.Pure := by
  intro a0 a1 _ _
  refine ⟨400, ?_⟩
  unfold quittancelaw06_FractionYears.f
  obtain ⟨n1, n2⟩ := umod a0 250 (by omega) (by omega)
  obtain ⟨k1, k2⟩ := umod a1 50 (by omega) (by omega)
  generalize wrap64 (Int.tmod (IntKind.u64.wrap a0) 250) = n0 at *
  generalize wrap64 (Int.tmod (IntKind.u64.wrap a1) 50) = m at *
  rw [w64 (x := 1900 + n0) (by omega) (by omega), w64 (x := 1900 + n0 + m) (by omega) (by omega)]
  generalize hy : 1900 + n0 = y at *
  rw [first_day 400 (by omega) (y := y) (by omega) (by omega), first_day 400 (by omega) (y := y + m) (by omega) (by omega)]
  have o1 : okDate y 1 1 := by have : mlen y 1 = 31 := rfl; unfold okDate; omega
  have o2 : okDate (y + m) 1 1 := by have : mlen (y + m) 1 = 31 := rfl; unfold okDate; omega
  have c1 : cum y 1 = 0 := rfl
  have c2 : cum (y + m) 1 = 0 := rfl
  obtain ⟨i1, t1⟩ := thirty_of (n := opens y) o1 (by omega)
  obtain ⟨i2, t2⟩ := thirty_of (n := opens (y + m)) o2 (by omega)
  obtain ⟨_, f1, _, _⟩ := date_unique (n := opens y) o1 (by omega)
  obtain ⟨_, f2, _, _⟩ := date_unique (n := opens (y + m)) o2 (by omega)
  have u1 : actual (opens y) = 133590 * y := by unfold actual; rw [← f1]; simp
  have u2 : actual (opens (y + m)) = 133590 * (y + m) := by unfold actual; rw [← f2]; simp
  obtain ⟨p1, p2⟩ := id i1
  obtain ⟨q1, q2⟩ := id i2
  simp only [H.fraction_Between.f, Option.bind_some, awake06y]
  rw [between_yes (Or.inl rfl) i1 i2, between_yes (Or.inr (Or.inl rfl)) i1 i2, between_yes (Or.inr (Or.inr rfl)) i1 i2]
  have e1 : place 1 (opens (y + m)) - place 1 (opens y) = 360 * m := by show thirty _ - thirty _ = _; omega
  have e2 : place 2 (opens (y + m)) - place 2 (opens y) = opens (y + m) - opens y := rfl
  have e3 : place 3 (opens (y + m)) - place 3 (opens y) = 133590 * m := by show actual _ - actual _ = _; omega
  rw [e1, e2, e3]
  simp only [if_true]
  rw [w64 (x := 360 * m) (by omega) (by omega), w64 (x := 133590 * m) (by omega) (by omega), w64 (x := opens (y + m) - opens y) (by omega) (by omega)]
  simp
end Go.Proofs.Ytabdgpjkjpbolaa.Pure
