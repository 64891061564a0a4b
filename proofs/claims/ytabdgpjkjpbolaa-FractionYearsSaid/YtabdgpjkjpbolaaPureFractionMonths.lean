/- FractionMonths: by months of thirty days each month is thirty parts, from any day of the first 28 to the same one of the next month; a day 31 is as a day 30; for every input. -/
import Derived.Test.YtabdgpjkjpbolaaPFractionMonthsx1
import Derived.Test.YtabdgpjkjpbolaaArith
namespace Go.Proofs.Ytabdgpjkjpbolaa.Pure
open Go.RowKit Go.Proofs.Ytabdgpjkjpbolaa.PFractionMonths Go.Proofs.YtabdgpjkjpbolaaW.PrintWords Go.Proofs.YtabdgpjkjpbolaaW.PrintLast
open Go.Proofs.Ytabdgpjkjpbolaa.Math Go.Proofs.Ytabdgpjkjpbolaa.H
set_option linter.unusedVariables false
set_option linter.unusedSimpArgs false
theorem awake06m : quittancelaw06_awake.f = some true := by kernel_rfl
theorem thirty_of {y m d n : Int} (h : okDate y m d) (e : opens y + cum y m + d - 1 = n) : isDay n ∧ thirty n = 360 * y + 30 * m + min d 30 := by
  obtain ⟨a, b, c, f⟩ := date_unique h e
  refine ⟨a, ?_⟩
  unfold thirty
  rw [if_pos a, ← b, ← c, ← f]
theorem between_one {a b : Int} (ha : isDay a) (hb : isDay b) : between 1 a b = (thirty b - thirty a, 0) := by
  unfold between
  rw [if_pos (Or.inl rfl), if_pos (show isDay a ∧ isDay b from ⟨ha, hb⟩)]
  rfl
theorem FractionMonths : quittancelaw06_FractionMonths.Pure := by
  intro a0 a1 a2 _ _ _
  unfold quittancelaw06_FractionMonths.f
  obtain ⟨n1, n2⟩ := umod a0 300 (by omega) (by omega)
  obtain ⟨k1, k2⟩ := umod a1 11 (by omega) (by omega)
  obtain ⟨j1, j2⟩ := umod a2 28 (by omega) (by omega)
  generalize wrap64 (Int.tmod (IntKind.u64.wrap a0) 300) = n0 at *
  generalize wrap64 (Int.tmod (IntKind.u64.wrap a1) 11) = k at *
  generalize wrap64 (Int.tmod (IntKind.u64.wrap a2) 28) = j at *
  rw [w64 (x := 1900 + n0) (by omega) (by omega), w64 (x := 1 + k) (by omega) (by omega), w64 (x := 1 + j) (by omega) (by omega), w64 (x := 1 + k + 1) (by omega) (by omega)]
  generalize hy : 1900 + n0 = y at *
  generalize hm : 1 + k = m at *
  generalize hd : 1 + j = d at *
  have l1 := mlen_lo y m (by omega) (by omega)
  have l2 := mlen_lo y (m + 1) (by omega) (by omega)
  have m1 : mlen y 1 = 31 := rfl
  have l3 := mlen_lo y 2 (by omega) (by omega)
  have c1 : cum y 1 = 0 := rfl
  have c2 : cum y 2 = 31 := rfl
  have o1 : okDate y m d := by unfold okDate; omega
  have o2 : okDate y (m + 1) d := by unfold okDate; omega
  have o3 : okDate y 1 30 := by unfold okDate; omega
  have o4 : okDate y 1 31 := by unfold okDate; omega
  have o5 : okDate y 2 1 := by unfold okDate; omega
  obtain ⟨i1, t1⟩ := thirty_of o1 rfl
  obtain ⟨i2, t2⟩ := thirty_of o2 rfl
  obtain ⟨i3, t3⟩ := thirty_of o3 rfl
  obtain ⟨i4, t4⟩ := thirty_of (n := opens y + cum y 1 + 30 - 1 + 1) o4 (by omega)
  obtain ⟨i5, t5⟩ := thirty_of (n := opens y + cum y 1 + 30 - 1 + 2) o5 (by omega)
  simp only [H.civil_Number.f, H.fraction_Between.f, Option.bind_some, awake06m, number_yes o1, number_yes o2, number_yes o3]
  obtain ⟨z1, z2⟩ := id i3
  rw [w64 (x := opens y + cum y 1 + 30 - 1 + 1) (by omega) (by omega), w64 (x := opens y + cum y 1 + 30 - 1 + 2) (by omega) (by omega)]
  rw [between_one i1 i2, between_one i3 i4, between_one i4 i5]
  generalize thirty (opens y + cum y 1 + 30 - 1 + 2) = p at *
  generalize thirty (opens y + cum y 1 + 30 - 1 + 1) = q at *
  generalize thirty (opens y + cum y 1 + 30 - 1) = r at *
  simp only [if_true]
  rw [if_pos (by omega), if_pos (by omega), show p - q = 1 by omega]
  rfl
end Go.Proofs.Ytabdgpjkjpbolaa.Pure
