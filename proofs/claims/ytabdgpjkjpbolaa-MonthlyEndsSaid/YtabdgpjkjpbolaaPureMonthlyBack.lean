/- MonthlyBack: so many months forwards, and back again, is the same day, if its number is none of a month's last three; for every input. -/
import Derived.Test.YtabdgpjkjpbolaaPEx1
namespace Go.Proofs.Ytabdgpjkjpbolaa.Pure
open Go.RowKit Go.Proofs.Ytabdgpjkjpbolaa.PE Go.Proofs.YtabdgpjkjpbolaaW.PrintWords Go.Proofs.YtabdgpjkjpbolaaW.PrintLast
open Go.Proofs.Ytabdgpjkjpbolaa.Math Go.Proofs.Ytabdgpjkjpbolaa.H

theorem u64_pos (a : Int) : 0 ≤ IntKind.u64.wrap a := by simp [IntKind.wrap, IntKind.signed, IntKind.bits]; omega
theorem umod (a m : Int) (h0 : 0 < m) (h1 : m ≤ 1000000000000) : 0 ≤ wrap64 (Int.tmod (IntKind.u64.wrap a) m) ∧ wrap64 (Int.tmod (IntKind.u64.wrap a) m) < m := by
  rw [tmod_pos (u64_pos a)]
  have h2 := Int.emod_nonneg (IntKind.u64.wrap a) (show m ≠ 0 by omega)
  have h3 := Int.emod_lt_of_pos (IntKind.u64.wrap a) h0
  rw [w64 (by omega) (by omega)]
  exact ⟨h2, h3⟩
theorem awake04 : quittancelaw04_awake.f = some true := by kernel_rfl

theorem MonthlyBack : quittancelaw04_MonthlyBack.Pure := by
  intro a0 a1 _ _
  unfold quittancelaw04_MonthlyBack.f
  obtain ⟨n1, n2⟩ := umod a0 100000 (by omega) (by omega)
  obtain ⟨k1, k2⟩ := umod a1 600 (by omega) (by omega)
  generalize wrap64 (Int.tmod (IntKind.u64.wrap a0) 100000) = n0 at *
  generalize wrap64 (Int.tmod (IntKind.u64.wrap a1) 600) = k at *
  rw [w64 (x := -25567 + n0) (by omega) (by omega), w64 (x := -k) (by omega) (by omega)]
  have hd : isDay (-25567 + n0) := ⟨by omega, by omega⟩
  generalize -25567 + n0 = n at *
  simp only [H.quittanceref03_Date.f, H.monthly_Add.f, Option.bind_some, awake04, if_true]
  by_cases hr : 22800 ≤ idx n + k ∧ idx n + k ≤ 26411
  · obtain ⟨e1, e2, e3, e4⟩ := add_ok hd (k := k) (by omega) (by omega) hr.1 hr.2
    rw [e1]
    generalize dayAt (idx n + k) (min (dayOf n) (ml (idx n + k))) = r at *
    obtain ⟨s1, s2, s3, s4, s5, s6, s7⟩ := idx_spec hd
    obtain ⟨f1, f2, f3, f4⟩ := add_ok e2 (k := -k) (by omega) (by omega) (by omega) (by omega)
    rw [show idx r + -k = idx n by omega, e4] at f1 f2 f3 f4
    have hb := ml_bd (idx n + k)
    have hb' := ml_bd (idx n)
    have hm : dayAt (idx n) (min (min (dayOf n) (ml (idx n + k))) (ml (idx n))) - n = min (min (dayOf n) (ml (idx n + k))) (ml (idx n)) - dayOf n := by
      have := dayAt_mono (t := idx n) (d := min (min (dayOf n) (ml (idx n + k))) (ml (idx n))) (d' := dayOf n)
      omega
    rw [f1]
    generalize dayAt (idx n) (min (min (dayOf n) (ml (idx n + k))) (ml (idx n))) = b at *
    have hdn : (date n).2.2.1 = dayOf n := by rw [date_yes hd]
    rw [hdn]
    simp only [if_true]
    rw [w64 (x := n - b) (by omega) (by omega)]
    by_cases h28 : dayOf n > 28
    · rw [if_pos h28, if_pos (show b ≤ n by omega), decide_eq_true (show n - b ≤ 3 by omega)]
    · rw [if_neg h28, if_pos (show b = n by omega), if_pos (show b ≤ n by omega), decide_eq_true (show n - b ≤ 3 by omega)]
  · rw [add_no hd (k := k) (by omega)]
    simp
end Go.Proofs.Ytabdgpjkjpbolaa.Pure
