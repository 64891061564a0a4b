/- MonthlyEnds: months in two steps are never later than in one, and in the same month; for every input. -/
import Derived.Test.YtabdgpjkjpbolaaPEx1
import Derived.Test.YtabdgpjkjpbolaaPureMonthlyBack
namespace Go.Proofs.Ytabdgpjkjpbolaa.Pure
open Go.RowKit Go.Proofs.Ytabdgpjkjpbolaa.PE Go.Proofs.YtabdgpjkjpbolaaW.PrintWords Go.Proofs.YtabdgpjkjpbolaaW.PrintLast
open Go.Proofs.Ytabdgpjkjpbolaa.Math Go.Proofs.Ytabdgpjkjpbolaa.H

theorem idx_mono {n m : Int} (h : isDay n) (h' : isDay m) (hle : n ≤ m) : idx n ≤ idx m := by
  obtain ⟨_, _, s3, s4, s5, _, _⟩ := idx_spec h
  obtain ⟨_, _, t3, t4, t5, _, _⟩ := idx_spec h'
  by_cases hlt : idx m < idx n
  · have := dayAt_less hlt s3 t4
    omega
  · omega
theorem MonthlyEnds : quittancelaw04_MonthlyEnds.Pure := by
  intro a0 a1 a2 _ _ _
  refine ⟨1, ?_⟩
  unfold quittancelaw04_MonthlyEnds.f
  obtain ⟨n1, n2⟩ := umod a0 40000 (by omega) (by omega)
  obtain ⟨k1, k2⟩ := umod a1 300 (by omega) (by omega)
  obtain ⟨j1, j2⟩ := umod a2 300 (by omega) (by omega)
  generalize wrap64 (Int.tmod (IntKind.u64.wrap a0) 40000) = n0 at *
  generalize wrap64 (Int.tmod (IntKind.u64.wrap a1) 300) = k at *
  generalize wrap64 (Int.tmod (IntKind.u64.wrap a2) 300) = j at *
  rw [w64 (x := 10000 + n0) (by omega) (by omega), w64 (x := k + j) (by omega) (by omega)]
  have hd : isDay (10000 + n0) := ⟨by omega, by omega⟩
  have lo := idx_mono (n := 10000) (m := 10000 + n0) (by decide) hd (by omega)
  have hi := idx_mono (n := 10000 + n0) (m := 50000) hd (by decide) (by omega)
  have i1 : idx 10000 = 23968 := by decide
  have i2 : idx 50000 = 25282 := by decide
  generalize 10000 + n0 = n at *
  simp only [H.monthly_Add.f, Option.bind_some, awake04, if_true, quittancelaw04_MonthlyEnds.j0, H.quittanceref03_Date.f]
  obtain ⟨e1, e2, e3, e4⟩ := add_ok hd (k := k) (by omega) (by omega) (by omega) (by omega)
  obtain ⟨g1, g2, g3, g4⟩ := add_ok hd (k := k + j) (by omega) (by omega) (by omega) (by omega)
  rw [e1, g1]
  generalize dayAt (idx n + k) (min (dayOf n) (ml (idx n + k))) = r at *
  obtain ⟨f1, f2, f3, f4⟩ := add_ok e2 (k := j) (by omega) (by omega) (by omega) (by omega)
  rw [show idx r + j = idx n + (k + j) by omega, e4] at f1 f2 f3 f4
  have hb := ml_bd (idx n + k)
  have hb' := ml_bd (idx n + (k + j))
  obtain ⟨s1, s2, s3, s4, s5, s6, s7⟩ := idx_spec hd
  obtain ⟨_, _, _, _, _, p6, p7⟩ := idx_spec f2
  obtain ⟨_, _, _, _, _, q6, q7⟩ := idx_spec g2
  have hb0 := ml_bd (idx n)
  have hm := dayAt_mono (t := idx n + (k + j)) (d := min (dayOf n) (ml (idx n + (k + j)))) (d' := min (min (dayOf n) (ml (idx n + k))) (ml (idx n + (k + j))))
  rw [f1]
  obtain ⟨y1, y2⟩ := id f2
  obtain ⟨z1, z2⟩ := id g2
  generalize dayAt (idx n + (k + j)) (min (min (dayOf n) (ml (idx n + k))) (ml (idx n + (k + j)))) = y at *
  generalize dayAt (idx n + (k + j)) (min (dayOf n) (ml (idx n + (k + j)))) = z at *
  rw [date_yes f2, date_yes g2]
  simp only [if_true]
  rw [f3] at p6 p7
  rw [g3] at q6 q7
  rw [w64 (x := z - y) (by omega) (by omega), if_pos (show y ≤ z by omega), if_pos (show z - y ≤ 3 by omega), if_pos (show monthOf y = monthOf z by omega), show yearOf y = yearOf z by omega]
  simp
end Go.Proofs.Ytabdgpjkjpbolaa.Pure
