/- What the printed functions on months further on and on parts of a year come to, in plain numbers; and their contracts in these words. -/
import Derived.Test.YtaimfakcojdadaaDoorC2
namespace Go.Proofs.YtaimfakcojdadaaDoor.H
open Go.RowKit Go.Proofs.YtaimfakcojdadaaDoorW.PrintWords Go.Proofs.YtaimfakcojdadaaDoorW.PrintLast Go.Proofs.YtaimfakcojdadaaDoorW.PrintMore
open Go.Proofs.YtaimfakcojdadaaDoor.Math

theorem mn_min (a b : Int) : mn a b = min a b := by unfold mn; omega
theorem mx_max (a b : Int) : mx a b = max a b := by unfold mx; omega
theorem date_bd {n : Int} (h : isDay n) : 1900 ≤ yearOf n ∧ yearOf n ≤ 2200 ∧ 1 ≤ monthOf n ∧ monthOf n ≤ 12 ∧ 1 ≤ dayOf n ∧ dayOf n ≤ 31 := by
  obtain ⟨⟨y1, y2, d1, d2⟩, m1, m2, _⟩ := date_ok h
  have := mlen_bd (yearOf n) (monthOf n)
  exact ⟨y1, y2, m1, m2, d1, by omega⟩

end Go.Proofs.YtaimfakcojdadaaDoor.H
