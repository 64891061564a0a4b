/- Plain law: a later day has a later text. -/
import Derived.Test.YtaimfakcojdadaaDoorTn
namespace Go.Proofs.YtaimfakcojdadaaDoor.H
open Go.RowKit Go.Proofs.YtaimfakcojdadaaDoorW.PrintWords Go.Proofs.YtaimfakcojdadaaDoorW.PrintLast Go.Proofs.YtaimfakcojdadaaDoorW.PrintMore Go.Proofs.YtaimfakcojdadaaDoor.HW Go.Proofs.YtaimfakcojdadaaDoor.Ev
open Go.Proofs.YtaimfakcojdadaaDoor.Math
set_option linter.unusedVariables false
set_option linter.unusedSimpArgs false
theorem less_d8 {x y : Int} (x0 : 0 ≤ x) (x9 : x ≤ 9) (y0 : 0 ≤ y) (y9 : y ≤ 9) (r r' : List UInt8) : Op.bytesLess (d8 x :: r) (d8 y :: r') = (decide (x < y) || (decide (x = y) && Op.bytesLess r r')) := by
  have ex := d8_nat x0 x9
  have ey := d8_nat y0 y9
  rw [Op.bytesLess]
  have e1 : decide (d8 x < d8 y) = decide (x < y) := by
    rw [decide_eq_decide, UInt8.lt_iff_toNat_lt]; omega
  have e2 : (d8 x == d8 y) = decide (x = y) := by
    by_cases h : x = y
    · subst h; simp
    · have : d8 x ≠ d8 y := fun e => h (by rw [e] at ex; omega)
      simp [h, this]
  rw [e1, e2]
theorem less_four {a b : Int} (a0 : 0 ≤ a) (a9 : a ≤ 9999) (b0 : 0 ≤ b) (b9 : b ≤ 9999) (r r' : List UInt8) : Op.bytesLess (four8 a ++ r) (four8 b ++ r') = (decide (a < b) || (decide (a = b) && Op.bytesLess r r')) := by
  show Op.bytesLess (d8 _ :: d8 _ :: d8 _ :: d8 _ :: r) (d8 _ :: d8 _ :: d8 _ :: d8 _ :: r') = _
  rw [less_d8 (by omega) (by omega) (by omega) (by omega), less_d8 (by omega) (by omega) (by omega) (by omega), less_d8 (by omega) (by omega) (by omega) (by omega), less_d8 (by omega) (by omega) (by omega) (by omega)]
  generalize Op.bytesLess r r' = B
  rw [Bool.eq_iff_iff]
  simp only [Bool.or_eq_true, Bool.and_eq_true, decide_eq_true_eq]
  cases B
  · simp only [Bool.false_eq_true, and_false, or_false]; omega
  · simp only [and_true]; omega
theorem less_two {a b : Int} (a0 : 0 ≤ a) (a9 : a ≤ 99) (b0 : 0 ≤ b) (b9 : b ≤ 99) (r r' : List UInt8) : Op.bytesLess (two8 a ++ r) (two8 b ++ r') = (decide (a < b) || (decide (a = b) && Op.bytesLess r r')) := by
  show Op.bytesLess (d8 _ :: d8 _ :: r) (d8 _ :: d8 _ :: r') = _
  rw [less_d8 (by omega) (by omega) (by omega) (by omega), less_d8 (by omega) (by omega) (by omega) (by omega)]
  generalize Op.bytesLess r r' = B
  rw [Bool.eq_iff_iff]
  simp only [Bool.or_eq_true, Bool.and_eq_true, decide_eq_true_eq]
  cases B
  · simp only [Bool.false_eq_true, and_false, or_false]; omega
  · simp only [and_true]; omega
theorem less_dash (r r' : List UInt8) : Op.bytesLess (45 :: r) (45 :: r') = Op.bytesLess r r' := by
  rw [Op.bytesLess]; simp
theorem less_text {n m : Int} (hn : isDay n) (hm : isDay m) : Op.bytesLess (textL n) (textL m) = (decide (yearOf n < yearOf m) || (decide (yearOf n = yearOf m) && (decide (monthOf n < monthOf m) || (decide (monthOf n = monthOf m) && decide (dayOf n < dayOf m))))) := by
  obtain ⟨y1, y2, m1, m2, d1, d2⟩ := date_bd hn
  obtain ⟨y3, y4, m3, m4, d3, d4⟩ := date_bd hm
  unfold textL
  rw [less_four (by omega) (by omega) (by omega) (by omega), less_dash, less_two (by omega) (by omega) (by omega) (by omega), less_dash]
  have e := less_two (a := dayOf n) (b := dayOf m) (by omega) (by omega) (by omega) (by omega) [] []
  rw [List.append_nil, List.append_nil] at e
  rw [e, show Op.bytesLess [] [] = false from rfl, Bool.and_false, Bool.or_false]
theorem less_days {n m : Int} (hn : isDay n) (hm : isDay m) : (yearOf n < yearOf m ∨ (yearOf n = yearOf m ∧ (monthOf n < monthOf m ∨ (monthOf n = monthOf m ∧ dayOf n < dayOf m)))) ↔ n < m := by
  obtain ⟨y1, y2, m1, m2, d1, d2⟩ := date_bd hn
  obtain ⟨y3, y4, m3, m4, d3, d4⟩ := date_bd hm
  obtain ⟨_, _, f1, f2, f3, _⟩ := idx_spec hn
  obtain ⟨_, _, g1, g2, g3, _⟩ := idx_spec hm
  have ei : idx n = 12 * yearOf n + monthOf n - 1 := rfl
  have ej : idx m = 12 * yearOf m + monthOf m - 1 := rfl
  rcases (by omega : idx n < idx m ∨ idx n = idx m ∨ idx m < idx n) with h | h | h
  · have := dayAt_less h g1 f2
    omega
  · have := dayAt_mono (t := idx m) (d := dayOf n) (d' := dayOf m)
    rw [h] at f3
    omega
  · have := dayAt_less h f1 g2
    omega
theorem bytes_txt (l : List UInt8) : (txt l).toList = l := by rw [ByteArray.toList_eq]; simp [txt]
end Go.Proofs.YtaimfakcojdadaaDoor.H
