/- Plain law: texts that are nearly days. -/
import Derived.Test.YtaimfakcojdadaaDoorT1
namespace Go.Proofs.YtaimfakcojdadaaDoor.H
open Go.RowKit Go.Proofs.YtaimfakcojdadaaDoorW.PrintWords Go.Proofs.YtaimfakcojdadaaDoorW.PrintLast Go.Proofs.YtaimfakcojdadaaDoorW.PrintMore
open Go.Proofs.YtaimfakcojdadaaDoor.Math Go.Proofs.YtaimfakcojdadaaDoor.PF
set_option linter.unusedVariables false
set_option linter.unusedSimpArgs false
theorem digs_bad (l : List UInt8) (x : Int) (c : UInt8) (hc : c ∈ l) (hb : (c.toNat : Int) < 48 ∨ 57 < (c.toNat : Int)) : digs x l = (0, false) := by
  induction l generalizing x with
  | nil => simp at hc
  | cons a r ih =>
    by_cases ha : (a.toNat : Int) < 48 ∨ 57 < (a.toNat : Int)
    · exact digs_no ha
    · rw [digs_yes ha]
      refine ih _ ?_
      rcases List.mem_cons.1 hc with rfl | h
      · exact absurd hb ha
      · exact h
theorem take_ten (c0 c1 c2 c3 c4 c5 c6 c7 c8 c9 : UInt8) : civil_Take.f 1 (txt [c0, c1, c2, c3, c4, c5, c6, c7, c8, c9]) =
    if (c4.toNat : Int) = 45 ∧ (c7.toNat : Int) = 45 ∧ (digs 0 [c0, c1, c2, c3]).2 = true ∧ (digs 0 [c5, c6]).2 = true ∧ (digs 0 [c8, c9]).2 = true then
      some (number (digs 0 [c0, c1, c2, c3]).1 (digs 0 [c5, c6]).1 (digs 0 [c8, c9]).1) else some (0, 4) := by
  have hs : (txt [c0, c1, c2, c3, c4, c5, c6, c7, c8, c9]).size = 10 := rfl
  have b4 : bt (txt [c0, c1, c2, c3, c4, c5, c6, c7, c8, c9]) 4 = (c4.toNat : Int) := rfl
  have b7 : bt (txt [c0, c1, c2, c3, c4, c5, c6, c7, c8, c9]) 7 = (c7.toNat : Int) := rfl
  have r1 : civil_reader_digits.f (txt [c0, c1, c2, c3, c4, c5, c6, c7, c8, c9]) 0 4 = some (digs 0 [c0, c1, c2, c3]) := by
    unfold civil_reader_digits.f
    rw [if_pos (by rw [hs]; omega)]; simp [txt, ByteArray.data_extract]
  have r2 : civil_reader_digits.f (txt [c0, c1, c2, c3, c4, c5, c6, c7, c8, c9]) 5 7 = some (digs 0 [c5, c6]) := by
    unfold civil_reader_digits.f
    rw [if_pos (by rw [hs]; omega)]; simp [txt, ByteArray.data_extract]
  have r3 : civil_reader_digits.f (txt [c0, c1, c2, c3, c4, c5, c6, c7, c8, c9]) 8 10 = some (digs 0 [c8, c9]) := by
    unfold civil_reader_digits.f
    rw [if_pos (by rw [hs]; omega)]; simp [txt, ByteArray.data_extract]
  unfold civil_Take.f
  rw [b4, b7, hs]
  simp only [civil_Take.j0, r1, r2, r3, Option.bind_some, civil_Number.f]
  by_cases h4 : (c4.toNat : Int) = 45
  · by_cases h7 : (c7.toNat : Int) = 45
    · generalize digs 0 [c0, c1, c2, c3] = A
      generalize digs 0 [c5, c6] = B
      generalize digs 0 [c8, c9] = C
      obtain ⟨a, _ | _⟩ := A <;> obtain ⟨b, _ | _⟩ := B <;> obtain ⟨c, _ | _⟩ := C <;> simp [h4, h7]
    · simp [h4, h7]
  · simp [h4]
theorem take_long (l : List UInt8) (h : l.length ≠ 10) : civil_Take.f 1 (txt l) = some (0, 4) := by
  unfold civil_Take.f
  rw [if_neg (by rw [txt_size]; omega)]
  simp [civil_Take.j0]
theorem textL_len (n : Int) : (textL n).length = 10 := rfl
/-- One byte that is no digit, and no hyphen. -/
theorem take_byte (n : Int) (i : Nat) (hi : i < 10) (c : UInt8) (hb : (c.toNat : Int) < 48 ∨ 57 < (c.toNat : Int)) (h45 : (c.toNat : Int) ≠ 45) :
    civil_Take.f 1 (txt ((textL n).set i c)) = some (0, 4) := by
  have key : ∀ c0 c1 c2 c3 c4 c5 c6 c7 c8 c9 : UInt8, (c ∈ [c0, c1, c2, c3] ∨ c4 = c ∨ c ∈ [c5, c6] ∨ c7 = c ∨ c ∈ [c8, c9]) → civil_Take.f 1 (txt [c0, c1, c2, c3, c4, c5, c6, c7, c8, c9]) = some (0, 4) := by
    intro c0 c1 c2 c3 c4 c5 c6 c7 c8 c9 h
    rw [take_ten, if_neg]
    rintro ⟨e4, e7, a1, a2, a3⟩
    rcases h with h | rfl | h | rfl | h
    · rw [digs_bad _ _ c h hb] at a1; cases a1
    · exact h45 e4
    · rw [digs_bad _ _ c h hb] at a2; cases a2
    · exact h45 e7
    · rw [digs_bad _ _ c h hb] at a3; cases a3
  rcases (by omega : i = 0 ∨ i = 1 ∨ i = 2 ∨ i = 3 ∨ i = 4 ∨ i = 5 ∨ i = 6 ∨ i = 7 ∨ i = 8 ∨ i = 9) with rfl | rfl | rfl | rfl | rfl | rfl | rfl | rfl | rfl | rfl <;>
    exact key _ _ _ _ _ _ _ _ _ _ (by simp)
/-- The thirteenth month. -/
theorem take_month {n : Int} (h : isDay n) : civil_Take.f 1 (txt (four8 (yearOf n) ++ ([45, 49, 51] ++ 45 :: two8 (dayOf n)))) = some (0, 5) := by
  obtain ⟨y1, y2, m1, m2, d1, d2⟩ := date_bd h
  have e := take_ten (d8 (yearOf n / 10 / 10 / 10 % 10)) (d8 (yearOf n / 10 / 10 % 10)) (d8 (yearOf n / 10 % 10)) (d8 (yearOf n % 10)) 45 49 51 45 (d8 (dayOf n / 10 % 10)) (d8 (dayOf n % 10))
  have a1 := digs_four_val (v := yearOf n) (by omega) (by omega)
  have a3 := digs_two_val (v := dayOf n) (by omega) (by omega)
  have a2 : digs 0 [49, 51] = (13, true) := by decide
  unfold four8 at a1
  unfold two8 at a3
  rw [a1, a2, a3, if_pos ⟨rfl, rfl, rfl, rfl, rfl⟩, number_no (fun h => by have := okDate_month h; omega)] at e
  exact e
end Go.Proofs.YtaimfakcojdadaaDoor.H
