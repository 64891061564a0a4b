/- Plain law: the text of a day, digit by digit. -/
import Derived.Test.YtaimfakcojdadaaDoorPTXx1
import Derived.Test.YtaimfakcojdadaaDoorPFx1
import Derived.Test.YtaimfakcojdadaaDoorC3
import Derived.Test.YtaimfakcojdadaaDoorH1
namespace Go.Proofs.YtaimfakcojdadaaDoor.H
open Go.RowKit Go.Proofs.YtaimfakcojdadaaDoorW.PrintWords Go.Proofs.YtaimfakcojdadaaDoorW.PrintLast Go.Proofs.YtaimfakcojdadaaDoorW.PrintMore
open Go.Proofs.YtaimfakcojdadaaDoor.Math
set_option linter.unusedVariables false
set_option linter.unusedSimpArgs false
def d8 (x : Int) : UInt8 := UInt8.ofNat (48 + x).toNat
theorem d8_nat {x : Int} (h0 : 0 ≤ x) (h1 : x ≤ 9) : ((d8 x).toNat : Int) = 48 + x := by
  unfold d8
  rw [UInt8.toNat_ofNat']
  omega
def txt (l : List UInt8) : ByteArray := ⟨l.toArray⟩
theorem txt_app (a b : List UInt8) : txt a ++ txt b = txt (a ++ b) := by
  apply ByteArray.ext
  simp [txt]
theorem txt_size (a : List UInt8) : (txt a).size = a.length := by simp [txt, ByteArray.size]
theorem str_one {v : Int} (h0 : 0 ≤ v) (h1 : v ≤ 100000) : strOfNums [wrap64 (48 + Int.tmod v 10) % 256] = txt [d8 (v % 10)] := by
  rw [Int.tmod_eq_emod_of_nonneg h0, w64 (by omega) (by omega), Int.emod_eq_of_lt (by omega) (by omega)]
  simp [strOfNums, txt, d8]
theorem dig_step (k : Nat) {v least : Int} (l : List UInt8) (h0 : 0 ≤ v) (h1 : v ≤ 100000) (hl : l.length ≤ 100) :
    PA.quittancehelp_Digits.l0 (k + 1) v least (txt l) = if 0 < v ∨ (l.length : Int) < least then PA.quittancehelp_Digits.l0 k (v / 10) least (txt (d8 (v % 10) :: l)) else some (txt l) := by
  have e : strOfNums [wrap64 (48 + Int.tmod v 10) % 256] ++ txt l = txt (d8 (v % 10) :: l) := by rw [str_one h0 h1, txt_app]; rfl
  simp only [PA.quittancehelp_Digits.l0, Option.bind_some]
  rw [e, str_one h0 h1, txt_size, txt_size, Int.tdiv_eq_ediv_of_nonneg h0, w64 (x := v / 10) (by omega) (by omega)]
  by_cases hv : v > 0
  · rw [if_pos hv, if_pos (by simp; omega), if_pos (Or.inl hv)]
  · rw [if_neg hv]
    by_cases hs : (l.length : Int) < least
    · rw [if_pos hs, if_pos (by simp; omega), if_pos (Or.inr hs)]
    · rw [if_neg hs, if_neg (by omega)]
def two8 (v : Int) : List UInt8 := [d8 (v / 10 % 10), d8 (v % 10)]
def four8 (v : Int) : List UInt8 := [d8 (v / 10 / 10 / 10 % 10), d8 (v / 10 / 10 % 10), d8 (v / 10 % 10), d8 (v % 10)]
theorem dig_two {v : Int} (h0 : 0 ≤ v) (h1 : v ≤ 99) : help_Digits.f v 2 = some (txt (two8 v)) := by
  unfold help_Digits.f PA.quittancehelp_Digits.f
  show PA.quittancehelp_Digits.l0 (27 + 1 + 1 + 1) v 2 (txt []) = _
  rw [dig_step _ _ (by omega) (by omega) (by simp), if_pos (by simp), dig_step _ _ (by omega) (by omega) (by simp), if_pos (by simp), dig_step _ _ (by omega) (by omega) (by simp), if_neg (by simp; omega)]
  rfl
theorem dig_four {v : Int} (h0 : 1000 ≤ v) (h1 : v ≤ 9999) : help_Digits.f v 4 = some (txt (four8 v)) := by
  unfold help_Digits.f PA.quittancehelp_Digits.f
  show PA.quittancehelp_Digits.l0 (25 + 1 + 1 + 1 + 1 + 1) v 4 (txt []) = _
  rw [dig_step _ _ (by omega) (by omega) (by simp), if_pos (by simp), dig_step _ _ (by omega) (by omega) (by simp), if_pos (by simp), dig_step _ _ (by omega) (by omega) (by simp), if_pos (by simp), dig_step _ _ (by omega) (by omega) (by simp), if_pos (by simp), dig_step _ _ (by omega) (by omega) (by simp), if_neg (by simp; omega)]
  rfl
/-- The text of a day. -/
def textL (n : Int) : List UInt8 := four8 (yearOf n) ++ 45 :: (two8 (monthOf n) ++ 45 :: two8 (dayOf n))
theorem text_is {n : Int} (h : isDay n) : PTX.quittanceref03_Text.f n = some (txt (textL n), 0) := by
  obtain ⟨y1, y2, m1, m2, d1, d2⟩ := date_bd h
  unfold PTX.quittanceref03_Text.f quittanceref03_Date.f
  simp only [Option.bind_some]
  rw [date_yes h]
  simp only [if_true]
  rw [dig_four (by omega) (by omega), dig_two (by omega) (by omega), dig_two (by omega) (by omega)]
  simp only [Option.bind_some]
  have e45 : (⟨#[45]⟩ : ByteArray) = txt [45] := rfl
  rw [e45]
  simp only [txt_app, txt_size]
  simp [four8, two8, textL]
/-- Digits, read. -/
theorem digs_two {v : Int} (h0 : 0 ≤ v) (h1 : v ≤ 99) : (digs 0 (two8 v)).2 = true := by
  have a := d8_nat (x := v / 10 % 10) (by omega) (by omega)
  have b := d8_nat (x := v % 10) (by omega) (by omega)
  unfold two8
  rw [digs_yes (by omega), digs_yes (by omega)]
  rfl
theorem digs_two_val {v : Int} (h0 : 0 ≤ v) (h1 : v ≤ 99) : digs 0 (two8 v) = (v, true) := by
  have a := d8_nat (x := v / 10 % 10) (by omega) (by omega)
  have b := d8_nat (x := v % 10) (by omega) (by omega)
  unfold two8
  rw [digs_yes (by omega), digs_yes (by omega)]
  simp only [digs]
  congr 1; omega
theorem digs_four_val {v : Int} (h0 : 0 ≤ v) (h1 : v ≤ 9999) : digs 0 (four8 v) = (v, true) := by
  have a := d8_nat (x := v / 10 / 10 / 10 % 10) (by omega) (by omega)
  have b := d8_nat (x := v / 10 / 10 % 10) (by omega) (by omega)
  have c := d8_nat (x := v / 10 % 10) (by omega) (by omega)
  have d := d8_nat (x := v % 10) (by omega) (by omega)
  unfold four8
  rw [digs_yes (by omega), digs_yes (by omega), digs_yes (by omega), digs_yes (by omega)]
  simp only [digs]
  congr 1; omega
end Go.Proofs.YtaimfakcojdadaaDoor.H
