/- Plain law: both readings of a text as a day are one; both texts of a day are one. -/
import Derived.Test.YtaimfakcojdadaaDoorTx
import Derived.Test.YtaimfakcojdadaaDoorTk
namespace Go.Proofs.YtaimfakcojdadaaDoor.H
open Go.RowKit Go.Proofs.YtaimfakcojdadaaDoorW.PrintWords Go.Proofs.YtaimfakcojdadaaDoorW.PrintLast Go.Proofs.YtaimfakcojdadaaDoorW.PrintMore Go.Proofs.YtaimfakcojdadaaDoor.HW Go.Proofs.YtaimfakcojdadaaDoor.Ev
open Go.Proofs.YtaimfakcojdadaaDoor.Math Go.Proofs.YtaimfakcojdadaaDoor.PF
set_option linter.unusedVariables false
set_option linter.unusedSimpArgs false
/-- The day that a text is, or why none. -/
def takeP (l : List UInt8) : Int × Int :=
  match l with
  | [c0, c1, c2, c3, c4, c5, c6, c7, c8, c9] => if (c4.toNat : Int) = 45 ∧ (c7.toNat : Int) = 45 ∧ (digs 0 [c0, c1, c2, c3]).2 = true ∧ (digs 0 [c5, c6]).2 = true ∧ (digs 0 [c8, c9]).2 = true then
      number (digs 0 [c0, c1, c2, c3]).1 (digs 0 [c5, c6]).1 (digs 0 [c8, c9]).1 else (0, 4)
  | _ => (0, 4)
theorem list_ten {l : List UInt8} (h : l.length = 10) : ∃ c0 c1 c2 c3 c4 c5 c6 c7 c8 c9, l = [c0, c1, c2, c3, c4, c5, c6, c7, c8, c9] := by
  match l, h with
  | [a, b, c, d, e, f, g, h, i, j], _ => exact ⟨a, b, c, d, e, f, g, h, i, j, rfl⟩
theorem takeP_long {l : List UInt8} (h : l.length ≠ 10) : takeP l = (0, 4) := by
  unfold takeP
  split
  · exact absurd rfl h
  · rfl
theorem txt_self (s : ByteArray) : txt s.data.toList = s := by
  apply ByteArray.ext
  simp [txt]
theorem take_is (s : ByteArray) : civil_Take.f 1 s = some (takeP s.data.toList) := by
  rw [← txt_self s]
  generalize s.data.toList = l
  have e : (txt l).data.toList = l := by simp [txt]
  rw [e]
  by_cases h : l.length = 10
  · obtain ⟨c0, c1, c2, c3, c4, c5, c6, c7, c8, c9, rfl⟩ := list_ten h
    rw [take_ten]
    unfold takeP
    simp only []
    split <;> rfl
  · rw [take_long l h, takeP_long h]
theorem rt_bad {k : Nat} {a b c : Int} {x : UInt8} {r : List UInt8} (hk : ¬ (k = 4 ∨ k = 7)) (h : (x.toNat : Int) < 48 ∨ 57 < (x.toNat : Int)) : rt k a b c (x :: r) = none := by
  rw [rt, if_neg hk, if_pos h]
theorem rt_skip {k : Nat} {a b c : Int} {x : UInt8} {r : List UInt8} (hk : k = 4 ∨ k = 7) : rt k a b c (x :: r) = rt (k + 1) a b c r := by
  rw [rt, if_pos hk]
theorem rt_a {k : Nat} {a b c : Int} {x : UInt8} {r : List UInt8} (hk : k < 4) (h : ¬ ((x.toNat : Int) < 48 ∨ 57 < (x.toNat : Int))) : rt k a b c (x :: r) = rt (k + 1) (10 * a + ((x.toNat : Int) - 48)) b c r := by
  rw [rt, if_neg (by omega), if_neg h, if_pos hk]
theorem rt_b {k : Nat} {a b c : Int} {x : UInt8} {r : List UInt8} (hk : 4 < k ∧ k < 7) (h : ¬ ((x.toNat : Int) < 48 ∨ 57 < (x.toNat : Int))) : rt k a b c (x :: r) = rt (k + 1) a (10 * b + ((x.toNat : Int) - 48)) c r := by
  rw [rt, if_neg (by omega), if_neg h, if_neg (by omega), if_pos hk.2]
theorem rt_c {k : Nat} {a b c : Int} {x : UInt8} {r : List UInt8} (hk : 7 < k) (h : ¬ ((x.toNat : Int) < 48 ∨ 57 < (x.toNat : Int))) : rt k a b c (x :: r) = rt (k + 1) a b (10 * c + ((x.toNat : Int) - 48)) r := by
  rw [rt, if_neg (by omega), if_neg h, if_neg (by omega), if_neg (by omega)]
theorem digs_seg_bad (l : List UInt8) (x : Int) (c : UInt8) (hc : c ∈ l) (hb : (c.toNat : Int) < 48 ∨ 57 < (c.toNat : Int)) : (digs x l).2 = false := by rw [digs_bad l x c hc hb]
theorem rt_seg (c0 c1 c2 c3 c4 c5 c6 c7 c8 c9 : UInt8) : rt 0 0 0 0 [c0, c1, c2, c3, c4, c5, c6, c7, c8, c9] =
    if (digs 0 [c0, c1, c2, c3]).2 = true ∧ (digs 0 [c5, c6]).2 = true ∧ (digs 0 [c8, c9]).2 = true then some ((digs 0 [c0, c1, c2, c3]).1, (digs 0 [c5, c6]).1, (digs 0 [c8, c9]).1) else none := by
  by_cases b0 : (c0.toNat : Int) < 48 ∨ 57 < (c0.toNat : Int)
  · rw [rt_bad (k := 0) (by omega) b0, if_neg (fun x => by have e := digs_seg_bad [c0, c1, c2, c3] 0 c0 (by simp) b0; rw [x.1] at e; cases e)]
  rw [rt_a (k := 0) (by omega) b0]
  by_cases b1 : (c1.toNat : Int) < 48 ∨ 57 < (c1.toNat : Int)
  · rw [rt_bad (k := 1) (by omega) b1, if_neg (fun x => by have e := digs_seg_bad [c0, c1, c2, c3] 0 c1 (by simp) b1; rw [x.1] at e; cases e)]
  rw [rt_a (k := 1) (by omega) b1]
  by_cases b2 : (c2.toNat : Int) < 48 ∨ 57 < (c2.toNat : Int)
  · rw [rt_bad (k := 2) (by omega) b2, if_neg (fun x => by have e := digs_seg_bad [c0, c1, c2, c3] 0 c2 (by simp) b2; rw [x.1] at e; cases e)]
  rw [rt_a (k := 2) (by omega) b2]
  by_cases b3 : (c3.toNat : Int) < 48 ∨ 57 < (c3.toNat : Int)
  · rw [rt_bad (k := 3) (by omega) b3, if_neg (fun x => by have e := digs_seg_bad [c0, c1, c2, c3] 0 c3 (by simp) b3; rw [x.1] at e; cases e)]
  rw [rt_a (k := 3) (by omega) b3]
  rw [rt_skip (k := 4) (by omega)]
  by_cases b5 : (c5.toNat : Int) < 48 ∨ 57 < (c5.toNat : Int)
  · rw [rt_bad (k := 5) (by omega) b5, if_neg (fun x => by have e := digs_seg_bad [c5, c6] 0 c5 (by simp) b5; rw [x.2.1] at e; cases e)]
  rw [rt_b (k := 5) (by omega) b5]
  by_cases b6 : (c6.toNat : Int) < 48 ∨ 57 < (c6.toNat : Int)
  · rw [rt_bad (k := 6) (by omega) b6, if_neg (fun x => by have e := digs_seg_bad [c5, c6] 0 c6 (by simp) b6; rw [x.2.1] at e; cases e)]
  rw [rt_b (k := 6) (by omega) b6]
  rw [rt_skip (k := 7) (by omega)]
  by_cases b8 : (c8.toNat : Int) < 48 ∨ 57 < (c8.toNat : Int)
  · rw [rt_bad (k := 8) (by omega) b8, if_neg (fun x => by have e := digs_seg_bad [c8, c9] 0 c8 (by simp) b8; rw [x.2.2] at e; cases e)]
  rw [rt_c (k := 8) (by omega) b8]
  by_cases b9 : (c9.toNat : Int) < 48 ∨ 57 < (c9.toNat : Int)
  · rw [rt_bad (k := 9) (by omega) b9, if_neg (fun x => by have e := digs_seg_bad [c8, c9] 0 c9 (by simp) b9; rw [x.2.2] at e; cases e)]
  rw [rt_c (k := 9) (by omega) b9]
  rw [rt]
  have g1 : digs 0 [c0, c1, c2, c3] = (10 * (10 * (10 * (10 * 0 + ((c0.toNat : Int) - 48)) + ((c1.toNat : Int) - 48)) + ((c2.toNat : Int) - 48)) + ((c3.toNat : Int) - 48), true) := by rw [digs_yes b0, digs_yes b1, digs_yes b2, digs_yes b3]; rfl
  have g2 : digs 0 [c5, c6] = (10 * (10 * 0 + ((c5.toNat : Int) - 48)) + ((c6.toNat : Int) - 48), true) := by rw [digs_yes b5, digs_yes b6]; rfl
  have g3 : digs 0 [c8, c9] = (10 * (10 * 0 + ((c8.toNat : Int) - 48)) + ((c9.toNat : Int) - 48), true) := by rw [digs_yes b8, digs_yes b9]; rfl
  rw [g1, g2, g3, if_pos ⟨rfl, rfl, rfl⟩]
theorem civil_take_any (s : ByteArray) (w : World) : Calls Tryd.prog 13 #[.string s] w fun e w' => e = .returned (.tuple #[.int .i64 (takeP s.data.toList).1, .int .i64 (takeP s.data.toList).2]) ∧ Below w.heap.size w w' :=
  PF.civil_Take.calls 1 s _ _ w (take_is s)
theorem ref_take_any (s : ByteArray) (w : World) : Calls Tryd.prog 14 #[.string s] w fun e w' => e = .returned (.tuple #[.int .i64 (takeP s.data.toList).1, .int .i64 (takeP s.data.toList).2]) ∧ Below w.heap.size w w' := by
  by_cases h : s.size = 10
  · have hl : s.data.toList.length = 10 := h
    obtain ⟨c0, c1, c2, c3, c4, c5, c6, c7, c8, c9, e⟩ := list_ten hl
    have e4 : s[4] = c4 := by
      have : s.data.toList[4]'(by omega) = c4 := by simp [e]
      exact this
    have e7 : s[7] = c7 := by
      have : s.data.toList[7]'(by omega) = c7 := by simp [e]
      exact this
    by_cases h4 : (s[4].toNat : Int) = 45
    · by_cases h7 : (s[7].toNat : Int) = 45
      · refine rtake_ten s w h h4 h7 _ _ ⟨?_⟩
        rw [e, rt_seg]
        unfold takeP
        simp only []
        rw [e4] at h4
        rw [e7] at h7
        by_cases hd : (digs 0 [c0, c1, c2, c3]).2 = true ∧ (digs 0 [c5, c6]).2 = true ∧ (digs 0 [c8, c9]).2 = true
        · rw [if_pos hd, if_pos ⟨h4, h7, hd⟩]; rfl
        · rw [if_neg hd, if_neg (fun x => hd x.2.2)]; rfl
      · have et : takeP s.data.toList = (0, 4) := by rw [e]; unfold takeP; simp only []; rw [if_neg (fun x => h7 (by rw [e7]; exact x.2.1))]
        rw [et]
        exact rtake_no7 s w h h4 h7
    · have et : takeP s.data.toList = (0, 4) := by rw [e]; unfold takeP; simp only []; rw [if_neg (fun x => h4 (by rw [e4]; exact x.1))]
      rw [et]
      exact rtake_no4 s w h h4
  · rw [takeP_long (l := s.data.toList) h]
    exact rtake_long s w (by omega)
/-- The text of a day, or why none. -/
def textP (n : Int) : ByteArray × Int := if isDay n then (txt (textL n), 0) else (txt [], 5)
theorem text_any (n : Int) (w : World) (ht : Tab w) : Calls Tryd.prog 11 #[.int .i64 n] w fun e w' => e = .returned (.tuple #[.string (textP n).1, .int .i64 (textP n).2]) ∧ Below w.heap.size w w' := by
  unfold textP
  split
  · rename_i h; exact text_day h w ht
  · rename_i h; exact text_none h w
theorem rtext_is (n : Int) : PTX.quittanceref03_Text.f n = some (textP n) := by
  unfold textP
  split
  · rename_i h; exact text_is h
  · rename_i h
    unfold PTX.quittanceref03_Text.f quittanceref03_Date.f
    simp only [Option.bind_some]
    rw [date_no h]
    rfl
theorem rtext_any (n : Int) (w : World) : Calls Tryd.prog 12 #[.int .i64 n] w fun e w' => e = .returned (.tuple #[.string (textP n).1, .int .i64 (textP n).2]) ∧ Below w.heap.size w w' :=
  PTX.quittanceref03_Text.calls n _ _ w (rtext_is n)
theorem law03_awake (w : World) : Calls Tryd.prog 6 #[] w fun e w' => e = .returned (.bool true) ∧ Below w.heap.size w w' :=
  PF.quittancelaw03_awake.calls 1 true w (by kernel_rfl)
end Go.Proofs.YtaimfakcojdadaaDoor.H
