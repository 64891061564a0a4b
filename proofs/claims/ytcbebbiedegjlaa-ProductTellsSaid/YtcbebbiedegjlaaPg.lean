/- Contracts by hand: a name. -/
import Derived.Test.YtcbebbiedegjlaaPv
import Derived.Test.YtcbebbiedegjlaaShelf
import Derived.Lib.ConvBytes
import Derived.Lib.SlBytesConst
namespace Go.Proofs.Ytcbebbiedegjlaa.Pd
open Go.RowKit Go.Proofs.YtcbebbiedegjlaaW.PrintWords Go.Proofs.YtcbebbiedegjlaaW.PrintLast Go.Proofs.YtcbebbiedegjlaaW.PrintMore Go.Proofs.Ytcbebbiedegjlaa.HW
open Pm
set_option linter.unusedVariables false
set_option linter.unusedSimpArgs false
/-- The library's own variable holds some number. -/
def GV (w : World) : Prop := ∃ m, w.cell? ⟨0, 0, none⟩ = some (.int .i64 m)
theorem GV.lt {w : World} (h : GV w) : 0 < w.heap.size := by
  obtain ⟨m, h⟩ := h
  rcases Nat.lt_or_ge 0 w.heap.size with h1 | h1
  · exact h1
  · exfalso
    have e : w.heap[0]? = none := Array.getElem?_eq_none h1
    simp [World.cell?, e] at h
theorem GV.below {w w1 : World} (h : GV w) (hb : Below w.heap.size w w1) : GV w1 := by
  have hl := h.lt
  obtain ⟨m, h⟩ := h
  exact ⟨m, by rw [hb.cell hl]; exact h⟩
theorem bytes_belowP (w : World) (t : ByteArray) : Below w.heap.size w (Lib.bytesWorld w 5 t) := by
  refine ⟨rfl, rfl, rfl, ?_, fun k hk => ?_⟩
  · rw [Lib.bytesWorld_size]; omega
  · exact Lib.bytesWorld_at_old _ _ _ k hk
set_option maxRecDepth 100000 in
theorem name_empty (s : ByteArray) (w : World) (h : s.size = 0) : Calls Try.prog 17 #[.string s] w fun e w' => e = .returned (.bool false) ∧ w = w' := by
  have h1 : s.size < 1 := by omega
  clear h
  go_enter Try.func17, Try.ntmps17
  go_wp2_with fail
  go_ret
  exact ⟨rfl, rfl⟩
set_option maxRecDepth 100000 in
theorem name_long (s : ByteArray) (w : World) (h : 20 < s.size) : Calls Try.prog 17 #[.string s] w fun e w' => e = .returned (.bool false) ∧ w = w' := by
  go_enter Try.func17, Try.ntmps17
  go_wp2_with fail
  go_ret
  exact ⟨rfl, rfl⟩
set_option maxRecDepth 100000 in
theorem name_head (s : ByteArray) (w : World) (h0 : 0 < s.size) (h20 : s.size ≤ 20) (hc : (s[0].toNat : Int) < 97 ∨ 122 < (s[0].toNat : Int)) : Calls Try.prog 17 #[.string s] w fun e w' => e = .returned (.bool false) ∧ w = w' := by
  have h1 : 1 ≤ s.size := h0
  rcases hc with hc | hc
  · go_enter Try.func17, Try.ntmps17
    go_wp2_with fail
    go_ret
    exact ⟨rfl, rfl⟩
  · have hc2 : 97 ≤ (s[0].toNat : Int) := by omega
    go_enter Try.func17, Try.ntmps17
    go_wp2_with fail
    go_ret
    exact ⟨rfl, rfl⟩
theorem getD_dropP (l : List UInt8) (k : Nat) (h : k < l.length) : l.drop k = l.getD k 0 :: l.drop (k + 1) := by
  rw [List.drop_eq_getElem_cons h, List.getD_eq_getElem?_getD, List.getElem?_eq_getElem h]; rfl
theorem letter_yes {c : UInt8} (h : letter c = true) : (97 ≤ (c.toNat : Int) ∧ (c.toNat : Int) ≤ 122) ∨ (48 ≤ (c.toNat : Int) ∧ (c.toNat : Int) ≤ 57) ∨ (c.toNat : Int) = 45 := by
  simpa [letter, small, other, Bool.or_eq_true, Bool.and_eq_true] using h
theorem letter_not {c : UInt8} (h : letter c = false) : ¬ ((97 ≤ (c.toNat : Int) ∧ (c.toNat : Int) ≤ 122) ∨ (48 ≤ (c.toNat : Int) ∧ (c.toNat : Int) ≤ 57) ∨ (c.toNat : Int) = 45) := by
  intro h2
  have : letter c = true := by simpa [letter, small, other, Bool.or_eq_true, Bool.and_eq_true] using h2
  rw [h] at this; cases this
theorem all_no {l : List UInt8} (h : l.all letter = true) : (32 : UInt8) ∉ l := by
  intro hm
  exact letter_no _ (List.all_eq_true.1 h _ hm) rfl
theorem words_is (s : ByteArray) (h : s.data.toList.all letter = true) : Lib.contains (joined wordsL) ((⟨#[32]⟩ : ByteArray) ++ s ++ (⟨#[32]⟩ : ByteArray)).data.toList = isWord s.data.toList := by
  have e : ((⟨#[32]⟩ : ByteArray) ++ s ++ (⟨#[32]⟩ : ByteArray)).data.toList = 32 :: (s.data.toList ++ [32]) := by simp
  rw [e]
  exact contains_word _ (all_no h)
theorem contains_is (ws s : ByteArray) {w : World} (hw : ws.data.toList = joined wordsL) (h : s.data.toList.all letter = true) (hg : GV w) :
    Calls Try.prog 42 #[.string ws, .string ((⟨#[32]⟩ : ByteArray) ++ s ++ (⟨#[32]⟩ : ByteArray))] w fun e w' => e = .returned (.bool (isWord s.data.toList)) ∧ w = w' := by
  obtain ⟨m, hm⟩ := hg
  have hsz : ws.size < 4294967281 := by
    have : ws.size = ws.data.toList.length := rfl
    rw [this, hw]; decide +kernel
  refine (Try.strings_Contains ws _ m w hsz hm).mono ?_
  rintro e w1 ⟨rfl, rfl⟩
  rw [hw, words_is s h]
  exact ⟨rfl, rfl⟩
set_option maxRecDepth 100000 in
set_option maxHeartbeats 1000000 in
theorem name_tail (s : ByteArray) (w : World) (hg : GV w) (h0 : 0 < s.size) (h20 : s.size ≤ 20) (hc0 : 97 ≤ (s[0].toNat : Int)) (hc1 : (s[0].toNat : Int) ≤ 122) : Calls Try.prog 17 #[.string s] w fun e w' => e = .returned (.bool (s.data.toList.all letter && !isWord s.data.toList)) ∧ Below w.heap.size w w' := by
  have h1 : 1 ≤ s.size := h0
  have HG := Aside0.mk hg
  have hcv := fun (W : World) (t : ByteArray) => Lib.run_convert_string_bytes (P := Try.prog) W 9 48 5 t Try.underlying9 Try.underlying48 Try.underlying5
  have hbel := Aside0.mk (bytes_belowP w s)
  have HC := Aside0.mk (fun j hj => Lib.bytesWorld_cell w 5 s j hj)
  obtain ⟨l, hl⟩ : ∃ l, s.data.toList = l := ⟨_, rfl⟩
  have hlen : l.length = s.size := by rw [← hl]; rfl
  have HL := Aside0.mk hlen
  have HLS := Aside0.mk hl
  obtain ⟨bb, hbb⟩ : ∃ bb, l.all letter = bb := ⟨_, rfl⟩
  have HBB := Aside0.mk hbb
  have hgoal : Aside0 ((s.data.toList.all letter && !isWord s.data.toList) = (bb && !isWord l)) := ⟨by rw [hl, hbb]⟩
  rw [hgoal.out]
  clear hlen hl hbb hg
  go_enter Try.func17, Try.ntmps17
  go_wp2_with fail
  clear hcv
  generalize hW : Lib.bytesWorld w 5 s = W at *
  clear hW
  go_loop [26] (fun i => ∃ (k : Nat), k ≤ s.size ∧ i = .int .i64 k ∧ Aside0 ((l.drop k).all letter = bb)) (fun i => s.size - (intOf i).toNat)
  case atStart => exact ⟨0, Nat.zero_le _, rfl, ⟨by simpa using HBB.out⟩⟩
  case round =>
    obtain ⟨k, hk, rfl, hd⟩ := hrel
    by_cases hlt : k < s.size
    · have hc := HC.out k hlt
      rw [HLS.out, List.getD_eq_getElem?_getD] at hc
      have hdr := getD_dropP l k (by rw [HL.out]; exact hlt)
      rw [List.getD_eq_getElem?_getD] at hdr
      have hd2 := hd.out
      rw [hdr, List.all_cons] at hd2
      generalize l[k]?.getD 0 = c at *
      clear hdr hd
      have hb0 : 0 ≤ (c.toNat : Int) := by omega
      have hb1 : (c.toNat : Int) ≤ 255 := by have := c.toNat_lt; omega
      cases hcl : letter c with
      | true =>
        rw [hcl, Bool.true_and] at hd2
        have HD := Aside0.mk hd2
        clear hd2
        rcases letter_yes hcl with ⟨q1, q2⟩ | ⟨q1, q2⟩ | q1
        · clear hcl
          go_wp2_with fail
          go_round
          case rel => exact ⟨k + 1, by omega, by go_num, HD⟩
          case measure => simp [intOf]; omega
        · have q3 : (c.toNat : Int) < 97 := by omega
          clear hcl
          go_wp2_with fail
          go_round
          case rel => exact ⟨k + 1, by omega, by go_num, HD⟩
          case measure => simp [intOf]; omega
        · have q3 : (c.toNat : Int) < 97 := by omega
          have q4 : (c.toNat : Int) < 48 := by omega
          have q5 : ((c.toNat : Int) != 45) = false := by rw [q1]; rfl
          have q6 : ((c.toNat : Int) == 45) = true := by rw [q1]; rfl
          clear hcl q1
          go_wp2_with fail
          go_round
          case rel => exact ⟨k + 1, by omega, by go_num, HD⟩
          case measure => simp [intOf]; omega
      | false =>
        rw [hcl, Bool.false_and] at hd2
        subst hd2
        have hno := letter_not hcl
        have q5 : ((c.toNat : Int) != 45) = true := by simp; omega
        have q6 : ((c.toNat : Int) == 45) = false := by simp; omega
        clear hcl
        rcases (by omega : (c.toNat : Int) < 48 ∨ (57 < (c.toNat : Int) ∧ (c.toNat : Int) < 97) ∨ (57 < (c.toNat : Int) ∧ 97 ≤ (c.toNat : Int) ∧ 122 < (c.toNat : Int))) with r | ⟨r, r2⟩ | ⟨r, r2, r3⟩
        · have r4 : (c.toNat : Int) < 97 := by omega
          clear hno
          go_wp2_with fail
          go_ret
          exact ⟨rfl, hbel.out⟩
        · have r4 : 48 ≤ (c.toNat : Int) := by omega
          clear hno
          go_wp2_with fail
          go_ret
          exact ⟨rfl, hbel.out⟩
        · have r4 : 48 ≤ (c.toNat : Int) := by omega
          clear hno
          go_wp2_with fail
          go_ret
          exact ⟨rfl, hbel.out⟩
    · have hk2 : k = s.size := by omega
      have hd2 := hd.out
      rw [List.drop_of_length_le (by rw [HL.out]; omega)] at hd2
      obtain rfl : true = bb := hd2
      clear hd
      have HBL := Aside0.mk hbel.out
      have HG2 := Aside0.mk (HG.out.below hbel.out)
      have HAL := Aside0.mk (show s.data.toList.all letter = true by rw [HLS.out]; exact HBB.out)
      have HLS2 := HLS
      go_wp2_with fail
      refine (contains_is _ s rfl HAL.out HG2.out).mono ?_
      rintro e w1 ⟨rfl, rfl⟩
      go_wp2_with fail
      go_ret
      exact ⟨by rw [HLS2.out]; simp, HBL.out⟩
theorem toList_head (s : ByteArray) (h0 : 0 < s.size) : ∃ l, s.data.toList = s[0] :: l := by
  obtain ⟨⟨l⟩⟩ := s
  match l, h0 with
  | c :: l, _ => exact ⟨l, rfl⟩
theorem small_letter {c : UInt8} (h : small c = true) : letter c = true := by unfold letter; rw [h]; rfl
/-- A name, or none. -/
theorem name_any (s : ByteArray) (w : World) (hg : GV w) : Calls Try.prog 17 #[.string s] w fun e w' => e = .returned (.bool (nameOk s.data.toList)) ∧ Below w.heap.size w w' := by
  have hsz : s.data.toList.length = s.size := rfl
  by_cases h0 : s.size = 0
  · refine (name_empty s w h0).mono ?_
    rintro e w1 ⟨rfl, rfl⟩
    refine ⟨?_, Below.refl _ _⟩
    rw [show nameOk s.data.toList = false by unfold nameOk; rw [hsz, h0]; simp]
  · by_cases h20 : 20 < s.size
    · refine (name_long s w h20).mono ?_
      rintro e w1 ⟨rfl, rfl⟩
      refine ⟨?_, Below.refl _ _⟩
      rw [show nameOk s.data.toList = false by unfold nameOk; rw [hsz, decide_eq_false (show ¬ s.size ≤ 20 by omega)]; simp]
    · have hp : 0 < s.size := by omega
      obtain ⟨l, hl⟩ := toList_head s hp
      have e1 : decide (1 ≤ s.data.toList.length) = true := decide_eq_true (by omega)
      have e2 : decide (s.data.toList.length ≤ 20) = true := decide_eq_true (by omega)
      cases hc : small s[0] with
      | true =>
        have hb : 97 ≤ (s[0].toNat : Int) ∧ (s[0].toNat : Int) ≤ 122 := by simpa [small] using hc
        refine (name_tail s w hg hp (by omega) hb.1 hb.2).mono ?_
        rintro e w1 ⟨rfl, hbl⟩
        refine ⟨?_, hbl⟩
        have : nameOk s.data.toList = (s.data.toList.all letter && !isWord s.data.toList) := by
          unfold nameOk
          rw [e1, e2, Bool.and_true, Bool.and_true]
          congr 1
          rw [hl]
          simp only [chars, List.all_cons, hc, small_letter hc]
        rw [this]
      | false =>
        have hb : (s[0].toNat : Int) < 97 ∨ 122 < (s[0].toNat : Int) := by
          have : ¬ (97 ≤ (s[0].toNat : Int) ∧ (s[0].toNat : Int) ≤ 122) := by
            intro h
            have : small s[0] = true := by simpa [small] using h
            rw [hc] at this; cases this
          omega
        refine (name_head s w hp (by omega) hb).mono ?_
        rintro e w1 ⟨rfl, rfl⟩
        refine ⟨?_, Below.refl _ _⟩
        rw [show nameOk s.data.toList = false by unfold nameOk; rw [show chars s.data.toList = false by rw [hl]; simp [chars, hc]]; simp]
theorem bcell {W w1 : World} (hb : Below W.heap.size W w1) : (∀ b o, b < W.heap.size → w1.cell? ⟨b, o, none⟩ = W.cell? ⟨b, o, none⟩) ∧ (∀ b o, b < W.heap.size → w1.frozen? ⟨b, o, none⟩ = W.frozen? ⟨b, o, none⟩) :=
  ⟨fun b o h => hb.cell (p := ⟨b, o, none⟩) h, fun b o h => hb.frozen (p := ⟨b, o, none⟩) h⟩
end Go.Proofs.Ytcbebbiedegjlaa.Pd
