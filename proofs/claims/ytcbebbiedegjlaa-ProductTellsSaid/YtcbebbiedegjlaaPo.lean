/- Contracts by hand: a product's order are looked at. -/
import Derived.Test.YtcbebbiedegjlaaRw
import Derived.Deep.LoopGhost
import Derived.IntWalk
import Derived.Lib.Hide
namespace Go.Proofs.Ytcbebbiedegjlaa.Pd
open Go.RowKit Go.Proofs.YtcbebbiedegjlaaW.PrintWords Go.Proofs.YtcbebbiedegjlaaW.PrintLast Go.Proofs.YtcbebbiedegjlaaW.PrintMore Go.Proofs.Ytcbebbiedegjlaa.HW
open Pm
set_option linter.unusedVariables false
set_option linter.unusedSimpArgs false

/-- What was met, by kinds. -/
abbrev seenC (l : List Int) : Array Value := #[.bool (l.contains 0), .bool (l.contains 1), .bool (l.contains 2), .bool (l.contains 3), .bool (l.contains 4)]
/-- Each is a kind, and none was met before. -/
def ordR : List Int → List Int → Bool
  | _, [] => true
  | seen, o :: l => decide (1 ≤ o ∧ o ≤ 4) && (!seen.contains o && ordR (o :: seen) l)
theorem ordR_is (a b c d : Int) : ordR [] [a, b, c, d] = orderOk a b c d := by
  unfold orderOk
  simp only [ordR, List.contains_cons, List.contains_nil, Bool.or_false, Bool.not_false, Bool.true_and, Bool.and_true, Bool.not_or]
  rw [Bool.eq_iff_iff]
  simp only [Bool.and_eq_true, decide_eq_true_eq, Bool.not_eq_true', beq_eq_false_iff_ne]
  constructor
  · rintro ⟨h1, h2, h3, h4, ⟨h5, h6⟩, h7, ⟨h8, h9, h10⟩⟩
    exact ⟨h1, h2, h4, h7, Ne.symm h3, Ne.symm h6, Ne.symm h10, Ne.symm h5, Ne.symm h9, Ne.symm h8⟩
  · rintro ⟨h1, h2, h4, h7, h3, h6, h10, h5, h9, h8⟩
    exact ⟨h1, h2, Ne.symm h3, h4, ⟨Ne.symm h5, Ne.symm h6⟩, h7, ⟨Ne.symm h8, Ne.symm h9, Ne.symm h10⟩⟩
theorem index_ord (a b c d : Int) (k : Nat) (hk : k < 4) (w : World) : (Instr.index 23 (.agg #[.int .i64 a, .int .i64 b, .int .i64 c, .int .i64 d]) (.int .i64 k)).run Try.prog w = .ok (.int .i64 ([a, b, c, d].getD k 0)) w := by
  rcases (by omega : k = 0 ∨ k = 1 ∨ k = 2 ∨ k = 3) with rfl | rfl | rfl | rfl <;> kernel_rfl
set_option maxRecDepth 100000 in
set_option maxHeartbeats 2000000 in
theorem order_1 (p : Prod) (A1 : Option Addr) (c1 : Nat) (A2 : Option Addr) (c2 : Nat) (A3 : Option Addr) (c3 : Nat) (w : World) (ov : Bool) (bb : Bool) (hbb : ordR [] [p.o1, p.o2, p.o3, p.o4] = bb) (hv : bb = true → Aside0 (decide (1 ≤ p.over ∧ p.over ≤ 3) = ov)) :
    Calls Try.prog 34 #[pv p A1 c1 A2 c2 A3 c3] w (LookE (bb && ov) w) := by
  have HBB := Aside0.mk hbb
  have HV := Aside0.mk hv
  clear hbb hv
  go_enter Try.func34, Try.ntmps34
  go_wp2_with (first
    | ((with_reducible refine gate_dst (N := 1) rfl ?_); refine box_event ?hg (N := 1) ?hd (cs := pcs p A1 c1 A2 c2 A3 c3) (t := 68) ?hr ?_; (case hd => rfl); (case hg => rfl); (case hr => first | (go_simp; done) | (go_simp; rfl)); intro g1 hg w1 hb1 hbl1; clear hg; have HB1 := Aside0.mk hb1; have BL1 := Aside0.mk hbl1; clear hb1 hbl1)
    | ((with_reducible refine gate_dst (N := 2) rfl ?_); refine Hid.out ?_))
  refine Lib.hid ?_
  refine box_event ?hg (N := 2) ?hd (cs := #[.bool false, .bool false, .bool false, .bool false, .bool false]) (t := 84) ?hr ?_
  case hd => rfl
  case hg => rfl
  case hr => first | (go_simp; done) | (go_simp; rfl)
  intro g2 hg w2 hb2 hbl2
  have hg2 := hg; clear hg; have HB2 := Aside0.mk (show w2.heap[g2]? = some (.cells (seenC []) 84 (0, 0)) from hb2); have BL2 := Aside0.mk (below_step BL1.out hbl2); have BL12 := Aside0.mk hbl2; have g2ge : w1.heap.size ≤ g2 := (by omega); have HB3 := Aside0.mk (blk_below HB1.out hbl2); have g1l := blk_lt HB1.out; have g12 : g1 ≠ g2 := (by omega); clear hg2 g1l; obtain ⟨-, -, -, -, -, -, -, -, -, -, q10, q11, q12, q13, -⟩ := pc_cells HB3.out; clear hb2 hbl2
  go_wp2_with fail
  clear q10 q11 q12 q13
  obtain ⟨os, hos⟩ : ∃ os : List Int, [p.o1, p.o2, p.o3, p.o4] = os := ⟨_, rfl⟩
  have hidx0 := index_ord p.o1 p.o2 p.o3 p.o4
  rw [hos] at hidx0
  have hlen : os.length = 4 := by rw [← hos]; rfl
  have HIDX := Aside0.mk hidx0
  have HLEN := Aside0.mk hlen
  have HBO := Aside0.mk (show ordR [] os = bb by rw [← hos]; exact HBB.out)
  clear hidx0 hlen hos HBB
  go_loopg [8] 5 (fun gq i w' => ∃ (k : Nat), k ≤ 4 ∧ i = .int .i64 k ∧ Aside0 (gq = 5 - k) ∧ Aside0 (ordR (os.take k).reverse (os.drop k) = bb) ∧ Aside0 (w'.heap[g2]? = some (.cells (seenC (os.take k).reverse) 84 (0, 0))) ∧ Aside0 (Below w.heap.size w w' ∧ Below w1.heap.size w1 w'))
  case atStart => exact ⟨0, by omega, rfl, ⟨rfl⟩, ⟨by simpa using HBO.out⟩, HB2, ⟨BL2.out, BL12.out⟩⟩
  case round =>
    obtain ⟨k, hk, rfl, hgq, hq, hb, hbl⟩ := hrel
    by_cases hlt : k < 4
    · have hidx := HIDX.out k hlt
      have hdr : os.drop k = os.getD k 0 :: os.drop (k + 1) := by
        rw [List.drop_eq_getElem_cons (by rw [HLEN.out]; exact hlt), List.getD_eq_getElem?_getD, List.getElem?_eq_getElem (by rw [HLEN.out]; exact hlt)]; rfl
      have htk : (os.take (k + 1)).reverse = os.getD k 0 :: (os.take k).reverse := by
        rw [List.take_succ_eq_append_getElem (by rw [HLEN.out]; exact hlt), List.reverse_append, List.getD_eq_getElem?_getD, List.getElem?_eq_getElem (by rw [HLEN.out]; exact hlt)]; rfl
      have HQ := hq.out
      rw [hdr] at HQ
      simp only [ordR] at HQ
      generalize os.getD k 0 = o at *
      generalize (os.take k).reverse = l at *
      have HTK := Aside0.mk htk
      clear hdr htk hq
      by_cases h1 : 1 ≤ o ∧ o ≤ 4
      · rw [decide_eq_true h1, Bool.true_and] at HQ
        have H1 := Aside0.mk (decide_eq_true h1)
        have cs0 := fun j => blk_cell hb.out j
        rcases (by omega : o = 1 ∨ o = 2 ∨ o = 3 ∨ o = 4) with rfl | rfl | rfl | rfl
        · clear h1
          have fz := frozen_of_row wr g2 1 _ _ hb.out
          cases hc : l.contains 1 with
          | true =>
            rw [hc, Bool.not_true, Bool.false_and] at HQ
            subst HQ
            have cj : wr.cell? ⟨g2, 1, none⟩ = some (.bool true) := (blk_cell hb.out 1).trans (by show some (Value.bool (l.contains 1)) = _; rw [hc])
            clear hc cs0
            go_wp2_with (first
              | (go_at_call 50; refine (within_i_is H1.out _).mono ?_; rintro e w' ⟨rfl, rfl⟩)
              | (go_at_call 49; refine (must_no _).mono ?_; rintro e w' ⟨rfl, rfl⟩))
            exact ⟨rfl, LookE.no ⟨rfl, hbl.out.1⟩⟩
          | false =>
            rw [hc, Bool.not_false, Bool.true_and] at HQ
            have cj : wr.cell? ⟨g2, 1, none⟩ = some (.bool false) := (blk_cell hb.out 1).trans (by show some (Value.bool (l.contains 1)) = _; rw [hc])
            have HQ2 := Aside0.mk HQ
            clear hc cs0 HQ
            go_wp2_with (first
              | (go_at_call 50; refine (within_i_is H1.out _).mono ?_; rintro e w' ⟨rfl, rfl⟩)
              | (go_at_call 49; refine (must_yes _).mono ?_; rintro e w' ⟨rfl, rfl⟩))
            go_roundg (5 - (k + 1))
            case measure => have := hgq.out; omega
            case rel => exact ⟨k + 1, by omega, by simp, ⟨rfl⟩, ⟨by rw [HTK.out]; exact HQ2.out⟩, ⟨by rw [heap_setCell_same _ _ _ _ _ _ hb.out, HTK.out]; simp⟩, ⟨hbl.out.1.setCell (by have := BL1.out.size; simp; omega) _, hbl.out.2.setCell (by simp; omega) _⟩⟩
        · clear h1
          have fz := frozen_of_row wr g2 2 _ _ hb.out
          cases hc : l.contains 2 with
          | true =>
            rw [hc, Bool.not_true, Bool.false_and] at HQ
            subst HQ
            have cj : wr.cell? ⟨g2, 2, none⟩ = some (.bool true) := (blk_cell hb.out 2).trans (by show some (Value.bool (l.contains 2)) = _; rw [hc])
            clear hc cs0
            go_wp2_with (first
              | (go_at_call 50; refine (within_i_is H1.out _).mono ?_; rintro e w' ⟨rfl, rfl⟩)
              | (go_at_call 49; refine (must_no _).mono ?_; rintro e w' ⟨rfl, rfl⟩))
            exact ⟨rfl, LookE.no ⟨rfl, hbl.out.1⟩⟩
          | false =>
            rw [hc, Bool.not_false, Bool.true_and] at HQ
            have cj : wr.cell? ⟨g2, 2, none⟩ = some (.bool false) := (blk_cell hb.out 2).trans (by show some (Value.bool (l.contains 2)) = _; rw [hc])
            have HQ2 := Aside0.mk HQ
            clear hc cs0 HQ
            go_wp2_with (first
              | (go_at_call 50; refine (within_i_is H1.out _).mono ?_; rintro e w' ⟨rfl, rfl⟩)
              | (go_at_call 49; refine (must_yes _).mono ?_; rintro e w' ⟨rfl, rfl⟩))
            go_roundg (5 - (k + 1))
            case measure => have := hgq.out; omega
            case rel => exact ⟨k + 1, by omega, by simp, ⟨rfl⟩, ⟨by rw [HTK.out]; exact HQ2.out⟩, ⟨by rw [heap_setCell_same _ _ _ _ _ _ hb.out, HTK.out]; simp⟩, ⟨hbl.out.1.setCell (by have := BL1.out.size; simp; omega) _, hbl.out.2.setCell (by simp; omega) _⟩⟩
        · clear h1
          have fz := frozen_of_row wr g2 3 _ _ hb.out
          cases hc : l.contains 3 with
          | true =>
            rw [hc, Bool.not_true, Bool.false_and] at HQ
            subst HQ
            have cj : wr.cell? ⟨g2, 3, none⟩ = some (.bool true) := (blk_cell hb.out 3).trans (by show some (Value.bool (l.contains 3)) = _; rw [hc])
            clear hc cs0
            go_wp2_with (first
              | (go_at_call 50; refine (within_i_is H1.out _).mono ?_; rintro e w' ⟨rfl, rfl⟩)
              | (go_at_call 49; refine (must_no _).mono ?_; rintro e w' ⟨rfl, rfl⟩))
            exact ⟨rfl, LookE.no ⟨rfl, hbl.out.1⟩⟩
          | false =>
            rw [hc, Bool.not_false, Bool.true_and] at HQ
            have cj : wr.cell? ⟨g2, 3, none⟩ = some (.bool false) := (blk_cell hb.out 3).trans (by show some (Value.bool (l.contains 3)) = _; rw [hc])
            have HQ2 := Aside0.mk HQ
            clear hc cs0 HQ
            go_wp2_with (first
              | (go_at_call 50; refine (within_i_is H1.out _).mono ?_; rintro e w' ⟨rfl, rfl⟩)
              | (go_at_call 49; refine (must_yes _).mono ?_; rintro e w' ⟨rfl, rfl⟩))
            go_roundg (5 - (k + 1))
            case measure => have := hgq.out; omega
            case rel => exact ⟨k + 1, by omega, by simp, ⟨rfl⟩, ⟨by rw [HTK.out]; exact HQ2.out⟩, ⟨by rw [heap_setCell_same _ _ _ _ _ _ hb.out, HTK.out]; simp⟩, ⟨hbl.out.1.setCell (by have := BL1.out.size; simp; omega) _, hbl.out.2.setCell (by simp; omega) _⟩⟩
        · clear h1
          have fz := frozen_of_row wr g2 4 _ _ hb.out
          cases hc : l.contains 4 with
          | true =>
            rw [hc, Bool.not_true, Bool.false_and] at HQ
            subst HQ
            have cj : wr.cell? ⟨g2, 4, none⟩ = some (.bool true) := (blk_cell hb.out 4).trans (by show some (Value.bool (l.contains 4)) = _; rw [hc])
            clear hc cs0
            go_wp2_with (first
              | (go_at_call 50; refine (within_i_is H1.out _).mono ?_; rintro e w' ⟨rfl, rfl⟩)
              | (go_at_call 49; refine (must_no _).mono ?_; rintro e w' ⟨rfl, rfl⟩))
            exact ⟨rfl, LookE.no ⟨rfl, hbl.out.1⟩⟩
          | false =>
            rw [hc, Bool.not_false, Bool.true_and] at HQ
            have cj : wr.cell? ⟨g2, 4, none⟩ = some (.bool false) := (blk_cell hb.out 4).trans (by show some (Value.bool (l.contains 4)) = _; rw [hc])
            have HQ2 := Aside0.mk HQ
            clear hc cs0 HQ
            go_wp2_with (first
              | (go_at_call 50; refine (within_i_is H1.out _).mono ?_; rintro e w' ⟨rfl, rfl⟩)
              | (go_at_call 49; refine (must_yes _).mono ?_; rintro e w' ⟨rfl, rfl⟩))
            go_roundg (5 - (k + 1))
            case measure => have := hgq.out; omega
            case rel => exact ⟨k + 1, by omega, by simp, ⟨rfl⟩, ⟨by rw [HTK.out]; exact HQ2.out⟩, ⟨by rw [heap_setCell_same _ _ _ _ _ _ hb.out, HTK.out]; simp⟩, ⟨hbl.out.1.setCell (by have := BL1.out.size; simp; omega) _, hbl.out.2.setCell (by simp; omega) _⟩⟩
      · rw [decide_eq_false h1, Bool.false_and] at HQ
        subst HQ
        have H1 := Aside0.mk (decide_eq_false h1)
        clear h1
        go_wp2_with (first
          | (go_at_call 50; refine (within_i_is H1.out _).mono ?_; rintro e w' ⟨rfl, rfl⟩)
          | (go_at_call 49; refine (must_no _).mono ?_; rintro e w' ⟨rfl, rfl⟩))
        exact ⟨rfl, LookE.no ⟨rfl, hbl.out.1⟩⟩
    · have hk4 : k = 4 := by omega
      subst hk4
      have HQ := hq.out
      rw [List.drop_of_length_le (by rw [HLEN.out]; omega)] at HQ
      obtain rfl : true = bb := HQ
      obtain ⟨-, -, -, -, -, -, -, -, -, -, -, -, -, -, q14, -⟩ := pc_cells (blk_below HB1.out hbl.out.2)
      have H1 := HV.out rfl
      clear hq hb
      cases ov with
      | true =>
        go_wp2_with (first
          | (go_at_call 50; refine (within_i_is H1.out _).mono ?_; rintro e w' ⟨rfl, rfl⟩)
          | (go_at_call 49; refine (must_yes _).mono ?_; rintro e w' ⟨rfl, rfl⟩))
        go_end0
        exact LookE.yes ⟨rfl, hbl.out.1⟩
      | false =>
        go_wp2_with (first
          | (go_at_call 50; refine (within_i_is H1.out _).mono ?_; rintro e w' ⟨rfl, rfl⟩)
          | (go_at_call 49; refine (must_no _).mono ?_; rintro e w' ⟨rfl, rfl⟩))
        exact ⟨rfl, LookE.no ⟨rfl, hbl.out.1⟩⟩
/-- A product's order is looked at. -/
theorem order_any (p : Prod) (A1 : Option Addr) (c1 : Nat) (A2 : Option Addr) (c2 : Nat) (A3 : Option Addr) (c3 : Nat) (w : World) :
    Calls Try.prog 34 #[pv p A1 c1 A2 c2 A3 c3] w (LookE (ordOk p) w) := by
  unfold ordOk
  rw [← ordR_is]
  exact order_1 p A1 c1 A2 c2 A3 c3 w _ _ rfl (fun _ => ⟨rfl⟩)
end Go.Proofs.Ytcbebbiedegjlaa.Pd
