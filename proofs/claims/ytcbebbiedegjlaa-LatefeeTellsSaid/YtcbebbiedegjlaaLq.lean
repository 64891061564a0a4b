/- The law LatefeeTells, walked. -/
import Derived.Test.YtcbebbiedegjlaaLp
import Derived.Test.YtcbebbiedegjlaaLk
namespace Go.Proofs.Ytcbebbiedegjlaa.Pd
open Go.RowKit Go.Proofs.YtcbebbiedegjlaaW.PrintWords Go.Proofs.YtcbebbiedegjlaaW.PrintLast Go.Proofs.YtcbebbiedegjlaaW.PrintMore Go.Proofs.Ytcbebbiedegjlaa.HW
open Pm
set_option linter.unusedVariables false
set_option linter.unusedSimpArgs false
theorem built_due : Try.prog.built 56 [(0, .int .i64 71)] = some #[.int .i64 71, .int .i64 0, .int .i64 0, .int .i64 0] := by kernel_rfl
theorem on_is (p : Prod) (A1 : Option Addr) (c1 : Nat) (A2 : Option Addr) (c2 : Nat) (A3 : Option Addr) (c3 : Nat) (A : Option Addr) (c : Nat) (dues : List (List Int)) (day sofar : Int) (w : World) (hg : GV w) (hp : ProdAt w p A1 c1 A2 c2 A3 c3) (hs : Small p) (hd : Op.IntRows w A 4 dues) (hm : dues.length ≤ 1000000) (wd : (Lit.int .i64 day).wf = true) (r1 r2 : Int) (hr : lateOn p dues day sofar = (r1, r2)) :
    Calls Try.prog 28 #[.agg (pcs p A1 c1 A2 c2 A3 c3), .slice A dues.length c, .int .i64 day, .int .i64 sofar] w fun e w' => e = .returned (.tuple #[.int .i64 r1, .int .i64 r2]) ∧ Below w.heap.size w w' := by
  have h := on_any p A1 c1 A2 c2 A3 c3 A c dues day sofar w hg hp hs hd hm wd
  rw [hr] at h
  exact h
theorem ron_is (p : Prod) (A1 : Option Addr) (c1 : Nat) (A2 : Option Addr) (c2 : Nat) (A3 : Option Addr) (c3 : Nat) (A : Option Addr) (c : Nat) (dues : List (List Int)) (day sofar : Int) (w : World) (hp : ProdAt w p A1 c1 A2 c2 A3 c3) (hs : Held p) (hd : Op.IntRows w A 4 dues) (hm : dues.length ≤ 1000000) (wd : (Lit.int .i64 day).wf = true) (r1 r2 : Int) (hr : lateOn p dues day sofar = (r1, r2)) :
    Calls Try.prog 29 #[.agg (pcs p A1 c1 A2 c2 A3 c3), .slice A dues.length c, .int .i64 day, .int .i64 sofar] w fun e w' => e = .returned (.tuple #[.int .i64 r1, .int .i64 r2]) ∧ Below w.heap.size w w' := by
  have h := ron_any p A1 c1 A2 c2 A3 c3 A c dues day sofar w hp hs hd hm wd
  rw [hr] at h
  exact h
set_option maxRecDepth 100000 in
set_option maxHeartbeats 2000000 in
theorem latefeeTells_walk (p : Prod) (A1 : Option Addr) (c1 : Nat) (A2 : Option Addr) (c2 : Nat) (A3 : Option Addr) (c3 : Nat) (a1 a2 a3 a4 : Int) (A5 : Option Addr) (c5 : Nat) (l : List (List Int)) (a6 a7 : Int) (a8 : Bool) (w : World) (hp : ProdAt w p A1 c1 A2 c2 A3 c3) (hz0 : p.name.size ≤ maxLen) (hz1 : c1 ≤ maxLen) (hz2 : c2 ≤ maxLen) (hz3 : c3 ≤ maxLen) (w1 : (Lit.int .i64 a1).wf = true) (w2 : (Lit.int .i64 a2).wf = true) (w3 : (Lit.int .i64 a3).wf = true) (w4 : (Lit.int .i64 a4).wf = true) (hr : Op.IntRows w A5 4 l) (hc : l.length ≤ c5) (hn : A5 = none → c5 = 0) (hm : c5 ≤ maxLen) (w6 : (Lit.int .i64 a6).wf = true) (w7 : (Lit.int .i64 a7).wf = true) (hgv : GV w) :
    Calls Try.prog 7 #[pv p A1 c1 A2 c2 A3 c3, .int .i64 a1, .int .i64 a2, .int .i64 a3, .int .i64 a4, .slice A5 l.length c5, .int .i64 a6, .int .i64 a7, .bool a8] w fun e w' => e = .returned (.bool true) ∧ Below w.heap.size w w' := by
  have HG := Aside0.mk hgv
  have HP := Aside0.mk hp
  have HR := Aside0.mk hr
  have W6 := Aside0.mk w6
  have HC := Aside0.mk hc
  have HN := Aside0.mk hn
  unfold maxLen at hz0 hz1 hz2 hz3
  have z1 := Nat.le_trans hp.l1 hz1
  have z2 := Nat.le_trans hp.l2 hz2
  have z3 := Nat.le_trans hp.l3 hz3
  have z5 := (show l.length ≤ 9223372036854775807 by have := hm; unfold maxLen at this; omega)
  clear hgv hp hz1 hz2 hz3 w1 w2 w3 w4 hr hc hn hm w6 w7
  go_enter Try.func7, Try.ntmps7
  go_wp2_with (first
    | ((with_reducible refine gate_dst (N := 9) rfl ?_); refine box_event ?hg (N := 9) ?hd (cs := pcs p A1 c1 A2 c2 A3 c3) (t := 27) ?hr ?_; (case hd => rfl); (case hg => rfl); (case hr => first | (go_simp; done) | (go_simp; rfl)); intro g9 hg v0 hb1 hbl1; have g9ge := (show w.heap.size ≤ g9 by rw [hg]; exact Nat.le_refl _); clear hg; have HB1 := Aside0.mk hb1; have BL1 := Aside0.mk hbl1; clear hb1 hbl1; refine Hid.out ?_))
  refine Lib.hid ?_
  obtain ⟨q0, -, -, -, -, -, -, -, q8, -, -, -, -, -, -, q15, -, -, q18⟩ := pc_cells HB1.out
  by_cases big : 100 < p.name.size ∨ 50 < p.resets.length ∨ 50 < p.late.length ∨ 300 < p.hol.length ∨ 60 < l.length
  · rcases (by omega : 100 < p.name.size ∨ (p.name.size ≤ 100 ∧ 50 < p.resets.length) ∨ (p.name.size ≤ 100 ∧ p.resets.length ≤ 50 ∧ 50 < p.late.length) ∨ (p.name.size ≤ 100 ∧ p.resets.length ≤ 50 ∧ p.late.length ≤ 50 ∧ 300 < p.hol.length) ∨ (p.name.size ≤ 100 ∧ p.resets.length ≤ 50 ∧ p.late.length ≤ 50 ∧ p.hol.length ≤ 300 ∧ 60 < l.length)) with b1 | ⟨b1, b2⟩ | ⟨b1, b2, b3⟩ | ⟨b1, b2, b3, b4⟩ | ⟨b1, b2, b3, b4, b5⟩
    all_goals
      clear big
      go_wp2_with fail
      refine (late_awake _ (HG.out.below BL1.out)).mono ?_
      rintro e x1 ⟨rfl, hb⟩
      have X1 := Aside0.mk (below_step BL1.out hb)
      clear hb
      go_wp2_with fail
      go_ret
      exact ⟨rfl, X1.out⟩
  · have b1 : p.name.size ≤ 100 := by omega
    have b2 : p.resets.length ≤ 50 := by omega
    have b3 : p.late.length ≤ 50 := by omega
    have b4 : p.hol.length ≤ 300 := by omega
    have b5 : l.length ≤ 60 := by omega
    have SM1 := Aside0.mk (show Small p from ⟨by omega, by omega, by omega, by omega⟩)
    have L60 := Aside0.mk (show l.length ≤ 1000000 by omega)
    clear big
    cases a8 with
    | true =>
      have VX := Aside0.mk HB1.out
      have PA := Aside0.mk (HP.out.below BL1.out)
      have BX := Aside0.mk BL1.out
      have SM := Aside0.mk SM1.out
      obtain ⟨r1, r2, hres⟩ : ∃ r1 r2, lateOn p l a6 a7 = (r1, r2) := ⟨_, _, rfl⟩
      have RES := Aside0.mk hres
      clear hres
      go_wp2_with (first
        | ((with_reducible refine gate_dst (N := 60) rfl ?_); refine build_event rfl (t := 56) rfl (cs := #[.int .i64 71, .int .i64 0, .int .i64 0, .int .i64 0]) ?hb ?_; (case hb => simp only [List.map_toArray, List.map_cons, List.map_nil]; exact built_due)))
      refine (ownD_any A5 c5 l 71 0 0 0 _ (HR.out.below BX.out) HC.out HN.out L60.out).mono ?_
      rintro e y1 ⟨go, goge, rfl, hblk, hb⟩
      have O1 := Aside0.mk hblk
      have Y1 := Aside0.mk (below_step BX.out hb)
      have V1 := Aside0.mk (blk_below VX.out hb)
      have P1 := Aside0.mk (PA.out.below hb)
      clear hblk hb
      go_wp2_with ((with_reducible refine gate_dst (N := 63) rfl ?_); refine wpList_load_row rfl 27 (.tmp 9) rfl g9 rfl 27 _ (0, 0) _ V1.out Try.underlying27 rfl info_prod ?_)
      refine (on_is p A1 c1 A2 c2 A3 c3 (some ⟨go, 0, none⟩) (l.length + 3) l a6 a7 _ (HG.out.below Y1.out) P1.out SM.out (rows_front (more := [[71, 0, 0, 0], [71, 0, 0, 0], [71, 0, 0, 0]]) O1.out ?_ ?_) L60.out W6.out r1 r2 RES.out).mono ?_
      · intro r hr
        rcases List.mem_append.1 hr with h | h
        · exact (HR.out.1 r h).1
        · simp at h; rw [h]; rfl
      · exact fun r hr => (HR.out.1 r hr).2
      rintro e y2 ⟨rfl, hb⟩
      have Y2 := Aside0.mk (below_step Y1.out hb)
      have V2 := Aside0.mk (blk_below V1.out hb)
      have O2 := Aside0.mk (blk_below O1.out hb)
      have P2 := Aside0.mk (P1.out.below hb)
      clear hb
      go_wp2_with ((with_reducible refine gate_dst (N := 71) rfl ?_); refine wpList_load_row rfl 27 (.tmp 9) rfl g9 rfl 27 _ (0, 0) _ V2.out Try.underlying27 rfl info_prod ?_)
      refine (ron_is p A1 c1 A2 c2 A3 c3 A5 c5 l a6 a7 _ P2.out SM.out.held (HR.out.below Y2.out) L60.out W6.out r1 r2 RES.out).mono ?_
      rintro e y3 ⟨rfl, hb⟩
      have Y3 := Aside0.mk (below_step Y2.out hb)
      have O3 := Aside0.mk (blk_below O2.out hb)
      clear hb
      go_wp2_with fail
      refine (late_awake _ (HG.out.below Y3.out)).mono ?_
      rintro e y4 ⟨rfl, hb⟩
      have Y4 := Aside0.mk (below_step Y3.out hb)
      have O4 := Aside0.mk (blk_below O3.out hb)
      clear hb
      go_wp2_with (first
        | ((with_reducible refine gate_dst (N := 92) rfl ?_); refine build_want rfl (t := 56) rfl (cs := #[.int .i64 71, .int .i64 0, .int .i64 0, .int .i64 0]) ?hb ?_; (case hb => simp only [List.map_toArray, List.map_cons, List.map_nil]; exact built_due)))
      refine (keptD go A5 c5 l 71 0 0 0 _ O4.out (HR.out.below Y4.out) L60.out).mono ?_
      rintro e y5 ⟨rfl, hb⟩
      have Y5 := Aside0.mk (below_step Y4.out hb)
      clear hb
      go_wp2_with fail
      go_ret
      exact ⟨rfl, Y5.out⟩
    | false =>
      go_wp2_with fail
      refine (tiered_any a1 a2 a3 a4 _).mono ?_
      rintro e v1 ⟨d1, d2, f, cap, gs, v, rfl, ⟨rfl, b1, b2, bf, bc, hs, gsge, hb⟩⟩
      have S1 := Aside0.mk hs
      have BL2 := Aside0.mk (below_step BL1.out hb)
      have HB2 := Aside0.mk (blk_below HB1.out hb)
      have gne := (show gs ≠ g9 by have := blk_lt HB1.out; omega)
      have B1 := Aside0.mk b1
      have B2 := Aside0.mk b2
      have BF := Aside0.mk bf
      have BC := Aside0.mk bc
      clear hs hb b1 b2 bf bc
      go_wp2_with ((with_reducible refine gate_store (t := 27) (p := 9) rfl ?_); refine Hid.out ?_)
      refine Lib.hid ?_
      refine wpList_store_row rfl 27 (.tmp 9) (.tmp 58) rfl g9 (lateC (.slice (some ⟨gs, 0, none⟩) 2 2) cap) rfl rfl 27 (pcs p A1 c1 A2 c2 A3 c3) HB2.out info_prod rfl (by simp [Value.oneCell']) ?_
      have hb2 := setRow_heap v1 g9 _ (lateC (.slice (some ⟨gs, 0, none⟩) 2 2) cap) _ _ HB2.out
      have bl2 := below_setRowP (g := g9) BL2.out g9ge (lateC (.slice (some ⟨gs, 0, none⟩) 2 2) cap)
      have hs2 := (setRow_other v1 g9 gs (lateC (.slice (some ⟨gs, 0, none⟩) 2 2) cap) gne).trans S1.out
      obtain ⟨v7, hv7⟩ : ∃ v7, v7 = v1.setRow g9 (lateC (.slice (some ⟨gs, 0, none⟩) 2 2) cap) := ⟨_, rfl⟩
      rw [← hv7] at hb2 bl2 hs2 ⊢
      have VX := Aside0.mk (show v7.heap[g9]? = some (.cells (pcs (lateP [[d1, f], [d2, 2 * f]] cap) none 0 (some ⟨gs, 0, none⟩) 2 none 0) 27 (0, 0)) from hb2)
      have BX := Aside0.mk bl2
      have PA := Aside0.mk (show ProdAt v7 (lateP [[d1, f], [d2, 2 * f]] cap) none 0 (some ⟨gs, 0, none⟩) 2 none 0 by
        have hb1 := B1.out
        have hb2' := B2.out
        have hbf := BF.out
        exact lateP_at (rows_two hs2 (wf_of (by omega) (by omega)) (wf_of (by omega) (by omega)) (wf_of (by omega) (by omega)) (wf_of (by omega) (by omega))) (Nat.le_refl _) (fun h => by cases h))
      have SM := Aside0.mk (lateP_small (rows := [[d1, f], [d2, 2 * f]]) (cp := cap) (by simp))
      clear hv7 hb2 bl2 hs2 q0 q8 q15 q18
      go_frame
      obtain ⟨r1, r2, hres⟩ : ∃ r1 r2, lateOn (lateP [[d1, f], [d2, 2 * f]] cap) l a6 a7 = (r1, r2) := ⟨_, _, rfl⟩
      have RES := Aside0.mk hres
      clear hres
      go_wp2_with (first
        | ((with_reducible refine gate_dst (N := 60) rfl ?_); refine build_event rfl (t := 56) rfl (cs := #[.int .i64 71, .int .i64 0, .int .i64 0, .int .i64 0]) ?hb ?_; (case hb => simp only [List.map_toArray, List.map_cons, List.map_nil]; exact built_due)))
      refine (ownD_any A5 c5 l 71 0 0 0 _ (HR.out.below BX.out) HC.out HN.out L60.out).mono ?_
      rintro e y1 ⟨go, goge, rfl, hblk, hb⟩
      have O1 := Aside0.mk hblk
      have Y1 := Aside0.mk (below_step BX.out hb)
      have V1 := Aside0.mk (blk_below VX.out hb)
      have P1 := Aside0.mk (PA.out.below hb)
      clear hblk hb
      go_wp2_with ((with_reducible refine gate_dst (N := 63) rfl ?_); refine wpList_load_row rfl 27 (.tmp 9) rfl g9 rfl 27 _ (0, 0) _ V1.out Try.underlying27 rfl info_prod ?_)
      refine (on_is (lateP [[d1, f], [d2, 2 * f]] cap) none 0 (some ⟨gs, 0, none⟩) 2 none 0 (some ⟨go, 0, none⟩) (l.length + 3) l a6 a7 _ (HG.out.below Y1.out) P1.out SM.out (rows_front (more := [[71, 0, 0, 0], [71, 0, 0, 0], [71, 0, 0, 0]]) O1.out ?_ ?_) L60.out W6.out r1 r2 RES.out).mono ?_
      · intro r hr
        rcases List.mem_append.1 hr with h | h
        · exact (HR.out.1 r h).1
        · simp at h; rw [h]; rfl
      · exact fun r hr => (HR.out.1 r hr).2
      rintro e y2 ⟨rfl, hb⟩
      have Y2 := Aside0.mk (below_step Y1.out hb)
      have V2 := Aside0.mk (blk_below V1.out hb)
      have O2 := Aside0.mk (blk_below O1.out hb)
      have P2 := Aside0.mk (P1.out.below hb)
      clear hb
      go_wp2_with ((with_reducible refine gate_dst (N := 71) rfl ?_); refine wpList_load_row rfl 27 (.tmp 9) rfl g9 rfl 27 _ (0, 0) _ V2.out Try.underlying27 rfl info_prod ?_)
      refine (ron_is (lateP [[d1, f], [d2, 2 * f]] cap) none 0 (some ⟨gs, 0, none⟩) 2 none 0 A5 c5 l a6 a7 _ P2.out SM.out.held (HR.out.below Y2.out) L60.out W6.out r1 r2 RES.out).mono ?_
      rintro e y3 ⟨rfl, hb⟩
      have Y3 := Aside0.mk (below_step Y2.out hb)
      have O3 := Aside0.mk (blk_below O2.out hb)
      clear hb
      go_wp2_with fail
      refine (late_awake _ (HG.out.below Y3.out)).mono ?_
      rintro e y4 ⟨rfl, hb⟩
      have Y4 := Aside0.mk (below_step Y3.out hb)
      have O4 := Aside0.mk (blk_below O3.out hb)
      clear hb
      go_wp2_with (first
        | ((with_reducible refine gate_dst (N := 92) rfl ?_); refine build_want rfl (t := 56) rfl (cs := #[.int .i64 71, .int .i64 0, .int .i64 0, .int .i64 0]) ?hb ?_; (case hb => simp only [List.map_toArray, List.map_cons, List.map_nil]; exact built_due)))
      refine (keptD go A5 c5 l 71 0 0 0 _ O4.out (HR.out.below Y4.out) L60.out).mono ?_
      rintro e y5 ⟨rfl, hb⟩
      have Y5 := Aside0.mk (below_step Y4.out hb)
      clear hb
      go_wp2_with fail
      go_ret
      exact ⟨rfl, Y5.out⟩
end Go.Proofs.Ytcbebbiedegjlaa.Pd
