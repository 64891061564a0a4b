/- The law CivilTells, walked. -/
import Derived.Test.YtaimfakcojdadaaDoorTl
namespace Go.Proofs.YtaimfakcojdadaaDoor.H
open Go.RowKit Go.Proofs.YtaimfakcojdadaaDoorW.PrintWords Go.Proofs.YtaimfakcojdadaaDoorW.PrintLast Go.Proofs.YtaimfakcojdadaaDoorW.PrintMore Go.Proofs.YtaimfakcojdadaaDoor.HW Go.Proofs.YtaimfakcojdadaaDoor.Ev
open Go.Proofs.YtaimfakcojdadaaDoor.Math
set_option linter.unusedVariables false
set_option linter.unusedSimpArgs false
set_option maxRecDepth 100000 in
set_option maxHeartbeats 4000000 in
theorem civilTells_walk (y m d n : Int) (s : ByteArray) (w : World) (wy : (Lit.int .i64 y).wf = true) (wm : (Lit.int .i64 m).wf = true) (wd : (Lit.int .i64 d).wf = true) (wn : (Lit.int .i64 n).wf = true) (ws : s.size ≤ 140737488351232) (hT : Tab w) :
    Calls Tryd.prog 3 #[.agg #[.int .i64 y, .int .i64 m, .int .i64 d], .int .i64 n, .string s] w fun e w' => e = .returned (.bool true) ∧ Below w.heap.size w w' := by
  have HT := Aside0.mk hT
  clear hT wy wm wd wn
  by_cases hs : 100 < s.size
  · have ht : decide ((100 : Int) < (s.size : Int)) = true := decide_eq_true (by omega)
    clear hs
    go_enter Tryd.func3, Tryd.ntmps3
    go_wp2_with ((with_reducible refine gate_dst (N := 3) rfl ?_); refine box_event ?hg (N := 3) ?hd (cs := #[.int .i64 y, .int .i64 m, .int .i64 d]) (t := 23) ?hr ?_; (case hd => rfl); (case hg => rfl); (case hr => first | (go_simp; done) | (go_simp; rfl)); intro g3 hg w1 hb1 hbl1; clear hg; have G3 := Aside0.mk hb1; have HB := Aside0.mk hbl1; clear hbl1 hb1; refine Hid.out ?_)
    refine Lib.hid ?_
    go_wp2_with (go_at_call 6; refine (law03_awake _).mono ?_; rintro e w2 ⟨rfl, hb⟩; have HB := Aside0.mk (below_step HB.out hb); clear hb)
    go_ret
    exact ⟨rfl, HB.out⟩
  · have ht : decide ((100 : Int) < (s.size : Int)) = false := decide_eq_false (by omega)
    rcases hN : number y m d with ⟨a1, a2⟩
    rcases hD : date n with ⟨z1, z2, z3, z4⟩
    have N1 := Aside0.mk (fun w => civil_Number.calls y m d a1 a2 w (by unfold civil_Number.f; rw [hN]))
    have N2 := Aside0.mk (fun w => quittanceref03_Number.calls y m d a1 a2 w (by unfold quittanceref03_Number.f; rw [hN]))
    have D1 := Aside0.mk (fun w => civil_Date.calls n z1 z2 z3 z4 w (by unfold civil_Date.f; rw [hD]))
    have D2 := Aside0.mk (fun w => quittanceref03_Date.calls n z1 z2 z3 z4 w (by unfold quittanceref03_Date.f; rw [hD]))
    have t1 := fun w ht => text_any n w ht
    have t2 := fun w => rtext_any n w
    have k1 := fun w => civil_take_any s w
    have k2 := fun w => ref_take_any s w
    generalize textP n = tp at t1 t2
    obtain ⟨x1, x2⟩ := tp
    generalize takeP s.data.toList = kp at k1 k2
    obtain ⟨v1, v2⟩ := kp
    simp only [] at t1 t2 k1 k2
    have X1 := Aside0.mk t1
    have X2 := Aside0.mk t2
    have K1 := Aside0.mk k1
    have K2 := Aside0.mk k2
    clear hs hN hD t1 t2 k1 k2
    go_enter Tryd.func3, Tryd.ntmps3
    go_wp2_with ((with_reducible refine gate_dst (N := 3) rfl ?_); refine box_event ?hg (N := 3) ?hd (cs := #[.int .i64 y, .int .i64 m, .int .i64 d]) (t := 23) ?hr ?_; (case hd => rfl); (case hg => rfl); (case hr => first | (go_simp; done) | (go_simp; rfl)); intro g3 hg w1 hb1 hbl1; clear hg; have G3 := Aside0.mk hb1; have HB := Aside0.mk hbl1; clear hbl1 hb1; refine Hid.out ?_)
    refine Lib.hid ?_
    obtain ⟨q0, q1, q2⟩ := date_cells G3.out
    go_wp2_with (first
      | (go_at_call 7; refine (N1.out _).mono ?_; rintro e w2 ⟨rfl, hb⟩; have HB := Aside0.mk (below_step HB.out hb); have G3 := Aside0.mk (blk_below G3.out hb); clear hb; obtain ⟨q0, q1, q2⟩ := date_cells G3.out)
      | (go_at_call 8; refine (N2.out _).mono ?_; rintro e w2 ⟨rfl, hb⟩; have HB := Aside0.mk (below_step HB.out hb); have G3 := Aside0.mk (blk_below G3.out hb); clear hb; obtain ⟨q0, q1, q2⟩ := date_cells G3.out)
      | (go_at_call 9; refine (D1.out _).mono ?_; rintro e w2 ⟨rfl, hb⟩; have HB := Aside0.mk (below_step HB.out hb); have G3 := Aside0.mk (blk_below G3.out hb); clear hb)
      | ((with_reducible refine gate_dst (N := 11) rfl ?_); refine copy_event rfl (N := 11) rfl rfl rfl (t := 23) (v := .tmp 40) rfl (cs := #[.int .i64 z1, .int .i64 z2, .int .i64 z3]) (zs := #[.int .i64 0, .int .i64 0, .int .i64 0]) ?hr rfl rfl info_date ?hz (date_one _ _ _) ?_; (case hr => first | (go_simp; done) | (go_simp; rfl)); (case hz => rfl); intro g11 hg w2 hb0 hb; clear hg; have G11 := Aside0.mk hb0; have HB := Aside0.mk (below_step HB.out hb); have G3 := Aside0.mk (blk_below G3.out hb); clear hb; clear hb0)
      | (go_at_call 10; refine (D2.out _).mono ?_; rintro e w2 ⟨rfl, hb⟩; have HB := Aside0.mk (below_step HB.out hb); have G3 := Aside0.mk (blk_below G3.out hb); have G11 := Aside0.mk (blk_below G11.out hb); clear hb)
      | ((with_reducible refine gate_dst (N := 13) rfl ?_); refine copy_event rfl (N := 13) rfl rfl rfl (t := 23) (v := .tmp 45) rfl (cs := #[.int .i64 z1, .int .i64 z2, .int .i64 z3]) (zs := #[.int .i64 0, .int .i64 0, .int .i64 0]) ?hr rfl rfl info_date ?hz (date_one _ _ _) ?_; (case hr => first | (go_simp; done) | (go_simp; rfl)); (case hz => rfl); intro g13 hg w2 hb0 hb; clear hg; have G13 := Aside0.mk hb0; have HB := Aside0.mk (below_step HB.out hb); have G3 := Aside0.mk (blk_below G3.out hb); have G11 := Aside0.mk (blk_below G11.out hb); clear hb; clear hb0)
      | (go_at_call 11; refine (X1.out _ (tab_below HT.out HB.out)).mono ?_; rintro e w2 ⟨rfl, hb⟩; have HB := Aside0.mk (below_step HB.out hb); have G3 := Aside0.mk (blk_below G3.out hb); have G11 := Aside0.mk (blk_below G11.out hb); have G13 := Aside0.mk (blk_below G13.out hb); clear hb)
      | (go_at_call 12; refine (X2.out _).mono ?_; rintro e w2 ⟨rfl, hb⟩; have HB := Aside0.mk (below_step HB.out hb); have G3 := Aside0.mk (blk_below G3.out hb); have G11 := Aside0.mk (blk_below G11.out hb); have G13 := Aside0.mk (blk_below G13.out hb); clear hb)
      | (go_at_call 13; refine (K1.out _).mono ?_; rintro e w2 ⟨rfl, hb⟩; have HB := Aside0.mk (below_step HB.out hb); have G3 := Aside0.mk (blk_below G3.out hb); have G11 := Aside0.mk (blk_below G11.out hb); have G13 := Aside0.mk (blk_below G13.out hb); clear hb)
      | (go_at_call 14; refine (K2.out _).mono ?_; rintro e w2 ⟨rfl, hb⟩; have HB := Aside0.mk (below_step HB.out hb); have G3 := Aside0.mk (blk_below G3.out hb); have G11 := Aside0.mk (blk_below G11.out hb); have G13 := Aside0.mk (blk_below G13.out hb); clear hb))
    obtain ⟨q0, q1, q2⟩ := date_cells G3.out
    have p := date_cells G11.out
    have u := date_cells G13.out
    have U := Aside0.mk (Below.refl w2.heap.size w2)
    simp only [List.append]
    go_region_held3 (fun W => (W.cell? ⟨g3, 0, none⟩ = some (.int .i64 y) ∧ W.cell? ⟨g3, 1, none⟩ = some (.int .i64 m)) ∧ (W.cell? ⟨g11, 0, none⟩ = some (.int .i64 z1) ∧ W.cell? ⟨g11, 1, none⟩ = some (.int .i64 z2) ∧ W.cell? ⟨g11, 2, none⟩ = some (.int .i64 z3)) ∧ (W.cell? ⟨g13, 0, none⟩ = some (.int .i64 z1) ∧ W.cell? ⟨g13, 1, none⟩ = some (.int .i64 z2) ∧ W.cell? ⟨g13, 2, none⟩ = some (.int .i64 z3))) (first | exact ⟨⟨q0, q1⟩, p, u⟩ | go_keep) (first
      | (go_at_call 6; refine (law03_awake _).mono ?_; rintro e yy ⟨rfl, hb⟩; have U := Aside0.mk (below_step (by first | exact pw_below_drewN U.out _ | exact Below.drew U.out | exact U.out) hb); obtain ⟨q0, q1, q2⟩ := date_cells (blk_below G3.out U.out); have p := date_cells (blk_below G11.out U.out); have u := date_cells (blk_below G13.out U.out); clear hb)
      | (go_at_call 15; refine (civil_Long.calls y _ _ rfl).mono ?_; rintro e yy ⟨rfl, ⟨nd, rfl⟩⟩)
      | (go_at_call 16; refine (quittanceref03_Long.calls y _ _ rfl).mono ?_; rintro e yy ⟨rfl, ⟨nd, rfl⟩⟩)
      | (go_at_call 17; refine (civil_Month.calls y m _ _ rfl).mono ?_; rintro e yy ⟨rfl, ⟨nd, rfl⟩⟩)
      | (go_at_call 18; refine (quittanceref03_Month.calls y m _ _ rfl).mono ?_; rintro e yy ⟨rfl, ⟨nd, rfl⟩⟩)
      | (go_at_call 19; refine (civil_Weekday.calls n _ _ rfl).mono ?_; rintro e yy ⟨rfl, ⟨nd, rfl⟩⟩)
      | (go_at_call 20; refine (quittanceref03_Weekday.calls n _ _ rfl).mono ?_; rintro e yy ⟨rfl, ⟨nd, rfl⟩⟩))
    go_wp2_with fail
    go_ret
    exact ⟨rfl, below_step HB.out (by first | exact pw_below_drewN U.out _ | exact Below.drew U.out | exact U.out)⟩
end Go.Proofs.YtaimfakcojdadaaDoor.H
