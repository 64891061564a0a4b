/- Contracts by hand: a product is looked at, all of it. -/
import Derived.Test.YtcbebbiedegjlaaPc
namespace Go.Proofs.Ytcbebbiedegjlaa.Pd
open Go.RowKit Go.Proofs.YtcbebbiedegjlaaW.PrintWords Go.Proofs.YtcbebbiedegjlaaW.PrintLast Go.Proofs.YtcbebbiedegjlaaW.PrintMore Go.Proofs.Ytcbebbiedegjlaa.HW
open Pm
set_option linter.unusedVariables false
set_option linter.unusedSimpArgs false
theorem times_of {p : Prod} (h : shapeOk p = true) : 1 ≤ p.times ∧ p.times ≤ 600 := by
  unfold shapeOk at h
  rw [Bool.and_eq_true] at h
  exact (of_decide_eq_true h.2).2.2.2.2.1
theorem put_cell {w W : World} {g : Nat} {x : Value} (R : Res1 w W g x) (v : Value) (t : TypeId) : ((W.alloc (.cells #[] t)).setCell ⟨g, 0, none⟩ v).cell? ⟨g, 0, none⟩ = some v :=
  World.cell?_setCell_same _ _ _ (by rw [((Below.refl W.heap.size W).alloc (Nat.le_refl _) (.cells #[] t)).cell (by exact R.lt)]; exact R.c0)
theorem put_below {w W : World} {g : Nat} {x : Value} (R : Res1 w W g x) (v : Value) (t : TypeId) : Below w.heap.size w ((W.alloc (.cells #[] t)).setCell ⟨g, 0, none⟩ v) :=
  (R.below.alloc R.below.size _).setCell (by exact R.ge) _
/-- The looks, one behind the other. -/
abbrev lookC (p : Prod) (A1 : Option Addr) (c1 : Nat) (A2 : Option Addr) (c2 : Nat) (A3 : Option Addr) (c3 : Nat) : Array Value :=
  #[.func (.func 32) #[.agg (pcs p A1 c1 A2 c2 A3 c3)] #[], .func (.func 33) #[.agg (pcs p A1 c1 A2 c2 A3 c3)] #[], .func (.func 34) #[.agg (pcs p A1 c1 A2 c2 A3 c3)] #[], .func (.func 35) #[.agg (pcs p A1 c1 A2 c2 A3 c3)] #[], .func (.func 36) #[.agg (pcs p A1 c1 A2 c2 A3 c3)] #[]]
set_option maxRecDepth 100000 in
set_option maxHeartbeats 2000000 in
theorem check_any (p : Prod) (A1 : Option Addr) (c1 : Nat) (A2 : Option Addr) (c2 : Nat) (A3 : Option Addr) (c3 : Nat) (w : World) (hg : GV w) (hp : ProdAt w p A1 c1 A2 c2 A3 c3) (hs : Small p) :
    Calls Try.prog 15 #[pv p A1 c1 A2 c2 A3 c3] w fun e w' => e = .returned (.int .i64 (err p)) ∧ Below w.heap.size w w' := by
  have HG := Aside0.mk hg
  have HP := Aside0.mk hp
  have HS := Aside0.mk hs
  clear hg hp hs
  go_enter_defers Try.func15, Try.ntmps15
  go_wp2_with (first
    | ((with_reducible refine gate_dst (N := 1) rfl ?_); refine box_event ?hg (N := 1) ?hd (cs := pcs p A1 c1 A2 c2 A3 c3) (t := 27) ?hr ?_; (case hd => rfl); (case hg => rfl); (case hr => first | (go_simp; done) | (go_simp; rfl)); intro g1 hg w1 hb1 hbl1; clear hg; have HB1 := Aside0.mk hb1; have BL1 := Aside0.mk hbl1; clear hb1 hbl1)
    | ((with_reducible refine gate_dst (N := 2) rfl ?_); refine box_event ?hg (N := 2) ?hd (cs := #[.int .i64 0]) (t := 36) ?hr ?_; (case hd => rfl); (case hg => rfl); (case hr => first | (go_simp; done) | (go_simp; rfl)); intro g2 hg w2 hb2 hbl2; have g2ge := (show w.heap.size ≤ g2 by rw [hg]; exact BL1.out.size); clear hg; have R2 := Aside0.mk (Res1.of (below_step BL1.out hbl2) g2ge hb2 rfl); have HB2 := blk_below HB1.out hbl2; clear HB1 BL1 hb2 hbl2)
    | ((with_reducible refine gate_dst (N := 7) rfl ?_); refine wpList_load_row rfl 27 (.tmp 1) rfl g1 rfl 27 _ (0, 0) _ HB2 Try.underlying27 rfl info_prod ?_; clear HB2)
    | ((with_reducible refine gate_dst (N := 8) rfl ?_); refine build_event rfl (t := 68) rfl (cs := pcs p A1 c1 A2 c2 A3 c3) ?hb ?_; (case hb => simp only [List.map_toArray, List.map_cons, List.map_nil]; exact built_looks p A1 c1 A2 c2 A3 c3))
    | ((with_reducible refine gate_dst (N := 3) rfl ?_); refine copy_event rfl (N := 3) rfl rfl rfl (t := 68) (v := .tmp 8) rfl (cs := pcs p A1 c1 A2 c2 A3 c3) (zs := pzs) ?hr rfl rfl info_looks ?hz (pcs_one _ _ _ _ _ _ _) ?_; (case hr => first | (go_simp; done) | (go_simp; rfl)); (case hz => rfl); intro g3 hg w3 HB3 hbl3; clear hg; have R3 := Aside0.mk (R2.out.step hbl3); clear hbl3 R2)
    | ((with_reducible refine gate_dst (N := 9) rfl ?_); refine wpList_load_row rfl 68 (.tmp 3) rfl g3 rfl 68 _ (0, 0) _ HB3 Try.underlying68 rfl info_looks ?_)
    | ((with_reducible refine gate_dst (N := 11) rfl ?_); refine wpList_load_row rfl 68 (.tmp 3) rfl g3 rfl 68 _ (0, 0) _ HB3 Try.underlying68 rfl info_looks ?_)
    | ((with_reducible refine gate_dst (N := 13) rfl ?_); refine wpList_load_row rfl 68 (.tmp 3) rfl g3 rfl 68 _ (0, 0) _ HB3 Try.underlying68 rfl info_looks ?_)
    | ((with_reducible refine gate_dst (N := 15) rfl ?_); refine wpList_load_row rfl 68 (.tmp 3) rfl g3 rfl 68 _ (0, 0) _ HB3 Try.underlying68 rfl info_looks ?_)
    | ((with_reducible refine gate_dst (N := 17) rfl ?_); refine wpList_load_row rfl 68 (.tmp 3) rfl g3 rfl 68 _ (0, 0) _ HB3 Try.underlying68 rfl info_looks ?_)
    | ((with_reducible refine gate_dst (N := 19) rfl ?_); refine Hid.out ?_))
  refine Lib.hid ?_
  clear HB3
  refine Kd.event_run rfl (v := .slice (some ⟨w3.heap.size, 0, none⟩) 5 5) (w1 := w3.alloc (.cells (lookC p A1 c1 A2 c2 A3 c3) 1 (0, 0))) ?hr ?_
  case hr => first | (go_simp; done) | (go_simp; rfl)
  go_frame
  obtain ⟨g4, w4, hg4, hw4⟩ : ∃ g4 w4, g4 = w3.heap.size ∧ w4 = w3.alloc (.cells (lookC p A1 c1 A2 c2 A3 c3) 1 (0, 0)) := ⟨_, _, rfl, rfl⟩
  rw [← hg4, ← hw4]
  have hb4 : w4.heap[g4]? = some (.cells (lookC p A1 c1 A2 c2 A3 c3) 1 (0, 0)) := by rw [hg4, hw4]; exact heap_alloc_new _ _
  have hbl4 : Below w3.heap.size w3 w4 := by rw [hw4]; exact (Below.refl _ _).alloc (Nat.le_refl _) _
  have R := Aside0.mk (R3.out.step hbl4)
  have HB := Aside0.mk hb4
  have q0 : w4.cell? ⟨g4, 0, none⟩ = some (.func (.func 32) #[.agg (pcs p A1 c1 A2 c2 A3 c3)] #[]) := (blk_cell hb4 0).trans rfl
  clear hg4 hw4 hb4 hbl4 R3
  go_wp2_with fail
  refine wp_loop_rounds 6 ?_
  rw [rounds_succ]
  go_wp2_with fail
  refine (shape_any p A1 c1 A2 c2 A3 c3 _ (HG.out.below R.out.below)).mono ?_
  rintro e v0 ⟨hy, hn, hb⟩
  have RN := Aside0.mk (R.out.step hb)
  have HBN := Aside0.mk (blk_below HB.out hb)
  clear R HB
  have R := RN
  have HB := HBN
  clear RN HBN hb q0
  cases hk0 : shapeOk p with
  | false =>
    obtain rfl := hn hk0
    clear hy hn
    have c0 := R.out.c0
    have f0 := R.out.f0
    have e9 : err p = 9 := by unfold err ok; rw [hk0]; simp
    have E9 := Aside0.mk e9
    clear e9
    refine leaves_cons (f := 31) (args := #[.pointer (some ⟨g2, 0, none⟩)]) (by simp) (by simp [go_sem]) ?_
    refine (check_thrown ⟨g2, 0, none⟩ 0 [] _ c0 f0).mono ?_
    rintro e u' w'' ⟨rfl, rfl, rfl⟩
    have c9 := put_cell R.out (.int .i64 9) 66
    simp [Leaves, settle, results, Try.results15, go_sem, c9, E9.out]
    exact put_below R.out _ _
  | true =>
    obtain rfl := hy hk0
    clear hy hn
    have q1 : v0.cell? ⟨g4, 1, none⟩ = some (.func (.func 33) #[.agg (pcs p A1 c1 A2 c2 A3 c3)] #[]) := (blk_cell HB.out 1).trans rfl
    obtain ⟨t1, t2⟩ := times_of hk0
    go_wp2_with fail
    rw [rounds_succ]
    go_wp2_with fail
    refine (rates_any p A1 c1 A2 c2 A3 c3 _ t1 t2 (HP.out.below R.out.below).r1 HS.out.s1).mono ?_
    rintro e v1 ⟨hy, hn, hb⟩
    have RN := Aside0.mk (R.out.step hb)
    have HBN := Aside0.mk (blk_below HB.out hb)
    clear R HB
    have R := RN
    have HB := HBN
    clear RN HBN hb q1
    cases hk1 : ratesOk p with
    | false =>
      obtain rfl := hn hk1
      clear hy hn
      have c0 := R.out.c0
      have f0 := R.out.f0
      have e9 : err p = 9 := by unfold err ok; rw [hk1]; simp
      have E9 := Aside0.mk e9
      clear e9
      refine leaves_cons (f := 31) (args := #[.pointer (some ⟨g2, 0, none⟩)]) (by simp) (by simp [go_sem]) ?_
      refine (check_thrown ⟨g2, 0, none⟩ 0 [] _ c0 f0).mono ?_
      rintro e u' w'' ⟨rfl, rfl, rfl⟩
      have c9 := put_cell R.out (.int .i64 9) 66
      simp [Leaves, settle, results, Try.results15, go_sem, c9, E9.out]
      exact put_below R.out _ _
    | true =>
      obtain rfl := hy hk1
      clear hy hn
      have q2 : v1.cell? ⟨g4, 2, none⟩ = some (.func (.func 34) #[.agg (pcs p A1 c1 A2 c2 A3 c3)] #[]) := (blk_cell HB.out 2).trans rfl
      go_wp2_with fail
      rw [rounds_succ]
      go_wp2_with fail
      refine (order_any p A1 c1 A2 c2 A3 c3 _).mono ?_
      rintro e v2 ⟨hy, hn, hb⟩
      have RN := Aside0.mk (R.out.step hb)
      have HBN := Aside0.mk (blk_below HB.out hb)
      clear R HB
      have R := RN
      have HB := HBN
      clear RN HBN hb q2
      cases hk2 : ordOk p with
      | false =>
        obtain rfl := hn hk2
        clear hy hn
        have c0 := R.out.c0
        have f0 := R.out.f0
        have e9 : err p = 9 := by unfold err ok; rw [hk2]; simp
        have E9 := Aside0.mk e9
        clear e9
        refine leaves_cons (f := 31) (args := #[.pointer (some ⟨g2, 0, none⟩)]) (by simp) (by simp [go_sem]) ?_
        refine (check_thrown ⟨g2, 0, none⟩ 0 [] _ c0 f0).mono ?_
        rintro e u' w'' ⟨rfl, rfl, rfl⟩
        have c9 := put_cell R.out (.int .i64 9) 66
        simp [Leaves, settle, results, Try.results15, go_sem, c9, E9.out]
        exact put_below R.out _ _
      | true =>
        obtain rfl := hy hk2
        clear hy hn
        have q3 : v2.cell? ⟨g4, 3, none⟩ = some (.func (.func 35) #[.agg (pcs p A1 c1 A2 c2 A3 c3)] #[]) := (blk_cell HB.out 3).trans rfl
        go_wp2_with fail
        rw [rounds_succ]
        go_wp2_with fail
        refine (late_any p A1 c1 A2 c2 A3 c3 _ (HP.out.below R.out.below).r2 HS.out.s2).mono ?_
        rintro e v3 ⟨hy, hn, hb⟩
        have RN := Aside0.mk (R.out.step hb)
        have HBN := Aside0.mk (blk_below HB.out hb)
        clear R HB
        have R := RN
        have HB := HBN
        clear RN HBN hb q3
        cases hk3 : lateOk p with
        | false =>
          obtain rfl := hn hk3
          clear hy hn
          have c0 := R.out.c0
          have f0 := R.out.f0
          have e9 : err p = 9 := by unfold err ok; rw [hk3]; simp
          have E9 := Aside0.mk e9
          clear e9
          refine leaves_cons (f := 31) (args := #[.pointer (some ⟨g2, 0, none⟩)]) (by simp) (by simp [go_sem]) ?_
          refine (check_thrown ⟨g2, 0, none⟩ 0 [] _ c0 f0).mono ?_
          rintro e u' w'' ⟨rfl, rfl, rfl⟩
          have c9 := put_cell R.out (.int .i64 9) 66
          simp [Leaves, settle, results, Try.results15, go_sem, c9, E9.out]
          exact put_below R.out _ _
        | true =>
          obtain rfl := hy hk3
          clear hy hn
          have q4 : v3.cell? ⟨g4, 4, none⟩ = some (.func (.func 36) #[.agg (pcs p A1 c1 A2 c2 A3 c3)] #[]) := (blk_cell HB.out 4).trans rfl
          go_wp2_with fail
          rw [rounds_succ]
          go_wp2_with fail
          refine (days_any p A1 c1 A2 c2 A3 c3 _ (HP.out.below R.out.below).r3 (HP.out.below R.out.below).l3 (HP.out.below R.out.below).n3 HS.out.s3).mono ?_
          rintro e v4 ⟨hy, hn, hb⟩
          have RN := Aside0.mk (R.out.step hb)
          have HBN := Aside0.mk (blk_below HB.out hb)
          clear R HB
          have R := RN
          have HB := HBN
          clear RN HBN hb q4
          cases hk4 : daysOk p with
          | false =>
            obtain rfl := hn hk4
            clear hy hn
            have c0 := R.out.c0
            have f0 := R.out.f0
            have e9 : err p = 9 := by unfold err ok; rw [hk4]; simp
            have E9 := Aside0.mk e9
            clear e9
            refine leaves_cons (f := 31) (args := #[.pointer (some ⟨g2, 0, none⟩)]) (by simp) (by simp [go_sem]) ?_
            refine (check_thrown ⟨g2, 0, none⟩ 0 [] _ c0 f0).mono ?_
            rintro e u' w'' ⟨rfl, rfl, rfl⟩
            have c9 := put_cell R.out (.int .i64 9) 66
            simp [Leaves, settle, results, Try.results15, go_sem, c9, E9.out]
            exact put_below R.out _ _
          | true =>
            obtain rfl := hy hk4
            clear hy hn
            go_wp2_with fail
            rw [rounds_succ]
            have c0 := R.out.c0
            have f0 := R.out.f0
            have e0 : err p = 0 := by unfold err ok; rw [hk0, hk1, hk2, hk3, hk4]; rfl
            have E0 := Aside0.mk e0
            clear e0
            go_wp2_with fail
            refine leaves_cons (f := 31) (args := #[.pointer (some ⟨g2, 0, none⟩)]) (by simp) (by simp [go_sem]) ?_
            refine (check_idle ⟨g2, 0, none⟩ _).mono ?_
            rintro e u' w'' ⟨rfl, rfl, rfl⟩
            have c9 := World.cell?_setCell_same v4 ⟨g2, 0, none⟩ (.int .i64 0) c0
            simp [Leaves, settle, results, Try.results15, go_sem, c9, E0.out]
            exact R.out.below.setCell (by exact R.out.ge) _
end Go.Proofs.Ytcbebbiedegjlaa.Pd
