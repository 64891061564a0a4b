/- Contracts by hand: a product's shape is looked at. -/
import Derived.Test.YtcbebbiedegjlaaPg
namespace Go.Proofs.Ytcbebbiedegjlaa.Pd
open Go.RowKit Go.Proofs.YtcbebbiedegjlaaW.PrintWords Go.Proofs.YtcbebbiedegjlaaW.PrintLast Go.Proofs.YtcbebbiedegjlaaW.PrintMore Go.Proofs.Ytcbebbiedegjlaa.HW
open Pm
set_option linter.unusedVariables false
set_option linter.unusedSimpArgs false

set_option maxRecDepth 100000 in
set_option maxHeartbeats 1000000 in
theorem shape_0 (p : Prod) (A1 : Option Addr) (c1 : Nat) (A2 : Option Addr) (c2 : Nat) (A3 : Option Addr) (c3 : Nat) (w : World) (hg : GV w) (hn : nameOk p.name.data.toList = false) :
    Calls Try.prog 32 #[pv p A1 c1 A2 c2 A3 c3] w fun e w' => e = refusedE ∧ Below w.heap.size w w' := by
  have HG := Aside0.mk hg
  have HN := Aside0.mk hn
  clear hg hn
  go_enter Try.func32, Try.ntmps32
  go_wp2_with (first
    | ((with_reducible refine gate_dst (N := 1) rfl ?_); refine box_event ?hg (N := 1) ?hd (cs := pcs p A1 c1 A2 c2 A3 c3) (t := 68) ?hr ?_; (case hd => rfl); (case hg => rfl); (case hr => first | (go_simp; done) | (go_simp; rfl)); intro g1 hg w1 hb1 hbl1; clear hg)
    | ((with_reducible refine gate_dst (N := 4) rfl ?_); refine wpList_load_row rfl 27 (.tmp 3) rfl g1 rfl 68 _ (0, 0) _ hb1 Try.underlying27 rfl info_prod ?_)
    | ((with_reducible refine gate_dst (N := 2) rfl ?_); refine copy_event rfl (N := 2) rfl rfl rfl (t := 27) (v := .tmp 4) rfl (cs := pcs p A1 c1 A2 c2 A3 c3) (zs := pzs) ?hr rfl rfl info_prod ?hz (pcs_one _ _ _ _ _ _ _) ?_; (case hr => first | (go_simp; done) | (go_simp; rfl)); (case hz => rfl); intro g2 hg w2 hb2 hbl2; clear hg; have HB2 := Aside0.mk hb2; have BL2 := Aside0.mk (below_step hbl1 hbl2); clear hb1 hbl1 hbl2; have q0 := (pc_cells hb2).1; clear hb2))
  refine (name_any p.name _ (HG.out.below BL2.out)).mono ?_
  rw [HN.out]
  rintro e w3 ⟨rfl, hb⟩
  have BL := Aside0.mk (below_step BL2.out hb)
  obtain ⟨_, q1, q2, q3, q4, q5, q6, _⟩ := pc_cells (blk_below HB2.out hb)
  clear hb HB2 BL2 q0 HG
  go_wp2_with fail
  refine (must_no _).mono ?_
  rintro e w' ⟨rfl, rfl⟩
  exact ⟨rfl, rfl, BL.out⟩

set_option maxRecDepth 100000 in
set_option maxHeartbeats 1000000 in
theorem shape_1 (p : Prod) (A1 : Option Addr) (c1 : Nat) (A2 : Option Addr) (c2 : Nat) (A3 : Option Addr) (c3 : Nat) (w : World) (hg : GV w) (hn : nameOk p.name.data.toList = true) (ha : decide (1 ≤ p.count ∧ p.count ≤ 3) = false) :
    Calls Try.prog 32 #[pv p A1 c1 A2 c2 A3 c3] w fun e w' => e = refusedE ∧ Below w.heap.size w w' := by
  have HG := Aside0.mk hg
  have HN := Aside0.mk hn
  have HA := Aside0.mk ha
  clear hg hn ha
  go_enter Try.func32, Try.ntmps32
  go_wp2_with (first
    | ((with_reducible refine gate_dst (N := 1) rfl ?_); refine box_event ?hg (N := 1) ?hd (cs := pcs p A1 c1 A2 c2 A3 c3) (t := 68) ?hr ?_; (case hd => rfl); (case hg => rfl); (case hr => first | (go_simp; done) | (go_simp; rfl)); intro g1 hg w1 hb1 hbl1; clear hg)
    | ((with_reducible refine gate_dst (N := 4) rfl ?_); refine wpList_load_row rfl 27 (.tmp 3) rfl g1 rfl 68 _ (0, 0) _ hb1 Try.underlying27 rfl info_prod ?_)
    | ((with_reducible refine gate_dst (N := 2) rfl ?_); refine copy_event rfl (N := 2) rfl rfl rfl (t := 27) (v := .tmp 4) rfl (cs := pcs p A1 c1 A2 c2 A3 c3) (zs := pzs) ?hr rfl rfl info_prod ?hz (pcs_one _ _ _ _ _ _ _) ?_; (case hr => first | (go_simp; done) | (go_simp; rfl)); (case hz => rfl); intro g2 hg w2 hb2 hbl2; clear hg; have HB2 := Aside0.mk hb2; have BL2 := Aside0.mk (below_step hbl1 hbl2); clear hb1 hbl1 hbl2; have q0 := (pc_cells hb2).1; clear hb2))
  refine (name_any p.name _ (HG.out.below BL2.out)).mono ?_
  rw [HN.out]
  rintro e w3 ⟨rfl, hb⟩
  have BL := Aside0.mk (below_step BL2.out hb)
  obtain ⟨_, q1, q2, q3, q4, q5, q6, _⟩ := pc_cells (blk_below HB2.out hb)
  clear hb HB2 BL2 q0 HG
  go_wp2_with fail
  refine (within_i_is HA.out _).mono ?_
  rintro e w' ⟨rfl, rfl⟩
  go_wp2_with fail
  refine (must_no _).mono ?_
  rintro e w' ⟨rfl, rfl⟩
  exact ⟨rfl, rfl, BL.out⟩

set_option maxRecDepth 100000 in
set_option maxHeartbeats 1000000 in
theorem shape_2 (p : Prod) (A1 : Option Addr) (c1 : Nat) (A2 : Option Addr) (c2 : Nat) (A3 : Option Addr) (c3 : Nat) (w : World) (hg : GV w) (hn : nameOk p.name.data.toList = true) (ha : decide (1 ≤ p.count ∧ p.count ≤ 3) = true) (r1 : (p.round == 1) = false) (r3 : (p.round == 3) = false) :
    Calls Try.prog 32 #[pv p A1 c1 A2 c2 A3 c3] w fun e w' => e = refusedE ∧ Below w.heap.size w w' := by
  have HG := Aside0.mk hg
  have HN := Aside0.mk hn
  have HA := Aside0.mk ha
  clear hg hn ha
  go_enter Try.func32, Try.ntmps32
  go_wp2_with (first
    | ((with_reducible refine gate_dst (N := 1) rfl ?_); refine box_event ?hg (N := 1) ?hd (cs := pcs p A1 c1 A2 c2 A3 c3) (t := 68) ?hr ?_; (case hd => rfl); (case hg => rfl); (case hr => first | (go_simp; done) | (go_simp; rfl)); intro g1 hg w1 hb1 hbl1; clear hg)
    | ((with_reducible refine gate_dst (N := 4) rfl ?_); refine wpList_load_row rfl 27 (.tmp 3) rfl g1 rfl 68 _ (0, 0) _ hb1 Try.underlying27 rfl info_prod ?_)
    | ((with_reducible refine gate_dst (N := 2) rfl ?_); refine copy_event rfl (N := 2) rfl rfl rfl (t := 27) (v := .tmp 4) rfl (cs := pcs p A1 c1 A2 c2 A3 c3) (zs := pzs) ?hr rfl rfl info_prod ?hz (pcs_one _ _ _ _ _ _ _) ?_; (case hr => first | (go_simp; done) | (go_simp; rfl)); (case hz => rfl); intro g2 hg w2 hb2 hbl2; clear hg; have HB2 := Aside0.mk hb2; have BL2 := Aside0.mk (below_step hbl1 hbl2); clear hb1 hbl1 hbl2; have q0 := (pc_cells hb2).1; clear hb2))
  refine (name_any p.name _ (HG.out.below BL2.out)).mono ?_
  rw [HN.out]
  rintro e w3 ⟨rfl, hb⟩
  have BL := Aside0.mk (below_step BL2.out hb)
  obtain ⟨_, q1, q2, q3, q4, q5, q6, _⟩ := pc_cells (blk_below HB2.out hb)
  clear hb HB2 BL2 q0 HG
  go_wp2_with fail
  refine (within_i_is HA.out _).mono ?_
  rintro e w' ⟨rfl, rfl⟩
  go_wp2_with fail
  refine (must_no _).mono ?_
  rintro e w' ⟨rfl, rfl⟩
  exact ⟨rfl, rfl, BL.out⟩

set_option maxRecDepth 100000 in
set_option maxHeartbeats 1000000 in
theorem shape_3 (p : Prod) (A1 : Option Addr) (c1 : Nat) (A2 : Option Addr) (c2 : Nat) (A3 : Option Addr) (c3 : Nat) (w : World) (hg : GV w) (hn : nameOk p.name.data.toList = true) (ha : decide (1 ≤ p.count ∧ p.count ≤ 3) = true) (hr : ((p.round == 1) = true) ∨ ((p.round == 1) = false ∧ (p.round == 3) = true)) (hb : decide (1 ≤ p.kind ∧ p.kind ≤ 3) = false) :
    Calls Try.prog 32 #[pv p A1 c1 A2 c2 A3 c3] w fun e w' => e = refusedE ∧ Below w.heap.size w w' := by
  have HG := Aside0.mk hg
  have HN := Aside0.mk hn
  have HA := Aside0.mk ha
  have HB := Aside0.mk hb
  clear hg hn ha hb
  go_enter Try.func32, Try.ntmps32
  go_wp2_with (first
    | ((with_reducible refine gate_dst (N := 1) rfl ?_); refine box_event ?hg (N := 1) ?hd (cs := pcs p A1 c1 A2 c2 A3 c3) (t := 68) ?hr ?_; (case hd => rfl); (case hg => rfl); (case hr => first | (go_simp; done) | (go_simp; rfl)); intro g1 hg w1 hb1 hbl1; clear hg)
    | ((with_reducible refine gate_dst (N := 4) rfl ?_); refine wpList_load_row rfl 27 (.tmp 3) rfl g1 rfl 68 _ (0, 0) _ hb1 Try.underlying27 rfl info_prod ?_)
    | ((with_reducible refine gate_dst (N := 2) rfl ?_); refine copy_event rfl (N := 2) rfl rfl rfl (t := 27) (v := .tmp 4) rfl (cs := pcs p A1 c1 A2 c2 A3 c3) (zs := pzs) ?hr rfl rfl info_prod ?hz (pcs_one _ _ _ _ _ _ _) ?_; (case hr => first | (go_simp; done) | (go_simp; rfl)); (case hz => rfl); intro g2 hg w2 hb2 hbl2; clear hg; have HB2 := Aside0.mk hb2; have BL2 := Aside0.mk (below_step hbl1 hbl2); clear hb1 hbl1 hbl2; have q0 := (pc_cells hb2).1; clear hb2))
  refine (name_any p.name _ (HG.out.below BL2.out)).mono ?_
  rw [HN.out]
  rintro e w3 ⟨rfl, hb⟩
  have BL := Aside0.mk (below_step BL2.out hb)
  obtain ⟨_, q1, q2, q3, q4, q5, q6, _⟩ := pc_cells (blk_below HB2.out hb)
  clear hb HB2 BL2 q0 HG
  go_wp2_with fail
  refine (within_i_is HA.out _).mono ?_
  rintro e w' ⟨rfl, rfl⟩
  rcases hr with r1 | ⟨r1, r3⟩
  all_goals
    go_wp2_with fail
    refine (within_i_is HB.out _).mono ?_
    rintro e w' ⟨rfl, rfl⟩
    go_wp2_with fail
    refine (must_no _).mono ?_
    rintro e w' ⟨rfl, rfl⟩
    exact ⟨rfl, rfl, BL.out⟩

set_option maxRecDepth 100000 in
set_option maxHeartbeats 1000000 in
theorem shape_4 (p : Prod) (A1 : Option Addr) (c1 : Nat) (A2 : Option Addr) (c2 : Nat) (A3 : Option Addr) (c3 : Nat) (w : World) (hg : GV w) (hn : nameOk p.name.data.toList = true) (ha : decide (1 ≤ p.count ∧ p.count ≤ 3) = true) (hr : ((p.round == 1) = true) ∨ ((p.round == 1) = false ∧ (p.round == 3) = true)) (hb : decide (1 ≤ p.kind ∧ p.kind ≤ 3) = true) (e1 : (p.every == 1) = false) (e2 : (p.every == 2) = false) (e3 : (p.every == 3) = false) (e4 : (p.every == 4) = false) (e6 : (p.every == 6) = false) (e12 : (p.every == 12) = false) :
    Calls Try.prog 32 #[pv p A1 c1 A2 c2 A3 c3] w fun e w' => e = refusedE ∧ Below w.heap.size w w' := by
  have HG := Aside0.mk hg
  have HN := Aside0.mk hn
  have HA := Aside0.mk ha
  have HB := Aside0.mk hb
  clear hg hn ha hb
  go_enter Try.func32, Try.ntmps32
  go_wp2_with (first
    | ((with_reducible refine gate_dst (N := 1) rfl ?_); refine box_event ?hg (N := 1) ?hd (cs := pcs p A1 c1 A2 c2 A3 c3) (t := 68) ?hr ?_; (case hd => rfl); (case hg => rfl); (case hr => first | (go_simp; done) | (go_simp; rfl)); intro g1 hg w1 hb1 hbl1; clear hg)
    | ((with_reducible refine gate_dst (N := 4) rfl ?_); refine wpList_load_row rfl 27 (.tmp 3) rfl g1 rfl 68 _ (0, 0) _ hb1 Try.underlying27 rfl info_prod ?_)
    | ((with_reducible refine gate_dst (N := 2) rfl ?_); refine copy_event rfl (N := 2) rfl rfl rfl (t := 27) (v := .tmp 4) rfl (cs := pcs p A1 c1 A2 c2 A3 c3) (zs := pzs) ?hr rfl rfl info_prod ?hz (pcs_one _ _ _ _ _ _ _) ?_; (case hr => first | (go_simp; done) | (go_simp; rfl)); (case hz => rfl); intro g2 hg w2 hb2 hbl2; clear hg; have HB2 := Aside0.mk hb2; have BL2 := Aside0.mk (below_step hbl1 hbl2); clear hb1 hbl1 hbl2; have q0 := (pc_cells hb2).1; clear hb2))
  refine (name_any p.name _ (HG.out.below BL2.out)).mono ?_
  rw [HN.out]
  rintro e w3 ⟨rfl, hb⟩
  have BL := Aside0.mk (below_step BL2.out hb)
  obtain ⟨_, q1, q2, q3, q4, q5, q6, _⟩ := pc_cells (blk_below HB2.out hb)
  clear hb HB2 BL2 q0 HG
  go_wp2_with fail
  refine (within_i_is HA.out _).mono ?_
  rintro e w' ⟨rfl, rfl⟩
  rcases hr with r1 | ⟨r1, r3⟩
  all_goals
    go_wp2_with fail
    refine (within_i_is HB.out _).mono ?_
    rintro e w' ⟨rfl, rfl⟩
    go_wp2_with fail
    refine (must_yes _).mono ?_
    rintro e w' ⟨rfl, rfl⟩
    go_wp2_with fail
    refine (must_no _).mono ?_
    rintro e w' ⟨rfl, rfl⟩
    exact ⟨rfl, rfl, BL.out⟩

/-- Every so many months. -/
def Ev (x : Int) : Prop := (x == 1) = true ∨ ((x == 1) = false ∧ (x == 2) = true) ∨ ((x == 1) = false ∧ (x == 2) = false ∧ (x == 3) = true) ∨ ((x == 1) = false ∧ (x == 2) = false ∧ (x == 3) = false ∧ (x == 4) = true) ∨ ((x == 1) = false ∧ (x == 2) = false ∧ (x == 3) = false ∧ (x == 4) = false ∧ (x == 6) = true) ∨ ((x == 1) = false ∧ (x == 2) = false ∧ (x == 3) = false ∧ (x == 4) = false ∧ (x == 6) = false ∧ (x == 12) = true)
theorem ev_of {x : Int} (h : x = 1 ∨ x = 2 ∨ x = 3 ∨ x = 4 ∨ x = 6 ∨ x = 12) : Ev x := by
  unfold Ev
  rcases h with rfl | rfl | rfl | rfl | rfl | rfl <;> decide

set_option maxRecDepth 100000 in
set_option maxHeartbeats 1000000 in
theorem shape_5 (p : Prod) (A1 : Option Addr) (c1 : Nat) (A2 : Option Addr) (c2 : Nat) (A3 : Option Addr) (c3 : Nat) (w : World) (hg : GV w) (hn : nameOk p.name.data.toList = true) (ha : decide (1 ≤ p.count ∧ p.count ≤ 3) = true) (hr : ((p.round == 1) = true) ∨ ((p.round == 1) = false ∧ (p.round == 3) = true)) (hb : decide (1 ≤ p.kind ∧ p.kind ≤ 3) = true) (he : Ev p.every) (hc : decide (1 ≤ p.times ∧ p.times ≤ 600) = false) :
    Calls Try.prog 32 #[pv p A1 c1 A2 c2 A3 c3] w fun e w' => e = refusedE ∧ Below w.heap.size w w' := by
  have HG := Aside0.mk hg
  have HN := Aside0.mk hn
  have HA := Aside0.mk ha
  have HB := Aside0.mk hb
  have HC := Aside0.mk hc
  clear hg hn ha hb hc
  go_enter Try.func32, Try.ntmps32
  go_wp2_with (first
    | ((with_reducible refine gate_dst (N := 1) rfl ?_); refine box_event ?hg (N := 1) ?hd (cs := pcs p A1 c1 A2 c2 A3 c3) (t := 68) ?hr ?_; (case hd => rfl); (case hg => rfl); (case hr => first | (go_simp; done) | (go_simp; rfl)); intro g1 hg w1 hb1 hbl1; clear hg)
    | ((with_reducible refine gate_dst (N := 4) rfl ?_); refine wpList_load_row rfl 27 (.tmp 3) rfl g1 rfl 68 _ (0, 0) _ hb1 Try.underlying27 rfl info_prod ?_)
    | ((with_reducible refine gate_dst (N := 2) rfl ?_); refine copy_event rfl (N := 2) rfl rfl rfl (t := 27) (v := .tmp 4) rfl (cs := pcs p A1 c1 A2 c2 A3 c3) (zs := pzs) ?hr rfl rfl info_prod ?hz (pcs_one _ _ _ _ _ _ _) ?_; (case hr => first | (go_simp; done) | (go_simp; rfl)); (case hz => rfl); intro g2 hg w2 hb2 hbl2; clear hg; have HB2 := Aside0.mk hb2; have BL2 := Aside0.mk (below_step hbl1 hbl2); clear hb1 hbl1 hbl2; have q0 := (pc_cells hb2).1; clear hb2))
  refine (name_any p.name _ (HG.out.below BL2.out)).mono ?_
  rw [HN.out]
  rintro e w3 ⟨rfl, hb⟩
  have BL := Aside0.mk (below_step BL2.out hb)
  obtain ⟨_, q1, q2, q3, q4, q5, q6, _⟩ := pc_cells (blk_below HB2.out hb)
  clear hb HB2 BL2 q0 HG
  go_wp2_with fail
  refine (within_i_is HA.out _).mono ?_
  rintro e w' ⟨rfl, rfl⟩
  rcases hr with r1 | ⟨r1, r3⟩
  all_goals
    go_wp2_with fail
    refine (within_i_is HB.out _).mono ?_
    rintro e w' ⟨rfl, rfl⟩
    go_wp2_with fail
    refine (must_yes _).mono ?_
    rintro e w' ⟨rfl, rfl⟩
    rcases he with e1 | ⟨e1, e2⟩ | ⟨e1, e2, e3⟩ | ⟨e1, e2, e3, e4⟩ | ⟨e1, e2, e3, e4, e6⟩ | ⟨e1, e2, e3, e4, e6, e12⟩
    all_goals
      go_wp2_with fail
      refine (must_yes _).mono ?_
      rintro e w' ⟨rfl, rfl⟩
      go_wp2_with fail
      refine (within_i_is HC.out _).mono ?_
      rintro e w' ⟨rfl, rfl⟩
      go_wp2_with fail
      refine (must_no _).mono ?_
      rintro e w' ⟨rfl, rfl⟩
      exact ⟨rfl, rfl, BL.out⟩

set_option maxRecDepth 100000 in
set_option maxHeartbeats 1000000 in
theorem shape_6 (p : Prod) (A1 : Option Addr) (c1 : Nat) (A2 : Option Addr) (c2 : Nat) (A3 : Option Addr) (c3 : Nat) (w : World) (hg : GV w) (hn : nameOk p.name.data.toList = true) (ha : decide (1 ≤ p.count ∧ p.count ≤ 3) = true) (hr : ((p.round == 1) = true) ∨ ((p.round == 1) = false ∧ (p.round == 3) = true)) (hb : decide (1 ≤ p.kind ∧ p.kind ≤ 3) = true) (he : Ev p.every) (hc : decide (1 ≤ p.times ∧ p.times ≤ 600) = true) (t1 : 1 ≤ p.times) (t2 : p.times ≤ 600) (hd : decide (0 ≤ p.grace ∧ p.grace ≤ p.times - 1) = false) :
    Calls Try.prog 32 #[pv p A1 c1 A2 c2 A3 c3] w fun e w' => e = refusedE ∧ Below w.heap.size w w' := by
  have HG := Aside0.mk hg
  have HN := Aside0.mk hn
  have HA := Aside0.mk ha
  have HB := Aside0.mk hb
  have HC := Aside0.mk hc
  have HD := Aside0.mk hd
  clear hg hn ha hb hc hd
  go_enter Try.func32, Try.ntmps32
  go_wp2_with (first
    | ((with_reducible refine gate_dst (N := 1) rfl ?_); refine box_event ?hg (N := 1) ?hd (cs := pcs p A1 c1 A2 c2 A3 c3) (t := 68) ?hr ?_; (case hd => rfl); (case hg => rfl); (case hr => first | (go_simp; done) | (go_simp; rfl)); intro g1 hg w1 hb1 hbl1; clear hg)
    | ((with_reducible refine gate_dst (N := 4) rfl ?_); refine wpList_load_row rfl 27 (.tmp 3) rfl g1 rfl 68 _ (0, 0) _ hb1 Try.underlying27 rfl info_prod ?_)
    | ((with_reducible refine gate_dst (N := 2) rfl ?_); refine copy_event rfl (N := 2) rfl rfl rfl (t := 27) (v := .tmp 4) rfl (cs := pcs p A1 c1 A2 c2 A3 c3) (zs := pzs) ?hr rfl rfl info_prod ?hz (pcs_one _ _ _ _ _ _ _) ?_; (case hr => first | (go_simp; done) | (go_simp; rfl)); (case hz => rfl); intro g2 hg w2 hb2 hbl2; clear hg; have HB2 := Aside0.mk hb2; have BL2 := Aside0.mk (below_step hbl1 hbl2); clear hb1 hbl1 hbl2; have q0 := (pc_cells hb2).1; clear hb2))
  refine (name_any p.name _ (HG.out.below BL2.out)).mono ?_
  rw [HN.out]
  rintro e w3 ⟨rfl, hb⟩
  have BL := Aside0.mk (below_step BL2.out hb)
  obtain ⟨_, q1, q2, q3, q4, q5, q6, _⟩ := pc_cells (blk_below HB2.out hb)
  clear hb HB2 BL2 q0 HG
  go_wp2_with fail
  refine (within_i_is HA.out _).mono ?_
  rintro e w' ⟨rfl, rfl⟩
  rcases hr with r1 | ⟨r1, r3⟩
  all_goals
    go_wp2_with fail
    refine (within_i_is HB.out _).mono ?_
    rintro e w' ⟨rfl, rfl⟩
    go_wp2_with fail
    refine (must_yes _).mono ?_
    rintro e w' ⟨rfl, rfl⟩
    rcases he with e1 | ⟨e1, e2⟩ | ⟨e1, e2, e3⟩ | ⟨e1, e2, e3, e4⟩ | ⟨e1, e2, e3, e4, e6⟩ | ⟨e1, e2, e3, e4, e6, e12⟩
    all_goals
      go_wp2_with fail
      refine (must_yes _).mono ?_
      rintro e w' ⟨rfl, rfl⟩
      go_wp2_with fail
      refine (within_i_is HC.out _).mono ?_
      rintro e w' ⟨rfl, rfl⟩
      go_wp2_with fail
      refine (within_i_is HD.out _).mono ?_
      rintro e w' ⟨rfl, rfl⟩
      go_wp2_with fail
      refine (must_no _).mono ?_
      rintro e w' ⟨rfl, rfl⟩
      exact ⟨rfl, rfl, BL.out⟩

set_option maxRecDepth 100000 in
set_option maxHeartbeats 1000000 in
theorem shape_7 (p : Prod) (A1 : Option Addr) (c1 : Nat) (A2 : Option Addr) (c2 : Nat) (A3 : Option Addr) (c3 : Nat) (w : World) (hg : GV w) (hn : nameOk p.name.data.toList = true) (ha : decide (1 ≤ p.count ∧ p.count ≤ 3) = true) (hr : ((p.round == 1) = true) ∨ ((p.round == 1) = false ∧ (p.round == 3) = true)) (hb : decide (1 ≤ p.kind ∧ p.kind ≤ 3) = true) (he : Ev p.every) (hc : decide (1 ≤ p.times ∧ p.times ≤ 600) = true) (t1 : 1 ≤ p.times) (t2 : p.times ≤ 600) (hd : decide (0 ≤ p.grace ∧ p.grace ≤ p.times - 1) = true) (k1 : (p.kind != 3) = false) (g0 : (p.grace == 0) = false) :
    Calls Try.prog 32 #[pv p A1 c1 A2 c2 A3 c3] w fun e w' => e = refusedE ∧ Below w.heap.size w w' := by
  have HG := Aside0.mk hg
  have HN := Aside0.mk hn
  have HA := Aside0.mk ha
  have HB := Aside0.mk hb
  have HC := Aside0.mk hc
  have HD := Aside0.mk hd
  clear hg hn ha hb hc hd
  go_enter Try.func32, Try.ntmps32
  go_wp2_with (first
    | ((with_reducible refine gate_dst (N := 1) rfl ?_); refine box_event ?hg (N := 1) ?hd (cs := pcs p A1 c1 A2 c2 A3 c3) (t := 68) ?hr ?_; (case hd => rfl); (case hg => rfl); (case hr => first | (go_simp; done) | (go_simp; rfl)); intro g1 hg w1 hb1 hbl1; clear hg)
    | ((with_reducible refine gate_dst (N := 4) rfl ?_); refine wpList_load_row rfl 27 (.tmp 3) rfl g1 rfl 68 _ (0, 0) _ hb1 Try.underlying27 rfl info_prod ?_)
    | ((with_reducible refine gate_dst (N := 2) rfl ?_); refine copy_event rfl (N := 2) rfl rfl rfl (t := 27) (v := .tmp 4) rfl (cs := pcs p A1 c1 A2 c2 A3 c3) (zs := pzs) ?hr rfl rfl info_prod ?hz (pcs_one _ _ _ _ _ _ _) ?_; (case hr => first | (go_simp; done) | (go_simp; rfl)); (case hz => rfl); intro g2 hg w2 hb2 hbl2; clear hg; have HB2 := Aside0.mk hb2; have BL2 := Aside0.mk (below_step hbl1 hbl2); clear hb1 hbl1 hbl2; have q0 := (pc_cells hb2).1; clear hb2))
  refine (name_any p.name _ (HG.out.below BL2.out)).mono ?_
  rw [HN.out]
  rintro e w3 ⟨rfl, hb⟩
  have BL := Aside0.mk (below_step BL2.out hb)
  obtain ⟨_, q1, q2, q3, q4, q5, q6, _⟩ := pc_cells (blk_below HB2.out hb)
  clear hb HB2 BL2 q0 HG
  go_wp2_with fail
  refine (within_i_is HA.out _).mono ?_
  rintro e w' ⟨rfl, rfl⟩
  rcases hr with r1 | ⟨r1, r3⟩
  all_goals
    go_wp2_with fail
    refine (within_i_is HB.out _).mono ?_
    rintro e w' ⟨rfl, rfl⟩
    go_wp2_with fail
    refine (must_yes _).mono ?_
    rintro e w' ⟨rfl, rfl⟩
    rcases he with e1 | ⟨e1, e2⟩ | ⟨e1, e2, e3⟩ | ⟨e1, e2, e3, e4⟩ | ⟨e1, e2, e3, e4, e6⟩ | ⟨e1, e2, e3, e4, e6, e12⟩
    all_goals
      go_wp2_with fail
      refine (must_yes _).mono ?_
      rintro e w' ⟨rfl, rfl⟩
      go_wp2_with fail
      refine (within_i_is HC.out _).mono ?_
      rintro e w' ⟨rfl, rfl⟩
      go_wp2_with fail
      refine (within_i_is HD.out _).mono ?_
      rintro e w' ⟨rfl, rfl⟩
      go_wp2_with fail
      refine (must_no _).mono ?_
      rintro e w' ⟨rfl, rfl⟩
      exact ⟨rfl, rfl, BL.out⟩

set_option maxRecDepth 100000 in
set_option maxHeartbeats 1000000 in
theorem shape_8 (p : Prod) (A1 : Option Addr) (c1 : Nat) (A2 : Option Addr) (c2 : Nat) (A3 : Option Addr) (c3 : Nat) (w : World) (hg : GV w) (hn : nameOk p.name.data.toList = true) (ha : decide (1 ≤ p.count ∧ p.count ≤ 3) = true) (hr : ((p.round == 1) = true) ∨ ((p.round == 1) = false ∧ (p.round == 3) = true)) (hb : decide (1 ≤ p.kind ∧ p.kind ≤ 3) = true) (he : Ev p.every) (hc : decide (1 ≤ p.times ∧ p.times ≤ 600) = true) (t1 : 1 ≤ p.times) (t2 : p.times ≤ 600) (hd : decide (0 ≤ p.grace ∧ p.grace ≤ p.times - 1) = true) (hk : (p.kind != 3) = true ∨ ((p.kind != 3) = false ∧ (p.grace == 0) = true)) :
    Calls Try.prog 32 #[pv p A1 c1 A2 c2 A3 c3] w fun e w' => e = .returned (.tuple #[]) ∧ Below w.heap.size w w' := by
  have HG := Aside0.mk hg
  have HN := Aside0.mk hn
  have HA := Aside0.mk ha
  have HB := Aside0.mk hb
  have HC := Aside0.mk hc
  have HD := Aside0.mk hd
  clear hg hn ha hb hc hd
  go_enter Try.func32, Try.ntmps32
  go_wp2_with (first
    | ((with_reducible refine gate_dst (N := 1) rfl ?_); refine box_event ?hg (N := 1) ?hd (cs := pcs p A1 c1 A2 c2 A3 c3) (t := 68) ?hr ?_; (case hd => rfl); (case hg => rfl); (case hr => first | (go_simp; done) | (go_simp; rfl)); intro g1 hg w1 hb1 hbl1; clear hg)
    | ((with_reducible refine gate_dst (N := 4) rfl ?_); refine wpList_load_row rfl 27 (.tmp 3) rfl g1 rfl 68 _ (0, 0) _ hb1 Try.underlying27 rfl info_prod ?_)
    | ((with_reducible refine gate_dst (N := 2) rfl ?_); refine copy_event rfl (N := 2) rfl rfl rfl (t := 27) (v := .tmp 4) rfl (cs := pcs p A1 c1 A2 c2 A3 c3) (zs := pzs) ?hr rfl rfl info_prod ?hz (pcs_one _ _ _ _ _ _ _) ?_; (case hr => first | (go_simp; done) | (go_simp; rfl)); (case hz => rfl); intro g2 hg w2 hb2 hbl2; clear hg; have HB2 := Aside0.mk hb2; have BL2 := Aside0.mk (below_step hbl1 hbl2); clear hb1 hbl1 hbl2; have q0 := (pc_cells hb2).1; clear hb2))
  refine (name_any p.name _ (HG.out.below BL2.out)).mono ?_
  rw [HN.out]
  rintro e w3 ⟨rfl, hb⟩
  have BL := Aside0.mk (below_step BL2.out hb)
  obtain ⟨_, q1, q2, q3, q4, q5, q6, _⟩ := pc_cells (blk_below HB2.out hb)
  clear hb HB2 BL2 q0 HG
  go_wp2_with fail
  refine (within_i_is HA.out _).mono ?_
  rintro e w' ⟨rfl, rfl⟩
  rcases hr with r1 | ⟨r1, r3⟩
  all_goals
    go_wp2_with fail
    refine (within_i_is HB.out _).mono ?_
    rintro e w' ⟨rfl, rfl⟩
    go_wp2_with fail
    refine (must_yes _).mono ?_
    rintro e w' ⟨rfl, rfl⟩
    rcases he with e1 | ⟨e1, e2⟩ | ⟨e1, e2, e3⟩ | ⟨e1, e2, e3, e4⟩ | ⟨e1, e2, e3, e4, e6⟩ | ⟨e1, e2, e3, e4, e6, e12⟩
    all_goals
      go_wp2_with fail
      refine (must_yes _).mono ?_
      rintro e w' ⟨rfl, rfl⟩
      go_wp2_with fail
      refine (within_i_is HC.out _).mono ?_
      rintro e w' ⟨rfl, rfl⟩
      go_wp2_with fail
      refine (within_i_is HD.out _).mono ?_
      rintro e w' ⟨rfl, rfl⟩
      rcases hk with k1 | ⟨k1, g0⟩
      all_goals
        go_wp2_with fail
        refine (must_yes _).mono ?_
        rintro e w' ⟨rfl, rfl⟩
        go_wp2_with fail
        go_end0
        exact ⟨rfl, BL.out⟩

/-- What a look ends with: nothing, or what is thrown. -/
def LookE (b : Bool) (w : World) (e : Ending) (w' : World) : Prop := (b = true → e = .returned (.tuple #[])) ∧ (b = false → e = refusedE) ∧ Below w.heap.size w w'
theorem LookE.no {w : World} {e : Ending} {w' : World} (h : e = refusedE ∧ Below w.heap.size w w') : LookE false w e w' := ⟨fun h => by (cases h), fun _ => h.1, h.2⟩
theorem LookE.yes {w : World} {e : Ending} {w' : World} (h : e = .returned (.tuple #[]) ∧ Below w.heap.size w w') : LookE true w e w' := ⟨fun _ => h.1, fun h => by (cases h), h.2⟩
theorem beqf {x y : Int} (h : ¬ x = y) : (x == y) = false := by rw [beq_eq_false_iff_ne]; exact h
theorem beqt {x y : Int} (h : x = y) : (x == y) = true := by rw [beq_iff_eq]; exact h
/-- A product's shape is looked at. -/
theorem shape_any (p : Prod) (A1 : Option Addr) (c1 : Nat) (A2 : Option Addr) (c2 : Nat) (A3 : Option Addr) (c3 : Nat) (w : World) (hg : GV w) : Calls Try.prog 32 #[pv p A1 c1 A2 c2 A3 c3] w (LookE (shapeOk p) w) := by
  cases hn : nameOk p.name.data.toList with
  | false =>
    rw [show shapeOk p = false by unfold shapeOk; rw [hn]; rfl]
    exact (shape_0 p A1 c1 A2 c2 A3 c3 w hg hn).mono fun e w' h => LookE.no h
  | true =>
    unfold shapeOk
    rw [hn, Bool.true_and]
    by_cases ha : 1 ≤ p.count ∧ p.count ≤ 3
    case neg =>
      rw [decide_eq_false (fun h => ha h.1)]
      exact (shape_1 p A1 c1 A2 c2 A3 c3 w hg hn (decide_eq_false ha)).mono fun e w' h => LookE.no h
    by_cases hr : p.round = 1 ∨ p.round = 3
    case neg =>
      rw [decide_eq_false (fun h => hr h.2.1)]
      exact (shape_2 p A1 c1 A2 c2 A3 c3 w hg hn (decide_eq_true ha) (beqf (fun h => hr (Or.inl h))) (beqf (fun h => hr (Or.inr h)))).mono fun e w' h => LookE.no h
    have hr' : ((p.round == 1) = true) ∨ ((p.round == 1) = false ∧ (p.round == 3) = true) := by
      rcases hr with h | h
      · exact Or.inl (beqt h)
      · exact Or.inr ⟨beqf (by omega), beqt h⟩
    by_cases hb : 1 ≤ p.kind ∧ p.kind ≤ 3
    case neg =>
      rw [decide_eq_false (fun h => hb h.2.2.1)]
      exact (shape_3 p A1 c1 A2 c2 A3 c3 w hg hn (decide_eq_true ha) hr' (decide_eq_false hb)).mono fun e w' h => LookE.no h
    by_cases he : p.every = 1 ∨ p.every = 2 ∨ p.every = 3 ∨ p.every = 4 ∨ p.every = 6 ∨ p.every = 12
    case neg =>
      rw [decide_eq_false (fun h => he h.2.2.2.1)]
      exact (shape_4 p A1 c1 A2 c2 A3 c3 w hg hn (decide_eq_true ha) hr' (decide_eq_true hb) (beqf (by omega)) (beqf (by omega)) (beqf (by omega)) (beqf (by omega)) (beqf (by omega)) (beqf (by omega))).mono fun e w' h => LookE.no h
    by_cases hc : 1 ≤ p.times ∧ p.times ≤ 600
    case neg =>
      rw [decide_eq_false (fun h => hc h.2.2.2.2.1)]
      exact (shape_5 p A1 c1 A2 c2 A3 c3 w hg hn (decide_eq_true ha) hr' (decide_eq_true hb) (ev_of he) (decide_eq_false hc)).mono fun e w' h => LookE.no h
    by_cases hd : 0 ≤ p.grace ∧ p.grace ≤ p.times - 1
    case neg =>
      rw [decide_eq_false (fun h => hd h.2.2.2.2.2.1)]
      exact (shape_6 p A1 c1 A2 c2 A3 c3 w hg hn (decide_eq_true ha) hr' (decide_eq_true hb) (ev_of he) (decide_eq_true hc) hc.1 hc.2 (decide_eq_false hd)).mono fun e w' h => LookE.no h
    by_cases hk : p.kind = 3 → p.grace = 0
    case neg =>
      rw [decide_eq_false (fun h => hk h.2.2.2.2.2.2)]
      exact (shape_7 p A1 c1 A2 c2 A3 c3 w hg hn (decide_eq_true ha) hr' (decide_eq_true hb) (ev_of he) (decide_eq_true hc) hc.1 hc.2 (decide_eq_true hd) (by simp; omega) (beqf (by omega))).mono fun e w' h => LookE.no h
    rw [decide_eq_true (show _ from ⟨ha, hr, hb, he, hc, hd, hk⟩)]
    refine (shape_8 p A1 c1 A2 c2 A3 c3 w hg hn (decide_eq_true ha) hr' (decide_eq_true hb) (ev_of he) (decide_eq_true hc) hc.1 hc.2 (decide_eq_true hd) ?_).mono fun e w' h => LookE.yes h
    by_cases h3 : p.kind = 3
    · exact Or.inr ⟨by simp [h3], beqt (hk h3)⟩
    · exact Or.inl (by simpa using h3)
end Go.Proofs.Ytcbebbiedegjlaa.Pd
