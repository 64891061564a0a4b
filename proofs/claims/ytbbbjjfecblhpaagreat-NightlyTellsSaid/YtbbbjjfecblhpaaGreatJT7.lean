/- Texts of this claim, joined in build order. -/
import Derived.RowKit
import Derived.Below
import Derived.Test.YtbbbjjfecblhpaaGreatProg
import Derived.Deep.Draws
import Derived.Deep.AppendLies
import Derived.Maps.AppendAt
import Derived.OwnWalk
import Derived.Laws.BytesArg
import Derived.Laws.MakeOwn
import Derived.Laws.OwnMore
import Derived.Tactics
import Derived.Lib.ConvBytes
import Derived.Laws.Slices
import Derived.WalkKit
import Derived.KernelRfl
import Derived.RowKit3
import Derived.Deep.LoopGhost
import Derived.Deep.QuietTactic
import Derived.BigQuiet
import Derived.WideLaws
import Derived.Deep.DeepCutAuto
import Derived.Deep.CutBlock
import Derived.Deep.RegionHeld3
import Derived.Lib.AppendStr
import Derived.ArgAppend
import Derived.Laws.IdiomCopy
import Derived.OrdersHeld
import Derived.Laws.BitsLemmas
import Derived.Laws.StructEq
import Derived.WalkLawsBesides
import Derived.WalkSpells
import Derived.Lib.IndexMore
import Derived.Deep.Slices
import Derived.Deep.Fields
import Derived.ChangeSame
import Derived.Lib.SmallJoins
import Derived.ProofKit
import Derived.Defers
import Derived.Laws.Tables
import Derived.Deep.WholeRow
import Derived.Recover
import Derived.StillTailTactics
import Derived.SizedLaws
import Derived.ChangeSlices
import Derived.IntWalk
import Derived.Shelf.Small.Bits
import Derived.Shelf.Strconv.Itoa0
import Derived.Shelf.Strings.Search1
import Derived.Shelf.Strings.Search2
import Derived.Shelf.Strings.Search3
import Derived.Shelf.LaysM
import Derived.Shelf.Strings.Shaped
import Derived.Shelf.Bits.Mul64
import Derived.Ground.Names2Prog
import Derived.Shelf.Slices.Clone
import Derived.Ground.SlgnProg
import Derived.Shelf.SlicesE.Clone
import Derived.Lib.SlBytesConst
import Derived.Deep.RegionWith
import Derived.Lib.Hide
import Derived.BigFrame
import Derived.Deep.MidRow
import Derived.Lib.BitFns
import Derived.Laws.BitsAllLaws
import Derived.Laws.Externs
import Derived.RegionTactic
import Derived.Laws.AppendOwnNone
import Derived.OpenShut
import Derived.ShutString
import Derived.ChangeOld
import Derived.Laws.IdiomArrays
import Derived.HandedShaped
import Derived.Shelf.Vars
import Derived.Test.YtbbbjjfecblhpaaGreatJT1
import Derived.Test.YtbbbjjfecblhpaaGreatJT2
import Derived.Test.YtbbbjjfecblhpaaGreatJT3
import Derived.Test.YtbbbjjfecblhpaaGreatJT4
import Derived.Test.YtbbbjjfecblhpaaGreatJT5
import Derived.Test.YtbbbjjfecblhpaaGreatJT6
set_option linter.unusedVariables false
set_option linter.unusedSimpArgs false
/- Contracts by hand: the document's Copy, Owed and Night. -/
namespace Go.Proofs.YtbbbjjfecblhpaaGreat.Nt
open Go.RowKit Go.Proofs.YtbbbjjfecblhpaaGreatW.PrintWords Go.Proofs.YtbbbjjfecblhpaaGreatW.PrintLast Go.Proofs.YtbbbjjfecblhpaaGreatW.PrintMore Go.Proofs.YtbbbjjfecblhpaaGreat.HW
open Go.Proofs.YtbbbjjfecblhpaaGreat.Math Go.Proofs.YtbbbjjfecblhpaaGreat.H Go.Proofs.YtbbbjjfecblhpaaGreat.Pd Go.Proofs.YtbbbjjfecblhpaaGreat.Du Go.Proofs.YtbbbjjfecblhpaaGreat.Lv Pm
set_option linter.unusedVariables false
set_option linter.unusedSimpArgs false
attribute [local go_sem] max2_int min2_int max_two min_two
set_option maxRecDepth 100000 in
set_option maxHeartbeats 8000000 in
theorem copy_any (s : St) (L : Option Addr) (lc : Nat) (D : Option Addr) (dc : Nat) (w : World) (hst : StAt w s L lc D dc) :
    Calls Tryz.prog 22 #[sv s L lc D dc] w fun e w' => ∃ L2 lc2 D2 dc2, e = .returned (sv s L2 lc2 D2 dc2) ∧ StAt w' s L2 lc2 D2 dc2 ∧ Below w.heap.size w w' ∧ Lies w.heap.size L2 D2 := by
  obtain ⟨i1, hi1, hz1, hs1, hb1⟩ := info_parts info_i64n
  obtain ⟨i4, hi4, hz4, hs4, hb4⟩ := info_parts info_due4n
  have ST := Aside0.mk hst
  have LN := Aside0.mk (show s.plan.length ≤ maxLen ∧ s.plan.length * 8 ≤ 140737488355328 by have := hst.pl; unfold maxLen; omega)
  have DN := Aside0.mk (show s.m.dues.length ≤ maxLen ∧ s.m.dues.length * 32 ≤ 140737488355328 by have := hst.dl; unfold maxLen; omega)
  have R4 := Aside0.mk (show ∀ r ∈ s.m.dues, r.length = 4 from fun r hr => (hst.rows.1 r hr).1)
  have RW := Aside0.mk (show ∀ r ∈ s.m.dues, ∀ x ∈ r, (Lit.int .i64 x).wf = true from fun r hr => (hst.rows.1 r hr).2)
  clear hst
  go_enter Tryz.func22, Tryz.ntmps22
  go_wp2_with (first
    | ((with_reducible refine gate_dst (N := 1) rfl ?_); refine box_event ?hg (N := 1) ?hd (cs := scs s L lc D dc) (t := 33) ?hr ?_; (case hd => rfl); (case hg => rfl); (case hr => first | (go_simp; done) | (go_simp; rfl)); intro gs hg y1_ hb1 hb; have gsge := (show w.heap.size ≤ gs by rw [hg]; exact Nat.le_refl _); clear hg; have GS := Aside0.mk hb1; have HB := Aside0.mk hb; clear hb1 hb)
    | ((with_reducible refine gate_dst (N := 2) rfl ?_); refine box_event rfl (N := 2) rfl (cs := scs zeroS none 0 none 0) (t := 33) ?hr ?_; (case hr => first | (go_simp; done) | (go_simp; rfl)); intro gr hg v3 hb1 hb; have grge := (show w.heap.size ≤ gr by rw [hg]; exact HB.out.size); have gsr := (show gs ≠ gr by have := blk_lt GS.out; omega); clear hg; have GR := Aside0.mk hb1; have GS := Aside0.mk (Pd.blk_below GS.out hb); have HB := Aside0.mk (below_step HB.out hb); clear hb1 hb; refine Hid.out ?_))
  refine Lib.hid ?_
  have S3 := Aside0.mk (ST.out.below HB.out)
  have z3 := HB.out.size
  have c3 := (show v3.cell? ⟨gs, 3, none⟩ = some (.slice L s.plan.length lc) from (blk_cell GS.out 3).trans rfl)
  go_wp2_with (at_builtin; refine copy_list rfl _ 28 rfl 2 i1 (.int .i64 0) 1 8 Tryz.underlying28 hi1 hz1 hs1 hb1 rfl (by decide) rfl S3.out.pn S3.out.pc (nums .i64 s.plan) (by rw [nums_length, Nat.mul_one]) (fun ad e => news_of (e ▸ S3.out.plan)) (nums_one _) LN.out.1 LN.out.2 ?_; intro v5 w5 hown hb; have OW := Aside0.mk hown; have gs1 := blk_lt GS.out; have gr1 := blk_lt GR.out; have v35 := hb.size; have GS := Aside0.mk (Pd.blk_below GS.out hb); have GR := Aside0.mk (Pd.blk_below GR.out hb); have HB := Aside0.mk (below_step HB.out hb); clear hown hb c3; refine Hid.out ?_)
  refine Lib.hid ?_
  obtain ⟨L2, lc2, rfl⟩ := own_shape OW.out
  have gl1 := (show gs < v3.heap.size from gs1)
  have gl2 := (show gr < v3.heap.size from gr1)
  have c3 := (show w5.cell? ⟨gs, 3, none⟩ = some (.slice L s.plan.length lc) from (blk_cell GS.out 3).trans rfl)
  have f3 := frozen_of_row w5 gs 3 _ _ GS.out
  go_upto_region 2 with (fail)
  obtain ⟨w6, hw6⟩ : ∃ x, w5.setCell ⟨gs, 3, none⟩ (.slice L2 s.plan.length lc2) = x := ⟨_, rfl⟩
  have GS := Aside0.mk (show w6.heap[gs]? = some (.cells (scs s L2 lc2 D dc) 33 (0, 0)) by
    have h := blk_set GS.out 3 (.slice L2 s.plan.length lc2)
    rw [set_own3, hw6] at h
    exact h)
  have GR := Aside0.mk (show w6.heap[gr]? = some (.cells (scs zeroS none 0 none 0) 33 (0, 0)) by rw [← hw6]; exact blk_far GR.out (Ne.symm gsr) _)
  have HB := Aside0.mk (show Below w.heap.size w w6 by rw [← hw6]; exact Below.setCell HB.out gsge _)
  have BU := Aside0.mk (show H.But gs w5 w6 by rw [← hw6]; exact (H.But.of (gb := gs) (Below.refl w5.heap.size w5)).setCell (p := ⟨gs, 3, none⟩) (Or.inl rfl) _)
  rw [hw6]
  have OW := Aside0.mk (own_but OW.out BU.out gl1)
  have vs6 := BU.out.size
  have S6 := Aside0.mk (ST.out.below HB.out)
  have z6 := HB.out.size
  clear c3 f3 hw6 BU
  have c8 := (show w6.cell? ⟨gs, 8, none⟩ = some (.slice D s.m.dues.length dc) from (blk_cell GS.out 8).trans rfl)
  go_wp2_with (at_builtin; refine copy_list rfl _ 29 rfl 39 i4 (.agg #[.int .i64 0, .int .i64 0, .int .i64 0, .int .i64 0]) 4 32 Tryz.underlying29 hi4 hz4 hs4 hb4 rfl (by decide) rfl S6.out.dn S6.out.dc_ (cellsV s.m.dues) (cellsV_len R4.out) (fun ad e => rowsV_news (by decide) (e ▸ S6.out.rows)) (cellsV_one _) DN.out.1 DN.out.2 ?_; intro v7 w7 hown hb; have OV := Aside0.mk hown; have GS := Aside0.mk (Pd.blk_below GS.out hb); have GR := Aside0.mk (Pd.blk_below GR.out hb); have OW := Aside0.mk (pw_own_below OW.out hb); have HB := Aside0.mk (below_step HB.out hb); clear hown hb c8; refine Hid.out ?_)
  refine Lib.hid ?_
  obtain ⟨D2, dc2, rfl⟩ := own_shape OV.out
  have gm1 := (show gs < w6.heap.size by omega)
  have gm2 := (show gr < w6.heap.size by omega)
  have c8 := (show w7.cell? ⟨gs, 8, none⟩ = some (.slice D s.m.dues.length dc) from (blk_cell GS.out 8).trans rfl)
  have f8 := frozen_of_row w7 gs 8 _ _ GS.out
  go_upto_region 3 with (fail)
  obtain ⟨w8, hw8⟩ : ∃ x, w7.setCell ⟨gs, 8, none⟩ (.slice D2 s.m.dues.length dc2) = x := ⟨_, rfl⟩
  have GS := Aside0.mk (show w8.heap[gs]? = some (.cells (scs s L2 lc2 D2 dc2) 33 (0, 0)) by
    have h := blk_set GS.out 8 (.slice D2 s.m.dues.length dc2)
    rw [set_own8, hw8] at h
    exact h)
  have GR := Aside0.mk (show w8.heap[gr]? = some (.cells (scs zeroS none 0 none 0) 33 (0, 0)) by rw [← hw8]; exact blk_far GR.out (Ne.symm gsr) _)
  have HB := Aside0.mk (show Below w.heap.size w w8 by rw [← hw8]; exact Below.setCell HB.out gsge _)
  rw [hw8]
  have BU := Aside0.mk (show H.But gs w7 w8 by rw [← hw8]; exact (H.But.of (gb := gs) (Below.refl w7.heap.size w7)).setCell (p := ⟨gs, 8, none⟩) (Or.inl rfl) _)
  have OW := Aside0.mk (own_but OW.out BU.out gl1)
  have OV := Aside0.mk (own_but OV.out BU.out gm1)
  clear c8 f8 hw8 BU
  have LI := Aside0.mk (show Lies w.heap.size L2 D2 from ⟨own_lies OW.out z3, own_lies OV.out z6⟩)
  clear z3 z6
  go_wp2_with (first
    | ((with_reducible refine gate_dst (N := 13) rfl ?_); refine wpList_load_row rfl 33 (.tmp 1) rfl gs rfl 33 _ (0, 0) _ GS.out Tryz.underlying33 rfl info_state ?_)
    | ((with_reducible refine gate_store (t := 33) (p := 2) rfl ?_); refine row_event rfl (t := 33) (p := 2) (v := .tmp 13) rfl rfl (g := gr) (cs := scs s L2 lc2 D2 dc2) (zs := scs zeroS none 0 none 0) rfl rfl GR.out info_state rfl (by simp [Value.oneCell']) ?_; intro v13 hb8 hbut; have GR := Aside0.mk hb8; have HB := Aside0.mk (But.below HB.out HB.out.size grge hbut); have ST3 := Aside0.mk (own_state (own_but OW.out hbut gl2) (own_but OV.out hbut gm2) R4.out RW.out ST.out.pl ST.out.dl); clear hb8 hbut))
  exact bodyPost_ret (v := sv s L2 lc2 D2 dc2) (results_cell_row (g := gr) Tryz.results22 _ _ _ _ _ _ rfl GR.out Tryz.underlying33 rfl info_state) rfl ⟨L2, lc2, D2, dc2, rfl, ST3.out, HB.out, LI.out⟩
set_option maxRecDepth 100000 in
set_option maxHeartbeats 8000000 in
theorem rowed_any (m : Mny) (D : Option Addr) (dc : Nat) (w : World) (hm : MAt w m D) :
    Calls Tryz.prog 20 #[mv m D dc, .int .i64 4] w fun e w' => e = .returned (.int .i64 (owedP m)) ∧ Below w.heap.size w w' := by
  have RR := Aside0.mk (fun (W : World) (hb : Below w.heap.size w W) => rright_any m D dc W (hm.below hb))
  have DA := Aside0.mk (fun (W : World) (hb : Below w.heap.size w W) => due_any D dc m.dues W (hm.rows.below hb) hm.len)
  obtain ⟨o, ho⟩ : ∃ x, owedP m = x := ⟨_, rfl⟩
  rw [ho]
  cases hR : (readM m).isSome with
  | false =>
    rw [hR] at RR
    have h0 : o = 0 := by
      rw [← ho]
      unfold owedP
      cases h : readM m with
      | none => rfl
      | some x => rw [h] at hR; cases hR
    subst h0
    clear ho hm hR DA
    go_enter Tryz.func20, Tryz.ntmps20
    go_wp2_with (first
      | ((with_reducible refine gate_dst (N := 2) rfl ?_); refine box_event ?hg (N := 2) ?hd (cs := mcs m D dc) (t := 31) ?hr ?_; (case hd => rfl); (case hg => rfl); (case hr => first | (go_simp; done) | (go_simp; rfl)); intro gm hg w1_ hb1 hb; clear hg; have GM := Aside0.mk hb1; have HB := Aside0.mk hb; clear hb1 hb)
      | ((with_reducible refine gate_dst (N := 8) rfl ?_); refine wpList_load_row rfl 31 (.tmp 2) rfl gm rfl 31 _ (0, 0) _ GM.out Tryz.underlying31 rfl info_mny ?_)
      | (go_at_call 21; (with_reducible refine (RR.out _ HB.out).mono ?_); rintro e w2_ ⟨rfl, hb⟩; have GM := Aside0.mk (Pd.blk_below GM.out hb); have HB := Aside0.mk (below_step HB.out hb); clear hb))
    go_ret
    exact ⟨rfl, HB.out⟩
  | true =>
    obtain ⟨a, b, hd, hr, -⟩ := readM_parts hR
    rw [hR] at RR
    rw [hd] at DA
    simp only [dueV] at DA
    have h0 : o = b := by
      rw [← ho]
      unfold owedP
      rw [hr]
    subst h0
    clear ho hm hR hd hr
    go_enter Tryz.func20, Tryz.ntmps20
    go_wp2_with (first
      | ((with_reducible refine gate_dst (N := 2) rfl ?_); refine box_event ?hg (N := 2) ?hd (cs := mcs m D dc) (t := 31) ?hr ?_; (case hd => rfl); (case hg => rfl); (case hr => first | (go_simp; done) | (go_simp; rfl)); intro gm hg w1_ hb1 hb; clear hg; have GM := Aside0.mk hb1; have HB := Aside0.mk hb; clear hb1 hb)
      | ((with_reducible refine gate_dst (N := 8) rfl ?_); refine wpList_load_row rfl 31 (.tmp 2) rfl gm rfl 31 _ (0, 0) _ GM.out Tryz.underlying31 rfl info_mny ?_)
      | (go_at_call 21; (with_reducible refine (RR.out _ HB.out).mono ?_); rintro e w2_ ⟨rfl, hb⟩; have GM := Aside0.mk (Pd.blk_below GM.out hb); have HB := Aside0.mk (below_step HB.out hb); clear hb; have u2 := (show w2_.cell? ⟨gm, 2, none⟩ = some (.slice D m.dues.length dc) from (blk_cell GM.out 2).trans rfl))
      | (go_at_call 45; (with_reducible refine (DA.out _ HB.out).mono ?_); rintro e w3_ ⟨rfl, hb⟩; have HB := Aside0.mk (below_step HB.out hb); clear hb))
    go_ret
    exact ⟨rfl, HB.out⟩
set_option maxRecDepth 100000 in
set_option maxHeartbeats 8000000 in
theorem rnight_look (P : Pm.Prod) (A1 : Option Addr) (c1 : Nat) (A2 : Option Addr) (c2 : Nat) (A3 : Option Addr) (c3 : Nat) (s : St) (L : Option Addr) (lc : Nat) (D : Option Addr) (dc : Nat) (w : World) (hp : ProdAt w P A1 c1 A2 c2 A3 c3) (hh : Held P) (hst : StAt w s L lc D dc) (he : mayE P s ≠ 0) : Calls Tryz.prog 10 #[pv P A1 c1 A2 c2 A3 c3, sv s L lc D dc] w (Handed w (zeroS, mayE P s)) := by
  have EC := Aside0.mk (fun (W : World) (hb : Below w.heap.size w W) => rerrors_any P A1 c1 A2 c2 A3 c3 s L lc D dc W (hp.below hb) hh (hst.m.below hb))
  obtain ⟨c, hc⟩ : ∃ c, mayE P s = c := ⟨_, rfl⟩
  rw [hc] at EC he ⊢
  have o1 : (c == 0) = false := by simpa using he
  have o2 : (c != 0) = true := by simpa using he
  clear hp hh hst hc he
  go_enter Tryz.func10, Tryz.ntmps10
  go_wp2_with (first
    | ((with_reducible refine gate_dst (N := 2) rfl ?_); refine box_event ?hg (N := 2) ?hd (cs := pcs P A1 c1 A2 c2 A3 c3) (t := 27) ?hr ?_; (case hd => rfl); (case hg => rfl); (case hr => first | (go_simp; done) | (go_simp; rfl)); intro gp hg w1_ hb1 hb; clear hg; have GP := Aside0.mk hb1; have HB := Aside0.mk hb; clear hb1 hb)
    | ((with_reducible refine gate_dst (N := 3) rfl ?_); refine box_event ?hg (N := 3) ?hd (cs := scs s L lc D dc) (t := 33) ?hr ?_; (case hd => rfl); (case hg => rfl); (case hr => first | (go_simp; done) | (go_simp; rfl)); intro gs hg w2_ hb1 hb; have gsge := (show w.heap.size ≤ gs by rw [hg]; exact HB.out.size); clear hg; have GS := Aside0.mk hb1; have GP := Aside0.mk (Pd.blk_below GP.out hb); have HB := Aside0.mk (below_step HB.out hb); clear hb1 hb)
    | ((with_reducible refine gate_dst (N := 4) rfl ?_); refine box_event rfl (N := 4) rfl (cs := scs zeroS none 0 none 0) (t := 33) ?hr ?_; (case hr => first | (go_simp; done) | (go_simp; rfl)); intro gr hg w3_ hb1 hb; have grge := (show w.heap.size ≤ gr by rw [hg]; exact HB.out.size); have gsr := (show gs ≠ gr by have := blk_lt GS.out; omega); clear hg; have GR := Aside0.mk hb1; have GP := Aside0.mk (Pd.blk_below GP.out hb); have GS := Aside0.mk (Pd.blk_below GS.out hb); have HB := Aside0.mk (below_step HB.out hb); clear hb1 hb)
    | ((with_reducible refine gate_dst (N := 13) rfl ?_); refine wpList_load_row rfl 27 (.tmp 2) rfl gp rfl 27 _ (0, 0) _ GP.out Tryz.underlying27 rfl info_prod ?_)
    | ((with_reducible refine gate_dst (N := 14) rfl ?_); refine wpList_load_row rfl 33 (.tmp 3) rfl gs rfl 33 _ (0, 0) _ GS.out Tryz.underlying33 rfl info_state ?_)
    | (go_at_call 17; (with_reducible refine (EC.out _ HB.out).mono ?_); rintro e w4_ ⟨rfl, hb⟩; have GS := Aside0.mk (Pd.blk_below GS.out hb); have GP := Aside0.mk (Pd.blk_below GP.out hb); have GR := Aside0.mk (Pd.blk_below GR.out hb); have HB := Aside0.mk (below_step HB.out hb); clear hb)
    | ((with_reducible refine gate_dst (N := 18) rfl ?_); refine build_event rfl (t := 33) rfl (cs := scs zeroS none 0 none 0) ?hb ?_; (case hb => simp only [List.map_toArray, List.map_cons, List.map_nil]; exact built_state0))
    | ((with_reducible refine gate_store (t := 33) (p := 4) rfl ?_); refine row_event rfl (t := 33) (p := 4) (v := .tmp 18) rfl rfl (g := gr) (cs := scs zeroS none 0 none 0) (zs := scs zeroS none 0 none 0) rfl rfl GR.out info_state rfl (by simp [Value.oneCell']) ?_; intro wz_ hb1 hbut; have GR1 := Aside0.mk hb1; have HB1 := Aside0.mk (But.below HB.out HB.out.size grge hbut); clear hb1 hbut))
  exact bodyPost_ret (v := .tuple #[sv zeroS none 0 none 0, .int .i64 c]) (results_mix (p := 4) (q := 5) GR1.out Tryz.results10 _ rfl rfl) rfl ⟨none, 0, none, 0, rfl, st_zero _, HB1.out, lies_none _⟩
set_option maxRecDepth 100000 in
set_option maxHeartbeats 8000000 in
theorem rnight_range (P : Pm.Prod) (A1 : Option Addr) (c1 : Nat) (A2 : Option Addr) (c2 : Nat) (A3 : Option Addr) (c3 : Nat) (s : St) (L : Option Addr) (lc : Nat) (D : Option Addr) (dc : Nat) (w : World) (hp : ProdAt w P A1 c1 A2 c2 A3 c3) (hh : Held P) (hst : StAt w s L lc D dc) (he : mayE P s = 0) (v cd r2 v2 cd2 r4 : Int) (hz1' : Gm.bear (Gm.whole P.count) (Gm.half P.count P.round) s.residue s.m.p s.rate (place P.count (s.day + 1) - place P.count s.day) = (v, cd, r2)) (hz2' : Gm.bear (Gm.whole P.count) (Gm.half P.count P.round) s.fine (owedP s.m) P.penalty (place P.count (s.day + 1) - place P.count s.day) = (v2, cd2, r4)) (hcd : cd ≠ 0 ∨ cd = 0 ∧ cd2 ≠ 0) : Calls Tryz.prog 10 #[pv P A1 c1 A2 c2 A3 c3, sv s L lc D dc] w (Handed w (zeroS, 3)) := by
  have EC := Aside0.mk (fun (W : World) (hb : Below w.heap.size w W) => rerrors_any P A1 c1 A2 c2 A3 c3 s L lc D dc W (hp.below hb) hh (hst.m.below hb))
  rw [he] at EC
  obtain ⟨he0, k1, k2, k3, k4, k5, k6, k7⟩ := mayE_zero he
  obtain ⟨hc, hr, -, hpen⟩ := err_shape he0
  have hd : isDay s.day := ⟨by omega, by omega⟩
  have hd2 : isDay (s.day + 1) := ⟨by omega, by omega⟩
  have e1 : place P.count (s.day + 1) - place P.count s.day = one P.count s.day := by rw [place_succ hc hd hd2]; omega
  obtain ⟨pn, hpn⟩ : ∃ x, one P.count s.day = x := ⟨_, rfl⟩
  rw [hpn] at e1
  have ON := Aside0.mk (fun W => quittanceref06_One.calls P.count s.day pn W (by unfold quittanceref06_One.f; rw [if_pos (by omega), hpn]))
  have OA := Aside0.mk (fun (W : World) (hb : Below w.heap.size w W) => rowed_any s.m D dc W (hst.m.below hb))
  have hz1 := hz1'
  have hz2 := hz2'
  rw [e1] at hz1 hz2
  clear hz1' hz2'
  have B1 := Aside0.mk (fun W => rbear20 P A1 c1 A2 c2 A3 c3 s.m.p s.rate pn s.residue v cd r2 W hc hr k1 hz1)
  have B2 := Aside0.mk (fun W => rbear20 P A1 c1 A2 c2 A3 c3 (owedP s.m) P.penalty pn s.fine v2 cd2 r4 W hc hr k2 hz2)
  clear hp hh hst he he0 k1 k2 k3 k4 k5 k6 k7 hc hr hpen hd hd2 e1 hpn hz1 hz2
  go_enter Tryz.func10, Tryz.ntmps10
  go_wp2_with (first
    | ((with_reducible refine gate_dst (N := 2) rfl ?_); refine box_event ?hg (N := 2) ?hd (cs := pcs P A1 c1 A2 c2 A3 c3) (t := 27) ?hr ?_; (case hd => rfl); (case hg => rfl); (case hr => first | (go_simp; done) | (go_simp; rfl)); intro gp hg w1_ hb1 hb; clear hg; have GP := Aside0.mk hb1; have HB := Aside0.mk hb; clear hb1 hb)
    | ((with_reducible refine gate_dst (N := 3) rfl ?_); refine box_event ?hg (N := 3) ?hd (cs := scs s L lc D dc) (t := 33) ?hr ?_; (case hd => rfl); (case hg => rfl); (case hr => first | (go_simp; done) | (go_simp; rfl)); intro gs hg w2_ hb1 hb; have gsge := (show w.heap.size ≤ gs by rw [hg]; exact HB.out.size); clear hg; have GS := Aside0.mk hb1; have GP := Aside0.mk (Pd.blk_below GP.out hb); have HB := Aside0.mk (below_step HB.out hb); clear hb1 hb)
    | ((with_reducible refine gate_dst (N := 4) rfl ?_); refine box_event rfl (N := 4) rfl (cs := scs zeroS none 0 none 0) (t := 33) ?hr ?_; (case hr => first | (go_simp; done) | (go_simp; rfl)); intro gr hg w3_ hb1 hb; have grge := (show w.heap.size ≤ gr by rw [hg]; exact HB.out.size); have gsr := (show gs ≠ gr by have := blk_lt GS.out; omega); clear hg; have GR := Aside0.mk hb1; have GP := Aside0.mk (Pd.blk_below GP.out hb); have GS := Aside0.mk (Pd.blk_below GS.out hb); have HB := Aside0.mk (below_step HB.out hb); clear hb1 hb)
    | ((with_reducible refine gate_dst (N := 13) rfl ?_); refine wpList_load_row rfl 27 (.tmp 2) rfl gp rfl 27 _ (0, 0) _ GP.out Tryz.underlying27 rfl info_prod ?_)
    | ((with_reducible refine gate_dst (N := 14) rfl ?_); refine wpList_load_row rfl 33 (.tmp 3) rfl gs rfl 33 _ (0, 0) _ GS.out Tryz.underlying33 rfl info_state ?_)
    | (go_at_call 17; (with_reducible refine (EC.out _ HB.out).mono ?_); rintro e w4_ ⟨rfl, hb⟩; have GS := Aside0.mk (Pd.blk_below GS.out hb); have GP := Aside0.mk (Pd.blk_below GP.out hb); have GR := Aside0.mk (Pd.blk_below GR.out hb); have HB := Aside0.mk (below_step HB.out hb); clear hb; have v1 := (show w4_.cell? ⟨gp, 1, none⟩ = some (.int .i64 P.count) from (blk_cell GP.out 1).trans rfl); have v9 := (show w4_.cell? ⟨gp, 9, none⟩ = some (.int .i64 P.penalty) from (blk_cell GP.out 9).trans rfl); have s0 := (show w4_.cell? ⟨gs, 0, none⟩ = some (.int .i64 s.day) from (blk_cell GS.out 0).trans rfl); have s6 := (show w4_.cell? ⟨gs, 6, none⟩ = some (.int .i64 s.m.p) from (blk_cell GS.out 6).trans rfl); have s5 := (show w4_.cell? ⟨gs, 5, none⟩ = some (.int .i64 s.rate) from (blk_cell GS.out 5).trans rfl); have s17 := (show w4_.cell? ⟨gs, 17, none⟩ = some (.int .i64 s.residue) from (blk_cell GS.out 17).trans rfl); have s18 := (show w4_.cell? ⟨gs, 18, none⟩ = some (.int .i64 s.fine) from (blk_cell GS.out 18).trans rfl))
    | (go_at_call 18; (with_reducible refine (ON.out _).mono ?_); rintro e w5_ ⟨rfl, hb⟩; have GS := Aside0.mk (Pd.blk_below GS.out hb); have GP := Aside0.mk (Pd.blk_below GP.out hb); have GR := Aside0.mk (Pd.blk_below GR.out hb); have HB := Aside0.mk (below_step HB.out hb); clear hb; clear v1 v9 s0 s6 s5 s17 s18; have v1 := (show w5_.cell? ⟨gp, 1, none⟩ = some (.int .i64 P.count) from (blk_cell GP.out 1).trans rfl); have v9 := (show w5_.cell? ⟨gp, 9, none⟩ = some (.int .i64 P.penalty) from (blk_cell GP.out 9).trans rfl); have s0 := (show w5_.cell? ⟨gs, 0, none⟩ = some (.int .i64 s.day) from (blk_cell GS.out 0).trans rfl); have s6 := (show w5_.cell? ⟨gs, 6, none⟩ = some (.int .i64 s.m.p) from (blk_cell GS.out 6).trans rfl); have s5 := (show w5_.cell? ⟨gs, 5, none⟩ = some (.int .i64 s.rate) from (blk_cell GS.out 5).trans rfl); have s17 := (show w5_.cell? ⟨gs, 17, none⟩ = some (.int .i64 s.residue) from (blk_cell GS.out 17).trans rfl); have s18 := (show w5_.cell? ⟨gs, 18, none⟩ = some (.int .i64 s.fine) from (blk_cell GS.out 18).trans rfl))
    | ((with_reducible refine gate_dst (N := 26) rfl ?_); refine wpList_load_row rfl 27 (.tmp 2) rfl gp rfl 27 _ (0, 0) _ GP.out Tryz.underlying27 rfl info_prod ?_)
    | (go_at_call 19; (with_reducible refine (B1.out _).mono ?_); rintro e w6_ ⟨rfl, hb⟩; have GS := Aside0.mk (Pd.blk_below GS.out hb); have GP := Aside0.mk (Pd.blk_below GP.out hb); have GR := Aside0.mk (Pd.blk_below GR.out hb); have HB := Aside0.mk (below_step HB.out hb); clear hb; clear v1 v9 s0 s6 s5 s17 s18; have v1 := (show w6_.cell? ⟨gp, 1, none⟩ = some (.int .i64 P.count) from (blk_cell GP.out 1).trans rfl); have v9 := (show w6_.cell? ⟨gp, 9, none⟩ = some (.int .i64 P.penalty) from (blk_cell GP.out 9).trans rfl); have s0 := (show w6_.cell? ⟨gs, 0, none⟩ = some (.int .i64 s.day) from (blk_cell GS.out 0).trans rfl); have s6 := (show w6_.cell? ⟨gs, 6, none⟩ = some (.int .i64 s.m.p) from (blk_cell GS.out 6).trans rfl); have s5 := (show w6_.cell? ⟨gs, 5, none⟩ = some (.int .i64 s.rate) from (blk_cell GS.out 5).trans rfl); have s17 := (show w6_.cell? ⟨gs, 17, none⟩ = some (.int .i64 s.residue) from (blk_cell GS.out 17).trans rfl); have s18 := (show w6_.cell? ⟨gs, 18, none⟩ = some (.int .i64 s.fine) from (blk_cell GS.out 18).trans rfl)))
  obtain ⟨ow, how⟩ : ∃ x, owedP s.m = x := ⟨_, rfl⟩
  rw [how] at OA B2
  clear v1 v9 s0 s6 s5 s17 s18
  refine wp_region_held_drew (S := fun W => W.heap[gp]? = some (.cells (pcs P A1 c1 A2 c2 A3 c3) 27 (0, 0)) ∧ W.heap[gs]? = some (.cells (scs s L lc D dc) 33 (0, 0))) (by kernel_rfl) ⟨GP.out, GS.out⟩ (fun hHeld => ?_)
  refine wpAnyH_take (i := 0) (v := _) rfl (by kernel_rfl) (by kernel_rfl) (by kernel_rfl) (fun _ _ _ h => h) (yieldsIf_load_mid (by rfl) 27 _ rfl gp 0 rfl (pcs P A1 c1 A2 c2 A3 c3).toList _ (fun W hSw => blk_rangeN hSw.1) Tryz.underlying27 rfl info_prod) (by assumption) ?_
  (try simp only [Act.put, List.setIfInBounds_toArray, List.set_cons_zero, List.set_cons_succ])
  refine wpAnyH_take (i := 1) (v := ?_) rfl (by kernel_rfl) (by kernel_rfl) (by kernel_rfl) (fun _ _ _ h => h) (Or.inl ⟨by rfl, ?_⟩) (by assumption) ?_
  rotate_left
  · intro W hSw; (try dsimp only at hSw); clear hSw; go_simp; first | done | with_reducible rfl
  (try simp only [Act.put, List.setIfInBounds_toArray, List.set_cons_zero, List.set_cons_succ])
  refine wpAnyH_take (i := 2) (v := _) rfl (by kernel_rfl) (by kernel_rfl) (by kernel_rfl) (fun _ _ _ h => h) (yieldsIf_load_mid (by rfl) 31 _ rfl gs 6 rfl (mcs s.m D dc).toList _ (fun W hSw => mny_range hSw.2) Tryz.underlying31 rfl info_mny) (by assumption) ?_
  (try simp only [Act.put, List.setIfInBounds_toArray, List.set_cons_zero, List.set_cons_succ])
  refine wpAnyH_take (i := 4) (v := ?_) rfl (by kernel_rfl) (by kernel_rfl) (by kernel_rfl) (fun _ _ _ h => h) (Or.inl ⟨by rfl, ?_⟩) (by assumption) ?_
  rotate_left
  · intro W hSw; (try dsimp only at hSw); clear hSw; go_simp; first | done | with_reducible rfl
  (try simp only [Act.put, List.setIfInBounds_toArray, List.set_cons_zero, List.set_cons_succ])
  refine wpAnyH_take (i := 5) (v := ?_) rfl (by kernel_rfl) (by kernel_rfl) (by kernel_rfl) (fun _ _ _ h => h) (Or.inl ⟨by rfl, ?_⟩) (by assumption) ?_
  rotate_left
  · intro W hSw; (try dsimp only at hSw); have v9 := (show W.cell? ⟨gp, 9, none⟩ = some (.int .i64 P.penalty) from (blk_cell hSw.1 9).trans rfl); clear hSw; go_simp; first | done | with_reducible rfl
  (try simp only [Act.put, List.setIfInBounds_toArray, List.set_cons_zero, List.set_cons_succ])
  refine wpAnyH_take (i := 6) (v := ?_) rfl (by kernel_rfl) (by kernel_rfl) (by kernel_rfl) (fun _ _ _ h => h) (Or.inl ⟨by rfl, ?_⟩) (by assumption) ?_
  rotate_left
  · intro W hSw; (try dsimp only at hSw); clear hSw; go_simp; first | done | with_reducible rfl
  (try simp only [Act.put, List.setIfInBounds_toArray, List.set_cons_zero, List.set_cons_succ])
  refine wpAnyH_take (i := 7) (v := ?_) rfl (by kernel_rfl) (by kernel_rfl) (by kernel_rfl) (fun _ _ _ h => h) (Or.inl ⟨by rfl, ?_⟩) (by assumption) ?_
  rotate_left
  · intro W hSw; (try dsimp only at hSw); clear hSw; go_simp; first | done | with_reducible rfl
  (try simp only [Act.put, List.setIfInBounds_toArray, List.set_cons_zero, List.set_cons_succ])
  refine wpAnyH_take (i := 8) (v := ?_) rfl (by kernel_rfl) (by kernel_rfl) (by kernel_rfl) (fun _ _ _ h => h) (Or.inl ⟨by rfl, ?_⟩) (by assumption) ?_
  rotate_left
  · intro W hSw; (try dsimp only at hSw); have s18 := (show W.cell? ⟨gs, 18, none⟩ = some (.int .i64 s.fine) from (blk_cell hSw.2 18).trans rfl); clear hSw; go_simp; first | done | with_reducible rfl
  (try simp only [Act.put, List.setIfInBounds_toArray, List.set_cons_zero, List.set_cons_succ])
  refine wpAnyH_ready (rs := [3]) (by kernel_rfl) (by simp) ?_
  refine AllReadyH.cons rfl (fun K hK => ?_) AllReadyH.nil
  go_simp
  go_at_call 20
  refine (OA.out _ (Below.drew HB.out)).mono ?_
  rintro e w7_ ⟨rfl, hb⟩
  have GP7 := Aside0.mk (Pd.blk_below (w := w6_.drew) GP.out hb)
  have GS7 := Aside0.mk (Pd.blk_below (w := w6_.drew) GS.out hb)
  have GR7 := Aside0.mk (Pd.blk_below (w := w6_.drew) GR.out hb)
  have HB7 := Aside0.mk (below_step (Below.drew HB.out) hb)
  clear hb GP GS GR HB
  try go_wp2_with fail
  refine hK.out _ _ ⟨GP7.out, GS7.out⟩ (fun hHeld => ?_)
  clear hK K
  (try simp only [Act.put, List.setIfInBounds_toArray, List.set_cons_zero, List.set_cons_succ])
  refine wpAnyH_ready (rs := [9]) (by kernel_rfl) (by simp) ?_
  refine AllReadyH.cons rfl (fun K hK => ?_) AllReadyH.nil
  go_simp
  go_at_call 19
  refine (B2.out _).mono ?_
  rintro e w8_ ⟨rfl, hb⟩
  have GP := Aside0.mk (Pd.blk_below GP7.out hb)
  have GS := Aside0.mk (Pd.blk_below GS7.out hb)
  have GR := Aside0.mk (Pd.blk_below GR7.out hb)
  have HB := Aside0.mk (below_step HB7.out hb)
  clear hb GP7 GS7 GR7 HB7
  try go_wp2_with fail
  refine hK.out _ _ ⟨GP.out, GS.out⟩ (fun hHeld => ?_)
  clear hK K
  (try simp only [Act.put, List.setIfInBounds_toArray, List.set_cons_zero, List.set_cons_succ])
  refine wpAnyH_take (i := 10) (v := ?_) rfl (by kernel_rfl) (by kernel_rfl) (by kernel_rfl) (fun _ _ _ h => h) (Or.inl ⟨by rfl, ?_⟩) (by assumption) ?_
  rotate_left
  · intro W hSw; (try dsimp only at hSw); clear hSw; go_simp; first | done | with_reducible rfl
  (try simp only [Act.put, List.setIfInBounds_toArray, List.set_cons_zero, List.set_cons_succ])
  refine wpAnyH_take (i := 11) (v := ?_) rfl (by kernel_rfl) (by kernel_rfl) (by kernel_rfl) (fun _ _ _ h => h) (Or.inl ⟨by rfl, ?_⟩) (by assumption) ?_
  rotate_left
  · intro W hSw; (try dsimp only at hSw); clear hSw; go_simp; first | done | with_reducible rfl
  (try simp only [Act.put, List.setIfInBounds_toArray, List.set_cons_zero, List.set_cons_succ])
  refine wpAnyH_take (i := 12) (v := ?_) rfl (by kernel_rfl) (by kernel_rfl) (by kernel_rfl) (fun _ _ _ h => h) (Or.inl ⟨by rfl, ?_⟩) (by assumption) ?_
  rotate_left
  · intro W hSw; (try dsimp only at hSw); clear hSw; go_simp; first | done | with_reducible rfl
  (try simp only [Act.put, List.setIfInBounds_toArray, List.set_cons_zero, List.set_cons_succ])
  refine wpAnyH_take (i := 13) (v := ?_) rfl (by kernel_rfl) (by kernel_rfl) (by kernel_rfl) (fun _ _ _ h => h) (Or.inl ⟨by rfl, ?_⟩) (by assumption) ?_
  rotate_left
  · intro W hSw; (try dsimp only at hSw); clear hSw; go_simp; first | done | with_reducible rfl
  (try simp only [Act.put, List.setIfInBounds_toArray, List.set_cons_zero, List.set_cons_succ])
  refine wpAnyH_take (i := 14) (v := ?_) rfl (by kernel_rfl) (by kernel_rfl) (by kernel_rfl) (fun _ _ _ h => h) (Or.inl ⟨by rfl, ?_⟩) (by assumption) ?_
  rotate_left
  · intro W hSw; (try dsimp only at hSw); clear hSw; go_simp; first | done | with_reducible rfl
  (try simp only [Act.put, List.setIfInBounds_toArray, List.set_cons_zero, List.set_cons_succ])
  refine wpAnyH_take (i := 15) (v := ?_) rfl (by kernel_rfl) (by kernel_rfl) (by kernel_rfl) (fun _ _ _ h => h) (Or.inl ⟨by rfl, ?_⟩) (by assumption) ?_
  rotate_left
  · intro W hSw; (try dsimp only at hSw); clear hSw; go_simp; first | done | with_reducible rfl
  (try simp only [Act.put, List.setIfInBounds_toArray, List.set_cons_zero, List.set_cons_succ])
  refine wpAnyH_take (i := 16) (v := ?_) rfl (by kernel_rfl) (by kernel_rfl) (by kernel_rfl) (fun _ _ _ h => h) (Or.inl ⟨by rfl, ?_⟩) (by assumption) ?_
  rotate_left
  · intro W hSw; (try dsimp only at hSw); clear hSw; go_simp; first | done | with_reducible rfl
  (try simp only [Act.put, List.setIfInBounds_toArray, List.set_cons_zero, List.set_cons_succ])
  refine wpAnyH_done (by kernel_rfl) ?_ _
  clear hHeld
  rcases hcd with h | ⟨rfl, h⟩
  · have o1 : (cd == 0) = false := by simpa using h
    have o2 : (cd != 0) = true := by simpa using h
    clear h
    go_wp2_with (first
      | ((with_reducible refine gate_dst (N := 59) rfl ?_); refine build_event rfl (t := 33) rfl (cs := scs zeroS none 0 none 0) ?hb ?_; (case hb => simp only [List.map_toArray, List.map_cons, List.map_nil]; exact built_state0))
      | ((with_reducible refine gate_store (t := 33) (p := 4) rfl ?_); refine row_event rfl (t := 33) (p := 4) (v := .tmp 59) rfl rfl (g := gr) (cs := scs zeroS none 0 none 0) (zs := scs zeroS none 0 none 0) rfl rfl GR.out info_state rfl (by simp [Value.oneCell']) ?_; intro wz_ hb1 hbut; have GR1 := Aside0.mk hb1; have HB1 := Aside0.mk (But.below HB.out HB.out.size grge hbut); clear hb1 hbut))
    exact bodyPost_ret (v := .tuple #[sv zeroS none 0 none 0, .int .i64 3]) (results_mix (p := 4) (q := 5) GR1.out Tryz.results10 _ rfl rfl) rfl ⟨none, 0, none, 0, rfl, st_zero _, HB1.out, lies_none _⟩
  · have o1 : (cd2 == 0) = false := by simpa using h
    have o2 : (cd2 != 0) = true := by simpa using h
    clear h
    go_wp2_with (first
      | ((with_reducible refine gate_dst (N := 59) rfl ?_); refine build_event rfl (t := 33) rfl (cs := scs zeroS none 0 none 0) ?hb ?_; (case hb => simp only [List.map_toArray, List.map_cons, List.map_nil]; exact built_state0))
      | ((with_reducible refine gate_store (t := 33) (p := 4) rfl ?_); refine row_event rfl (t := 33) (p := 4) (v := .tmp 59) rfl rfl (g := gr) (cs := scs zeroS none 0 none 0) (zs := scs zeroS none 0 none 0) rfl rfl GR.out info_state rfl (by simp [Value.oneCell']) ?_; intro wz_ hb1 hbut; have GR1 := Aside0.mk hb1; have HB1 := Aside0.mk (But.below HB.out HB.out.size grge hbut); clear hb1 hbut))
    exact bodyPost_ret (v := .tuple #[sv zeroS none 0 none 0, .int .i64 3]) (results_mix (p := 4) (q := 5) GR1.out Tryz.results10 _ rfl rfl) rfl ⟨none, 0, none, 0, rfl, st_zero _, HB1.out, lies_none _⟩
set_option maxRecDepth 100000 in
set_option maxHeartbeats 8000000 in
theorem rnight_wrong (P : Pm.Prod) (A1 : Option Addr) (c1 : Nat) (A2 : Option Addr) (c2 : Nat) (A3 : Option Addr) (c3 : Nat) (s : St) (L : Option Addr) (lc : Nat) (D : Option Addr) (dc : Nat) (w : World) (hp : ProdAt w P A1 c1 A2 c2 A3 c3) (hh : Held P) (hst : StAt w s L lc D dc) (he : mayE P s = 0) (v cd r2 v2 cd2 r4 : Int) (hz1' : Gm.bear (Gm.whole P.count) (Gm.half P.count P.round) s.residue s.m.p s.rate (place P.count (s.day + 1) - place P.count s.day) = (v, cd, r2)) (hz2' : Gm.bear (Gm.whole P.count) (Gm.half P.count P.round) s.fine (owedP s.m) P.penalty (place P.count (s.day + 1) - place P.count s.day) = (v2, cd2, r4)) (hcd : cd = 0) (hcd2 : cd2 = 0) (hw : (0 ≤ s.m.acc + v ∧ s.m.acc + v ≤ 2000000000000000) ∧ (0 ≤ s.m.earned + v ∧ s.m.earned + v ≤ 2000000000000000) ∧ (0 ≤ s.m.pen + v2 ∧ s.m.pen + v2 ≤ 2000000000000000) ∧ (0 ≤ s.m.fined + v2 ∧ s.m.fined + v2 ≤ 2000000000000000)) (hR : (readM (mN s.m v v2)).isSome = false) : Calls Tryz.prog 10 #[pv P A1 c1 A2 c2 A3 c3, sv s L lc D dc] w (Handed w (zeroS, 3)) := by
  have EC := Aside0.mk (fun (W : World) (hb : Below w.heap.size w W) => rerrors_any P A1 c1 A2 c2 A3 c3 s L lc D dc W (hp.below hb) hh (hst.m.below hb))
  rw [he] at EC
  obtain ⟨he0, k1, k2, k3, k4, k5, k6, k7⟩ := mayE_zero he
  obtain ⟨hc, hr, -, hpen⟩ := err_shape he0
  have hd : isDay s.day := ⟨by omega, by omega⟩
  have hd2 : isDay (s.day + 1) := ⟨by omega, by omega⟩
  have e1 : place P.count (s.day + 1) - place P.count s.day = one P.count s.day := by rw [place_succ hc hd hd2]; omega
  obtain ⟨pn, hpn⟩ : ∃ x, one P.count s.day = x := ⟨_, rfl⟩
  rw [hpn] at e1
  have ON := Aside0.mk (fun W => quittanceref06_One.calls P.count s.day pn W (by unfold quittanceref06_One.f; rw [if_pos (by omega), hpn]))
  have OA := Aside0.mk (fun (W : World) (hb : Below w.heap.size w W) => rowed_any s.m D dc W (hst.m.below hb))
  have hz1 := hz1'
  have hz2 := hz2'
  rw [e1] at hz1 hz2
  clear hz1' hz2'
  have B1 := Aside0.mk (fun W => rbear20 P A1 c1 A2 c2 A3 c3 s.m.p s.rate pn s.residue v cd r2 W hc hr k1 hz1)
  have B2 := Aside0.mk (fun W => rbear20 P A1 c1 A2 c2 A3 c3 (owedP s.m) P.penalty pn s.fine v2 cd2 r4 W hc hr k2 hz2)
  have wa : IntKind.i64.wrap (s.m.acc + v) = s.m.acc + v := IntWalk.i64_in _ (by obtain ⟨a, b, c, d⟩ := hw; omega)
  have wb : IntKind.i64.wrap (s.m.earned + v) = s.m.earned + v := IntWalk.i64_in _ (by obtain ⟨a, b, c, d⟩ := hw; omega)
  have wc : IntKind.i64.wrap (s.m.pen + v2) = s.m.pen + v2 := IntWalk.i64_in _ (by obtain ⟨a, b, c, d⟩ := hw; omega)
  have wd : IntKind.i64.wrap (s.m.fined + v2) = s.m.fined + v2 := IntWalk.i64_in _ (by obtain ⟨a, b, c, d⟩ := hw; omega)
  have we : IntKind.i64.wrap (s.day + 1) = s.day + 1 := IntWalk.i64_in _ (by omega)
  subst hcd
  subst hcd2
  clear hw
  have RM := Aside0.mk (fun (W : World) (hb : Below w.heap.size w W) => by have h := rright_any (mN s.m v v2) D dc W (((hst.below hb).of (s2 := sN1 s v v2) rfl rfl).m); rw [hR] at h; exact h)
  clear hR
  clear hp hh hst he he0 k1 k2 k3 k4 k5 k6 k7 hc hr hpen hd hd2 e1 hpn hz1 hz2
  go_enter Tryz.func10, Tryz.ntmps10
  go_wp2_with (first
    | ((with_reducible refine gate_dst (N := 2) rfl ?_); refine box_event ?hg (N := 2) ?hd (cs := pcs P A1 c1 A2 c2 A3 c3) (t := 27) ?hr ?_; (case hd => rfl); (case hg => rfl); (case hr => first | (go_simp; done) | (go_simp; rfl)); intro gp hg w1_ hb1 hb; clear hg; have GP := Aside0.mk hb1; have HB := Aside0.mk hb; clear hb1 hb)
    | ((with_reducible refine gate_dst (N := 3) rfl ?_); refine box_event ?hg (N := 3) ?hd (cs := scs s L lc D dc) (t := 33) ?hr ?_; (case hd => rfl); (case hg => rfl); (case hr => first | (go_simp; done) | (go_simp; rfl)); intro gs hg w2_ hb1 hb; have gsge := (show w.heap.size ≤ gs by rw [hg]; exact HB.out.size); clear hg; have GS := Aside0.mk hb1; have GP := Aside0.mk (Pd.blk_below GP.out hb); have HB := Aside0.mk (below_step HB.out hb); clear hb1 hb)
    | ((with_reducible refine gate_dst (N := 4) rfl ?_); refine box_event rfl (N := 4) rfl (cs := scs zeroS none 0 none 0) (t := 33) ?hr ?_; (case hr => first | (go_simp; done) | (go_simp; rfl)); intro gr hg w3_ hb1 hb; have grge := (show w.heap.size ≤ gr by rw [hg]; exact HB.out.size); have gsr := (show gs ≠ gr by have := blk_lt GS.out; omega); clear hg; have GR := Aside0.mk hb1; have GP := Aside0.mk (Pd.blk_below GP.out hb); have GS := Aside0.mk (Pd.blk_below GS.out hb); have HB := Aside0.mk (below_step HB.out hb); clear hb1 hb)
    | ((with_reducible refine gate_dst (N := 13) rfl ?_); refine wpList_load_row rfl 27 (.tmp 2) rfl gp rfl 27 _ (0, 0) _ GP.out Tryz.underlying27 rfl info_prod ?_)
    | ((with_reducible refine gate_dst (N := 14) rfl ?_); refine wpList_load_row rfl 33 (.tmp 3) rfl gs rfl 33 _ (0, 0) _ GS.out Tryz.underlying33 rfl info_state ?_)
    | (go_at_call 17; (with_reducible refine (EC.out _ HB.out).mono ?_); rintro e w4_ ⟨rfl, hb⟩; have GS := Aside0.mk (Pd.blk_below GS.out hb); have GP := Aside0.mk (Pd.blk_below GP.out hb); have GR := Aside0.mk (Pd.blk_below GR.out hb); have HB := Aside0.mk (below_step HB.out hb); clear hb; have v1 := (show w4_.cell? ⟨gp, 1, none⟩ = some (.int .i64 P.count) from (blk_cell GP.out 1).trans rfl); have v9 := (show w4_.cell? ⟨gp, 9, none⟩ = some (.int .i64 P.penalty) from (blk_cell GP.out 9).trans rfl); have s0 := (show w4_.cell? ⟨gs, 0, none⟩ = some (.int .i64 s.day) from (blk_cell GS.out 0).trans rfl); have s6 := (show w4_.cell? ⟨gs, 6, none⟩ = some (.int .i64 s.m.p) from (blk_cell GS.out 6).trans rfl); have s5 := (show w4_.cell? ⟨gs, 5, none⟩ = some (.int .i64 s.rate) from (blk_cell GS.out 5).trans rfl); have s17 := (show w4_.cell? ⟨gs, 17, none⟩ = some (.int .i64 s.residue) from (blk_cell GS.out 17).trans rfl); have s18 := (show w4_.cell? ⟨gs, 18, none⟩ = some (.int .i64 s.fine) from (blk_cell GS.out 18).trans rfl))
    | (go_at_call 18; (with_reducible refine (ON.out _).mono ?_); rintro e w5_ ⟨rfl, hb⟩; have GS := Aside0.mk (Pd.blk_below GS.out hb); have GP := Aside0.mk (Pd.blk_below GP.out hb); have GR := Aside0.mk (Pd.blk_below GR.out hb); have HB := Aside0.mk (below_step HB.out hb); clear hb; clear v1 v9 s0 s6 s5 s17 s18; have v1 := (show w5_.cell? ⟨gp, 1, none⟩ = some (.int .i64 P.count) from (blk_cell GP.out 1).trans rfl); have v9 := (show w5_.cell? ⟨gp, 9, none⟩ = some (.int .i64 P.penalty) from (blk_cell GP.out 9).trans rfl); have s0 := (show w5_.cell? ⟨gs, 0, none⟩ = some (.int .i64 s.day) from (blk_cell GS.out 0).trans rfl); have s6 := (show w5_.cell? ⟨gs, 6, none⟩ = some (.int .i64 s.m.p) from (blk_cell GS.out 6).trans rfl); have s5 := (show w5_.cell? ⟨gs, 5, none⟩ = some (.int .i64 s.rate) from (blk_cell GS.out 5).trans rfl); have s17 := (show w5_.cell? ⟨gs, 17, none⟩ = some (.int .i64 s.residue) from (blk_cell GS.out 17).trans rfl); have s18 := (show w5_.cell? ⟨gs, 18, none⟩ = some (.int .i64 s.fine) from (blk_cell GS.out 18).trans rfl))
    | ((with_reducible refine gate_dst (N := 26) rfl ?_); refine wpList_load_row rfl 27 (.tmp 2) rfl gp rfl 27 _ (0, 0) _ GP.out Tryz.underlying27 rfl info_prod ?_)
    | (go_at_call 19; (with_reducible refine (B1.out _).mono ?_); rintro e w6_ ⟨rfl, hb⟩; have GS := Aside0.mk (Pd.blk_below GS.out hb); have GP := Aside0.mk (Pd.blk_below GP.out hb); have GR := Aside0.mk (Pd.blk_below GR.out hb); have HB := Aside0.mk (below_step HB.out hb); clear hb; clear v1 v9 s0 s6 s5 s17 s18; have v1 := (show w6_.cell? ⟨gp, 1, none⟩ = some (.int .i64 P.count) from (blk_cell GP.out 1).trans rfl); have v9 := (show w6_.cell? ⟨gp, 9, none⟩ = some (.int .i64 P.penalty) from (blk_cell GP.out 9).trans rfl); have s0 := (show w6_.cell? ⟨gs, 0, none⟩ = some (.int .i64 s.day) from (blk_cell GS.out 0).trans rfl); have s6 := (show w6_.cell? ⟨gs, 6, none⟩ = some (.int .i64 s.m.p) from (blk_cell GS.out 6).trans rfl); have s5 := (show w6_.cell? ⟨gs, 5, none⟩ = some (.int .i64 s.rate) from (blk_cell GS.out 5).trans rfl); have s17 := (show w6_.cell? ⟨gs, 17, none⟩ = some (.int .i64 s.residue) from (blk_cell GS.out 17).trans rfl); have s18 := (show w6_.cell? ⟨gs, 18, none⟩ = some (.int .i64 s.fine) from (blk_cell GS.out 18).trans rfl)))
  obtain ⟨ow, how⟩ : ∃ x, owedP s.m = x := ⟨_, rfl⟩
  rw [how] at OA B2
  clear v1 v9 s0 s6 s5 s17 s18
  refine wp_region_held_drew (S := fun W => W.heap[gp]? = some (.cells (pcs P A1 c1 A2 c2 A3 c3) 27 (0, 0)) ∧ W.heap[gs]? = some (.cells (scs s L lc D dc) 33 (0, 0))) (by kernel_rfl) ⟨GP.out, GS.out⟩ (fun hHeld => ?_)
  refine wpAnyH_take (i := 0) (v := _) rfl (by kernel_rfl) (by kernel_rfl) (by kernel_rfl) (fun _ _ _ h => h) (yieldsIf_load_mid (by rfl) 27 _ rfl gp 0 rfl (pcs P A1 c1 A2 c2 A3 c3).toList _ (fun W hSw => blk_rangeN hSw.1) Tryz.underlying27 rfl info_prod) (by assumption) ?_
  (try simp only [Act.put, List.setIfInBounds_toArray, List.set_cons_zero, List.set_cons_succ])
  refine wpAnyH_take (i := 1) (v := ?_) rfl (by kernel_rfl) (by kernel_rfl) (by kernel_rfl) (fun _ _ _ h => h) (Or.inl ⟨by rfl, ?_⟩) (by assumption) ?_
  rotate_left
  · intro W hSw; (try dsimp only at hSw); clear hSw; go_simp; first | done | with_reducible rfl
  (try simp only [Act.put, List.setIfInBounds_toArray, List.set_cons_zero, List.set_cons_succ])
  refine wpAnyH_take (i := 2) (v := _) rfl (by kernel_rfl) (by kernel_rfl) (by kernel_rfl) (fun _ _ _ h => h) (yieldsIf_load_mid (by rfl) 31 _ rfl gs 6 rfl (mcs s.m D dc).toList _ (fun W hSw => mny_range hSw.2) Tryz.underlying31 rfl info_mny) (by assumption) ?_
  (try simp only [Act.put, List.setIfInBounds_toArray, List.set_cons_zero, List.set_cons_succ])
  refine wpAnyH_take (i := 4) (v := ?_) rfl (by kernel_rfl) (by kernel_rfl) (by kernel_rfl) (fun _ _ _ h => h) (Or.inl ⟨by rfl, ?_⟩) (by assumption) ?_
  rotate_left
  · intro W hSw; (try dsimp only at hSw); clear hSw; go_simp; first | done | with_reducible rfl
  (try simp only [Act.put, List.setIfInBounds_toArray, List.set_cons_zero, List.set_cons_succ])
  refine wpAnyH_take (i := 5) (v := ?_) rfl (by kernel_rfl) (by kernel_rfl) (by kernel_rfl) (fun _ _ _ h => h) (Or.inl ⟨by rfl, ?_⟩) (by assumption) ?_
  rotate_left
  · intro W hSw; (try dsimp only at hSw); have v9 := (show W.cell? ⟨gp, 9, none⟩ = some (.int .i64 P.penalty) from (blk_cell hSw.1 9).trans rfl); clear hSw; go_simp; first | done | with_reducible rfl
  (try simp only [Act.put, List.setIfInBounds_toArray, List.set_cons_zero, List.set_cons_succ])
  refine wpAnyH_take (i := 6) (v := ?_) rfl (by kernel_rfl) (by kernel_rfl) (by kernel_rfl) (fun _ _ _ h => h) (Or.inl ⟨by rfl, ?_⟩) (by assumption) ?_
  rotate_left
  · intro W hSw; (try dsimp only at hSw); clear hSw; go_simp; first | done | with_reducible rfl
  (try simp only [Act.put, List.setIfInBounds_toArray, List.set_cons_zero, List.set_cons_succ])
  refine wpAnyH_take (i := 7) (v := ?_) rfl (by kernel_rfl) (by kernel_rfl) (by kernel_rfl) (fun _ _ _ h => h) (Or.inl ⟨by rfl, ?_⟩) (by assumption) ?_
  rotate_left
  · intro W hSw; (try dsimp only at hSw); clear hSw; go_simp; first | done | with_reducible rfl
  (try simp only [Act.put, List.setIfInBounds_toArray, List.set_cons_zero, List.set_cons_succ])
  refine wpAnyH_take (i := 8) (v := ?_) rfl (by kernel_rfl) (by kernel_rfl) (by kernel_rfl) (fun _ _ _ h => h) (Or.inl ⟨by rfl, ?_⟩) (by assumption) ?_
  rotate_left
  · intro W hSw; (try dsimp only at hSw); have s18 := (show W.cell? ⟨gs, 18, none⟩ = some (.int .i64 s.fine) from (blk_cell hSw.2 18).trans rfl); clear hSw; go_simp; first | done | with_reducible rfl
  (try simp only [Act.put, List.setIfInBounds_toArray, List.set_cons_zero, List.set_cons_succ])
  refine wpAnyH_ready (rs := [3]) (by kernel_rfl) (by simp) ?_
  refine AllReadyH.cons rfl (fun K hK => ?_) AllReadyH.nil
  go_simp
  go_at_call 20
  refine (OA.out _ (Below.drew HB.out)).mono ?_
  rintro e w7_ ⟨rfl, hb⟩
  have GP7 := Aside0.mk (Pd.blk_below (w := w6_.drew) GP.out hb)
  have GS7 := Aside0.mk (Pd.blk_below (w := w6_.drew) GS.out hb)
  have GR7 := Aside0.mk (Pd.blk_below (w := w6_.drew) GR.out hb)
  have HB7 := Aside0.mk (below_step (Below.drew HB.out) hb)
  clear hb GP GS GR HB
  try go_wp2_with fail
  refine hK.out _ _ ⟨GP7.out, GS7.out⟩ (fun hHeld => ?_)
  clear hK K
  (try simp only [Act.put, List.setIfInBounds_toArray, List.set_cons_zero, List.set_cons_succ])
  refine wpAnyH_ready (rs := [9]) (by kernel_rfl) (by simp) ?_
  refine AllReadyH.cons rfl (fun K hK => ?_) AllReadyH.nil
  go_simp
  go_at_call 19
  refine (B2.out _).mono ?_
  rintro e w8_ ⟨rfl, hb⟩
  have GP := Aside0.mk (Pd.blk_below GP7.out hb)
  have GS := Aside0.mk (Pd.blk_below GS7.out hb)
  have GR := Aside0.mk (Pd.blk_below GR7.out hb)
  have HB := Aside0.mk (below_step HB7.out hb)
  clear hb GP7 GS7 GR7 HB7
  try go_wp2_with fail
  refine hK.out _ _ ⟨GP.out, GS.out⟩ (fun hHeld => ?_)
  clear hK K
  (try simp only [Act.put, List.setIfInBounds_toArray, List.set_cons_zero, List.set_cons_succ])
  refine wpAnyH_take (i := 10) (v := ?_) rfl (by kernel_rfl) (by kernel_rfl) (by kernel_rfl) (fun _ _ _ h => h) (Or.inl ⟨by rfl, ?_⟩) (by assumption) ?_
  rotate_left
  · intro W hSw; (try dsimp only at hSw); clear hSw; go_simp; first | done | with_reducible rfl
  (try simp only [Act.put, List.setIfInBounds_toArray, List.set_cons_zero, List.set_cons_succ])
  refine wpAnyH_take (i := 11) (v := ?_) rfl (by kernel_rfl) (by kernel_rfl) (by kernel_rfl) (fun _ _ _ h => h) (Or.inl ⟨by rfl, ?_⟩) (by assumption) ?_
  rotate_left
  · intro W hSw; (try dsimp only at hSw); clear hSw; go_simp; first | done | with_reducible rfl
  (try simp only [Act.put, List.setIfInBounds_toArray, List.set_cons_zero, List.set_cons_succ])
  refine wpAnyH_take (i := 12) (v := ?_) rfl (by kernel_rfl) (by kernel_rfl) (by kernel_rfl) (fun _ _ _ h => h) (Or.inl ⟨by rfl, ?_⟩) (by assumption) ?_
  rotate_left
  · intro W hSw; (try dsimp only at hSw); clear hSw; go_simp; first | done | with_reducible rfl
  (try simp only [Act.put, List.setIfInBounds_toArray, List.set_cons_zero, List.set_cons_succ])
  refine wpAnyH_take (i := 13) (v := ?_) rfl (by kernel_rfl) (by kernel_rfl) (by kernel_rfl) (fun _ _ _ h => h) (Or.inl ⟨by rfl, ?_⟩) (by assumption) ?_
  rotate_left
  · intro W hSw; (try dsimp only at hSw); clear hSw; go_simp; first | done | with_reducible rfl
  (try simp only [Act.put, List.setIfInBounds_toArray, List.set_cons_zero, List.set_cons_succ])
  refine wpAnyH_take (i := 14) (v := ?_) rfl (by kernel_rfl) (by kernel_rfl) (by kernel_rfl) (fun _ _ _ h => h) (Or.inl ⟨by rfl, ?_⟩) (by assumption) ?_
  rotate_left
  · intro W hSw; (try dsimp only at hSw); clear hSw; go_simp; first | done | with_reducible rfl
  (try simp only [Act.put, List.setIfInBounds_toArray, List.set_cons_zero, List.set_cons_succ])
  refine wpAnyH_take (i := 15) (v := ?_) rfl (by kernel_rfl) (by kernel_rfl) (by kernel_rfl) (fun _ _ _ h => h) (Or.inl ⟨by rfl, ?_⟩) (by assumption) ?_
  rotate_left
  · intro W hSw; (try dsimp only at hSw); clear hSw; go_simp; first | done | with_reducible rfl
  (try simp only [Act.put, List.setIfInBounds_toArray, List.set_cons_zero, List.set_cons_succ])
  refine wpAnyH_take (i := 16) (v := ?_) rfl (by kernel_rfl) (by kernel_rfl) (by kernel_rfl) (fun _ _ _ h => h) (Or.inl ⟨by rfl, ?_⟩) (by assumption) ?_
  rotate_left
  · intro W hSw; (try dsimp only at hSw); clear hSw; go_simp; first | done | with_reducible rfl
  (try simp only [Act.put, List.setIfInBounds_toArray, List.set_cons_zero, List.set_cons_succ])
  refine wpAnyH_done (by kernel_rfl) ?_ _
  clear hHeld
  have s7 := (show w8_.cell? ⟨gs, 7, none⟩ = some (.int .i64 s.m.acc) from (blk_cell GS.out 7).trans rfl)
  have s13 := (show w8_.cell? ⟨gs, 13, none⟩ = some (.int .i64 s.m.earned) from (blk_cell GS.out 13).trans rfl)
  have f7 := frozen_of_row w8_ gs 7 _ _ GS.out
  have f13 := frozen_of_row w8_ gs 13 _ _ GS.out
  go_upto_region 10 with (fail)
  obtain ⟨w9_, hw9⟩ : ∃ x, (w8_.setCell ⟨gs, 7, none⟩ (.int .i64 (s.m.acc + v))).setCell ⟨gs, 13, none⟩ (.int .i64 (s.m.earned + v)) = x := ⟨_, rfl⟩
  have GS9 := Aside0.mk (show w9_.heap[gs]? = some (.cells (scs { s with m := { s.m with acc := s.m.acc + v, earned := s.m.earned + v } } L lc D dc) 33 (0, 0)) by rw [← hw9]; exact blk_set (blk_set GS.out 7 _) 13 _)
  have GR9 := Aside0.mk (show w9_.heap[gr]? = some (.cells (scs zeroS none 0 none 0) 33 (0, 0)) by rw [← hw9]; exact blk_far (blk_far GR.out (Ne.symm gsr) _) (Ne.symm gsr) _)
  have HB9 := Aside0.mk (show Below w.heap.size w w9_ by rw [← hw9]; exact Below.setCell (Below.setCell HB.out gsge _) gsge _)
  rw [hw9]
  clear hw9 s7 s13 f7 f13 GP GS GR HB
  have s9 := (show w9_.cell? ⟨gs, 9, none⟩ = some (.int .i64 s.m.pen) from (blk_cell GS9.out 9).trans rfl)
  have s14 := (show w9_.cell? ⟨gs, 14, none⟩ = some (.int .i64 s.m.fined) from (blk_cell GS9.out 14).trans rfl)
  have f9 := frozen_of_row w9_ gs 9 _ _ GS9.out
  have f14 := frozen_of_row w9_ gs 14 _ _ GS9.out
  go_upto_region 11 with (fail)
  obtain ⟨w10_, hw10⟩ : ∃ x, (w9_.setCell ⟨gs, 9, none⟩ (.int .i64 (s.m.pen + v2))).setCell ⟨gs, 14, none⟩ (.int .i64 (s.m.fined + v2)) = x := ⟨_, rfl⟩
  have GS10 := Aside0.mk (show w10_.heap[gs]? = some (.cells (scs (sN1 s v v2) L lc D dc) 33 (0, 0)) by rw [← hw10]; exact blk_set (blk_set GS9.out 9 _) 14 _)
  have GR10 := Aside0.mk (show w10_.heap[gr]? = some (.cells (scs zeroS none 0 none 0) 33 (0, 0)) by rw [← hw10]; exact blk_far (blk_far GR9.out (Ne.symm gsr) _) (Ne.symm gsr) _)
  have HB10 := Aside0.mk (show Below w.heap.size w w10_ by rw [← hw10]; exact Below.setCell (Below.setCell HB9.out gsge _) gsge _)
  rw [hw10]
  clear hw10 s9 s14 f9 f14 GS9 GR9 HB9
  have s0 := (show w10_.cell? ⟨gs, 0, none⟩ = some (.int .i64 s.day) from (blk_cell GS10.out 0).trans rfl)
  have s17 := (show w10_.cell? ⟨gs, 17, none⟩ = some (.int .i64 s.residue) from (blk_cell GS10.out 17).trans rfl)
  have s18 := (show w10_.cell? ⟨gs, 18, none⟩ = some (.int .i64 s.fine) from (blk_cell GS10.out 18).trans rfl)
  have f0 := frozen_of_row w10_ gs 0 _ _ GS10.out
  have f17 := frozen_of_row w10_ gs 17 _ _ GS10.out
  have f18 := frozen_of_row w10_ gs 18 _ _ GS10.out
  go_upto_region 12 with (fail)
  obtain ⟨w11_, hw11⟩ : ∃ x, ((w10_.setCell ⟨gs, 17, none⟩ (.int .i64 r2)).setCell ⟨gs, 18, none⟩ (.int .i64 r4)).setCell ⟨gs, 0, none⟩ (.int .i64 (s.day + 1)) = x := ⟨_, rfl⟩
  have GS := Aside0.mk (show w11_.heap[gs]? = some (.cells (scs (sN s 1 v v2 r2 r4) L lc D dc) 33 (0, 0)) by rw [← hw11]; exact blk_set (blk_set (blk_set GS10.out 17 _) 18 _) 0 _)
  have GR := Aside0.mk (show w11_.heap[gr]? = some (.cells (scs zeroS none 0 none 0) 33 (0, 0)) by rw [← hw11]; exact blk_far (blk_far (blk_far GR10.out (Ne.symm gsr) _) (Ne.symm gsr) _) (Ne.symm gsr) _)
  have HB := Aside0.mk (show Below w.heap.size w w11_ by rw [← hw11]; exact Below.setCell (Below.setCell (Below.setCell HB10.out gsge _) gsge _) gsge _)
  rw [hw11]
  clear hw11 s0 s17 s18 f0 f17 f18 GS10 GR10 HB10
  go_wp2_with (first
    | ((with_reducible refine gate_dst (N := 97) rfl ?_); refine wpList_load_mid rfl 31 (.tmp 96) rfl gs 6 ?hx (mcs (mN s.m v v2) D dc).toList _ (mny_range (s := (sN s 1 v v2 r2 r4)) GS.out) Tryz.underlying31 rfl info_mny ?_; (case hx => first | rfl | (go_simp; done) | (go_simp; rfl)))
    | (go_at_call 21; (with_reducible refine (RM.out _ HB.out).mono ?_); rintro e w12_ ⟨rfl, hb⟩; have GS := Aside0.mk (Pd.blk_below GS.out hb); have GR := Aside0.mk (Pd.blk_below GR.out hb); have HB := Aside0.mk (below_step HB.out hb); clear hb)
    | ((with_reducible refine gate_dst (N := 100) rfl ?_); refine build_event rfl (t := 33) rfl (cs := scs zeroS none 0 none 0) ?hb ?_; (case hb => simp only [List.map_toArray, List.map_cons, List.map_nil]; exact built_state0))
    | ((with_reducible refine gate_store (t := 33) (p := 4) rfl ?_); refine row_event rfl (t := 33) (p := 4) (v := .tmp 100) rfl rfl (g := gr) (cs := scs zeroS none 0 none 0) (zs := scs zeroS none 0 none 0) rfl rfl GR.out info_state rfl (by simp [Value.oneCell']) ?_; intro wz_ hb1 hbut; have GR1 := Aside0.mk hb1; have HB1 := Aside0.mk (But.below HB.out HB.out.size grge hbut); clear hb1 hbut))
  exact bodyPost_ret (v := .tuple #[sv zeroS none 0 none 0, .int .i64 3]) (results_mix (p := 4) (q := 5) GR1.out Tryz.results10 _ rfl rfl) rfl ⟨none, 0, none, 0, rfl, st_zero _, HB1.out, lies_none _⟩
set_option maxRecDepth 100000 in
set_option maxHeartbeats 8000000 in
theorem rnight_right (P : Pm.Prod) (A1 : Option Addr) (c1 : Nat) (A2 : Option Addr) (c2 : Nat) (A3 : Option Addr) (c3 : Nat) (s : St) (L : Option Addr) (lc : Nat) (D : Option Addr) (dc : Nat) (w : World) (hp : ProdAt w P A1 c1 A2 c2 A3 c3) (hh : Held P) (hst : StAt w s L lc D dc) (he : mayE P s = 0) (v cd r2 v2 cd2 r4 : Int) (hz1' : Gm.bear (Gm.whole P.count) (Gm.half P.count P.round) s.residue s.m.p s.rate (place P.count (s.day + 1) - place P.count s.day) = (v, cd, r2)) (hz2' : Gm.bear (Gm.whole P.count) (Gm.half P.count P.round) s.fine (owedP s.m) P.penalty (place P.count (s.day + 1) - place P.count s.day) = (v2, cd2, r4)) (hcd : cd = 0) (hcd2 : cd2 = 0) (hw : (0 ≤ s.m.acc + v ∧ s.m.acc + v ≤ 2000000000000000) ∧ (0 ≤ s.m.earned + v ∧ s.m.earned + v ≤ 2000000000000000) ∧ (0 ≤ s.m.pen + v2 ∧ s.m.pen + v2 ≤ 2000000000000000) ∧ (0 ≤ s.m.fined + v2 ∧ s.m.fined + v2 ≤ 2000000000000000)) (hR : (readM (mN s.m v v2)).isSome = true) : Calls Tryz.prog 10 #[pv P A1 c1 A2 c2 A3 c3, sv s L lc D dc] w (Handed w ((sN s 1 v v2 r2 r4), 0)) := by
  have EC := Aside0.mk (fun (W : World) (hb : Below w.heap.size w W) => rerrors_any P A1 c1 A2 c2 A3 c3 s L lc D dc W (hp.below hb) hh (hst.m.below hb))
  rw [he] at EC
  obtain ⟨he0, k1, k2, k3, k4, k5, k6, k7⟩ := mayE_zero he
  obtain ⟨hc, hr, -, hpen⟩ := err_shape he0
  have hd : isDay s.day := ⟨by omega, by omega⟩
  have hd2 : isDay (s.day + 1) := ⟨by omega, by omega⟩
  have e1 : place P.count (s.day + 1) - place P.count s.day = one P.count s.day := by rw [place_succ hc hd hd2]; omega
  obtain ⟨pn, hpn⟩ : ∃ x, one P.count s.day = x := ⟨_, rfl⟩
  rw [hpn] at e1
  have ON := Aside0.mk (fun W => quittanceref06_One.calls P.count s.day pn W (by unfold quittanceref06_One.f; rw [if_pos (by omega), hpn]))
  have OA := Aside0.mk (fun (W : World) (hb : Below w.heap.size w W) => rowed_any s.m D dc W (hst.m.below hb))
  have hz1 := hz1'
  have hz2 := hz2'
  rw [e1] at hz1 hz2
  clear hz1' hz2'
  have B1 := Aside0.mk (fun W => rbear20 P A1 c1 A2 c2 A3 c3 s.m.p s.rate pn s.residue v cd r2 W hc hr k1 hz1)
  have B2 := Aside0.mk (fun W => rbear20 P A1 c1 A2 c2 A3 c3 (owedP s.m) P.penalty pn s.fine v2 cd2 r4 W hc hr k2 hz2)
  have wa : IntKind.i64.wrap (s.m.acc + v) = s.m.acc + v := IntWalk.i64_in _ (by obtain ⟨a, b, c, d⟩ := hw; omega)
  have wb : IntKind.i64.wrap (s.m.earned + v) = s.m.earned + v := IntWalk.i64_in _ (by obtain ⟨a, b, c, d⟩ := hw; omega)
  have wc : IntKind.i64.wrap (s.m.pen + v2) = s.m.pen + v2 := IntWalk.i64_in _ (by obtain ⟨a, b, c, d⟩ := hw; omega)
  have wd : IntKind.i64.wrap (s.m.fined + v2) = s.m.fined + v2 := IntWalk.i64_in _ (by obtain ⟨a, b, c, d⟩ := hw; omega)
  have we : IntKind.i64.wrap (s.day + 1) = s.day + 1 := IntWalk.i64_in _ (by omega)
  subst hcd
  subst hcd2
  clear hw
  have RM := Aside0.mk (fun (W : World) (hb : Below w.heap.size w W) => by have h := rright_any (mN s.m v v2) D dc W (((hst.below hb).of (s2 := sN1 s v v2) rfl rfl).m); rw [hR] at h; exact h)
  clear hR
  have CPY := Aside0.mk (fun (W : World) (hb : Below w.heap.size w W) => copy_any (sN s 1 v v2 r2 r4) L lc D dc W ((hst.below hb).of rfl rfl))
  clear hp hh hst he he0 k1 k2 k3 k4 k5 k6 k7 hc hr hpen hd hd2 e1 hpn hz1 hz2
  go_enter Tryz.func10, Tryz.ntmps10
  go_wp2_with (first
    | ((with_reducible refine gate_dst (N := 2) rfl ?_); refine box_event ?hg (N := 2) ?hd (cs := pcs P A1 c1 A2 c2 A3 c3) (t := 27) ?hr ?_; (case hd => rfl); (case hg => rfl); (case hr => first | (go_simp; done) | (go_simp; rfl)); intro gp hg w1_ hb1 hb; clear hg; have GP := Aside0.mk hb1; have HB := Aside0.mk hb; clear hb1 hb)
    | ((with_reducible refine gate_dst (N := 3) rfl ?_); refine box_event ?hg (N := 3) ?hd (cs := scs s L lc D dc) (t := 33) ?hr ?_; (case hd => rfl); (case hg => rfl); (case hr => first | (go_simp; done) | (go_simp; rfl)); intro gs hg w2_ hb1 hb; have gsge := (show w.heap.size ≤ gs by rw [hg]; exact HB.out.size); clear hg; have GS := Aside0.mk hb1; have GP := Aside0.mk (Pd.blk_below GP.out hb); have HB := Aside0.mk (below_step HB.out hb); clear hb1 hb)
    | ((with_reducible refine gate_dst (N := 4) rfl ?_); refine box_event rfl (N := 4) rfl (cs := scs zeroS none 0 none 0) (t := 33) ?hr ?_; (case hr => first | (go_simp; done) | (go_simp; rfl)); intro gr hg w3_ hb1 hb; have grge := (show w.heap.size ≤ gr by rw [hg]; exact HB.out.size); have gsr := (show gs ≠ gr by have := blk_lt GS.out; omega); clear hg; have GR := Aside0.mk hb1; have GP := Aside0.mk (Pd.blk_below GP.out hb); have GS := Aside0.mk (Pd.blk_below GS.out hb); have HB := Aside0.mk (below_step HB.out hb); clear hb1 hb)
    | ((with_reducible refine gate_dst (N := 13) rfl ?_); refine wpList_load_row rfl 27 (.tmp 2) rfl gp rfl 27 _ (0, 0) _ GP.out Tryz.underlying27 rfl info_prod ?_)
    | ((with_reducible refine gate_dst (N := 14) rfl ?_); refine wpList_load_row rfl 33 (.tmp 3) rfl gs rfl 33 _ (0, 0) _ GS.out Tryz.underlying33 rfl info_state ?_)
    | (go_at_call 17; (with_reducible refine (EC.out _ HB.out).mono ?_); rintro e w4_ ⟨rfl, hb⟩; have GS := Aside0.mk (Pd.blk_below GS.out hb); have GP := Aside0.mk (Pd.blk_below GP.out hb); have GR := Aside0.mk (Pd.blk_below GR.out hb); have HB := Aside0.mk (below_step HB.out hb); clear hb; have v1 := (show w4_.cell? ⟨gp, 1, none⟩ = some (.int .i64 P.count) from (blk_cell GP.out 1).trans rfl); have v9 := (show w4_.cell? ⟨gp, 9, none⟩ = some (.int .i64 P.penalty) from (blk_cell GP.out 9).trans rfl); have s0 := (show w4_.cell? ⟨gs, 0, none⟩ = some (.int .i64 s.day) from (blk_cell GS.out 0).trans rfl); have s6 := (show w4_.cell? ⟨gs, 6, none⟩ = some (.int .i64 s.m.p) from (blk_cell GS.out 6).trans rfl); have s5 := (show w4_.cell? ⟨gs, 5, none⟩ = some (.int .i64 s.rate) from (blk_cell GS.out 5).trans rfl); have s17 := (show w4_.cell? ⟨gs, 17, none⟩ = some (.int .i64 s.residue) from (blk_cell GS.out 17).trans rfl); have s18 := (show w4_.cell? ⟨gs, 18, none⟩ = some (.int .i64 s.fine) from (blk_cell GS.out 18).trans rfl))
    | (go_at_call 18; (with_reducible refine (ON.out _).mono ?_); rintro e w5_ ⟨rfl, hb⟩; have GS := Aside0.mk (Pd.blk_below GS.out hb); have GP := Aside0.mk (Pd.blk_below GP.out hb); have GR := Aside0.mk (Pd.blk_below GR.out hb); have HB := Aside0.mk (below_step HB.out hb); clear hb; clear v1 v9 s0 s6 s5 s17 s18; have v1 := (show w5_.cell? ⟨gp, 1, none⟩ = some (.int .i64 P.count) from (blk_cell GP.out 1).trans rfl); have v9 := (show w5_.cell? ⟨gp, 9, none⟩ = some (.int .i64 P.penalty) from (blk_cell GP.out 9).trans rfl); have s0 := (show w5_.cell? ⟨gs, 0, none⟩ = some (.int .i64 s.day) from (blk_cell GS.out 0).trans rfl); have s6 := (show w5_.cell? ⟨gs, 6, none⟩ = some (.int .i64 s.m.p) from (blk_cell GS.out 6).trans rfl); have s5 := (show w5_.cell? ⟨gs, 5, none⟩ = some (.int .i64 s.rate) from (blk_cell GS.out 5).trans rfl); have s17 := (show w5_.cell? ⟨gs, 17, none⟩ = some (.int .i64 s.residue) from (blk_cell GS.out 17).trans rfl); have s18 := (show w5_.cell? ⟨gs, 18, none⟩ = some (.int .i64 s.fine) from (blk_cell GS.out 18).trans rfl))
    | ((with_reducible refine gate_dst (N := 26) rfl ?_); refine wpList_load_row rfl 27 (.tmp 2) rfl gp rfl 27 _ (0, 0) _ GP.out Tryz.underlying27 rfl info_prod ?_)
    | (go_at_call 19; (with_reducible refine (B1.out _).mono ?_); rintro e w6_ ⟨rfl, hb⟩; have GS := Aside0.mk (Pd.blk_below GS.out hb); have GP := Aside0.mk (Pd.blk_below GP.out hb); have GR := Aside0.mk (Pd.blk_below GR.out hb); have HB := Aside0.mk (below_step HB.out hb); clear hb; clear v1 v9 s0 s6 s5 s17 s18; have v1 := (show w6_.cell? ⟨gp, 1, none⟩ = some (.int .i64 P.count) from (blk_cell GP.out 1).trans rfl); have v9 := (show w6_.cell? ⟨gp, 9, none⟩ = some (.int .i64 P.penalty) from (blk_cell GP.out 9).trans rfl); have s0 := (show w6_.cell? ⟨gs, 0, none⟩ = some (.int .i64 s.day) from (blk_cell GS.out 0).trans rfl); have s6 := (show w6_.cell? ⟨gs, 6, none⟩ = some (.int .i64 s.m.p) from (blk_cell GS.out 6).trans rfl); have s5 := (show w6_.cell? ⟨gs, 5, none⟩ = some (.int .i64 s.rate) from (blk_cell GS.out 5).trans rfl); have s17 := (show w6_.cell? ⟨gs, 17, none⟩ = some (.int .i64 s.residue) from (blk_cell GS.out 17).trans rfl); have s18 := (show w6_.cell? ⟨gs, 18, none⟩ = some (.int .i64 s.fine) from (blk_cell GS.out 18).trans rfl)))
  obtain ⟨ow, how⟩ : ∃ x, owedP s.m = x := ⟨_, rfl⟩
  rw [how] at OA B2
  clear v1 v9 s0 s6 s5 s17 s18
  refine wp_region_held_drew (S := fun W => W.heap[gp]? = some (.cells (pcs P A1 c1 A2 c2 A3 c3) 27 (0, 0)) ∧ W.heap[gs]? = some (.cells (scs s L lc D dc) 33 (0, 0))) (by kernel_rfl) ⟨GP.out, GS.out⟩ (fun hHeld => ?_)
  refine wpAnyH_take (i := 0) (v := _) rfl (by kernel_rfl) (by kernel_rfl) (by kernel_rfl) (fun _ _ _ h => h) (yieldsIf_load_mid (by rfl) 27 _ rfl gp 0 rfl (pcs P A1 c1 A2 c2 A3 c3).toList _ (fun W hSw => blk_rangeN hSw.1) Tryz.underlying27 rfl info_prod) (by assumption) ?_
  (try simp only [Act.put, List.setIfInBounds_toArray, List.set_cons_zero, List.set_cons_succ])
  refine wpAnyH_take (i := 1) (v := ?_) rfl (by kernel_rfl) (by kernel_rfl) (by kernel_rfl) (fun _ _ _ h => h) (Or.inl ⟨by rfl, ?_⟩) (by assumption) ?_
  rotate_left
  · intro W hSw; (try dsimp only at hSw); clear hSw; go_simp; first | done | with_reducible rfl
  (try simp only [Act.put, List.setIfInBounds_toArray, List.set_cons_zero, List.set_cons_succ])
  refine wpAnyH_take (i := 2) (v := _) rfl (by kernel_rfl) (by kernel_rfl) (by kernel_rfl) (fun _ _ _ h => h) (yieldsIf_load_mid (by rfl) 31 _ rfl gs 6 rfl (mcs s.m D dc).toList _ (fun W hSw => mny_range hSw.2) Tryz.underlying31 rfl info_mny) (by assumption) ?_
  (try simp only [Act.put, List.setIfInBounds_toArray, List.set_cons_zero, List.set_cons_succ])
  refine wpAnyH_take (i := 4) (v := ?_) rfl (by kernel_rfl) (by kernel_rfl) (by kernel_rfl) (fun _ _ _ h => h) (Or.inl ⟨by rfl, ?_⟩) (by assumption) ?_
  rotate_left
  · intro W hSw; (try dsimp only at hSw); clear hSw; go_simp; first | done | with_reducible rfl
  (try simp only [Act.put, List.setIfInBounds_toArray, List.set_cons_zero, List.set_cons_succ])
  refine wpAnyH_take (i := 5) (v := ?_) rfl (by kernel_rfl) (by kernel_rfl) (by kernel_rfl) (fun _ _ _ h => h) (Or.inl ⟨by rfl, ?_⟩) (by assumption) ?_
  rotate_left
  · intro W hSw; (try dsimp only at hSw); have v9 := (show W.cell? ⟨gp, 9, none⟩ = some (.int .i64 P.penalty) from (blk_cell hSw.1 9).trans rfl); clear hSw; go_simp; first | done | with_reducible rfl
  (try simp only [Act.put, List.setIfInBounds_toArray, List.set_cons_zero, List.set_cons_succ])
  refine wpAnyH_take (i := 6) (v := ?_) rfl (by kernel_rfl) (by kernel_rfl) (by kernel_rfl) (fun _ _ _ h => h) (Or.inl ⟨by rfl, ?_⟩) (by assumption) ?_
  rotate_left
  · intro W hSw; (try dsimp only at hSw); clear hSw; go_simp; first | done | with_reducible rfl
  (try simp only [Act.put, List.setIfInBounds_toArray, List.set_cons_zero, List.set_cons_succ])
  refine wpAnyH_take (i := 7) (v := ?_) rfl (by kernel_rfl) (by kernel_rfl) (by kernel_rfl) (fun _ _ _ h => h) (Or.inl ⟨by rfl, ?_⟩) (by assumption) ?_
  rotate_left
  · intro W hSw; (try dsimp only at hSw); clear hSw; go_simp; first | done | with_reducible rfl
  (try simp only [Act.put, List.setIfInBounds_toArray, List.set_cons_zero, List.set_cons_succ])
  refine wpAnyH_take (i := 8) (v := ?_) rfl (by kernel_rfl) (by kernel_rfl) (by kernel_rfl) (fun _ _ _ h => h) (Or.inl ⟨by rfl, ?_⟩) (by assumption) ?_
  rotate_left
  · intro W hSw; (try dsimp only at hSw); have s18 := (show W.cell? ⟨gs, 18, none⟩ = some (.int .i64 s.fine) from (blk_cell hSw.2 18).trans rfl); clear hSw; go_simp; first | done | with_reducible rfl
  (try simp only [Act.put, List.setIfInBounds_toArray, List.set_cons_zero, List.set_cons_succ])
  refine wpAnyH_ready (rs := [3]) (by kernel_rfl) (by simp) ?_
  refine AllReadyH.cons rfl (fun K hK => ?_) AllReadyH.nil
  go_simp
  go_at_call 20
  refine (OA.out _ (Below.drew HB.out)).mono ?_
  rintro e w7_ ⟨rfl, hb⟩
  have GP7 := Aside0.mk (Pd.blk_below (w := w6_.drew) GP.out hb)
  have GS7 := Aside0.mk (Pd.blk_below (w := w6_.drew) GS.out hb)
  have GR7 := Aside0.mk (Pd.blk_below (w := w6_.drew) GR.out hb)
  have HB7 := Aside0.mk (below_step (Below.drew HB.out) hb)
  clear hb GP GS GR HB
  try go_wp2_with fail
  refine hK.out _ _ ⟨GP7.out, GS7.out⟩ (fun hHeld => ?_)
  clear hK K
  (try simp only [Act.put, List.setIfInBounds_toArray, List.set_cons_zero, List.set_cons_succ])
  refine wpAnyH_ready (rs := [9]) (by kernel_rfl) (by simp) ?_
  refine AllReadyH.cons rfl (fun K hK => ?_) AllReadyH.nil
  go_simp
  go_at_call 19
  refine (B2.out _).mono ?_
  rintro e w8_ ⟨rfl, hb⟩
  have GP := Aside0.mk (Pd.blk_below GP7.out hb)
  have GS := Aside0.mk (Pd.blk_below GS7.out hb)
  have GR := Aside0.mk (Pd.blk_below GR7.out hb)
  have HB := Aside0.mk (below_step HB7.out hb)
  clear hb GP7 GS7 GR7 HB7
  try go_wp2_with fail
  refine hK.out _ _ ⟨GP.out, GS.out⟩ (fun hHeld => ?_)
  clear hK K
  (try simp only [Act.put, List.setIfInBounds_toArray, List.set_cons_zero, List.set_cons_succ])
  refine wpAnyH_take (i := 10) (v := ?_) rfl (by kernel_rfl) (by kernel_rfl) (by kernel_rfl) (fun _ _ _ h => h) (Or.inl ⟨by rfl, ?_⟩) (by assumption) ?_
  rotate_left
  · intro W hSw; (try dsimp only at hSw); clear hSw; go_simp; first | done | with_reducible rfl
  (try simp only [Act.put, List.setIfInBounds_toArray, List.set_cons_zero, List.set_cons_succ])
  refine wpAnyH_take (i := 11) (v := ?_) rfl (by kernel_rfl) (by kernel_rfl) (by kernel_rfl) (fun _ _ _ h => h) (Or.inl ⟨by rfl, ?_⟩) (by assumption) ?_
  rotate_left
  · intro W hSw; (try dsimp only at hSw); clear hSw; go_simp; first | done | with_reducible rfl
  (try simp only [Act.put, List.setIfInBounds_toArray, List.set_cons_zero, List.set_cons_succ])
  refine wpAnyH_take (i := 12) (v := ?_) rfl (by kernel_rfl) (by kernel_rfl) (by kernel_rfl) (fun _ _ _ h => h) (Or.inl ⟨by rfl, ?_⟩) (by assumption) ?_
  rotate_left
  · intro W hSw; (try dsimp only at hSw); clear hSw; go_simp; first | done | with_reducible rfl
  (try simp only [Act.put, List.setIfInBounds_toArray, List.set_cons_zero, List.set_cons_succ])
  refine wpAnyH_take (i := 13) (v := ?_) rfl (by kernel_rfl) (by kernel_rfl) (by kernel_rfl) (fun _ _ _ h => h) (Or.inl ⟨by rfl, ?_⟩) (by assumption) ?_
  rotate_left
  · intro W hSw; (try dsimp only at hSw); clear hSw; go_simp; first | done | with_reducible rfl
  (try simp only [Act.put, List.setIfInBounds_toArray, List.set_cons_zero, List.set_cons_succ])
  refine wpAnyH_take (i := 14) (v := ?_) rfl (by kernel_rfl) (by kernel_rfl) (by kernel_rfl) (fun _ _ _ h => h) (Or.inl ⟨by rfl, ?_⟩) (by assumption) ?_
  rotate_left
  · intro W hSw; (try dsimp only at hSw); clear hSw; go_simp; first | done | with_reducible rfl
  (try simp only [Act.put, List.setIfInBounds_toArray, List.set_cons_zero, List.set_cons_succ])
  refine wpAnyH_take (i := 15) (v := ?_) rfl (by kernel_rfl) (by kernel_rfl) (by kernel_rfl) (fun _ _ _ h => h) (Or.inl ⟨by rfl, ?_⟩) (by assumption) ?_
  rotate_left
  · intro W hSw; (try dsimp only at hSw); clear hSw; go_simp; first | done | with_reducible rfl
  (try simp only [Act.put, List.setIfInBounds_toArray, List.set_cons_zero, List.set_cons_succ])
  refine wpAnyH_take (i := 16) (v := ?_) rfl (by kernel_rfl) (by kernel_rfl) (by kernel_rfl) (fun _ _ _ h => h) (Or.inl ⟨by rfl, ?_⟩) (by assumption) ?_
  rotate_left
  · intro W hSw; (try dsimp only at hSw); clear hSw; go_simp; first | done | with_reducible rfl
  (try simp only [Act.put, List.setIfInBounds_toArray, List.set_cons_zero, List.set_cons_succ])
  refine wpAnyH_done (by kernel_rfl) ?_ _
  clear hHeld
  have s7 := (show w8_.cell? ⟨gs, 7, none⟩ = some (.int .i64 s.m.acc) from (blk_cell GS.out 7).trans rfl)
  have s13 := (show w8_.cell? ⟨gs, 13, none⟩ = some (.int .i64 s.m.earned) from (blk_cell GS.out 13).trans rfl)
  have f7 := frozen_of_row w8_ gs 7 _ _ GS.out
  have f13 := frozen_of_row w8_ gs 13 _ _ GS.out
  go_upto_region 10 with (fail)
  obtain ⟨w9_, hw9⟩ : ∃ x, (w8_.setCell ⟨gs, 7, none⟩ (.int .i64 (s.m.acc + v))).setCell ⟨gs, 13, none⟩ (.int .i64 (s.m.earned + v)) = x := ⟨_, rfl⟩
  have GS9 := Aside0.mk (show w9_.heap[gs]? = some (.cells (scs { s with m := { s.m with acc := s.m.acc + v, earned := s.m.earned + v } } L lc D dc) 33 (0, 0)) by rw [← hw9]; exact blk_set (blk_set GS.out 7 _) 13 _)
  have GR9 := Aside0.mk (show w9_.heap[gr]? = some (.cells (scs zeroS none 0 none 0) 33 (0, 0)) by rw [← hw9]; exact blk_far (blk_far GR.out (Ne.symm gsr) _) (Ne.symm gsr) _)
  have HB9 := Aside0.mk (show Below w.heap.size w w9_ by rw [← hw9]; exact Below.setCell (Below.setCell HB.out gsge _) gsge _)
  rw [hw9]
  clear hw9 s7 s13 f7 f13 GP GS GR HB
  have s9 := (show w9_.cell? ⟨gs, 9, none⟩ = some (.int .i64 s.m.pen) from (blk_cell GS9.out 9).trans rfl)
  have s14 := (show w9_.cell? ⟨gs, 14, none⟩ = some (.int .i64 s.m.fined) from (blk_cell GS9.out 14).trans rfl)
  have f9 := frozen_of_row w9_ gs 9 _ _ GS9.out
  have f14 := frozen_of_row w9_ gs 14 _ _ GS9.out
  go_upto_region 11 with (fail)
  obtain ⟨w10_, hw10⟩ : ∃ x, (w9_.setCell ⟨gs, 9, none⟩ (.int .i64 (s.m.pen + v2))).setCell ⟨gs, 14, none⟩ (.int .i64 (s.m.fined + v2)) = x := ⟨_, rfl⟩
  have GS10 := Aside0.mk (show w10_.heap[gs]? = some (.cells (scs (sN1 s v v2) L lc D dc) 33 (0, 0)) by rw [← hw10]; exact blk_set (blk_set GS9.out 9 _) 14 _)
  have GR10 := Aside0.mk (show w10_.heap[gr]? = some (.cells (scs zeroS none 0 none 0) 33 (0, 0)) by rw [← hw10]; exact blk_far (blk_far GR9.out (Ne.symm gsr) _) (Ne.symm gsr) _)
  have HB10 := Aside0.mk (show Below w.heap.size w w10_ by rw [← hw10]; exact Below.setCell (Below.setCell HB9.out gsge _) gsge _)
  rw [hw10]
  clear hw10 s9 s14 f9 f14 GS9 GR9 HB9
  have s0 := (show w10_.cell? ⟨gs, 0, none⟩ = some (.int .i64 s.day) from (blk_cell GS10.out 0).trans rfl)
  have s17 := (show w10_.cell? ⟨gs, 17, none⟩ = some (.int .i64 s.residue) from (blk_cell GS10.out 17).trans rfl)
  have s18 := (show w10_.cell? ⟨gs, 18, none⟩ = some (.int .i64 s.fine) from (blk_cell GS10.out 18).trans rfl)
  have f0 := frozen_of_row w10_ gs 0 _ _ GS10.out
  have f17 := frozen_of_row w10_ gs 17 _ _ GS10.out
  have f18 := frozen_of_row w10_ gs 18 _ _ GS10.out
  go_upto_region 12 with (fail)
  obtain ⟨w11_, hw11⟩ : ∃ x, ((w10_.setCell ⟨gs, 17, none⟩ (.int .i64 r2)).setCell ⟨gs, 18, none⟩ (.int .i64 r4)).setCell ⟨gs, 0, none⟩ (.int .i64 (s.day + 1)) = x := ⟨_, rfl⟩
  have GS := Aside0.mk (show w11_.heap[gs]? = some (.cells (scs (sN s 1 v v2 r2 r4) L lc D dc) 33 (0, 0)) by rw [← hw11]; exact blk_set (blk_set (blk_set GS10.out 17 _) 18 _) 0 _)
  have GR := Aside0.mk (show w11_.heap[gr]? = some (.cells (scs zeroS none 0 none 0) 33 (0, 0)) by rw [← hw11]; exact blk_far (blk_far (blk_far GR10.out (Ne.symm gsr) _) (Ne.symm gsr) _) (Ne.symm gsr) _)
  have HB := Aside0.mk (show Below w.heap.size w w11_ by rw [← hw11]; exact Below.setCell (Below.setCell (Below.setCell HB10.out gsge _) gsge _) gsge _)
  rw [hw11]
  clear hw11 s0 s17 s18 f0 f17 f18 GS10 GR10 HB10
  go_wp2_with (first
    | ((with_reducible refine gate_dst (N := 97) rfl ?_); refine wpList_load_mid rfl 31 (.tmp 96) rfl gs 6 ?hx (mcs (mN s.m v v2) D dc).toList _ (mny_range (s := (sN s 1 v v2 r2 r4)) GS.out) Tryz.underlying31 rfl info_mny ?_; (case hx => first | rfl | (go_simp; done) | (go_simp; rfl)))
    | (go_at_call 21; (with_reducible refine (RM.out _ HB.out).mono ?_); rintro e w12_ ⟨rfl, hb⟩; have GS := Aside0.mk (Pd.blk_below GS.out hb); have GR := Aside0.mk (Pd.blk_below GR.out hb); have HB := Aside0.mk (below_step HB.out hb); clear hb)
    | ((with_reducible refine gate_dst (N := 101) rfl ?_); refine wpList_load_row rfl 33 (.tmp 3) rfl gs rfl 33 _ (0, 0) _ GS.out Tryz.underlying33 rfl info_state ?_)
    | (go_at_call 22; have grlt := blk_lt GR.out; have y3s := HB.out.size; (with_reducible refine (CPY.out _ HB.out).mono ?_); rintro e w13_ ⟨L2, lc2, D2, dc2, rfl, hst, hb, hli⟩; have ST := Aside0.mk hst; have LI := Aside0.mk hli; have GR := Aside0.mk (Pd.blk_below GR.out hb); have HB := Aside0.mk (below_step HB.out hb); clear hb hst hli GS CPY)
    | ((with_reducible refine gate_store (t := 33) (p := 4) rfl ?_); refine row_event rfl (t := 33) (p := 4) (v := .tmp 102) rfl rfl (g := gr) (cs := scs (sN s 1 v v2 r2 r4) L2 lc2 D2 dc2) (zs := scs zeroS none 0 none 0) rfl rfl GR.out info_state rfl (by simp [Value.oneCell']) ?_; intro wz_ hb1 hbut; have GR1 := Aside0.mk hb1; have HB1 := Aside0.mk (But.below HB.out HB.out.size grge hbut); have BU := Aside0.mk hbut; clear hb1 hbut))
  exact bodyPost_ret (v := .tuple #[sv (sN s 1 v v2 r2 r4) L2 lc2 D2 dc2, .int .i64 0]) (results_mix (p := 4) (q := 5) GR1.out Tryz.results10 _ rfl rfl) rfl ⟨L2, lc2, D2, dc2, rfl, st_but BU.out ST.out LI.out grlt, HB1.out, LI.out.mono y3s⟩
theorem rnight_any (P : Pm.Prod) (A1 : Option Addr) (c1 : Nat) (A2 : Option Addr) (c2 : Nat) (A3 : Option Addr) (c3 : Nat) (s : St) (L : Option Addr) (lc : Nat) (D : Option Addr) (dc : Nat) (w : World) (hp : ProdAt w P A1 c1 A2 c2 A3 c3) (hh : Held P) (hst : StAt w s L lc D dc) : Calls Tryz.prog 10 #[pv P A1 c1 A2 c2 A3 c3, sv s L lc D dc] w (Handed w (nightsP P s 1)) := by
  by_cases he : mayE P s = 0
  · obtain ⟨he0, k1, k2, k3, k4, k5, k6, k7⟩ := mayE_zero he
    rw [nightsP_in he (by omega) (by omega)]
    obtain ⟨⟨v, cd, r2⟩, hz1⟩ : ∃ x, Gm.bear (Gm.whole P.count) (Gm.half P.count P.round) s.residue s.m.p s.rate (place P.count (s.day + 1) - place P.count s.day) = x := ⟨_, rfl⟩
    obtain ⟨⟨v2, cd2, r4⟩, hz2⟩ : ∃ x, Gm.bear (Gm.whole P.count) (Gm.half P.count P.round) s.fine (owedP s.m) P.penalty (place P.count (s.day + 1) - place P.count s.day) = x := ⟨_, rfl⟩
    have e0 : nightsB P s 1 = if cd ≠ 0 then (zeroS, 3) else if cd2 ≠ 0 then (zeroS, 3) else if (readM (mN s.m v v2)).isSome = true then ((sN s 1 v v2 r2 r4), 0) else (zeroS, 3) := by
      unfold nightsB
      rw [hz1, hz2]
    rw [e0]
    by_cases h1 : cd = 0
    · rw [if_neg (fun h => h h1)]
      by_cases h2 : cd2 = 0
      · rw [if_neg (fun h => h h2)]
        have hb1 := bear_ok (W := Gm.whole P.count) (h := Gm.half P.count P.round) (rest := s.residue) (bal := s.m.p) (rate := s.rate) (n := place P.count (s.day + 1) - place P.count s.day) (by rw [hz1]; exact h1)
        have hb2 := bear_ok (W := Gm.whole P.count) (h := Gm.half P.count P.round) (rest := s.fine) (bal := owedP s.m) (rate := P.penalty) (n := place P.count (s.day + 1) - place P.count s.day) (by rw [hz2]; exact h2)
        obtain ⟨x, y, ex, xm, xe, -, xmay⟩ := hb1
        obtain ⟨x2, y2, ex2, xm2, xe2, -, xmay2⟩ := hb2
        rw [hz1] at ex
        rw [hz2] at ex2
        obtain ⟨rfl, -⟩ := Prod.mk.inj ex
        obtain ⟨rfl, -⟩ := Prod.mk.inj ex2
        have hW := Gm.whole_bd P.count
        have f1 : 0 ≤ v := by
          rw [xe]
          exact (Gm.step (by omega) (Int.mul_nonneg (Int.mul_nonneg xmay.1 xmay.2.2.1) xmay.2.2.2.2.1) (restOk_bd k1).1).1
        have f2 : 0 ≤ v2 := by
          rw [xe2]
          exact (Gm.step (by omega) (Int.mul_nonneg (Int.mul_nonneg xmay2.1 xmay2.2.2.1) xmay2.2.2.2.2.1) (restOk_bd k2).1).1
        have hf := readM_flat k5
        simp only [Mny.flat, List.mem_cons, List.not_mem_nil, or_false, forall_eq_or_imp, forall_eq] at hf
        have hw : (0 ≤ s.m.acc + v ∧ s.m.acc + v ≤ 2000000000000000) ∧ (0 ≤ s.m.earned + v ∧ s.m.earned + v ≤ 2000000000000000) ∧ (0 ≤ s.m.pen + v2 ∧ s.m.pen + v2 ≤ 2000000000000000) ∧ (0 ≤ s.m.fined + v2 ∧ s.m.fined + v2 ≤ 2000000000000000) := by omega
        cases hR : (readM (mN s.m v v2)).isSome with
        | false =>
          rw [if_neg (by simp)]
          exact rnight_wrong P A1 c1 A2 c2 A3 c3 s L lc D dc w hp hh hst he v cd r2 v2 cd2 r4 hz1 hz2 h1 h2 hw hR
        | true =>
          rw [if_pos rfl]
          exact rnight_right P A1 c1 A2 c2 A3 c3 s L lc D dc w hp hh hst he v cd r2 v2 cd2 r4 hz1 hz2 h1 h2 hw hR
      · rw [if_pos h2]
        exact rnight_range P A1 c1 A2 c2 A3 c3 s L lc D dc w hp hh hst he v cd r2 v2 cd2 r4 hz1 hz2 (Or.inr ⟨h1, h2⟩)
    · rw [if_pos h1]
      exact rnight_range P A1 c1 A2 c2 A3 c3 s L lc D dc w hp hh hst he v cd r2 v2 cd2 r4 hz1 hz2 (Or.inl h1)
  · have e0 : nightsP P s 1 = (zeroS, mayE P s) := by unfold nightsP; rw [if_pos he]
    rw [e0]
    exact rnight_look P A1 c1 A2 c2 A3 c3 s L lc D dc w hp hh hst he
end Go.Proofs.YtbbbjjfecblhpaaGreat.Nt
/- The statements of layer 20: awake. -/
namespace Go.Proofs.YtbbbjjfecblhpaaGreat.Nt
open Go.RowKit Go.Proofs.YtbbbjjfecblhpaaGreatW.PrintWords Go.Proofs.YtbbbjjfecblhpaaGreatW.PrintLast Go.Proofs.YtbbbjjfecblhpaaGreatW.PrintMore Go.Proofs.YtbbbjjfecblhpaaGreat.HW
open Go.Proofs.YtbbbjjfecblhpaaGreat.Math Go.Proofs.YtbbbjjfecblhpaaGreat.H Go.Proofs.YtbbbjjfecblhpaaGreat.Pd Go.Proofs.YtbbbjjfecblhpaaGreat.Du Go.Proofs.YtbbbjjfecblhpaaGreat.Lv Pm
set_option linter.unusedVariables false
set_option linter.unusedSimpArgs false
attribute [local go_sem] max2_int min2_int max_two min_two
abbrev awS : St := { zeroS with day := 5, rate := 1000000000, m := { zeroM with p := 365, cash := -365 } }
abbrev awP : Pm.Prod := { plainP with rate := 1000000000 }
theorem aw_run : (nightsP awP awS 1).2 = 0 ∧ (nightsP awP awS 1).1.day = 6 ∧ (nightsP awP awS 1).1.m.acc = 1 ∧ (nightsP awP awS 1).1.m.earned = 1 := by decide +kernel
theorem st_nil (s : St) (w : World) (h1 : s.plan = []) (h2 : s.m.dues = []) : StAt w s none 0 none 0 :=
  ⟨by rw [h1]; exact Kd.C_of_reads (d := (0 : Int)) ⟨rfl, by simp, fun h => absurd h (by simp)⟩, by rw [h1]; exact Nat.le_refl _, fun _ => rfl, by rw [h1]; simp, ⟨fun r hr => by rw [h2] at hr; simp at hr, fun i r h => by rw [h2] at h; simp at h⟩, by rw [h2]; exact Nat.le_refl _, fun _ => rfl, by rw [h2]; simp⟩
set_option maxRecDepth 100000 in
set_option maxHeartbeats 8000000 in
theorem night_awake (w : World) (hg : GV w) : Calls Tryz.prog 5 #[] w fun e w' => e = .returned (.bool true) ∧ Below w.heap.size w w' := by
  have NS := Aside0.mk (fun (W : World) (hb : Below w.heap.size w W) => Night_any awP none 0 none 0 none 0 awS none 0 none 0 W (nilAt rfl rfl rfl) ⟨by decide, by decide, by decide, by decide⟩ (hg.below hb) (st_nil awS W rfl rfl))
  obtain ⟨r1, r2, r3, r4⟩ := aw_run
  obtain ⟨⟨x, c⟩, hx⟩ : ∃ x, nightsP awP awS 1 = x := ⟨_, rfl⟩
  rw [hx] at NS r1 r2 r3 r4
  simp only at r1 r2 r3 r4
  subst r1
  clear hx hg
  go_enter Tryz.func5, Tryz.ntmps5
  go_wp2_with (first
    | (go_at_call 14; (with_reducible refine (plain_any _).mono ?_); rintro e w0 ⟨rfl, hb⟩; have HB := Aside0.mk hb; clear hb)
    | ((with_reducible refine gate_dst (N := 1) rfl ?_); refine copy_event rfl (N := 1) rfl rfl rfl (t := 27) (v := .tmp 4) rfl (cs := pcs plainP none 0 none 0 none 0) (zs := pzs) ?hr rfl rfl info_prod ?hz (pcs_one _ _ _ _ _ _ _) ?_; (case hr => first | (go_simp; done) | (go_simp; rfl)); (case hz => rfl); intro g hg w1 hb1 hbl1; have gge := (show w.heap.size ≤ g by rw [hg]; exact HB.out.size); have HB := Aside0.mk (below_step HB.out hbl1); have GG := Aside0.mk hb1; clear hg hb1 hbl1; have u7 : w1.cell? ⟨g, 7, none⟩ = some (.int .i64 _) := (blk_cell GG.out 7).trans rfl; have f7 := frozen_of_row w1 g 7 _ _ GG.out)
    | ((with_reducible refine gate_store (t := 2) (p := 5) rfl ?_); refine put_event rfl (t := 2) (p := 5) (v := (.const (.int .i64 1000000000))) rfl rfl (g := g) (i := 7) (cs := pcs plainP none 0 none 0 none 0) (cs' := pcs awP none 0 none 0 none 0) (x := .int .i64 1000000000) ?hr GG.out ?hc ?_; (case hc => rfl); (case hr => go_simp); intro w2 hb8 hbut; have GG := Aside0.mk hb8; have HB := Aside0.mk (But.below HB.out HB.out.size gge hbut); clear hbut; clear hb8)
    | ((with_reducible refine gate_dst (N := 7) rfl ?_); refine wpList_load_row rfl 27 (.tmp 1) rfl g rfl 27 _ (0, 0) _ GG.out Tryz.underlying27 rfl info_prod ?_)
    | ((with_reducible refine gate_dst (N := 8) rfl ?_); refine build_event rfl (t := 31) rfl (cs := mcs awS.m none 0) ?hb ?_; (case hb => simp only [List.map_toArray, List.map_cons, List.map_nil]; kernel_rfl))
    | ((with_reducible refine gate_dst (N := 9) rfl ?_); refine build_event rfl (t := 33) rfl (cs := scs awS none 0 none 0) ?hb ?_; (case hb => simp only [List.map_toArray, List.map_cons, List.map_nil]; kernel_rfl))
    | (go_at_call 9; (with_reducible refine (NS.out _ HB.out).mono ?_); rintro e w3 ⟨L2, lc2, D2, dc2, rfl, -, hb, -⟩; have HB := Aside0.mk (below_step HB.out hb); clear hb GG NS)
    | ((with_reducible refine gate_dst (N := 2) rfl ?_); refine copy_event rfl (N := 2) rfl rfl rfl (t := 33) (v := .tmp 11) rfl (cs := scs x L2 lc2 D2 dc2) (zs := scs zeroS none 0 none 0) ?hr rfl rfl info_state ?hz (by simp [Value.oneCell']) ?_; (case hr => first | (go_simp; done) | (go_simp; rfl)); (case hz => rfl); intro g2 hg w4 hb1 hbl1; have HB := Aside0.mk (below_step HB.out hbl1); have GG := Aside0.mk hb1; clear hg hb1 hbl1; refine Hid.out ?_))
  refine Lib.hid ?_
  have k0 := (show w4.cell? ⟨g2, 0, none⟩ = some (.int .i64 6) from (blk_cell GG.out 0).trans (by rw [← r2]; rfl))
  have k7 := (show w4.cell? ⟨g2, 7, none⟩ = some (.int .i64 1) from (blk_cell GG.out 7).trans (by rw [← r3]; rfl))
  have k13 := (show w4.cell? ⟨g2, 13, none⟩ = some (.int .i64 1) from (blk_cell GG.out 13).trans (by rw [← r4]; rfl))
  go_wp2
  go_ret
  exact ⟨rfl, HB.out⟩
end Go.Proofs.YtbbbjjfecblhpaaGreat.Nt
/- The statements of layer 20: few. -/
namespace Go.Proofs.YtbbbjjfecblhpaaGreat.Nt
open Go.RowKit Go.Proofs.YtbbbjjfecblhpaaGreatW.PrintWords Go.Proofs.YtbbbjjfecblhpaaGreatW.PrintLast Go.Proofs.YtbbbjjfecblhpaaGreatW.PrintMore Go.Proofs.YtbbbjjfecblhpaaGreat.HW
open Go.Proofs.YtbbbjjfecblhpaaGreat.Math Go.Proofs.YtbbbjjfecblhpaaGreat.H Go.Proofs.YtbbbjjfecblhpaaGreat.Pd Go.Proofs.YtbbbjjfecblhpaaGreat.Du Go.Proofs.YtbbbjjfecblhpaaGreat.Lv Pm
set_option linter.unusedVariables false
set_option linter.unusedSimpArgs false
attribute [local go_sem] max2_int min2_int max_two min_two
/-- Not too much. -/
def fewP (p : Pm.Prod) (s : St) : Prop := p.name.size ≤ 100 ∧ p.resets.length ≤ 50 ∧ p.late.length ≤ 50 ∧ p.hol.length ≤ 300 ∧ s.m.dues.length ≤ 30 ∧ s.plan.length ≤ 100
instance (p : Pm.Prod) (s : St) : Decidable (fewP p s) := by unfold fewP; exact inferInstance
set_option maxRecDepth 100000 in
set_option maxHeartbeats 8000000 in
theorem few_any (p : Pm.Prod) (A1 : Option Addr) (c1 : Nat) (A2 : Option Addr) (c2 : Nat) (A3 : Option Addr) (c3 : Nat) (s : St) (L : Option Addr) (lc : Nat) (D : Option Addr) (dc : Nat) (w : World) :
    Calls Tryz.prog 4 #[pv p A1 c1 A2 c2 A3 c3, sv s L lc D dc] w fun e w' => e = .returned (.bool (decide (fewP p s))) ∧ Below w.heap.size w w' := by
  obtain ⟨b, hb⟩ : ∃ b, decide (fewP p s) = b := ⟨_, rfl⟩
  rw [hb]
  have h : decide ((p.name.size : Int) ≤ 100) = false ∧ b = false ∨ decide ((p.name.size : Int) ≤ 100) = true ∧ decide ((p.resets.length : Int) ≤ 50) = false ∧ b = false ∨ decide ((p.name.size : Int) ≤ 100) = true ∧ decide ((p.resets.length : Int) ≤ 50) = true ∧ decide ((p.late.length : Int) ≤ 50) = false ∧ b = false ∨ decide ((p.name.size : Int) ≤ 100) = true ∧ decide ((p.resets.length : Int) ≤ 50) = true ∧ decide ((p.late.length : Int) ≤ 50) = true ∧ decide ((p.hol.length : Int) ≤ 300) = false ∧ b = false ∨ decide ((p.name.size : Int) ≤ 100) = true ∧ decide ((p.resets.length : Int) ≤ 50) = true ∧ decide ((p.late.length : Int) ≤ 50) = true ∧ decide ((p.hol.length : Int) ≤ 300) = true ∧ decide ((s.m.dues.length : Int) ≤ 30) = false ∧ b = false ∨ decide ((p.name.size : Int) ≤ 100) = true ∧ decide ((p.resets.length : Int) ≤ 50) = true ∧ decide ((p.late.length : Int) ≤ 50) = true ∧ decide ((p.hol.length : Int) ≤ 300) = true ∧ decide ((s.m.dues.length : Int) ≤ 30) = true ∧ decide ((s.plan.length : Int) ≤ 100) = false ∧ b = false ∨ decide ((p.name.size : Int) ≤ 100) = true ∧ decide ((p.resets.length : Int) ≤ 50) = true ∧ decide ((p.late.length : Int) ≤ 50) = true ∧ decide ((p.hol.length : Int) ≤ 300) = true ∧ decide ((s.m.dues.length : Int) ≤ 30) = true ∧ decide ((s.plan.length : Int) ≤ 100) = true ∧ b = true := by
    subst hb
    by_cases h0 : (p.name.size : Int) ≤ 100
    rotate_left
    · exact Or.inl ⟨decide_eq_false h0, decide_eq_false (fun g => by unfold fewP at g; omega)⟩
    by_cases h1 : (p.resets.length : Int) ≤ 50
    rotate_left
    · exact Or.inr (Or.inl ⟨decide_eq_true h0, decide_eq_false h1, decide_eq_false (fun g => by unfold fewP at g; omega)⟩)
    by_cases h2 : (p.late.length : Int) ≤ 50
    rotate_left
    · exact Or.inr (Or.inr (Or.inl ⟨decide_eq_true h0, decide_eq_true h1, decide_eq_false h2, decide_eq_false (fun g => by unfold fewP at g; omega)⟩))
    by_cases h3 : (p.hol.length : Int) ≤ 300
    rotate_left
    · exact Or.inr (Or.inr (Or.inr (Or.inl ⟨decide_eq_true h0, decide_eq_true h1, decide_eq_true h2, decide_eq_false h3, decide_eq_false (fun g => by unfold fewP at g; omega)⟩)))
    by_cases h4 : (s.m.dues.length : Int) ≤ 30
    rotate_left
    · exact Or.inr (Or.inr (Or.inr (Or.inr (Or.inl ⟨decide_eq_true h0, decide_eq_true h1, decide_eq_true h2, decide_eq_true h3, decide_eq_false h4, decide_eq_false (fun g => by unfold fewP at g; omega)⟩))))
    by_cases h5 : (s.plan.length : Int) ≤ 100
    rotate_left
    · exact Or.inr (Or.inr (Or.inr (Or.inr (Or.inr (Or.inl ⟨decide_eq_true h0, decide_eq_true h1, decide_eq_true h2, decide_eq_true h3, decide_eq_true h4, decide_eq_false h5, decide_eq_false (fun g => by unfold fewP at g; omega)⟩)))))
    exact Or.inr (Or.inr (Or.inr (Or.inr (Or.inr (Or.inr (⟨decide_eq_true h0, decide_eq_true h1, decide_eq_true h2, decide_eq_true h3, decide_eq_true h4, decide_eq_true h5, decide_eq_true (by unfold fewP; omega)⟩))))))
  clear hb
  rcases h with ⟨k0, rfl⟩ | ⟨k0, k1, rfl⟩ | ⟨k0, k1, k2, rfl⟩ | ⟨k0, k1, k2, k3, rfl⟩ | ⟨k0, k1, k2, k3, k4, rfl⟩ | ⟨k0, k1, k2, k3, k4, k5, rfl⟩ | ⟨k0, k1, k2, k3, k4, k5, rfl⟩
  all_goals
    go_enter Tryz.func4, Tryz.ntmps4
    go_wp2_with (first
      | ((with_reducible refine gate_dst (N := 2) rfl ?_); refine box_event ?hg (N := 2) ?hd (cs := pcs p A1 c1 A2 c2 A3 c3) (t := 27) ?hr ?_; (case hd => rfl); (case hg => rfl); (case hr => first | (go_simp; done) | (go_simp; rfl)); intro gp hg y2_ hb1 hb; clear hg; have GP := Aside0.mk hb1; have HB := Aside0.mk hb; clear hb1 hb)
      | ((with_reducible refine gate_dst (N := 3) rfl ?_); refine box_event ?hg (N := 3) ?hd (cs := scs s L lc D dc) (t := 33) ?hr ?_; (case hd => rfl); (case hg => rfl); (case hr => first | (go_simp; done) | (go_simp; rfl)); intro gs hg y3_ hb1 hb; clear hg; have GS := Aside0.mk hb1; have GP := Aside0.mk (Pd.blk_below GP.out hb); have HB := Aside0.mk (below_step HB.out hb); clear hb1 hb; refine Hid.out ?_))
    refine Lib.hid ?_
    have u0 := (show y3_.cell? ⟨gp, 0, none⟩ = some (.string p.name) from (blk_cell GP.out 0).trans rfl)
    have u8 := (show y3_.cell? ⟨gp, 8, none⟩ = some (.slice A1 p.resets.length c1) from (blk_cell GP.out 8).trans rfl)
    have u15 := (show y3_.cell? ⟨gp, 15, none⟩ = some (.slice A2 p.late.length c2) from (blk_cell GP.out 15).trans rfl)
    have u18 := (show y3_.cell? ⟨gp, 18, none⟩ = some (.slice A3 p.hol.length c3) from (blk_cell GP.out 18).trans rfl)
    have s8 := (show y3_.cell? ⟨gs, 8, none⟩ = some (.slice D s.m.dues.length dc) from (blk_cell GS.out 8).trans rfl)
    have s3 := (show y3_.cell? ⟨gs, 3, none⟩ = some (.slice L s.plan.length lc) from (blk_cell GS.out 3).trans rfl)
    go_wp2_with fail
    go_ret
    exact ⟨rfl, HB.out⟩
end Go.Proofs.YtbbbjjfecblhpaaGreat.Nt
/- Contracts by hand: two states that are alike. -/
namespace Go.Proofs.YtbbbjjfecblhpaaGreat.Nt
open Go.RowKit Go.Proofs.YtbbbjjfecblhpaaGreatW.PrintWords Go.Proofs.YtbbbjjfecblhpaaGreatW.PrintLast Go.Proofs.YtbbbjjfecblhpaaGreatW.PrintMore Go.Proofs.YtbbbjjfecblhpaaGreat.HW
open Go.Proofs.YtbbbjjfecblhpaaGreat.Math Go.Proofs.YtbbbjjfecblhpaaGreat.H Go.Proofs.YtbbbjjfecblhpaaGreat.Pd Go.Proofs.YtbbbjjfecblhpaaGreat.Du Go.Proofs.YtbbbjjfecblhpaaGreat.Lv Pm
set_option linter.unusedVariables false
set_option linter.unusedSimpArgs false
attribute [local go_sem] max2_int min2_int max_two min_two
theorem info_due4 : (Tryz.prog.info? 39).map (·.size) = some 4 := by kernel_rfl
set_option maxRecDepth 100000 in
set_option maxHeartbeats 1000000 in
theorem plainD1 (a b c d : Int) (w : World) : Calls Tryz.prog 50 #[.agg #[.int .i64 a, .int .i64 b, .int .i64 c, .int .i64 d], .agg #[.int .i64 a, .int .i64 b, .int .i64 c, .int .i64 d]] w fun e w' => e = .returned (.bool true) ∧ Below w.heap.size w w' := by
  go_enter Tryz.func50, Tryz.ntmps50
  go_wp2_with (first
    | ((with_reducible refine gate_dst (N := 2) rfl ?_); refine box_event ?hg (N := 2) ?hd (cs := #[.int .i64 a, .int .i64 b, .int .i64 c, .int .i64 d]) (t := 39) ?hr ?_; (case hd => rfl); (case hg => rfl); (case hr => first | (go_simp; done) | (go_simp; rfl)); intro g2 hg w1 hb1 hbl1; clear hg; have HB2 := Aside0.mk hb1; have BL1 := Aside0.mk hbl1; clear hb1 hbl1)
    | ((with_reducible refine gate_dst (N := 3) rfl ?_); refine box_event ?hg (N := 3) ?hd (cs := #[.int .i64 a, .int .i64 b, .int .i64 c, .int .i64 d]) (t := 39) ?hr ?_; (case hd => rfl); (case hg => rfl); (case hr => first | (go_simp; done) | (go_simp; rfl)); intro g3 hg w2 hb1 hbl1; clear hg; have HB3 := Aside0.mk hb1; have HB22 := Aside0.mk (Pd.blk_below HB2.out hbl1); have BL2 := Aside0.mk (below_step BL1.out hbl1); clear hb1 hbl1)
    | ((with_reducible refine gate_dst (N := 5) rfl ?_); refine wpList_load_row rfl 39 (.tmp 2) rfl g2 rfl 39 _ (0, 0) _ HB22.out Tryz.underlying39 rfl info_due4 ?_)
    | ((with_reducible refine gate_dst (N := 6) rfl ?_); refine wpList_load_row rfl 39 (.tmp 3) rfl g3 rfl 39 _ (0, 0) _ HB3.out Tryz.underlying39 rfl info_due4 ?_))
  go_ret
  exact ⟨by simp, BL2.out⟩
set_option maxRecDepth 100000 in
set_option maxHeartbeats 1000000 in
theorem sameD (A0 A1 : Option Addr) (c0 c1 : Nat) (rows : List (List Int)) (w : World) (hr0 : Op.IntRows w A0 4 rows) (hr1 : Op.IntRows w A1 4 rows) (hm : rows.length ≤ 1000000) :
    Calls Tryz.prog 49 #[.slice A0 rows.length c0, .slice A1 rows.length c1, .func (.func 50) #[] #[]] w fun e w' => e = .returned (.bool true) ∧ Below w.heap.size w w' := by
  have HR0 := Aside0.mk hr0
  have HR1 := Aside0.mk hr1
  clear hr0 hr1
  go_enter Tryz.func49, Tryz.ntmps49
  go_wp2_with fail
  go_loopg [7] (rows.length + 1) (fun gq iv w' => ∃ (k : Nat), k ≤ rows.length ∧ iv = .int .i64 (k : Int) ∧ Aside0 (gq = rows.length + 1 - k) ∧ Aside0 (Below w.heap.size w w'))
  case atStart => exact ⟨0, Nat.zero_le _, rfl, ⟨rfl⟩, ⟨Below.refl _ _⟩⟩
  case round =>
    obtain ⟨k, hk, rfl, hgq, hbl⟩ := hrel
    by_cases hlt : k < rows.length
    · obtain ⟨ad0, n, d, i, q, e0, hrow, p0, p1, p2, p3, -⟩ := four_at (HR0.out.below hbl.out) k hlt
      obtain ⟨ad1, n', d', i', q', e1, hrow', s0, s1, s2, s3, -⟩ := four_at (HR1.out.below hbl.out) k hlt
      obtain ⟨rfl, rfl, rfl, rfl⟩ : n = n' ∧ d = d' ∧ i = i' ∧ q = q' := by
        have h := hrow.symm.trans hrow'
        simpa using h
      subst e0 e1
      have kk0 : (0 : Int) ≤ (k : Int) := by omega
      have kk1 : (k : Int) < (rows.length : Int) := by omega
      clear hrow hrow'
      go_wp2_with fail
      go_still_tail 9, (by kernel_rfl)
      go_wp2_with ((go_at_call 50; refine (plainD1 n d i q _).mono ?_; rintro e v1 ⟨rfl, hb⟩; have B1 := Aside0.mk (below_step (by first | exact pw_below_drewN hbl.out _ | exact Below.drew hbl.out | exact hbl.out) hb); clear hb))
      go_roundg (rows.length + 1 - (k + 1))
      case measure => have := hgq.out; omega
      case rel => exact ⟨k + 1, by omega, by simp, ⟨rfl⟩, B1⟩
    · have hk2 : k = rows.length := by omega
      subst hk2
      go_wp2_with fail
      go_ret
      exact ⟨rfl, hbl.out⟩
set_option maxRecDepth 100000 in
set_option maxHeartbeats 1000000 in
theorem plainD (A0 A1 : Option Addr) (c0 c1 : Nat) (rows : List (List Int)) (w : World) (hr0 : Op.IntRows w A0 4 rows) (hr1 : Op.IntRows w A1 4 rows) (hm : rows.length ≤ 1000000) :
    Calls Tryz.prog 25 #[.slice A0 rows.length c0, .slice A1 rows.length c1] w fun e w' => e = .returned (.bool true) ∧ Below w.heap.size w w' := by
  have HR0 := Aside0.mk hr0
  have HR1 := Aside0.mk hr1
  clear hr0 hr1
  go_enter Tryz.func25, Tryz.ntmps25
  go_wp2_with fail
  refine (sameD A0 A1 c0 c1 rows _ HR0.out HR1.out hm).mono ?_
  rintro e v1 ⟨rfl, hb⟩
  have B1 := Aside0.mk hb
  clear hb
  go_wp2_with fail
  go_ret
  exact ⟨rfl, B1.out⟩
set_option maxRecDepth 100000 in
set_option maxHeartbeats 8000000 in
theorem sameM (m : Mny) (D : Option Addr) (dc : Nat) (D2 : Option Addr) (dc2 : Nat) (w : World) (h1 : Op.IntRows w D 4 m.dues) (h2 : Op.IntRows w D2 4 m.dues) (hm : m.dues.length ≤ 1000000) :
    Calls Tryz.prog 24 #[mv m D dc, mv m D2 dc2] w fun e w' => e = .returned (.bool true) ∧ Below w.heap.size w w' := by
  have PD := Aside0.mk (fun (W : World) (hb : Below w.heap.size w W) => plainD D D2 dc dc2 m.dues W (h1.below hb) (h2.below hb) hm)
  clear h1 h2 hm
  go_enter Tryz.func24, Tryz.ntmps24
  go_wp2_with (first
    | ((with_reducible refine gate_dst (N := 2) rfl ?_); refine box_event ?hg (N := 2) ?hd (cs := mcs m D dc) (t := 31) ?hr ?_; (case hd => rfl); (case hg => rfl); (case hr => first | (go_simp; done) | (go_simp; rfl)); intro ga hg y2_ hb1 hb; clear hg; have GA := Aside0.mk hb1; have HB := Aside0.mk hb; clear hb1 hb)
    | ((with_reducible refine gate_dst (N := 3) rfl ?_); refine box_event ?hg (N := 3) ?hd (cs := mcs m D2 dc2) (t := 31) ?hr ?_; (case hd => rfl); (case hg => rfl); (case hr => first | (go_simp; done) | (go_simp; rfl)); intro gb hg y3_ hb1 hb; clear hg; have GB := Aside0.mk hb1; have GA := Aside0.mk (Pd.blk_below GA.out hb); have HB := Aside0.mk (below_step HB.out hb); clear hb1 hb; refine Hid.out ?_))
  refine Lib.hid ?_
  have a0 := (show y3_.cell? ⟨ga, 0, none⟩ = some (.int .i64 m.p) from (blk_cell GA.out 0).trans rfl)
  have b0 := (show y3_.cell? ⟨gb, 0, none⟩ = some (.int .i64 m.p) from (blk_cell GB.out 0).trans rfl)
  have a1 := (show y3_.cell? ⟨ga, 1, none⟩ = some (.int .i64 m.acc) from (blk_cell GA.out 1).trans rfl)
  have b1 := (show y3_.cell? ⟨gb, 1, none⟩ = some (.int .i64 m.acc) from (blk_cell GB.out 1).trans rfl)
  have a2 := (show y3_.cell? ⟨ga, 2, none⟩ = some (.slice D m.dues.length dc) from (blk_cell GA.out 2).trans rfl)
  have b2 := (show y3_.cell? ⟨gb, 2, none⟩ = some (.slice D2 m.dues.length dc2) from (blk_cell GB.out 2).trans rfl)
  go_wp2_with (first
    | (go_at_call 25; (with_reducible refine (PD.out _ HB.out).mono ?_); rintro e y4_ ⟨rfl, hb⟩; have GA := Aside0.mk (Pd.blk_below GA.out hb); have GB := Aside0.mk (Pd.blk_below GB.out hb); have HB := Aside0.mk (below_step HB.out hb); clear hb; clear a0 b0 a1 b1 a2 b2; have a3 := (show y4_.cell? ⟨ga, 3, none⟩ = some (.int .i64 m.pen) from (blk_cell GA.out 3).trans rfl); have b3 := (show y4_.cell? ⟨gb, 3, none⟩ = some (.int .i64 m.pen) from (blk_cell GB.out 3).trans rfl); have a4 := (show y4_.cell? ⟨ga, 4, none⟩ = some (.int .i64 m.fees) from (blk_cell GA.out 4).trans rfl); have b4 := (show y4_.cell? ⟨gb, 4, none⟩ = some (.int .i64 m.fees) from (blk_cell GB.out 4).trans rfl); have a5 := (show y4_.cell? ⟨ga, 5, none⟩ = some (.int .i64 m.un) from (blk_cell GA.out 5).trans rfl); have b5 := (show y4_.cell? ⟨gb, 5, none⟩ = some (.int .i64 m.un) from (blk_cell GB.out 5).trans rfl); have a6 := (show y4_.cell? ⟨ga, 6, none⟩ = some (.int .i64 m.cash) from (blk_cell GA.out 6).trans rfl); have b6 := (show y4_.cell? ⟨gb, 6, none⟩ = some (.int .i64 m.cash) from (blk_cell GB.out 6).trans rfl); have a7 := (show y4_.cell? ⟨ga, 7, none⟩ = some (.int .i64 m.earned) from (blk_cell GA.out 7).trans rfl); have b7 := (show y4_.cell? ⟨gb, 7, none⟩ = some (.int .i64 m.earned) from (blk_cell GB.out 7).trans rfl); have a8 := (show y4_.cell? ⟨ga, 8, none⟩ = some (.int .i64 m.fined) from (blk_cell GA.out 8).trans rfl); have b8 := (show y4_.cell? ⟨gb, 8, none⟩ = some (.int .i64 m.fined) from (blk_cell GB.out 8).trans rfl); have a9 := (show y4_.cell? ⟨ga, 9, none⟩ = some (.int .i64 m.charged) from (blk_cell GA.out 9).trans rfl); have b9 := (show y4_.cell? ⟨gb, 9, none⟩ = some (.int .i64 m.charged) from (blk_cell GB.out 9).trans rfl)))
  go_ret
  exact ⟨by simp, HB.out⟩
set_option maxRecDepth 100000 in
set_option maxHeartbeats 8000000 in
theorem sameS (s : St) (L : Option Addr) (lc : Nat) (D : Option Addr) (dc : Nat) (L2 : Option Addr) (lc2 : Nat) (D2 : Option Addr) (dc2 : Nat) (w : World) (h1 : StAt w s L lc D dc) (h2 : StAt w s L2 lc2 D2 dc2) :
    Calls Tryz.prog 11 #[sv s L lc D dc, sv s L2 lc2 D2 dc2] w fun e w' => e = .returned (.bool true) ∧ Below w.heap.size w w' := by
  have PL := Aside0.mk (fun (W : World) (hb : Below w.heap.size w W) => plain_sameL L L2 lc lc2 s.plan W (h1.below hb).plan h1.pc (h2.below hb).plan h2.pc h1.pl)
  have PM := Aside0.mk (fun (W : World) (hb : Below w.heap.size w W) => sameM s.m D dc D2 dc2 W (h1.below hb).rows (h2.below hb).rows h1.dl)
  clear h1 h2
  go_enter Tryz.func11, Tryz.ntmps11
  go_wp2_with (first
    | ((with_reducible refine gate_dst (N := 2) rfl ?_); refine box_event ?hg (N := 2) ?hd (cs := scs s L lc D dc) (t := 33) ?hr ?_; (case hd => rfl); (case hg => rfl); (case hr => first | (go_simp; done) | (go_simp; rfl)); intro ga hg y2_ hb1 hb; clear hg; have GA := Aside0.mk hb1; have HB := Aside0.mk hb; clear hb1 hb)
    | ((with_reducible refine gate_dst (N := 3) rfl ?_); refine box_event ?hg (N := 3) ?hd (cs := scs s L2 lc2 D2 dc2) (t := 33) ?hr ?_; (case hd => rfl); (case hg => rfl); (case hr => first | (go_simp; done) | (go_simp; rfl)); intro gb hg y3_ hb1 hb; clear hg; have GB := Aside0.mk hb1; have GA := Aside0.mk (Pd.blk_below GA.out hb); have HB := Aside0.mk (below_step HB.out hb); clear hb1 hb; refine Hid.out ?_))
  refine Lib.hid ?_
  have a0 := (show y3_.cell? ⟨ga, 0, none⟩ = some (.int .i64 s.day) from (blk_cell GA.out 0).trans rfl)
  have b0 := (show y3_.cell? ⟨gb, 0, none⟩ = some (.int .i64 s.day) from (blk_cell GB.out 0).trans rfl)
  have a1 := (show y3_.cell? ⟨ga, 1, none⟩ = some (.bool s.opn) from (blk_cell GA.out 1).trans rfl)
  have b1 := (show y3_.cell? ⟨gb, 1, none⟩ = some (.bool s.opn) from (blk_cell GB.out 1).trans rfl)
  have a2 := (show y3_.cell? ⟨ga, 2, none⟩ = some (.int .i64 s.start) from (blk_cell GA.out 2).trans rfl)
  have b2 := (show y3_.cell? ⟨gb, 2, none⟩ = some (.int .i64 s.start) from (blk_cell GB.out 2).trans rfl)
  have a3 := (show y3_.cell? ⟨ga, 3, none⟩ = some (.slice L s.plan.length lc) from (blk_cell GA.out 3).trans rfl)
  have b3 := (show y3_.cell? ⟨gb, 3, none⟩ = some (.slice L2 s.plan.length lc2) from (blk_cell GB.out 3).trans rfl)
  go_wp2_with (first
    | (go_at_call 23; (with_reducible refine (PL.out _ HB.out).mono ?_); rintro e y4_ ⟨rfl, hb⟩; have GA := Aside0.mk (Pd.blk_below GA.out hb); have GB := Aside0.mk (Pd.blk_below GB.out hb); have HB := Aside0.mk (below_step HB.out hb); clear hb; clear a0 b0 a1 b1 a2 b2 a3 b3; have a4 := (show y4_.cell? ⟨ga, 4, none⟩ = some (.int .i64 s.next) from (blk_cell GA.out 4).trans rfl); have b4 := (show y4_.cell? ⟨gb, 4, none⟩ = some (.int .i64 s.next) from (blk_cell GB.out 4).trans rfl); have a5 := (show y4_.cell? ⟨ga, 5, none⟩ = some (.int .i64 s.rate) from (blk_cell GA.out 5).trans rfl); have b5 := (show y4_.cell? ⟨gb, 5, none⟩ = some (.int .i64 s.rate) from (blk_cell GB.out 5).trans rfl))
    | ((with_reducible refine gate_dst (N := 47) rfl ?_); refine mid_want rfl 31 (.tmp 46) rfl ga 6 ?hx (mcs s.m D dc).toList _ (mny_range GA.out) Tryz.underlying31 rfl info_mny ?_; (case hx => first | rfl | (go_simp; done) | (go_simp; rfl)))
    | ((with_reducible refine gate_dst (N := 49) rfl ?_); refine mid_want rfl 31 (.tmp 48) rfl gb 6 ?hx (mcs s.m D2 dc2).toList _ (mny_range GB.out) Tryz.underlying31 rfl info_mny ?_; (case hx => first | rfl | (go_simp; done) | (go_simp; rfl)))
    | (go_at_call 24; (with_reducible refine (PM.out _ HB.out).mono ?_); rintro e y5_ ⟨rfl, hb⟩; have GA := Aside0.mk (Pd.blk_below GA.out hb); have GB := Aside0.mk (Pd.blk_below GB.out hb); have HB := Aside0.mk (below_step HB.out hb); clear hb; clear a4 b4 a5 b5; have a16 := (show y5_.cell? ⟨ga, 16, none⟩ = some (.int .i64 s.lateFees) from (blk_cell GA.out 16).trans rfl); have b16 := (show y5_.cell? ⟨gb, 16, none⟩ = some (.int .i64 s.lateFees) from (blk_cell GB.out 16).trans rfl); have a17 := (show y5_.cell? ⟨ga, 17, none⟩ = some (.int .i64 s.residue) from (blk_cell GA.out 17).trans rfl); have b17 := (show y5_.cell? ⟨gb, 17, none⟩ = some (.int .i64 s.residue) from (blk_cell GB.out 17).trans rfl); have a18 := (show y5_.cell? ⟨ga, 18, none⟩ = some (.int .i64 s.fine) from (blk_cell GA.out 18).trans rfl); have b18 := (show y5_.cell? ⟨gb, 18, none⟩ = some (.int .i64 s.fine) from (blk_cell GB.out 18).trans rfl)))
  go_ret
  exact ⟨by simp, HB.out⟩
end Go.Proofs.YtbbbjjfecblhpaaGreat.Nt
/- Arguments opened: a product. -/
namespace Go.Proofs.YtbbbjjfecblhpaaGreat.Pd
open Go.ChangeShapes Go.WideShapes Go.Deep Go.RowKit Go.Joins Go.ChangeAt Go.Proofs.YtbbbjjfecblhpaaGreatW.PrintWords Go.Proofs.YtbbbjjfecblhpaaGreat.Op
open Pm
set_option linter.unusedVariables false
set_option linter.unusedSimpArgs false
set_option linter.constructorNameAsVariable false
section
variable {H : Type} {enc : TypeId × Value → H} {P : Program} {w : World} {base : Nat} {spare : Nat → Bool} {held : Bool}
theorem open_rowsC {t e : TypeId} {fs : Array Field} {fuel : Nat} {x : Value} {y : DataW H × List MemPlace} (ht : P.underlying t = some (.slice e)) (he : P.underlying e = some (.struct fs))
    (hone : oneCellFields P fs = true) (hC : P.cellsOf e = fs.size) (hint : ∀ (j : Nat) (f : Field), fs[j]? = some f → P.underlying f.type = some (.int .i64)) (h : DataW.trod enc P w base spare held fuel t [x] = some y) :
    ∃ (A : Option Addr) (cap : Nat) (rows : List (List Int)), x = .slice A rows.length cap ∧ (A = none → cap = 0) ∧ rows.length ≤ cap ∧ cap ≤ maxLen ∧ IntRows w A fs.size rows := by
  have hx : ∃ A0 n0 c0, x = .slice A0 n0 c0 := by
    rcases open_slice ht h with ⟨h0, _⟩ | ⟨a, len, cap, m, n, D, Pl, h0, _⟩
    · simp at h0; exact ⟨_, _, _, h0⟩
    · simp at h0; exact ⟨_, _, _, h0⟩
  obtain ⟨A0, n0, c0, rfl⟩ := hx
  have hf : DataW.trod enc P w base spare held fuel t (Value.slice A0 n0 c0).cells.toList = some y := h
  rcases open_slice ht hf with ⟨h0, _⟩ | ⟨a, len, cap, m, n, D, Pl, hcs, hb, hl, hm, hmm, hx, hi⟩
  · simp [Value.cells] at h0
    obtain ⟨rfl, rfl, rfl⟩ := h0
    exact ⟨none, 0, [], rfl, fun _ => rfl, Nat.le_refl _, Nat.zero_le _, fun r hr => by simp at hr, fun i r h => by simp at h⟩
  · simp [Value.cells] at hcs
    obtain ⟨rfl, rfl, rfl⟩ := hcs
    have hlm : n0 ≤ m := by rw [hmm]; split <;> omega
    obtain ⟨rows, hrl, hrows⟩ := list_of (P := fun i (r : List Int) => (r.length = fs.size ∧ ∀ x ∈ r, (Lit.int .i64 x).wf = true) ∧ ∀ (j : Nat) (x : Int), r[j]? = some x → w.cell? (a.add (i * fs.size + j)) = some (.int .i64 x)) n0 (fun i hin => by
      obtain ⟨cs', hc, ht'⟩ := hi i (by omega)
      rw [hC] at hc
      obtain ⟨ys, n', hn', hy, hlen, hyl, hfl⟩ := DataW.trod_struct he ht'
      obtain ⟨_, hcl, hat⟩ := World.cells?_some hc
      obtain ⟨r, hr1, hr2⟩ := list_of (P := fun j (x : Int) => w.cell? (a.add (i * fs.size + j)) = some (.int .i64 x) ∧ (Lit.int .i64 x).wf = true) fs.size (fun j hj => by
        obtain ⟨f, hfj⟩ : ∃ f, fs[j]? = some f := ⟨_, Array.getElem?_eq_getElem hj⟩
        obtain ⟨ho, hk⟩ := hone_of' hone j f hfj
        have h1 := hfl j f hfj
        rw [ho, hk] at h1
        have hone' : (cs'.drop j).take 1 = [cs'[j]'(by omega)] := by
          rw [List.drop_eq_getElem_cons (by omega)]
          rfl
        rw [hone'] at h1
        have hys : ys[j]? = some (ys[j]'(by omega)) := List.getElem?_eq_getElem (by omega)
        rw [hys] at h1
        obtain ⟨x, hx1, _, hx3⟩ := DataW.trod_int (hint j f hfj) h1
        simp at hx1
        refine ⟨x, ?_, hx3⟩
        rw [← Go.Deep.add_add, hat j hj, List.getElem?_eq_getElem (by omega), hx1])
      exact ⟨r, ⟨hr1, fun x hx => by
        obtain ⟨j, hj, rfl⟩ := List.getElem_of_mem hx
        exact (hr2 j _ (List.getElem?_eq_getElem hj)).2⟩, fun j x hj => (hr2 j x hj).1⟩)
    subst hrl
    refine ⟨some a, c0, rows, rfl, (fun h => by cases h), hl, hm, fun r hr => ?_, fun i r hi => ⟨a, rfl, (hrows i r hi).2⟩⟩
    obtain ⟨i, hi2, rfl⟩ := List.getElem_of_mem hr
    exact (hrows i _ (List.getElem?_eq_getElem hi2)).1
theorem open_intsC {t e : TypeId} {fuel : Nat} {x : Value} {y : DataW H × List MemPlace} (ht : P.underlying t = some (.slice e)) (he : P.underlying e = some (.int .i64)) (hc : P.cellsOf e = 1) (h : DataW.trod enc P w base (fun _ => true) held fuel t [x] = some y) :
    ∃ (A : Option Addr) (cap : Nat) (l : List Int), x = .slice A l.length cap ∧ (A = none → cap = 0) ∧ l.length ≤ cap ∧ cap ≤ maxLen ∧ Kd.C (Kd.int .i64) w A l.length l := by
  rcases open_ints ht he hc h with ⟨hcs, _⟩ | ⟨a, len, cap, zs, hcs, _, hl, hm, hz, _, hcell, hwz⟩
  · simp at hcs
    exact ⟨none, 0, [], hcs, fun _ => rfl, Nat.le_refl _, Nat.zero_le _, Kd.C_nil _ w⟩
  · simp at hcs
    have hz' : zs.length = cap := by simpa using hz
    have hlen : (zs.take len).length = len := by rw [List.length_take]; omega
    refine ⟨some a, cap, zs.take len, by rw [hlen]; exact hcs, (fun h => by cases h), by omega, hm, ?_⟩
    refine Kd.C_of_reads (d := (0 : Int)) ⟨rfl, by unfold maxLen at hm; omega, fun _ => ⟨a, rfl, fun j hj => ?_⟩⟩
    rw [hlen] at hj
    rw [hcell j (by omega)]
    congr 2
    rw [List.getD_eq_getElem?_getD, List.getD_eq_getElem?_getD, List.getElem?_take]
    simp [hj]
theorem arr19 {cs : Array Value} (h : cs.size = 19) : ∃ v0 v1 v2 v3 v4 v5 v6 v7 v8 v9 v10 v11 v12 v13 v14 v15 v16 v17 v18, cs = #[v0, v1, v2, v3, v4, v5, v6, v7, v8, v9, v10, v11, v12, v13, v14, v15, v16, v17, v18] := by
  obtain ⟨l⟩ := cs
  match l, h with
  | [v0, v1, v2, v3, v4, v5, v6, v7, v8, v9, v10, v11, v12, v13, v14, v15, v16, v17, v18], _ => exact ⟨v0, v1, v2, v3, v4, v5, v6, v7, v8, v9, v10, v11, v12, v13, v14, v15, v16, v17, v18, rfl⟩
end
theorem cells_prod : Tryz.prog.cellsOf 27 = 19 := by kernel_rfl
theorem cells_string : Tryz.prog.cellsOf 9 = 1 := by kernel_rfl
theorem cells_int : Tryz.prog.cellsOf 3 = 1 := by kernel_rfl
theorem cells_int64 : Tryz.prog.cellsOf 2 = 1 := by kernel_rfl
theorem cells_resets : Tryz.prog.cellsOf 22 = 1 := by kernel_rfl
theorem cells_tiers : Tryz.prog.cellsOf 24 = 1 := by kernel_rfl
theorem cells_ints : Tryz.prog.cellsOf 25 = 1 := by kernel_rfl
theorem cells_four : Tryz.prog.cellsOf 23 = 4 := by kernel_rfl
set_option maxRecDepth 100000 in
/-- A product that comes in. -/
theorem open_prod {H : Type} {enc : TypeId × Value → H} {w : World} {base b0 : Nat} {held : Bool} {r : Reach} {v : Value} {d : DataW H} {q : List MemPlace} (hv : Value.okWide Tryz.prog w r b0 27 v) (h : DataW.Trod enc Tryz.prog w base (fun _ => true) held 27 v d q) :
    ∃ (p : Prod) (A1 : Option Addr) (c1 : Nat) (A2 : Option Addr) (c2 : Nat) (A3 : Option Addr) (c3 : Nat), v = pv p A1 c1 A2 c2 A3 c3 ∧ ProdAt w p A1 c1 A2 c2 A3 c3 ∧ p.name.size ≤ maxLen ∧ c1 ≤ maxLen ∧ c2 ≤ maxLen ∧ c3 ≤ maxLen := by
  obtain ⟨cs, rfl, hsz⟩ := okWide_struct Tryz.underlying27 hv
  obtain ⟨v0, v1, v2, v3, v4, v5, v6, v7, v8, v9, v10, v11, v12, v13, v14, v15, v16, v17, v18, rfl⟩ := arr19 (hsz.trans cells_prod)
  obtain ⟨fuel, hf⟩ := h
  obtain ⟨xs, n, _, hx, hl, hlen, hfl⟩ := DataW.trod_struct Tryz.underlying27 hf
  have hy : ∀ i, i < 16 → ∃ y, xs[i]? = some y := fun i hi => ⟨_, List.getElem?_eq_getElem (by rw [hlen]; exact hi)⟩
  obtain ⟨y0, e0⟩ := hy 0 (by decide)
  have g0 : DataW.trod enc Tryz.prog w base (fun _ => true) held n 9 ([v0, v1, v2, v3, v4, v5, v6, v7, v8, v9, v10, v11, v12, v13, v14, v15, v16, v17, v18].drop 0 |>.take (Tryz.prog.cellsOf 9)) = some y0 := (hfl 0 _ rfl).trans e0
  rw [cells_string] at g0
  have k0 : DataW.trod enc Tryz.prog w base (fun _ => true) held n 9 [v0] = some y0 := g0
  obtain ⟨y1, e1⟩ := hy 1 (by decide)
  have g1 : DataW.trod enc Tryz.prog w base (fun _ => true) held n 3 ([v0, v1, v2, v3, v4, v5, v6, v7, v8, v9, v10, v11, v12, v13, v14, v15, v16, v17, v18].drop 1 |>.take (Tryz.prog.cellsOf 3)) = some y1 := (hfl 1 _ rfl).trans e1
  rw [cells_int] at g1
  have k1 : DataW.trod enc Tryz.prog w base (fun _ => true) held n 3 [v1] = some y1 := g1
  obtain ⟨y2, e2⟩ := hy 2 (by decide)
  have g2 : DataW.trod enc Tryz.prog w base (fun _ => true) held n 3 ([v0, v1, v2, v3, v4, v5, v6, v7, v8, v9, v10, v11, v12, v13, v14, v15, v16, v17, v18].drop 2 |>.take (Tryz.prog.cellsOf 3)) = some y2 := (hfl 2 _ rfl).trans e2
  rw [cells_int] at g2
  have k2 : DataW.trod enc Tryz.prog w base (fun _ => true) held n 3 [v2] = some y2 := g2
  obtain ⟨y3, e3⟩ := hy 3 (by decide)
  have g3 : DataW.trod enc Tryz.prog w base (fun _ => true) held n 3 ([v0, v1, v2, v3, v4, v5, v6, v7, v8, v9, v10, v11, v12, v13, v14, v15, v16, v17, v18].drop 3 |>.take (Tryz.prog.cellsOf 3)) = some y3 := (hfl 3 _ rfl).trans e3
  rw [cells_int] at g3
  have k3 : DataW.trod enc Tryz.prog w base (fun _ => true) held n 3 [v3] = some y3 := g3
  obtain ⟨y4, e4⟩ := hy 4 (by decide)
  have g4 : DataW.trod enc Tryz.prog w base (fun _ => true) held n 3 ([v0, v1, v2, v3, v4, v5, v6, v7, v8, v9, v10, v11, v12, v13, v14, v15, v16, v17, v18].drop 4 |>.take (Tryz.prog.cellsOf 3)) = some y4 := (hfl 4 _ rfl).trans e4
  rw [cells_int] at g4
  have k4 : DataW.trod enc Tryz.prog w base (fun _ => true) held n 3 [v4] = some y4 := g4
  obtain ⟨y5, e5⟩ := hy 5 (by decide)
  have g5 : DataW.trod enc Tryz.prog w base (fun _ => true) held n 3 ([v0, v1, v2, v3, v4, v5, v6, v7, v8, v9, v10, v11, v12, v13, v14, v15, v16, v17, v18].drop 5 |>.take (Tryz.prog.cellsOf 3)) = some y5 := (hfl 5 _ rfl).trans e5
  rw [cells_int] at g5
  have k5 : DataW.trod enc Tryz.prog w base (fun _ => true) held n 3 [v5] = some y5 := g5
  obtain ⟨y6, e6⟩ := hy 6 (by decide)
  have g6 : DataW.trod enc Tryz.prog w base (fun _ => true) held n 3 ([v0, v1, v2, v3, v4, v5, v6, v7, v8, v9, v10, v11, v12, v13, v14, v15, v16, v17, v18].drop 6 |>.take (Tryz.prog.cellsOf 3)) = some y6 := (hfl 6 _ rfl).trans e6
  rw [cells_int] at g6
  have k6 : DataW.trod enc Tryz.prog w base (fun _ => true) held n 3 [v6] = some y6 := g6
  obtain ⟨y7, e7⟩ := hy 7 (by decide)
  have g7 : DataW.trod enc Tryz.prog w base (fun _ => true) held n 2 ([v0, v1, v2, v3, v4, v5, v6, v7, v8, v9, v10, v11, v12, v13, v14, v15, v16, v17, v18].drop 7 |>.take (Tryz.prog.cellsOf 2)) = some y7 := (hfl 7 _ rfl).trans e7
  rw [cells_int64] at g7
  have k7 : DataW.trod enc Tryz.prog w base (fun _ => true) held n 2 [v7] = some y7 := g7
  obtain ⟨y8, e8⟩ := hy 8 (by decide)
  have g8 : DataW.trod enc Tryz.prog w base (fun _ => true) held n 22 ([v0, v1, v2, v3, v4, v5, v6, v7, v8, v9, v10, v11, v12, v13, v14, v15, v16, v17, v18].drop 8 |>.take (Tryz.prog.cellsOf 22)) = some y8 := (hfl 8 _ rfl).trans e8
  rw [cells_resets] at g8
  have k8 : DataW.trod enc Tryz.prog w base (fun _ => true) held n 22 [v8] = some y8 := g8
  obtain ⟨y9, e9⟩ := hy 9 (by decide)
  have g9 : DataW.trod enc Tryz.prog w base (fun _ => true) held n 2 ([v0, v1, v2, v3, v4, v5, v6, v7, v8, v9, v10, v11, v12, v13, v14, v15, v16, v17, v18].drop 9 |>.take (Tryz.prog.cellsOf 2)) = some y9 := (hfl 9 _ rfl).trans e9
  rw [cells_int64] at g9
  have k9 : DataW.trod enc Tryz.prog w base (fun _ => true) held n 2 [v9] = some y9 := g9
  obtain ⟨y10, e10⟩ := hy 10 (by decide)
  have g10 : DataW.trod enc Tryz.prog w base (fun _ => true) held n 23 ([v0, v1, v2, v3, v4, v5, v6, v7, v8, v9, v10, v11, v12, v13, v14, v15, v16, v17, v18].drop 10 |>.take (Tryz.prog.cellsOf 23)) = some y10 := (hfl 10 _ rfl).trans e10
  rw [cells_four] at g10
  have k10 : DataW.trod enc Tryz.prog w base (fun _ => true) held n 23 [v10, v11, v12, v13] = some y10 := g10
  obtain ⟨y11, e11⟩ := hy 11 (by decide)
  have g11 : DataW.trod enc Tryz.prog w base (fun _ => true) held n 3 ([v0, v1, v2, v3, v4, v5, v6, v7, v8, v9, v10, v11, v12, v13, v14, v15, v16, v17, v18].drop 14 |>.take (Tryz.prog.cellsOf 3)) = some y11 := (hfl 11 _ rfl).trans e11
  rw [cells_int] at g11
  have k11 : DataW.trod enc Tryz.prog w base (fun _ => true) held n 3 [v14] = some y11 := g11
  obtain ⟨y12, e12⟩ := hy 12 (by decide)
  have g12 : DataW.trod enc Tryz.prog w base (fun _ => true) held n 24 ([v0, v1, v2, v3, v4, v5, v6, v7, v8, v9, v10, v11, v12, v13, v14, v15, v16, v17, v18].drop 15 |>.take (Tryz.prog.cellsOf 24)) = some y12 := (hfl 12 _ rfl).trans e12
  rw [cells_tiers] at g12
  have k12 : DataW.trod enc Tryz.prog w base (fun _ => true) held n 24 [v15] = some y12 := g12
  obtain ⟨y13, e13⟩ := hy 13 (by decide)
  have g13 : DataW.trod enc Tryz.prog w base (fun _ => true) held n 2 ([v0, v1, v2, v3, v4, v5, v6, v7, v8, v9, v10, v11, v12, v13, v14, v15, v16, v17, v18].drop 16 |>.take (Tryz.prog.cellsOf 2)) = some y13 := (hfl 13 _ rfl).trans e13
  rw [cells_int64] at g13
  have k13 : DataW.trod enc Tryz.prog w base (fun _ => true) held n 2 [v16] = some y13 := g13
  obtain ⟨y14, e14⟩ := hy 14 (by decide)
  have g14 : DataW.trod enc Tryz.prog w base (fun _ => true) held n 3 ([v0, v1, v2, v3, v4, v5, v6, v7, v8, v9, v10, v11, v12, v13, v14, v15, v16, v17, v18].drop 17 |>.take (Tryz.prog.cellsOf 3)) = some y14 := (hfl 14 _ rfl).trans e14
  rw [cells_int] at g14
  have k14 : DataW.trod enc Tryz.prog w base (fun _ => true) held n 3 [v17] = some y14 := g14
  obtain ⟨y15, e15⟩ := hy 15 (by decide)
  have g15 : DataW.trod enc Tryz.prog w base (fun _ => true) held n 25 ([v0, v1, v2, v3, v4, v5, v6, v7, v8, v9, v10, v11, v12, v13, v14, v15, v16, v17, v18].drop 18 |>.take (Tryz.prog.cellsOf 25)) = some y15 := (hfl 15 _ rfl).trans e15
  rw [cells_ints] at g15
  have k15 : DataW.trod enc Tryz.prog w base (fun _ => true) held n 25 [v18] = some y15 := g15
  clear hy hfl hf
  obtain ⟨nm, m0, _, z0⟩ := DataW.trod_string Tryz.underlying9 k0
  simp at m0
  subst m0
  obtain ⟨x1, m1, _, _⟩ := DataW.trod_int Tryz.underlying3 k1
  simp at m1
  subst m1
  obtain ⟨x2, m2, _, _⟩ := DataW.trod_int Tryz.underlying3 k2
  simp at m2
  subst m2
  obtain ⟨x3, m3, _, _⟩ := DataW.trod_int Tryz.underlying3 k3
  simp at m3
  subst m3
  obtain ⟨x4, m4, _, _⟩ := DataW.trod_int Tryz.underlying3 k4
  simp at m4
  subst m4
  obtain ⟨x5, m5, _, _⟩ := DataW.trod_int Tryz.underlying3 k5
  simp at m5
  subst m5
  obtain ⟨x6, m6, _, _⟩ := DataW.trod_int Tryz.underlying3 k6
  simp at m6
  subst m6
  obtain ⟨x7, m7, _, _⟩ := DataW.trod_int Tryz.underlying2 k7
  simp at m7
  subst m7
  obtain ⟨x9, m9, _, _⟩ := DataW.trod_int Tryz.underlying2 k9
  simp at m9
  subst m9
  obtain ⟨x11, m11, _, _⟩ := DataW.trod_int Tryz.underlying3 k11
  simp at m11
  subst m11
  obtain ⟨x13, m13, _, _⟩ := DataW.trod_int Tryz.underlying2 k13
  simp at m13
  subst m13
  obtain ⟨x14, m14, _, _⟩ := DataW.trod_int Tryz.underlying3 k14
  simp at m14
  subst m14
  obtain ⟨u0, u1, u2, u3, nn, _, f0, f1, f2, f3⟩ := trod_array4 Tryz.underlying23 cells_int k10
  obtain ⟨o0, mo0, _, _⟩ := DataW.trod_int Tryz.underlying3 f0
  simp at mo0
  subst mo0
  obtain ⟨o1, mo1, _, _⟩ := DataW.trod_int Tryz.underlying3 f1
  simp at mo1
  subst mo1
  obtain ⟨o2, mo2, _, _⟩ := DataW.trod_int Tryz.underlying3 f2
  simp at mo2
  subst mo2
  obtain ⟨o3, mo3, _, _⟩ := DataW.trod_int Tryz.underlying3 f3
  simp at mo3
  subst mo3
  obtain ⟨A1, c1, l1, rfl, n1, lc1, cm1, hr1⟩ := open_rowsC Tryz.underlying22 Tryz.underlying100 (by kernel_rfl) (by kernel_rfl) (fun j f hj => by have hmem := Array.mem_of_getElem? hj; simp at hmem; rcases hmem with rfl | rfl <;> first | exact Tryz.underlying3 | exact Tryz.underlying2) k8
  obtain ⟨A2, c2, l2, rfl, n2, lc2, cm2, hr2⟩ := open_rowsC Tryz.underlying24 Tryz.underlying102 (by kernel_rfl) (by kernel_rfl) (fun j f hj => by have hmem := Array.mem_of_getElem? hj; simp at hmem; rcases hmem with rfl | rfl <;> first | exact Tryz.underlying3 | exact Tryz.underlying2) k12
  obtain ⟨A3, c3, l3, rfl, n3, lc3, cm3, hr3⟩ := open_intsC Tryz.underlying25 Tryz.underlying3 cells_int k15
  exact ⟨{ name := nm, count := x1, round := x2, kind := x3, every := x4, times := x5, grace := x6, rate := x7, resets := l1, penalty := x9, o1 := o0, o2 := o1, o3 := o2, o4 := o3, over := x11, late := l2, cap := x13, roll := x14, hol := l3 }, A1, c1, A2, c2, A3, c3, rfl, ⟨hr1, lc1, n1, hr2, lc2, n2, hr3, lc3, n3⟩, z0, cm1, cm2, cm3⟩
end Go.Proofs.YtbbbjjfecblhpaaGreat.Pd
/- Arguments opened: a loan's state. -/
namespace Go.Proofs.YtbbbjjfecblhpaaGreat.Nt
open Go.ChangeShapes Go.WideShapes Go.Deep Go.RowKit Go.Joins Go.ChangeAt Go.Proofs.YtbbbjjfecblhpaaGreatW.PrintWords Go.Proofs.YtbbbjjfecblhpaaGreat.Op Go.Proofs.YtbbbjjfecblhpaaGreat.Pd
set_option linter.unusedVariables false
set_option linter.unusedSimpArgs false
set_option linter.constructorNameAsVariable false
theorem cells_state : Tryz.prog.cellsOf 33 = 19 := by kernel_rfl
theorem cells_money : Tryz.prog.cellsOf 31 = 10 := by kernel_rfl
theorem cells_boolN : Tryz.prog.cellsOf 4 = 1 := by kernel_rfl
theorem cells_i64s : Tryz.prog.cellsOf 28 = 1 := by kernel_rfl
theorem cells_dues : Tryz.prog.cellsOf 29 = 1 := by kernel_rfl
/-- Lists of a state that comes in. -/
structure Comes (w : World) (s : St) (L : Option Addr) (lc : Nat) (D : Option Addr) (dc : Nat) : Prop where
  plan : Kd.C (Kd.int .i64) w L s.plan.length s.plan
  pc : s.plan.length ≤ lc
  pn : L = none → lc = 0
  pm : lc ≤ maxLen
  rows : Op.IntRows w D 4 s.m.dues
  dc_ : s.m.dues.length ≤ dc
  dn : D = none → dc = 0
  dm : dc ≤ maxLen
theorem Comes.st {w : World} {s : St} {L : Option Addr} {lc : Nat} {D : Option Addr} {dc : Nat} (h : Comes w s L lc D dc) (h1 : s.plan.length ≤ 1000000) (h2 : s.m.dues.length ≤ 1000000) : StAt w s L lc D dc := ⟨h.plan, h.pc, h.pn, h1, h.rows, h.dc_, h.dn, h2⟩
set_option maxRecDepth 100000 in
/-- A state that comes in. -/
theorem open_state {H : Type} {enc : TypeId × Value → H} {w : World} {base b0 : Nat} {held : Bool} {r : Reach} {v : Value} {d : DataW H} {q : List MemPlace} (hv : Value.okWide Tryz.prog w r b0 33 v) (h : DataW.Trod enc Tryz.prog w base (fun _ => true) held 33 v d q) :
    ∃ (s : St) (L : Option Addr) (lc : Nat) (D : Option Addr) (dc : Nat), v = sv s L lc D dc ∧ Comes w s L lc D dc := by
  obtain ⟨cs, rfl, hsz⟩ := okWide_struct Tryz.underlying33 hv
  obtain ⟨v0, v1, v2, v3, v4, v5, v6, v7, v8, v9, v10, v11, v12, v13, v14, v15, v16, v17, v18, rfl⟩ := arr19 (hsz.trans cells_state)
  obtain ⟨fuel, hf⟩ := h
  obtain ⟨xs, n, _, hx, hl, hlen, hfl⟩ := DataW.trod_struct Tryz.underlying33 hf
  have hy : ∀ i, i < 10 → ∃ y, xs[i]? = some y := fun i hi => ⟨_, List.getElem?_eq_getElem (by rw [hlen]; exact hi)⟩
  obtain ⟨y0, e0⟩ := hy 0 (by decide)
  have g0 : DataW.trod enc Tryz.prog w base (fun _ => true) held n 3 ([v0, v1, v2, v3, v4, v5, v6, v7, v8, v9, v10, v11, v12, v13, v14, v15, v16, v17, v18].drop 0 |>.take (Tryz.prog.cellsOf 3)) = some y0 := (hfl 0 _ rfl).trans e0
  rw [cells_int] at g0
  have k0 : DataW.trod enc Tryz.prog w base (fun _ => true) held n 3 [v0] = some y0 := g0
  obtain ⟨y1, e1⟩ := hy 1 (by decide)
  have g1 : DataW.trod enc Tryz.prog w base (fun _ => true) held n 4 ([v0, v1, v2, v3, v4, v5, v6, v7, v8, v9, v10, v11, v12, v13, v14, v15, v16, v17, v18].drop 1 |>.take (Tryz.prog.cellsOf 4)) = some y1 := (hfl 1 _ rfl).trans e1
  rw [cells_boolN] at g1
  have k1 : DataW.trod enc Tryz.prog w base (fun _ => true) held n 4 [v1] = some y1 := g1
  obtain ⟨y2, e2⟩ := hy 2 (by decide)
  have g2 : DataW.trod enc Tryz.prog w base (fun _ => true) held n 3 ([v0, v1, v2, v3, v4, v5, v6, v7, v8, v9, v10, v11, v12, v13, v14, v15, v16, v17, v18].drop 2 |>.take (Tryz.prog.cellsOf 3)) = some y2 := (hfl 2 _ rfl).trans e2
  rw [cells_int] at g2
  have k2 : DataW.trod enc Tryz.prog w base (fun _ => true) held n 3 [v2] = some y2 := g2
  obtain ⟨y3, e3⟩ := hy 3 (by decide)
  have g3 : DataW.trod enc Tryz.prog w base (fun _ => true) held n 28 ([v0, v1, v2, v3, v4, v5, v6, v7, v8, v9, v10, v11, v12, v13, v14, v15, v16, v17, v18].drop 3 |>.take (Tryz.prog.cellsOf 28)) = some y3 := (hfl 3 _ rfl).trans e3
  rw [cells_i64s] at g3
  have k3 : DataW.trod enc Tryz.prog w base (fun _ => true) held n 28 [v3] = some y3 := g3
  obtain ⟨y4, e4⟩ := hy 4 (by decide)
  have g4 : DataW.trod enc Tryz.prog w base (fun _ => true) held n 3 ([v0, v1, v2, v3, v4, v5, v6, v7, v8, v9, v10, v11, v12, v13, v14, v15, v16, v17, v18].drop 4 |>.take (Tryz.prog.cellsOf 3)) = some y4 := (hfl 4 _ rfl).trans e4
  rw [cells_int] at g4
  have k4 : DataW.trod enc Tryz.prog w base (fun _ => true) held n 3 [v4] = some y4 := g4
  obtain ⟨y5, e5⟩ := hy 5 (by decide)
  have g5 : DataW.trod enc Tryz.prog w base (fun _ => true) held n 2 ([v0, v1, v2, v3, v4, v5, v6, v7, v8, v9, v10, v11, v12, v13, v14, v15, v16, v17, v18].drop 5 |>.take (Tryz.prog.cellsOf 2)) = some y5 := (hfl 5 _ rfl).trans e5
  rw [cells_int64] at g5
  have k5 : DataW.trod enc Tryz.prog w base (fun _ => true) held n 2 [v5] = some y5 := g5
  obtain ⟨y6, e6⟩ := hy 6 (by decide)
  have g6 : DataW.trod enc Tryz.prog w base (fun _ => true) held n 31 ([v0, v1, v2, v3, v4, v5, v6, v7, v8, v9, v10, v11, v12, v13, v14, v15, v16, v17, v18].drop 6 |>.take (Tryz.prog.cellsOf 31)) = some y6 := (hfl 6 _ rfl).trans e6
  rw [cells_money] at g6
  have k6 : DataW.trod enc Tryz.prog w base (fun _ => true) held n 31 [v6, v7, v8, v9, v10, v11, v12, v13, v14, v15] = some y6 := g6
  obtain ⟨y7, e7⟩ := hy 7 (by decide)
  have g7 : DataW.trod enc Tryz.prog w base (fun _ => true) held n 2 ([v0, v1, v2, v3, v4, v5, v6, v7, v8, v9, v10, v11, v12, v13, v14, v15, v16, v17, v18].drop 16 |>.take (Tryz.prog.cellsOf 2)) = some y7 := (hfl 7 _ rfl).trans e7
  rw [cells_int64] at g7
  have k7 : DataW.trod enc Tryz.prog w base (fun _ => true) held n 2 [v16] = some y7 := g7
  obtain ⟨y8, e8⟩ := hy 8 (by decide)
  have g8 : DataW.trod enc Tryz.prog w base (fun _ => true) held n 2 ([v0, v1, v2, v3, v4, v5, v6, v7, v8, v9, v10, v11, v12, v13, v14, v15, v16, v17, v18].drop 17 |>.take (Tryz.prog.cellsOf 2)) = some y8 := (hfl 8 _ rfl).trans e8
  rw [cells_int64] at g8
  have k8 : DataW.trod enc Tryz.prog w base (fun _ => true) held n 2 [v17] = some y8 := g8
  obtain ⟨y9, e9⟩ := hy 9 (by decide)
  have g9 : DataW.trod enc Tryz.prog w base (fun _ => true) held n 2 ([v0, v1, v2, v3, v4, v5, v6, v7, v8, v9, v10, v11, v12, v13, v14, v15, v16, v17, v18].drop 18 |>.take (Tryz.prog.cellsOf 2)) = some y9 := (hfl 9 _ rfl).trans e9
  rw [cells_int64] at g9
  have k9 : DataW.trod enc Tryz.prog w base (fun _ => true) held n 2 [v18] = some y9 := g9
  obtain ⟨xs2, n2, _, hx2, hl2, hlen2, hfl2⟩ := DataW.trod_struct Tryz.underlying31 k6
  have hy2 : ∀ i, i < 10 → ∃ y, xs2[i]? = some y := fun i hi => ⟨_, List.getElem?_eq_getElem (by rw [hlen2]; exact hi)⟩
  obtain ⟨my0, me0⟩ := hy2 0 (by decide)
  have mg0 : DataW.trod enc Tryz.prog w base (fun _ => true) held n2 2 ([v6, v7, v8, v9, v10, v11, v12, v13, v14, v15].drop 0 |>.take (Tryz.prog.cellsOf 2)) = some my0 := (hfl2 0 _ rfl).trans me0
  rw [cells_int64] at mg0
  have mk0 : DataW.trod enc Tryz.prog w base (fun _ => true) held n2 2 [v6] = some my0 := mg0
  obtain ⟨my1, me1⟩ := hy2 1 (by decide)
  have mg1 : DataW.trod enc Tryz.prog w base (fun _ => true) held n2 2 ([v6, v7, v8, v9, v10, v11, v12, v13, v14, v15].drop 1 |>.take (Tryz.prog.cellsOf 2)) = some my1 := (hfl2 1 _ rfl).trans me1
  rw [cells_int64] at mg1
  have mk1 : DataW.trod enc Tryz.prog w base (fun _ => true) held n2 2 [v7] = some my1 := mg1
  obtain ⟨my2, me2⟩ := hy2 2 (by decide)
  have mg2 : DataW.trod enc Tryz.prog w base (fun _ => true) held n2 29 ([v6, v7, v8, v9, v10, v11, v12, v13, v14, v15].drop 2 |>.take (Tryz.prog.cellsOf 29)) = some my2 := (hfl2 2 _ rfl).trans me2
  rw [cells_dues] at mg2
  have mk2 : DataW.trod enc Tryz.prog w base (fun _ => true) held n2 29 [v8] = some my2 := mg2
  obtain ⟨my3, me3⟩ := hy2 3 (by decide)
  have mg3 : DataW.trod enc Tryz.prog w base (fun _ => true) held n2 2 ([v6, v7, v8, v9, v10, v11, v12, v13, v14, v15].drop 3 |>.take (Tryz.prog.cellsOf 2)) = some my3 := (hfl2 3 _ rfl).trans me3
  rw [cells_int64] at mg3
  have mk3 : DataW.trod enc Tryz.prog w base (fun _ => true) held n2 2 [v9] = some my3 := mg3
  obtain ⟨my4, me4⟩ := hy2 4 (by decide)
  have mg4 : DataW.trod enc Tryz.prog w base (fun _ => true) held n2 2 ([v6, v7, v8, v9, v10, v11, v12, v13, v14, v15].drop 4 |>.take (Tryz.prog.cellsOf 2)) = some my4 := (hfl2 4 _ rfl).trans me4
  rw [cells_int64] at mg4
  have mk4 : DataW.trod enc Tryz.prog w base (fun _ => true) held n2 2 [v10] = some my4 := mg4
  obtain ⟨my5, me5⟩ := hy2 5 (by decide)
  have mg5 : DataW.trod enc Tryz.prog w base (fun _ => true) held n2 2 ([v6, v7, v8, v9, v10, v11, v12, v13, v14, v15].drop 5 |>.take (Tryz.prog.cellsOf 2)) = some my5 := (hfl2 5 _ rfl).trans me5
  rw [cells_int64] at mg5
  have mk5 : DataW.trod enc Tryz.prog w base (fun _ => true) held n2 2 [v11] = some my5 := mg5
  obtain ⟨my6, me6⟩ := hy2 6 (by decide)
  have mg6 : DataW.trod enc Tryz.prog w base (fun _ => true) held n2 2 ([v6, v7, v8, v9, v10, v11, v12, v13, v14, v15].drop 6 |>.take (Tryz.prog.cellsOf 2)) = some my6 := (hfl2 6 _ rfl).trans me6
  rw [cells_int64] at mg6
  have mk6 : DataW.trod enc Tryz.prog w base (fun _ => true) held n2 2 [v12] = some my6 := mg6
  obtain ⟨my7, me7⟩ := hy2 7 (by decide)
  have mg7 : DataW.trod enc Tryz.prog w base (fun _ => true) held n2 2 ([v6, v7, v8, v9, v10, v11, v12, v13, v14, v15].drop 7 |>.take (Tryz.prog.cellsOf 2)) = some my7 := (hfl2 7 _ rfl).trans me7
  rw [cells_int64] at mg7
  have mk7 : DataW.trod enc Tryz.prog w base (fun _ => true) held n2 2 [v13] = some my7 := mg7
  obtain ⟨my8, me8⟩ := hy2 8 (by decide)
  have mg8 : DataW.trod enc Tryz.prog w base (fun _ => true) held n2 2 ([v6, v7, v8, v9, v10, v11, v12, v13, v14, v15].drop 8 |>.take (Tryz.prog.cellsOf 2)) = some my8 := (hfl2 8 _ rfl).trans me8
  rw [cells_int64] at mg8
  have mk8 : DataW.trod enc Tryz.prog w base (fun _ => true) held n2 2 [v14] = some my8 := mg8
  obtain ⟨my9, me9⟩ := hy2 9 (by decide)
  have mg9 : DataW.trod enc Tryz.prog w base (fun _ => true) held n2 2 ([v6, v7, v8, v9, v10, v11, v12, v13, v14, v15].drop 9 |>.take (Tryz.prog.cellsOf 2)) = some my9 := (hfl2 9 _ rfl).trans me9
  rw [cells_int64] at mg9
  have mk9 : DataW.trod enc Tryz.prog w base (fun _ => true) held n2 2 [v15] = some my9 := mg9
  clear hy hfl hf hy2 hfl2
  obtain ⟨x0, q0, _, _⟩ := DataW.trod_int Tryz.underlying3 k0
  simp at q0
  subst q0
  obtain ⟨x1, q1, _⟩ := DataW.trod_bool Tryz.underlying4 k1
  simp at q1
  subst q1
  obtain ⟨x2, q2, _, _⟩ := DataW.trod_int Tryz.underlying3 k2
  simp at q2
  subst q2
  obtain ⟨x4, q4, _, _⟩ := DataW.trod_int Tryz.underlying3 k4
  simp at q4
  subst q4
  obtain ⟨x5, q5, _, _⟩ := DataW.trod_int Tryz.underlying2 k5
  simp at q5
  subst q5
  obtain ⟨x7, q7, _, _⟩ := DataW.trod_int Tryz.underlying2 k7
  simp at q7
  subst q7
  obtain ⟨x8, q8, _, _⟩ := DataW.trod_int Tryz.underlying2 k8
  simp at q8
  subst q8
  obtain ⟨x9, q9, _, _⟩ := DataW.trod_int Tryz.underlying2 k9
  simp at q9
  subst q9
  obtain ⟨z0, mq0, _, _⟩ := DataW.trod_int Tryz.underlying2 mk0
  simp at mq0
  subst mq0
  obtain ⟨z1, mq1, _, _⟩ := DataW.trod_int Tryz.underlying2 mk1
  simp at mq1
  subst mq1
  obtain ⟨z3, mq3, _, _⟩ := DataW.trod_int Tryz.underlying2 mk3
  simp at mq3
  subst mq3
  obtain ⟨z4, mq4, _, _⟩ := DataW.trod_int Tryz.underlying2 mk4
  simp at mq4
  subst mq4
  obtain ⟨z5, mq5, _, _⟩ := DataW.trod_int Tryz.underlying2 mk5
  simp at mq5
  subst mq5
  obtain ⟨z6, mq6, _, _⟩ := DataW.trod_int Tryz.underlying2 mk6
  simp at mq6
  subst mq6
  obtain ⟨z7, mq7, _, _⟩ := DataW.trod_int Tryz.underlying2 mk7
  simp at mq7
  subst mq7
  obtain ⟨z8, mq8, _, _⟩ := DataW.trod_int Tryz.underlying2 mk8
  simp at mq8
  subst mq8
  obtain ⟨z9, mq9, _, _⟩ := DataW.trod_int Tryz.underlying2 mk9
  simp at mq9
  subst mq9
  obtain ⟨L, lc, l, rfl, n1, lc1, cm1, hr1⟩ := open_intsC Tryz.underlying28 Tryz.underlying2 cells_int64 k3
  obtain ⟨D, dc, rows, rfl, n2, lc2, cm2, hr2⟩ := open_rowsC Tryz.underlying29 Tryz.underlying39 (by kernel_rfl) (by kernel_rfl) (fun j f hj => by have hmem := Array.mem_of_getElem? hj; simp at hmem; rcases hmem with rfl | rfl | rfl | rfl <;> first | exact Tryz.underlying3 | exact Tryz.underlying2) mk2
  exact ⟨{ day := x0, opn := x1, start := x2, plan := l, next := x4, rate := x5, m := { p := z0, acc := z1, dues := rows, pen := z3, fees := z4, un := z5, cash := z6, earned := z7, fined := z8, charged := z9 }, lateFees := x7, residue := x8, fine := x9 }, L, lc, D, dc, rfl, ⟨hr1, lc1, n1, cm1, hr2, lc2, n2, cm2⟩⟩
end Go.Proofs.YtbbbjjfecblhpaaGreat.Nt
/- Words by hand: stores into a block that is known whole; rows of a literal. -/
namespace Go.Proofs.YtbbbjjfecblhpaaGreat.Pd
open Go.RowKit Go.Proofs.YtbbbjjfecblhpaaGreatW.PrintWords Go.Proofs.YtbbbjjfecblhpaaGreatW.PrintLast Go.Proofs.YtbbbjjfecblhpaaGreatW.PrintMore Go.Proofs.YtbbbjjfecblhpaaGreat.HW
open Pm
set_option linter.unusedVariables false
set_option linter.unusedSimpArgs false
/-- As it was, but for one block. -/
structure But (g : Nat) (w w1 : World) : Prop where
  os : w1.os = w.os
  tape : w1.tape = w.tape
  output : w1.output = w.output
  size : w.heap.size ≤ w1.heap.size
  block : ∀ k, k < w.heap.size → k ≠ g → w1.heap[k]? = w.heap[k]?
theorem But.below {g B : Nat} {w0 w w1 : World} (h : But g w w1) (hb : Below B w0 w) (hB : B ≤ g) (hs : B ≤ w.heap.size) : Below B w0 w1 :=
  ⟨h.os.trans hb.os, h.tape.trans hb.tape, h.output.trans hb.output, Nat.le_trans hb.size h.size, fun k hk => (h.block k (by omega) (by omega)).trans (hb.block k hk)⟩
theorem But.blk {g k : Nat} {w w1 : World} {o : Obj} (h : But g w w1) (hk : w.heap[k]? = some o) (hn : k ≠ g) : w1.heap[k]? = some o := by rw [h.block k (blk_lt hk) hn]; exact hk
theorem But.setCell (w : World) (a : Addr) (x : Value) : But a.block w (w.setCell a x) := by
  refine ⟨rfl, rfl, rfl, by simp, fun k hk hn => ?_⟩
  exact heap_setCell_other w a k x hn
theorem But.of {g : Nat} {w w1 : World} (h : Below w.heap.size w w1) : But g w w1 := ⟨h.os, h.tape, h.output, h.size, fun k hk _ => h.block k hk⟩
theorem But.trans {g : Nat} {w w1 w2 : World} (h : But g w w1) (h2 : But g w1 w2) : But g w w2 :=
  ⟨h2.os.trans h.os, h2.tape.trans h.tape, h2.output.trans h.output, Nat.le_trans h.size h2.size, fun k hk hn => (h2.block k (Nat.lt_of_lt_of_le hk h.size) hn).trans (h.block k hk hn)⟩
/-- Some cells of a row, set. -/
def setAll (cs : Array Value) : Nat → List Value → Array Value
  | _, [] => cs
  | i, v :: r => setAll (cs.setIfInBounds i v) (i + 1) r
theorem setCells_blk (g : Nat) (T : TypeId) : ∀ (vs : List Value) (i : Nat) (cs : Array Value) (w : World), w.heap[g]? = some (.cells cs T (0, 0)) → (w.setCells g i vs).heap[g]? = some (.cells (setAll cs i vs) T (0, 0))
  | [], _, _, _, h => h
  | v :: r, i, cs, w, h => setCells_blk g T r (i + 1) _ _ (heap_setCell_same w g i cs T v h)
theorem setCells_but (g : Nat) : ∀ (vs : List Value) (i : Nat) (w : World), But g w (w.setCells g i vs)
  | [], _, w => But.of (Below.refl _ _)
  | v :: r, i, w => (But.setCell w ⟨g, i, none⟩ v).trans (setCells_but g r (i + 1) _)
section
variable {P : Program} {ops : Array Oper} {rest : List Oper} {a : Act} {Q : Exit → Act → World → Prop}
/-- One cell of a known row is written. -/
theorem put_event {W : World} {o : Oper} (hgd : o.guard = none) {t : TypeId} {p : Tmp} {v : Operand} (_ho : o.op = .store t (.tmp p) v) (hd : o.dst = none) {g i : Nat} {cs cs' : Array Value} {T : TypeId} {x : Value}
    (hrun : (execOp a.eval o).run P W = .ok .skip (W.setCell ⟨g, i, none⟩ x)) (hb : W.heap[g]? = some (.cells cs T (0, 0))) (hc : cs.setIfInBounds i x = cs')
    (h : ∀ w1, w1.heap[g]? = some (.cells cs' T (0, 0)) → But g W w1 → wpList P ops Q rest a w1) : wpList P ops Q (o :: rest) a W := by
  refine store_event hgd _ho hd hrun ?_
  rintro w' rfl
  exact h _ (by rw [heap_setCell_same W g i cs T x hb, hc]) (But.setCell W ⟨g, i, none⟩ x)
/-- Some cells of a known row are written. -/
theorem puts_event {W : World} {o : Oper} (hgd : o.guard = none) {t : TypeId} {p : Tmp} {v : Operand} (ho : o.op = .store t (.tmp p) v) (hd : o.dst = none) {g i : Nat} {cs cs' vs : Array Value} {T : TypeId}
    (hx : a.eval (.tmp p) = .pointer (some ⟨g, i, none⟩)) (hy : a.eval v = .agg vs) (hb : W.heap[g]? = some (.cells cs T (0, 0))) (hn : i + vs.size ≤ cs.size) (hi : (P.info? t).map (·.size) = some vs.size) (h1 : vs.all (·.oneCell') = true)
    (hc : setAll cs i vs.toList = cs') (h : ∀ w1, w1.heap[g]? = some (.cells cs' T (0, 0)) → But g W w1 → wpList P ops Q rest a w1) : wpList P ops Q (o :: rest) a W := by
  refine wpList_store_mid hgd t (.tmp p) v ho g i vs hx hy (fun j hj => ⟨?_, frozen_of_row W g (i + j) cs T hb⟩) hi h1 ?_
  · rw [blk_cell hb (i + j), Array.getElem?_eq_getElem (by omega)]; rfl
  · rw [hd]
    exact h _ (by rw [← hc]; exact setCells_blk g T vs.toList i cs W hb) (setCells_but g vs.toList i W)
/-- A literal slice. -/
theorem lit_event {W : World} {o : Oper} (hgd : o.guard = none) {N : Tmp} (_hd : o.dst = some N) {cs : Array Value} {t : TypeId} {n : Nat}
    (hrun : (execOp a.eval o).run P W = .ok (.value (.slice (some ⟨W.heap.size, 0, none⟩) n n)) (W.alloc (.cells cs t (0, 0))))
    (h : ∀ g, g = W.heap.size → ∀ w1, w1.heap[g]? = some (.cells cs t (0, 0)) → Below W.heap.size W w1 → wpList P ops Q rest (a.put o.dst (.slice (some ⟨g, 0, none⟩) n n)) w1) : wpList P ops Q (o :: rest) a W :=
  Kd.event_run hgd hrun (h _ rfl _ (blk_new W _) (below_alloc (Below.refl _ _) _))
end
end Go.Proofs.YtbbbjjfecblhpaaGreat.Pd
/- Contracts by hand: fees for being late. -/
namespace Go.Proofs.YtbbbjjfecblhpaaGreat.Pd
open Go.RowKit Go.Proofs.YtbbbjjfecblhpaaGreatW.PrintWords Go.Proofs.YtbbbjjfecblhpaaGreatW.PrintLast Go.Proofs.YtbbbjjfecblhpaaGreatW.PrintMore Go.Proofs.YtbbbjjfecblhpaaGreat.HW
open Pm
set_option linter.unusedVariables false
set_option linter.unusedSimpArgs false
/-- The fee of so many days. -/
def look (d : Int) : List (List Int) → Int
  | [] => 0
  | r :: l => if r.getD 0 0 = d then r.getD 1 0 else look d l
/-- A row of four. -/
theorem four_at {w : World} {A : Option Addr} {rows : List (List Int)} (h : Op.IntRows w A 4 rows) (k : Nat) (hk : k < rows.length) : ∃ ad n d i q, A = some ad ∧ rows[k]? = some [n, d, i, q] ∧ w.cell? (ad.add (k * 4)) = some (.int .i64 n) ∧ w.cell? ⟨(ad.add (k * 4)).block, (ad.add (k * 4)).off + 1, none⟩ = some (.int .i64 d) ∧ w.cell? ⟨(ad.add (k * 4)).block, (ad.add (k * 4)).off + 2, none⟩ = some (.int .i64 i) ∧ w.cell? ⟨(ad.add (k * 4)).block, (ad.add (k * 4)).off + 3, none⟩ = some (.int .i64 q) ∧ (Lit.int .i64 d).wf = true := by
  obtain ⟨h1, h2⟩ := h.1 _ (List.getElem_mem hk)
  obtain ⟨ad, e, hc⟩ := h.2 k _ (List.getElem?_eq_getElem hk)
  rw [List.getElem?_eq_getElem hk]
  generalize rows[k] = r at *
  match r, h1 with
  | [n, d, i, q], _ => exact ⟨ad, n, d, i, q, e, rfl, hc 0 n rfl, by rw [← add_fieldR _ _ _ (by decide)]; exact hc 1 d rfl, by rw [← add_fieldR _ _ _ (by decide)]; exact hc 2 i rfl, by rw [← add_fieldR _ _ _ (by decide)]; exact hc 3 q rfl, h2 d (by simp)⟩
end Go.Proofs.YtbbbjjfecblhpaaGreat.Pd
/- Contracts by hand: what is due for being late, on a day. -/
namespace Go.Proofs.YtbbbjjfecblhpaaGreat.Pd
open Go.RowKit Go.Proofs.YtbbbjjfecblhpaaGreatW.PrintWords Go.Proofs.YtbbbjjfecblhpaaGreatW.PrintLast Go.Proofs.YtbbbjjfecblhpaaGreatW.PrintMore Go.Proofs.YtbbbjjfecblhpaaGreat.HW
open Pm
set_option linter.unusedVariables false
set_option linter.unusedSimpArgs false
theorem info_due : (Tryz.prog.info? 39).map (·.size) = some 4 := by kernel_rfl
theorem four_one (x y z u : Int) : (#[Value.int .i64 x, Value.int .i64 y, Value.int .i64 z, Value.int .i64 u]).all (·.oneCell') = true := by simp [Value.oneCell']
end Go.Proofs.YtbbbjjfecblhpaaGreat.Pd
/- Contracts by hand: what a program that does nothing does not answer (late fees); rows of a literal. -/
namespace Go.Proofs.YtbbbjjfecblhpaaGreat.Pd
open Go.RowKit Go.Proofs.YtbbbjjfecblhpaaGreatW.PrintWords Go.Proofs.YtbbbjjfecblhpaaGreatW.PrintLast Go.Proofs.YtbbbjjfecblhpaaGreatW.PrintMore Go.Proofs.YtbbbjjfecblhpaaGreat.HW
open Pm
set_option linter.unusedVariables false
set_option linter.unusedSimpArgs false
theorem flatten_at {sz : Nat} : ∀ (rows : List (List Int)) (i j : Nat) (r : List Int) (x : Int), (∀ r ∈ rows, r.length = sz) → rows[i]? = some r → r[j]? = some x → rows.flatten[i * sz + j]? = some x
  | [], i, j, r, x, _, h, _ => by simp at h
  | a :: l, 0, j, r, x, hl, h, hx => by
    obtain rfl : a = r := by simpa using h
    have hj := (List.getElem?_eq_some_iff.1 hx).1
    rw [List.flatten_cons, Nat.zero_mul, Nat.zero_add, List.getElem?_append_left hj]
    exact hx
  | a :: l, i + 1, j, r, x, hl, h, hx => by
    have ha := hl a (by simp)
    have e : (i + 1) * sz + j = a.length + (i * sz + j) := by rw [ha, Nat.add_mul]; omega
    rw [List.flatten_cons, e, List.getElem?_append_right (by omega), Nat.add_sub_cancel_left]
    exact flatten_at l i j r x (fun r hr => hl r (List.mem_cons_of_mem _ hr)) (by simpa using h) hx
end Go.Proofs.YtbbbjjfecblhpaaGreat.Pd
/- Plain: one instalment, day by day. -/
namespace Go.Proofs.YtbbbjjfecblhpaaGreat.Pd
open Go.RowKit Go.Proofs.YtbbbjjfecblhpaaGreatW.PrintWords Go.Proofs.YtbbbjjfecblhpaaGreatW.PrintLast Go.Proofs.YtbbbjjfecblhpaaGreatW.PrintMore Go.Proofs.YtbbbjjfecblhpaaGreat.HW
open Pm
set_option linter.unusedVariables false
set_option linter.unusedSimpArgs false
theorem wf_of {x : Int} (h0 : -9223372036854775808 ≤ x) (h1 : x ≤ 9223372036854775807) : (Lit.int .i64 x).wf = true := by
  refine (Bool.and_eq_true _ _).mpr ⟨decide_eq_true ?_, decide_eq_true ?_⟩
  · exact h0
  · exact h1
/-- How it stands k days behind the due day. -/
def Inv (d1 d2 f cap k s t : Int) : Prop :=
  (k ≤ d1 → s = 0 ∧ t = 0) ∧ (d1 < k → k ≤ d2 → s = min f cap ∧ 0 ≤ t ∧ t ≤ 1) ∧ (d2 < k → s = min (3 * f) cap ∧ 0 ≤ t ∧ t ≤ 2)
end Go.Proofs.YtbbbjjfecblhpaaGreat.Pd
/- Plain: many instalments; rows in a slice of the call's own. -/
namespace Go.Proofs.YtbbbjjfecblhpaaGreat.Pd
open Go.RowKit Go.Proofs.YtbbbjjfecblhpaaGreatW.PrintWords Go.Proofs.YtbbbjjfecblhpaaGreatW.PrintLast Go.Proofs.YtbbbjjfecblhpaaGreatW.PrintMore Go.Proofs.YtbbbjjfecblhpaaGreat.HW
open Pm
set_option linter.unusedVariables false
set_option linter.unusedSimpArgs false
/-- All that comes together. -/
def wantS (late : List (List Int)) (day : Int) : List (List Int) → Int
  | [] => 0
  | r :: l => look (day - r.getD 1 0) late + wantS late day l
theorem wantS_snoc (late : List (List Int)) (day : Int) (r : List Int) : ∀ l, wantS late day (l ++ [r]) = wantS late day l + look (day - r.getD 1 0) late
  | [] => by simp [wantS]
  | a :: l => by simp only [List.cons_append, wantS]; rw [wantS_snoc late day r l]; omega
/-- One row of many. -/
def RowOk (day : Int) (r : List Int) : Prop := ∃ i x : Int, r = [i, day - x, 1, 0] ∧ (1 ≤ i ∧ i ≤ 30) ∧ (0 ≤ x ∧ x ≤ 219)
theorem RowOk.wf {day : Int} (d0 : 0 ≤ day) (d1 : day ≤ 100000) {r : List Int} (h : RowOk day r) : ∀ x ∈ r, (Lit.int .i64 x).wf = true := by
  obtain ⟨i, x, rfl, h1, h2⟩ := h
  intro y hy
  simp at hy
  rcases hy with rfl | rfl | rfl | rfl <;> exact wf_of (by omega) (by omega)
theorem own_rows {W : World} {base : Nat} {T : TypeId} {v : Value} {n : Nat} {rows : List (List Int)} (h : W.ownsRow base T 4 v n (rows.flatten.map (Value.int .i64))) (hl : rows.length = n) (hr : ∀ r ∈ rows, r.length = 4) (hw : ∀ r ∈ rows, ∀ x ∈ r, (Lit.int .i64 x).wf = true) :
    ∃ A c, v = .slice A n c ∧ n ≤ c ∧ (A = none → c = 0) ∧ Op.IntRows W A 4 rows := by
  rcases h.2 with ⟨rfl, rfl⟩ | ⟨g, cap, cur, rfl, hb, hg, hn, _, hs, ht⟩
  · obtain rfl : rows = [] := List.eq_nil_of_length_eq_zero hl
    exact ⟨none, 0, rfl, Nat.le_refl _, fun _ => rfl, (fun r hr => by simp at hr), (fun i r h => by simp at h)⟩
  · refine ⟨some ⟨g, 0, none⟩, cap, rfl, hn, (fun e => by cases e), fun r h => ⟨hr r h, hw r h⟩, fun i r hi => ⟨_, rfl, fun j x hj => ?_⟩⟩
    have hi1 := (List.getElem?_eq_some_iff.1 hi).1
    have hj1 := (List.getElem?_eq_some_iff.1 hj).1
    have h4 := hr r (List.mem_of_getElem? hi)
    have e : cur.toList[i * 4 + j]? = some (.int .i64 x) := by
      have e2 : (cur.toList.take (n * 4))[i * 4 + j]? = some (.int .i64 x) := by rw [ht, List.getElem?_map, flatten_at rows i j r x hr hi hj]; rfl
      rw [List.getElem?_take] at e2
      split at e2
      · exact e2
      · cases e2
    rw [Addr.add_mid, Nat.zero_add, blk_cell hg, ← Array.getElem?_toList]
    exact e
theorem info_due4 : (Tryz.prog.info? 39).map (fun i => (i.zero, i.size, i.bytes)) = some (some (.agg #[.int .i64 0, .int .i64 0, .int .i64 0, .int .i64 0]), 4, 32) := by kernel_rfl
/-- k rows, in a slice of the call's own, and all that comes together. -/
structure Rowed (w W : World) (v : Value) (late : List (List Int)) (day : Int) (want : Int) (k : Nat) (rows : List (List Int)) : Prop where
  len : rows.length = k
  all : ∀ r ∈ rows, RowOk day r
  want : wantS late day rows = want
  own : W.ownsRow w.heap.size 39 4 v k (rows.flatten.map (Value.int .i64))
  below : Below w.heap.size w W
theorem Rowed.zero (w : World) (late : List (List Int)) (day : Int) : Rowed w w (.slice none 0 0) late day 0 0 [] :=
  ⟨rfl, (fun r h => by cases h), rfl, ⟨rfl, Or.inl ⟨rfl, rfl⟩⟩, Below.refl _ _⟩
theorem Rowed.more {w W W2 w1 : World} {A : Option Addr} {c : Nat} {late : List (List Int)} {day want x : Int} {k : Nat} {rows : List (List Int)} {v' : Value} (h : Rowed w W (.slice A k c) late day want k rows) (hk : k < 30) (hx : 0 ≤ x ∧ x ≤ 219) (hb : Below w.heap.size w W2)
    (hown : w1.ownsRow w.heap.size 39 4 v' (k + 1) (rows.flatten.map (Value.int .i64) ++ [.int .i64 ((k : Int) + 1), .int .i64 (day - x), .int .i64 1, .int .i64 0])) (hg : W2.grownBy w1 (Value.slice A k c).ownBlock) :
    Rowed w w1 v' late day (want + look x late) (k + 1) (rows ++ [[(k : Int) + 1, day - x, 1, 0]]) := by
  refine ⟨by simp [h.len], fun r hr => ?_, ?_, by simpa using hown, hb.grown hg hb.size fun j hj => (h.own.lt j hj).1⟩
  · rcases List.mem_append.1 hr with hr | hr
    · exact h.all r hr
    · obtain rfl : r = [(k : Int) + 1, day - x, 1, 0] := by simpa using hr
      exact ⟨_, x, rfl, by omega, hx⟩
  · rw [wantS_snoc, h.want]
    show want + look (day - (day - x)) late = _
    rw [show day - (day - x) = x by omega]
end Go.Proofs.YtbbbjjfecblhpaaGreat.Pd
/- Contracts by hand: a copy of one's own, of instalments. -/
namespace Go.Proofs.YtbbbjjfecblhpaaGreat.Pd
open Go.RowKit Go.Proofs.YtbbbjjfecblhpaaGreatW.PrintWords Go.Proofs.YtbbbjjfecblhpaaGreatW.PrintLast Go.Proofs.YtbbbjjfecblhpaaGreatW.PrintMore Go.Proofs.YtbbbjjfecblhpaaGreat.HW
open Pm
set_option linter.unusedVariables false
set_option linter.unusedSimpArgs false
def cellsR (rows : List (List Int)) : List Value := rows.flatten.map (Value.int .i64)
theorem flat_len {sz : Nat} : ∀ rows : List (List Int), (∀ r ∈ rows, r.length = sz) → rows.flatten.length = rows.length * sz
  | [], _ => by simp
  | r :: l, h => by
    rw [List.flatten_cons, List.length_append, h r (by simp), flat_len l (fun r hr => h r (List.mem_cons_of_mem _ hr)), List.length_cons, Nat.succ_mul, Nat.add_comm]
theorem cellsR_len {sz : Nat} {rows : List (List Int)} (h : ∀ r ∈ rows, r.length = sz) : (cellsR rows).length = rows.length * sz := by unfold cellsR; rw [List.length_map, flat_len rows h]
theorem cellsR_one (rows : List (List Int)) : ∀ u ∈ cellsR rows, u.oneCell' = true := by
  intro u hu
  unfold cellsR at hu
  rw [List.mem_map] at hu
  obtain ⟨a, _, rfl⟩ := hu
  rfl
theorem cellsR_snoc (rows : List (List Int)) (r : List Int) : cellsR (rows ++ [r]) = cellsR rows ++ r.map (Value.int .i64) := by simp [cellsR]
theorem rows_news {sz : Nat} (hsz : 0 < sz) {W : World} {ad : Addr} {rows : List (List Int)} (h : Op.IntRows W (some ad) sz rows) : ∀ j u, (cellsR rows)[j]? = some u → W.cell? (ad.add j) = some u := by
  intro j u hu
  have hl : ∀ r ∈ rows, r.length = sz := fun r hr => (h.1 r hr).1
  have hj : j < rows.length * sz := by
    have := (List.getElem?_eq_some_iff.1 hu).1
    rwa [cellsR_len hl] at this
  have hi : j / sz < rows.length := Nat.div_lt_of_lt_mul (by rw [Nat.mul_comm]; exact hj)
  have hm : j % sz < sz := Nat.mod_lt _ hsz
  have e : j / sz * sz + j % sz = j := by rw [Nat.mul_comm]; exact Nat.div_add_mod j sz
  have hr := List.getElem?_eq_getElem hi
  have hx : (rows[j / sz])[j % sz]? = some (rows[j / sz][j % sz]'(by rw [hl _ (List.getElem_mem hi)]; exact hm)) := List.getElem?_eq_getElem _
  have hf := flatten_at rows _ _ _ _ hl hr hx
  rw [e] at hf
  unfold cellsR at hu
  rw [List.getElem?_map, hf] at hu
  obtain ⟨ad', e', hc⟩ := h.2 _ _ hr
  obtain rfl := Option.some.inj e'
  have := hc _ _ hx
  rw [e] at this
  rw [this]
  exact hu
theorem setAll_mid : ∀ (vs pre a b : List Value), a.length = vs.length → setAll (pre ++ (a ++ b)).toArray pre.length vs = (pre ++ (vs ++ b)).toArray
  | [], pre, a, b, h => by
    obtain rfl : a = [] := List.eq_nil_of_length_eq_zero h
    rfl
  | v :: r, pre, [], b, h => by simp at h
  | v :: r, pre, x :: a, b, h => by
    have ih := setAll_mid r (pre ++ [v]) a b (by simpa using h)
    rw [List.length_append, List.length_singleton] at ih
    simp only [setAll, List.cons_append, List.setIfInBounds_toArray]
    rw [List.set_append_right _ _ (Nat.le_refl _), Nat.sub_self, List.set_cons_zero]
    simpa using ih
/-- A copy, with three more behind it. -/
def OwnedR (T : TypeId) (rows : List (List Int)) (x : List Int) (w : World) (e : Ending) (w' : World) : Prop := ∃ g, w.heap.size ≤ g ∧ e = .returned (.slice (some ⟨g, 0, none⟩) rows.length (rows.length + 3)) ∧ w'.heap[g]? = some (.cells (cellsR (rows ++ [x, x, x])).toArray T (0, 0)) ∧ Below w.heap.size w w'
/-- k of the three are laid. -/
structure Laying (T : TypeId) (rows : List (List Int)) (x : List Int) (g : Nat) (W : World) (k : Nat) (ts : List Value) : Prop where
  len : ts.length = 4 * (3 - k)
  at_ : W.heap[g]? = some (.cells (cellsR (rows ++ List.replicate k x) ++ ts).toArray T (0, 0))
theorem Laying.done {T : TypeId} {rows : List (List Int)} {x : List Int} {g : Nat} {W : World} {ts : List Value} (h : Laying T rows x g W 3 ts) : W.heap[g]? = some (.cells (cellsR (rows ++ [x, x, x])).toArray T (0, 0)) := by
  obtain rfl : ts = [] := List.eq_nil_of_length_eq_zero h.len
  have := h.at_
  rw [List.append_nil] at this
  exact this
theorem Laying.next {T : TypeId} {rows : List (List Int)} {x : List Int} {g : Nat} {W w1 : World} {k : Nat} {ts : List Value} (h : Laying T rows x g W k ts) (hk : k < 3) (h1 : w1.heap[g]? = some (.cells (cellsR (rows ++ List.replicate k x) ++ (x.map (Value.int .i64) ++ ts.drop 4)).toArray T (0, 0))) : Laying T rows x g w1 (k + 1) (ts.drop 4) := by
  refine ⟨by rw [List.length_drop, h.len]; omega, ?_⟩
  rw [h1, List.replicate_succ', ← List.append_assoc rows, cellsR_snoc, List.append_assoc]
theorem Laying.set {T : TypeId} {rows : List (List Int)} {x : List Int} {g : Nat} {W : World} {k : Nat} {ts : List Value} (h : Laying T rows x g W k ts) (hk : k < 3) (hr : ∀ r ∈ rows, r.length = 4) (hx : x.length = 4) :
    (rows.length + k) * 4 + 4 ≤ (cellsR (rows ++ List.replicate k x) ++ ts).toArray.size ∧ setAll (cellsR (rows ++ List.replicate k x) ++ ts).toArray ((rows.length + k) * 4) (x.map (Value.int .i64)) = (cellsR (rows ++ List.replicate k x) ++ (x.map (Value.int .i64) ++ ts.drop 4)).toArray := by
  have hl : (cellsR (rows ++ List.replicate k x)).length = (rows.length + k) * 4 := by
    rw [cellsR_len (sz := 4), List.length_append, List.length_replicate]
    intro r hr'
    rcases List.mem_append.1 hr' with h' | h'
    · exact hr r h'
    · rw [List.eq_of_mem_replicate h']; exact hx
  constructor
  · rw [List.size_toArray, List.length_append, hl, h.len]; omega
  · have e := setAll_mid (x.map (Value.int .i64)) (cellsR (rows ++ List.replicate k x)) (ts.take 4) (ts.drop 4) (by rw [List.length_take, h.len, List.length_map, hx]; omega)
    rw [List.take_append_drop, hl] at e
    exact e
set_option maxRecDepth 100000 in
set_option maxHeartbeats 1000000 in
theorem ownD_some (ad : Addr) (c0 : Nat) (rows : List (List Int)) (a b c d : Int) (w : World) (hr0 : Op.IntRows w (some ad) 4 rows) (hc0 : rows.length ≤ c0) (hm : rows.length ≤ 1000000) :
    Calls Tryz.prog 7 #[.slice (some ad) rows.length c0, .agg #[.int .i64 a, .int .i64 b, .int .i64 c, .int .i64 d]] w (OwnedR 39 rows [a, b, c, d] w) := by
  obtain ⟨i0, hi, hz0, hz1, hz2⟩ := info_parts info_due4
  have HR0 := Aside0.mk hr0
  have HL4 := Aside0.mk (fun r hr => (hr0.1 r hr).1)
  clear hr0
  go_enter Tryz.func7, Tryz.ntmps7
  go_wp2_with (first
    | ((with_reducible refine gate_dst (N := 3) rfl ?_); refine box_event ?hg (N := 3) ?hd (cs := #[.int .i64 a, .int .i64 b, .int .i64 c, .int .i64 d]) (t := 39) ?hr ?_; (case hd => rfl); (case hg => rfl); (case hr => first | (go_simp; done) | (go_simp; rfl)); intro g3 hg w1 hb1 hbl1; clear hg; have HB3 := Aside0.mk hb1; have BL1 := Aside0.mk hbl1; clear hb1 hbl1)
    | (refine wpList_make_own _ rfl _ _ 29 rfl w1.heap.size 39 i0 (.agg #[.int .i64 0, .int .i64 0, .int .i64 0, .int .i64 0]) 4 Tryz.underlying29 hi hz0 hz1 .i64 .i64 _ (rows.length + 3) rfl rfl (by simp) (by rw [hz2]; omega) (by unfold maxLen; omega) (Nat.le_refl _) ?_; intro w2 hown1 hgrow1; have HB1 := Aside0.mk ((Below.refl w1.heap.size w1).grown hgrow1 (Nat.le_refl _) (fun k hk => by cases hk)); have HO := Aside0.mk hown1; have HN := Aside0.mk (rows_news (by decide) (HR0.out.below (below_step BL1.out HB1.out))); clear hown1 hgrow1)
    | (at_builtin; refine wpList_append_fits _ rfl _ _ 29 rfl w1.heap.size 39 i0 4 Tryz.underlying29 hi hz1 w1.heap.size 0 (rows.length + 3) [] rfl HO.out ad rows.length c0 (cellsR rows) rfl (cellsR_len HL4.out) HN.out (cellsR_one rows) (by omega) ?_; intro w3 hown2 hgrow2; have HB2 := Aside0.mk (HB1.out.grown hgrow2 HB1.out.size (fun k hk => by cases hk; exact Nat.le_refl _)); have HO2 := Aside0.mk hown2; clear hown2 hgrow2))
  obtain ⟨ts, hts⟩ : ∃ ts, Laying 39 rows [a, b, c, d] w1.heap.size w3 0 ts := by
    rcases HO2.out.2 with ⟨h, _⟩ | ⟨g', cap', cur, e', _, hh, h1, h2, h3, h4⟩
    · cases h
    · injection e' with e1 e2 e3
      injection e1 with e1
      injection e1 with e4
      subst e4
      subst e3
      rw [Nat.zero_add, List.nil_append] at h4
      refine ⟨cur.toList.drop (rows.length * 4), by rw [List.length_drop, Array.length_toList, h3]; omega, ?_⟩
      rw [List.replicate_zero, List.append_nil, ← h4, List.take_append_drop, hh]
  have HTS := Aside0.mk hts
  have BW := Aside0.mk HB2.out
  have BS := Aside0.mk (below_step BL1.out HB2.out)
  have g1ge := BL1.out.size
  clear hts HO HO2 HN HB1 HB2
  obtain ⟨g, hg⟩ : ∃ g, w1.heap.size = g := ⟨_, rfl⟩
  have g3ne := (show g3 < g by have := blk_lt HB3.out; omega)
  have H3 := Aside0.mk (blk_below HB3.out BW.out)
  rw [hg] at HTS g1ge
  simp only [hg]
  clear BW HB3 BL1
  go_wp2_with fail
  go_loopg [7] 4 (fun gq iv w' => ∃ (k : Nat) (ts : List Value), k ≤ 3 ∧ iv = .int .i64 ((rows.length : Int) + (k : Int)) ∧ Aside0 (gq = 4 - k) ∧ Aside0 (Laying 39 rows [a, b, c, d] g w' k ts) ∧ Aside0 (Below w.heap.size w w') ∧ Aside0 (w'.heap[g3]? = some (.cells #[.int .i64 a, .int .i64 b, .int .i64 c, .int .i64 d] 39 (0, 0))))
  case atStart => exact ⟨0, ts, by omega, by simp, ⟨rfl⟩, HTS, BS, H3⟩
  case round =>
    obtain ⟨k, ts, k3, rfl, hgq, hL, hB, h3⟩ := hrel
    by_cases hlt : k < 3
    · obtain ⟨hfit, hset⟩ := hL.out.set hlt HL4.out rfl
      have HFIT := Aside0.mk hfit
      have HSET := Aside0.mk hset
      clear hfit hset
      have glt := blk_lt hL.out.at_
      have cc := (cell_of_row wr g ((rows.length + k) * 4) _ 39 (0, 0) hL.out.at_)
      clear cc
      go_wp2_with (first
        | ((with_reducible refine gate_dst (N := 30) rfl ?_); refine wpList_load_row rfl 39 (.tmp 3) rfl g3 rfl 39 _ (0, 0) _ h3.out Tryz.underlying39 rfl info_due ?_)
        | ((with_reducible refine gate_store (t := 39) (p := 31) rfl ?_); refine puts_event rfl (t := 39) (p := 31) (v := .tmp 30) rfl rfl (g := g) (i := (rows.length + k) * 4) (cs := _) (cs' := _) (vs := #[.int .i64 a, .int .i64 b, .int .i64 c, .int .i64 d]) ?hx ?hy hL.out.at_ HFIT.out info_due (four_one _ _ _ _) HSET.out ?_; (case hx => first | rfl | (go_simp; done) | (go_simp; rfl)); (case hy => first | rfl | (go_simp; done)); intro v3 hb hbut; have L3 := Aside0.mk (hL.out.next hlt hb); have B3 := Aside0.mk (hbut.below hB.out g1ge hB.out.size); have I3 := Aside0.mk (hbut.blk h3.out (by omega)); clear hb hbut))
      go_roundg (4 - (k + 1))
      case measure => have := hgq.out; omega
      case rel => exact ⟨k + 1, ts.drop 4, by omega, by simp; omega, ⟨rfl⟩, L3, B3, I3⟩
    · obtain rfl : k = 3 := by omega
      go_wp2_with fail
      go_ret
      exact ⟨g, g1ge, rfl, hL.out.done, hB.out⟩
end Go.Proofs.YtbbbjjfecblhpaaGreat.Pd
/- Contracts by hand: a copy of one's own, of instalments; whether it was kept. -/
namespace Go.Proofs.YtbbbjjfecblhpaaGreat.Pd
open Go.RowKit Go.Proofs.YtbbbjjfecblhpaaGreatW.PrintWords Go.Proofs.YtbbbjjfecblhpaaGreatW.PrintLast Go.Proofs.YtbbbjjfecblhpaaGreatW.PrintMore Go.Proofs.YtbbbjjfecblhpaaGreat.HW
open Pm
set_option linter.unusedVariables false
set_option linter.unusedSimpArgs false
set_option maxRecDepth 100000 in
set_option maxHeartbeats 1000000 in
theorem ownD_nil (a b c d : Int) (w : World) :
    Calls Tryz.prog 7 #[.slice none 0 0, .agg #[.int .i64 a, .int .i64 b, .int .i64 c, .int .i64 d]] w (OwnedR 39 [] [a, b, c, d] w) := by
  obtain ⟨i0, hi, hz0, hz1, hz2⟩ := info_parts info_due4
  go_enter Tryz.func7, Tryz.ntmps7
  go_wp2_with (first
    | ((with_reducible refine gate_dst (N := 3) rfl ?_); refine box_event ?hg (N := 3) ?hd (cs := #[.int .i64 a, .int .i64 b, .int .i64 c, .int .i64 d]) (t := 39) ?hr ?_; (case hd => rfl); (case hg => rfl); (case hr => first | (go_simp; done) | (go_simp; rfl)); intro g3 hg w1 hb1 hbl1; clear hg; have HB3 := Aside0.mk hb1; have BL1 := Aside0.mk hbl1; clear hb1 hbl1)
    | (refine wpList_make_own _ rfl _ _ 29 rfl w1.heap.size 39 i0 (.agg #[.int .i64 0, .int .i64 0, .int .i64 0, .int .i64 0]) 4 Tryz.underlying29 hi hz0 hz1 .i64 .i64 _ (0 + 3) rfl rfl (by simp) (by rw [hz2]; omega) (by unfold maxLen; omega) (Nat.le_refl _) ?_; intro w2 hown1 hgrow1; have HB1 := Aside0.mk ((Below.refl w1.heap.size w1).grown hgrow1 (Nat.le_refl _) (fun k hk => by cases hk)); have HO2 := Aside0.mk hown1; clear hown1 hgrow1; refine Hid.out ?_))
  refine Lib.hid ?_
  obtain ⟨ts, hts⟩ : ∃ ts, Laying 39 [] [a, b, c, d] w1.heap.size w2 0 ts := by
    rcases HO2.out.2 with ⟨h, _⟩ | ⟨g', cap', cur, e', _, hh, h1, h2, h3, h4⟩
    · cases h
    · injection e' with e1 e2 e3
      injection e1 with e1
      injection e1 with e4
      subst e4
      subst e3
      refine ⟨cur.toList, by rw [Array.length_toList, h3], ?_⟩
      rw [hh]
      rfl
  have HTS := Aside0.mk hts
  have BW := Aside0.mk HB1.out
  have BS := Aside0.mk (below_step BL1.out HB1.out)
  have g1ge := BL1.out.size
  clear hts HO2 HB1
  obtain ⟨g, hg⟩ : ∃ g, w1.heap.size = g := ⟨_, rfl⟩
  have g3ne := (show g3 < g by have := blk_lt HB3.out; omega)
  have H3 := Aside0.mk (blk_below HB3.out BW.out)
  have glt0 := blk_lt HTS.out.at_
  rw [hg] at HTS g1ge glt0
  simp only [hg]
  clear BW HB3 BL1
  go_wp2_with fail
  go_loopg [7] 4 (fun gq iv w' => ∃ (k : Nat) (ts : List Value), k ≤ 3 ∧ iv = .int .i64 (k : Int) ∧ Aside0 (gq = 4 - k) ∧ Aside0 (Laying 39 [] [a, b, c, d] g w' k ts) ∧ Aside0 (Below w.heap.size w w') ∧ Aside0 (w'.heap[g3]? = some (.cells #[.int .i64 a, .int .i64 b, .int .i64 c, .int .i64 d] 39 (0, 0))))
  case atStart => exact ⟨0, ts, by omega, by simp, ⟨rfl⟩, HTS, BS, H3⟩
  case round =>
    obtain ⟨k, ts, k3, rfl, hgq, hL, hB, h3⟩ := hrel
    by_cases hlt : k < 3
    · obtain ⟨hfit, hset⟩ := hL.out.set hlt (fun r hr => by cases hr) rfl
      rw [show (([] : List (List Int)).length + k) * 4 = k * 4 by simp] at hfit hset
      have HFIT := Aside0.mk hfit
      have HSET := Aside0.mk hset
      clear hfit hset
      have glt := blk_lt hL.out.at_
      go_wp2_with (first
        | ((with_reducible refine gate_dst (N := 30) rfl ?_); refine wpList_load_row rfl 39 (.tmp 3) rfl g3 rfl 39 _ (0, 0) _ h3.out Tryz.underlying39 rfl info_due ?_)
        | ((with_reducible refine gate_store (t := 39) (p := 31) rfl ?_); refine puts_event rfl (t := 39) (p := 31) (v := .tmp 30) rfl rfl (g := g) (i := k * 4) (cs := _) (cs' := _) (vs := #[.int .i64 a, .int .i64 b, .int .i64 c, .int .i64 d]) ?hx ?hy hL.out.at_ HFIT.out info_due (four_one _ _ _ _) HSET.out ?_; (case hx => first | rfl | (go_simp; done) | (go_simp; rfl)); (case hy => first | rfl | (go_simp; done)); intro v3 hb hbut; have L3 := Aside0.mk (hL.out.next hlt hb); have B3 := Aside0.mk (hbut.below hB.out g1ge hB.out.size); have I3 := Aside0.mk (hbut.blk h3.out (by omega)); clear hb hbut))
      go_roundg (4 - (k + 1))
      case measure => have := hgq.out; omega
      case rel => exact ⟨k + 1, ts.drop 4, by omega, by simp, ⟨rfl⟩, L3, B3, I3⟩
    · obtain rfl : k = 3 := by omega
      go_wp2_with fail
      go_ret
      exact ⟨g, g1ge, rfl, hL.out.done, hB.out⟩
theorem ownD_any (A : Option Addr) (c0 : Nat) (rows : List (List Int)) (a b c d : Int) (w : World) (hr0 : Op.IntRows w A 4 rows) (hc0 : rows.length ≤ c0) (hn : A = none → c0 = 0) (hm : rows.length ≤ 1000000) :
    Calls Tryz.prog 7 #[.slice A rows.length c0, .agg #[.int .i64 a, .int .i64 b, .int .i64 c, .int .i64 d]] w (OwnedR 39 rows [a, b, c, d] w) := by
  cases A with
  | some ad => exact ownD_some ad c0 rows a b c d w hr0 hc0 hm
  | none =>
    obtain rfl := hn rfl
    obtain rfl : rows = [] := List.eq_nil_of_length_eq_zero (by omega)
    exact ownD_nil a b c d w
end Go.Proofs.YtbbbjjfecblhpaaGreat.Pd
/- Contracts by hand: whether a copy of instalments was kept. -/
namespace Go.Proofs.YtbbbjjfecblhpaaGreat.Pd
open Go.RowKit Go.Proofs.YtbbbjjfecblhpaaGreatW.PrintWords Go.Proofs.YtbbbjjfecblhpaaGreatW.PrintLast Go.Proofs.YtbbbjjfecblhpaaGreatW.PrintMore Go.Proofs.YtbbbjjfecblhpaaGreat.HW
open Pm
set_option linter.unusedVariables false
set_option linter.unusedSimpArgs false
set_option maxRecDepth 100000 in
set_option maxHeartbeats 1000000 in
theorem plainD1 (a b c d : Int) (w : World) : Calls Tryz.prog 50 #[.agg #[.int .i64 a, .int .i64 b, .int .i64 c, .int .i64 d], .agg #[.int .i64 a, .int .i64 b, .int .i64 c, .int .i64 d]] w fun e w' => e = .returned (.bool true) ∧ Below w.heap.size w w' := by
  go_enter Tryz.func50, Tryz.ntmps50
  go_wp2_with (first
    | ((with_reducible refine gate_dst (N := 2) rfl ?_); refine box_event ?hg (N := 2) ?hd (cs := #[.int .i64 a, .int .i64 b, .int .i64 c, .int .i64 d]) (t := 39) ?hr ?_; (case hd => rfl); (case hg => rfl); (case hr => first | (go_simp; done) | (go_simp; rfl)); intro g2 hg w1 hb1 hbl1; clear hg; have HB2 := Aside0.mk hb1; have BL1 := Aside0.mk hbl1; clear hb1 hbl1)
    | ((with_reducible refine gate_dst (N := 3) rfl ?_); refine box_event ?hg (N := 3) ?hd (cs := #[.int .i64 a, .int .i64 b, .int .i64 c, .int .i64 d]) (t := 39) ?hr ?_; (case hd => rfl); (case hg => rfl); (case hr => first | (go_simp; done) | (go_simp; rfl)); intro g3 hg w2 hb1 hbl1; clear hg; have HB3 := Aside0.mk hb1; have HB22 := Aside0.mk (blk_below HB2.out hbl1); have BL2 := Aside0.mk (below_step BL1.out hbl1); clear hb1 hbl1)
    | ((with_reducible refine gate_dst (N := 5) rfl ?_); refine wpList_load_row rfl 39 (.tmp 2) rfl g2 rfl 39 _ (0, 0) _ HB22.out Tryz.underlying39 rfl info_due ?_)
    | ((with_reducible refine gate_dst (N := 6) rfl ?_); refine wpList_load_row rfl 39 (.tmp 3) rfl g3 rfl 39 _ (0, 0) _ HB3.out Tryz.underlying39 rfl info_due ?_))
  go_ret
  exact ⟨by simp, BL2.out⟩
set_option maxRecDepth 100000 in
set_option maxHeartbeats 1000000 in
theorem sameD (A0 A1 : Option Addr) (c0 c1 : Nat) (rows : List (List Int)) (w : World) (hr0 : Op.IntRows w A0 4 rows) (hr1 : Op.IntRows w A1 4 rows) (hm : rows.length ≤ 1000000) :
    Calls Tryz.prog 49 #[.slice A0 rows.length c0, .slice A1 rows.length c1, .func (.func 50) #[] #[]] w fun e w' => e = .returned (.bool true) ∧ Below w.heap.size w w' := by
  have HR0 := Aside0.mk hr0
  have HR1 := Aside0.mk hr1
  clear hr0 hr1
  go_enter Tryz.func49, Tryz.ntmps49
  go_wp2_with fail
  go_loopg [7] (rows.length + 1) (fun gq iv w' => ∃ (k : Nat), k ≤ rows.length ∧ iv = .int .i64 (k : Int) ∧ Aside0 (gq = rows.length + 1 - k) ∧ Aside0 (Below w.heap.size w w'))
  case atStart => exact ⟨0, Nat.zero_le _, rfl, ⟨rfl⟩, ⟨Below.refl _ _⟩⟩
  case round =>
    obtain ⟨k, hk, rfl, hgq, hbl⟩ := hrel
    by_cases hlt : k < rows.length
    · obtain ⟨ad0, n, d, i, q, e0, hrow, p0, p1, p2, p3, -⟩ := four_at (HR0.out.below hbl.out) k hlt
      obtain ⟨ad1, n', d', i', q', e1, hrow', s0, s1, s2, s3, -⟩ := four_at (HR1.out.below hbl.out) k hlt
      obtain ⟨rfl, rfl, rfl, rfl⟩ : n = n' ∧ d = d' ∧ i = i' ∧ q = q' := by
        have h := hrow.symm.trans hrow'
        simpa using h
      subst e0 e1
      have kk0 : (0 : Int) ≤ (k : Int) := by omega
      have kk1 : (k : Int) < (rows.length : Int) := by omega
      clear hrow hrow'
      go_wp2_with fail
      go_still_tail 9, (by kernel_rfl)
      go_wp2_with ((go_at_call 50; refine (plainD1 n d i q _).mono ?_; rintro e v1 ⟨rfl, hb⟩; have B1 := Aside0.mk (below_step (by first | exact pw_below_drewN hbl.out _ | exact Below.drew hbl.out | exact hbl.out) hb); clear hb))
      go_roundg (rows.length + 1 - (k + 1))
      case measure => have := hgq.out; omega
      case rel => exact ⟨k + 1, by omega, by simp, ⟨rfl⟩, B1⟩
    · have hk2 : k = rows.length := by omega
      subst hk2
      go_wp2_with fail
      go_ret
      exact ⟨rfl, hbl.out⟩
set_option maxRecDepth 100000 in
set_option maxHeartbeats 1000000 in
theorem plainD (A0 A1 : Option Addr) (c0 c1 : Nat) (rows : List (List Int)) (w : World) (hr0 : Op.IntRows w A0 4 rows) (hr1 : Op.IntRows w A1 4 rows) (hm : rows.length ≤ 1000000) :
    Calls Tryz.prog 25 #[.slice A0 rows.length c0, .slice A1 rows.length c1] w fun e w' => e = .returned (.bool true) ∧ Below w.heap.size w w' := by
  have HR0 := Aside0.mk hr0
  have HR1 := Aside0.mk hr1
  clear hr0 hr1
  go_enter Tryz.func25, Tryz.ntmps25
  go_wp2_with fail
  refine (sameD A0 A1 c0 c1 rows _ HR0.out HR1.out hm).mono ?_
  rintro e v1 ⟨rfl, hb⟩
  have B1 := Aside0.mk hb
  clear hb
  go_wp2_with fail
  go_ret
  exact ⟨rfl, B1.out⟩
/-- The first rows of a block. -/
theorem rows_front {W : World} {g sz : Nat} {T : TypeId} {rows more : List (List Int)} (h : W.heap[g]? = some (.cells (cellsR (rows ++ more)).toArray T (0, 0))) (hl : ∀ r ∈ rows ++ more, r.length = sz) (hw : ∀ r ∈ rows, ∀ x ∈ r, (Lit.int .i64 x).wf = true) : Op.IntRows W (some ⟨g, 0, none⟩) sz rows := by
  refine ⟨fun r hr => ⟨hl r (List.mem_append_left _ hr), hw r hr⟩, fun i r hi => ⟨_, rfl, fun j x hj => ?_⟩⟩
  have hi2 : (rows ++ more)[i]? = some r := by rw [List.getElem?_append_left (List.getElem?_eq_some_iff.1 hi).1]; exact hi
  rw [Addr.add_mid, Nat.zero_add, blk_cell h, List.getElem?_toArray]
  unfold cellsR
  rw [List.getElem?_map, flatten_at _ i j r x hl hi2 hj]
  rfl
set_option maxRecDepth 100000 in
set_option maxHeartbeats 1000000 in
theorem keptD (g : Nat) (A1 : Option Addr) (c1 : Nat) (rows : List (List Int)) (a b c d : Int) (w : World) (hg : w.heap[g]? = some (.cells (cellsR (rows ++ [[a, b, c, d], [a, b, c, d], [a, b, c, d]])).toArray 39 (0, 0))) (hr1 : Op.IntRows w A1 4 rows) (hm : rows.length ≤ 1000000) :
    Calls Tryz.prog 12 #[.slice (some ⟨g, 0, none⟩) rows.length (rows.length + 3), .slice A1 rows.length c1, .agg #[.int .i64 a, .int .i64 b, .int .i64 c, .int .i64 d]] w fun e w' => e = .returned (.bool true) ∧ Below w.heap.size w w' := by
  have HL4 : ∀ r ∈ rows ++ [[a, b, c, d], [a, b, c, d], [a, b, c, d]], r.length = 4 := fun r hr => by
    rcases List.mem_append.1 hr with h | h
    · exact (hr1.1 r h).1
    · simp at h; rw [h]; rfl
  have HF := Aside0.mk (rows_front hg HL4 (fun r hr => (hr1.1 r hr).2))
  have HG := Aside0.mk hg
  have HR1 := Aside0.mk hr1
  have HL := Aside0.mk HL4
  clear hg hr1 HL4
  go_enter Tryz.func12, Tryz.ntmps12
  go_wp2_with (first
    | ((with_reducible refine gate_dst (N := 5) rfl ?_); refine box_event ?hg (N := 5) ?hd (cs := #[.int .i64 a, .int .i64 b, .int .i64 c, .int .i64 d]) (t := 39) ?hr ?_; (case hd => rfl); (case hg => rfl); (case hr => first | (go_simp; done) | (go_simp; rfl)); intro g2 hg w1 hb1 hbl1; clear hg; have HB2 := Aside0.mk hb1; have BL1 := Aside0.mk hbl1; clear hb1 hbl1))
  refine (plainD (some ⟨g, 0, none⟩) A1 _ c1 rows _ (HF.out.below BL1.out) (HR1.out.below BL1.out) hm).mono ?_
  rintro e w2 ⟨rfl, hb⟩
  have BL2 := Aside0.mk (below_step BL1.out hb)
  have HB3 := Aside0.mk (blk_below HB2.out hb)
  clear hb HB2
  go_wp2_with fail
  go_loopg [8] 4 (fun gq iv w' => ∃ (k : Nat), k ≤ 3 ∧ iv = .int .i64 ((rows.length : Int) + (k : Int)) ∧ Aside0 (gq = 4 - k) ∧ Aside0 (Below w.heap.size w w' ∧ Below w2.heap.size w2 w'))
  case atStart => exact ⟨0, by omega, by simp, ⟨rfl⟩, ⟨BL2.out, Below.refl _ _⟩⟩
  case round =>
    obtain ⟨k, k3, rfl, hgq, hbl⟩ := hrel
    by_cases hlt : k < 3
    · have hrow : (rows ++ [[a, b, c, d], [a, b, c, d], [a, b, c, d]])[rows.length + k]? = some [a, b, c, d] := by
        rw [List.getElem?_append_right (by omega), show rows.length + k - rows.length = k by omega]
        rcases (by omega : k = 0 ∨ k = 1 ∨ k = 2) with rfl | rfl | rfl <;> rfl
      have hblk := blk_below HG.out hbl.out.1
      have cl : ∀ (j : Nat) (x : Int), [a, b, c, d][j]? = some x → wr.cell? ⟨g, (rows.length + k) * 4 + j, none⟩ = some (.int .i64 x) := fun j x hj => by
        rw [blk_cell hblk, List.getElem?_toArray]
        unfold cellsR
        rw [List.getElem?_map, flatten_at _ _ j _ x HL.out hrow hj]
        rfl
      have p0 := cl 0 a rfl
      have p1 := cl 1 b rfl
      have p2 := cl 2 c rfl
      have p3 := cl 3 d rfl
      have glt := blk_lt hblk
      have hb3 := blk_below HB3.out hbl.out.2
      have t0 := (blk_cell hb3 0).trans rfl
      have t1 := (blk_cell hb3 1).trans rfl
      have t2 := (blk_cell hb3 2).trans rfl
      have t3 := (blk_cell hb3 3).trans rfl
      rw [Nat.add_zero] at p0
      clear hrow hblk cl hb3
      go_wp2_with fail
      go_quiet (fail)
      go_wp2_with fail
      go_roundg (4 - (k + 1))
      case measure => have := hgq.out; omega
      case rel => exact ⟨k + 1, by omega, by simp; omega, ⟨rfl⟩, ⟨by first | exact pw_below_drewN hbl.out.1 _ | exact hbl.out.1, by first | exact pw_below_drewN hbl.out.2 _ | exact hbl.out.2⟩⟩
    · obtain rfl : k = 3 := by omega
      go_wp2_with fail
      go_ret
      exact ⟨rfl, hbl.out.1⟩
end Go.Proofs.YtbbbjjfecblhpaaGreat.Pd
/- Contracts by hand: a list of one's own; whether it was kept; spoilt. -/
namespace Go.Proofs.YtbbbjjfecblhpaaGreat.HL
open Go.RowKit Go.Proofs.YtbbbjjfecblhpaaGreatW.PrintWords Go.Proofs.YtbbbjjfecblhpaaGreatW.PrintLast Go.Proofs.YtbbbjjfecblhpaaGreatW.PrintMore Go.Proofs.YtbbbjjfecblhpaaGreat.HW Go.Proofs.YtbbbjjfecblhpaaGreat.H
set_option linter.unusedVariables false
set_option linter.unusedSimpArgs false
theorem info_int' : (Tryz.prog.info? 2).map (fun i => (i.zero, i.size, i.bytes)) = some (some (.int .i64 0), 1, 8) := by kernel_rfl
/-- A copy, with three more behind it. -/
def Owned (l : List Int) (x : Int) (w : World) (e : Ending) (w' : World) : Prop := ∃ g, w.heap.size ≤ g ∧ e = .returned (.slice (some ⟨g, 0, none⟩) l.length (l.length + 3)) ∧ Blk w' g 2 (nums .i64 l ++ [.int .i64 x, .int .i64 x, .int .i64 x]) ∧ Below w.heap.size w w'
theorem nums_get (l : List Int) (j : Nat) (u : Value) (h : (nums .i64 l)[j]? = some u) : j < l.length ∧ u = .int .i64 (rd l (j : Int)) := by
  have hj : j < l.length := by
    rcases Nat.lt_or_ge j l.length with h' | h'
    · exact h'
    · rw [List.getElem?_eq_none (by rw [nums_length]; exact h')] at h; cases h
  refine ⟨hj, ?_⟩
  rw [rd_nat l j hj]
  simp [nums, hj] at h
  exact h.symm
theorem put_at (k : IntKind) (l : List Int) (ts : List Value) (j : Nat) (u : Value) : (nums k l ++ ts).set (l.length + j) u = nums k l ++ ts.set j u := by
  rw [List.set_append_right _ _ (by rw [nums_length]; omega), nums_length]
  congr 2; omega
theorem take_put {ts : List Value} {u : Value} {k : Nat} (hl : ts.length = 3) (hk : k < 3) (h : ts.take k = [u, u, u].take k) : (ts.set k u).take (k + 1) = [u, u, u].take (k + 1) := by
  match ts, hl with
  | [a, b, c], _ =>
    rcases (by omega : k = 0 ∨ k = 1 ∨ k = 2) with rfl | rfl | rfl
    · simp
    · simp at h; simp [h]
    · simp at h; simp [h]
theorem news_of {w w1 : World} {ad : Addr} {l : List Int} (hr : Kd.C (Kd.int .i64) w (some ad) l.length l) (hb : Below w.heap.size w w1) : ∀ j u, (nums .i64 l)[j]? = some u → w1.cell? (ad.add j) = some u := by
  intro j u hu
  obtain ⟨hj, rfl⟩ := nums_get l j u hu
  obtain ⟨ad', e', hc⟩ := Kd.at_int (Kd.C_below hr hb) (j : Int) (by omega) (by omega)
  obtain rfl := Option.some.inj e'
  rw [Int.toNat_natCast] at hc
  exact hc
set_option maxRecDepth 100000 in
set_option maxHeartbeats 2000000 in
theorem own_some (ad : Addr) (c0 : Nat) (l : List Int) (x : Int) (w : World) (hr0 : Kd.C (Kd.int .i64) w (some ad) l.length l) (hc0 : l.length ≤ c0) (hm : l.length ≤ 1000000) :
    Calls Tryz.prog 8 #[.slice (some ad) l.length c0, .int .i64 x] w (Owned l x w) := by
  obtain ⟨i0, hi, hz0, hz1, hz2⟩ := info_parts info_int'
  have HR0 := Aside0.mk hr0
  clear hr0
  go_enter Tryz.func8, Tryz.ntmps8
  go_wp2_with (first | (refine wpList_make_own _ rfl _ _ 28 rfl w.heap.size 2 i0 (.int .i64 0) 1 Tryz.underlying28 hi hz0 hz1 .i64 .i64 _ (l.length + 3) rfl rfl (by simp) (by rw [hz2]; omega) (by unfold maxLen; omega) (Nat.le_refl _) ?_; intro w1 hown1 hgrow1; have HB1 := Aside0.mk ((Below.refl w.heap.size w).grown hgrow1 (Nat.le_refl _) (fun k hk => by cases hk)); have HO := Aside0.mk hown1; have HN := Aside0.mk (news_of HR0.out HB1.out); clear hown1 hgrow1) | (at_builtin; refine wpList_append_fits _ rfl _ _ 28 rfl w.heap.size 2 i0 1 Tryz.underlying28 hi hz1 w.heap.size 0 (l.length + 3) [] rfl HO.out ad l.length c0 (nums .i64 l) rfl (by simp [nums]) HN.out (by intro u hu; simp [nums] at hu; obtain ⟨a, _, rfl⟩ := hu; rfl) (by omega) ?_; intro w2 hown2 hgrow2; have HB2 := Aside0.mk (HB1.out.grown hgrow2 HB1.out.size (fun k hk => by cases hk; exact Nat.le_refl _)); obtain ⟨t0, ht0, hblk, _⟩ := Blk.ofOwn hown2; have HT0 := Aside0.mk (show t0.length = 3 by rw [ht0]; omega); have HRW := Aside0.mk (show Blk w2 w.heap.size 2 (nums .i64 l ++ t0) from hblk); clear hown2 hgrow2 ht0 hblk))
  go_loopg [7] 4 (fun gq iv w' => ∃ (k : Nat) (ts : List Value), k ≤ 3 ∧ iv = .int .i64 ((l.length : Int) + (k : Int)) ∧ Aside0 (ts.length = 3) ∧ Aside0 (gq = 4 - k) ∧ Aside0 (ts.take k = [Value.int .i64 x, .int .i64 x, .int .i64 x].take k) ∧ Aside0 (Blk w' w.heap.size 2 (nums .i64 l ++ ts)) ∧ Aside0 (Below w.heap.size w w'))
  case atStart => exact ⟨0, t0, by omega, by simp, HT0, ⟨rfl⟩, ⟨rfl⟩, HRW, HB2⟩
  case round =>
    obtain ⟨k, ts, k3, rfl, hts, hg, htk, hR, hB⟩ := hrel
    by_cases hlt : k < 3
    · obtain ⟨u, hu⟩ : ∃ u, ts[k]? = some u := ⟨_, List.getElem?_eq_getElem (by rw [hts.out]; exact hlt)⟩
      have hc : wr.cell? ⟨w.heap.size, l.length + k, none⟩ = some u := by rw [hR.out.cell, List.getElem?_append_right (by rw [nums_length]; simp), nums_length, ← hu]; congr 1; simp
      have hf := hR.out.frozen (l.length + k)
      have R2 := Aside0.mk (show Blk (wr.setCell ⟨w.heap.size, l.length + k, none⟩ (.int .i64 x)) w.heap.size 2 (nums .i64 l ++ ts.set k (.int .i64 x)) by rw [← put_at]; exact hR.out.put _ _)
      have B2 := Aside0.mk (hB.out.setCell (p := ⟨w.heap.size, l.length + k, none⟩) (Nat.le_refl _) (.int .i64 x))
      clear hu
      go_wp2_with fail
      go_roundg (4 - (k + 1))
      case measure => have := hg.out; omega
      case rel => exact ⟨k + 1, ts.set k (.int .i64 x), by omega, by simp; omega, ⟨by rw [List.length_set]; exact hts.out⟩, ⟨rfl⟩, ⟨take_put hts.out hlt htk.out⟩, R2, B2⟩
    · obtain rfl : k = 3 := by omega
      have e : ts = [Value.int .i64 x, .int .i64 x, .int .i64 x] := by
        have := htk.out
        rw [List.take_of_length_le (by rw [hts.out]; exact Nat.le_refl _)] at this
        exact this
      subst e
      go_wp2_with fail
      go_ret
      exact ⟨w.heap.size, Nat.le_refl _, rfl, hR.out, hB.out⟩
set_option maxRecDepth 100000 in
set_option maxHeartbeats 2000000 in
theorem own_nil  (x : Int) (w : World)  :
    Calls Tryz.prog 8 #[.slice none 0 0, .int .i64 x] w (Owned [] x w) := by
  obtain ⟨i0, hi, hz0, hz1, hz2⟩ := info_parts info_int'
  go_enter Tryz.func8, Tryz.ntmps8
  go_wp2_with ((refine wpList_make_own _ rfl _ _ 28 rfl w.heap.size 2 i0 (.int .i64 0) 1 Tryz.underlying28 hi hz0 hz1 .i64 .i64 _ (0 + 3) rfl rfl (by simp) (by rw [hz2]; omega) (by unfold maxLen; omega) (Nat.le_refl _) ?_); intro w1 hown1 hgrow1)
  have hb1 := (Below.refl w.heap.size w).grown hgrow1 (Nat.le_refl _) (fun k hk => by cases hk)
  have HB2 := Aside0.mk hb1
  obtain ⟨t0, ht0, hblk, _⟩ := Blk.ofOwn hown1
  have HT0 := Aside0.mk (show t0.length = 3 by rw [ht0])
  have HRW := Aside0.mk (show Blk w1 w.heap.size 2 (nums .i64 [] ++ t0) from hblk)
  clear ht0 hblk
  clear hown1 hgrow1 hb1
  go_wp2_with fail
  go_loopg [7] 4 (fun gq iv w' => ∃ (k : Nat) (ts : List Value), k ≤ 3 ∧ iv = .int .i64 (k : Int) ∧ Aside0 (ts.length = 3) ∧ Aside0 (gq = 4 - k) ∧ Aside0 (ts.take k = [Value.int .i64 x, .int .i64 x, .int .i64 x].take k) ∧ Aside0 (Blk w' w.heap.size 2 (nums .i64 [] ++ ts)) ∧ Aside0 (Below w.heap.size w w'))
  case atStart => exact ⟨0, t0, by omega, by simp, HT0, ⟨rfl⟩, ⟨rfl⟩, HRW, HB2⟩
  case round =>
    obtain ⟨k, ts, k3, rfl, hts, hg, htk, hR, hB⟩ := hrel
    by_cases hlt : k < 3
    · obtain ⟨u, hu⟩ : ∃ u, ts[k]? = some u := ⟨_, List.getElem?_eq_getElem (by rw [hts.out]; exact hlt)⟩
      have hc : wr.cell? ⟨w.heap.size, k, none⟩ = some u := by rw [hR.out.cell]; exact hu
      have hf := hR.out.frozen (k)
      have R2 := Aside0.mk (show Blk (wr.setCell ⟨w.heap.size, k, none⟩ (.int .i64 x)) w.heap.size 2 (nums .i64 [] ++ ts.set k (.int .i64 x)) by exact hR.out.put k (.int .i64 x))
      have B2 := Aside0.mk (hB.out.setCell (p := ⟨w.heap.size, k, none⟩) (Nat.le_refl _) (.int .i64 x))
      clear hu
      go_wp2_with fail
      go_roundg (4 - (k + 1))
      case measure => have := hg.out; omega
      case rel => exact ⟨k + 1, ts.set k (.int .i64 x), by omega, by simp, ⟨by rw [List.length_set]; exact hts.out⟩, ⟨rfl⟩, ⟨take_put hts.out hlt htk.out⟩, R2, B2⟩
    · obtain rfl : k = 3 := by omega
      have e : ts = [Value.int .i64 x, .int .i64 x, .int .i64 x] := by
        have := htk.out
        rw [List.take_of_length_le (by rw [hts.out]; exact Nat.le_refl _)] at this
        exact this
      subst e
      go_wp2_with fail
      go_ret
      exact ⟨w.heap.size, Nat.le_refl _, rfl, hR.out, hB.out⟩
theorem own_any (A0 : Option Addr) (c0 : Nat) (l : List Int) (x : Int) (w : World) (hr0 : Kd.C (Kd.int .i64) w A0 l.length l) (hc0 : l.length ≤ c0) (hn : A0 = none → c0 = 0) (hm : l.length ≤ 1000000) :
    Calls Tryz.prog 8 #[.slice A0 l.length c0, .int .i64 x] w (Owned l x w) := by
  cases A0 with
  | some ad => exact own_some ad c0 l x w hr0 hc0 hm
  | none =>
    obtain rfl := hn rfl
    obtain rfl : l = [] := List.eq_nil_of_length_eq_zero (by omega)
    exact own_nil x w
end Go.Proofs.YtbbbjjfecblhpaaGreat.HL
/- Contracts by hand: whether a list of one's own was kept; spoilt. -/
namespace Go.Proofs.YtbbbjjfecblhpaaGreat.HL
open Go.RowKit Go.Proofs.YtbbbjjfecblhpaaGreatW.PrintWords Go.Proofs.YtbbbjjfecblhpaaGreatW.PrintLast Go.Proofs.YtbbbjjfecblhpaaGreatW.PrintMore Go.Proofs.YtbbbjjfecblhpaaGreat.HW Go.Proofs.YtbbbjjfecblhpaaGreat.H
set_option linter.unusedVariables false
set_option linter.unusedSimpArgs false
set_option maxRecDepth 100000 in
set_option maxHeartbeats 2000000 in
theorem kept_yes {A1 : Option Addr} {c1 : Nat} {l : List Int} {x : Int} {g : Nat} {w : World} (hb : Blk w g 2 (nums .i64 l ++ [.int .i64 x, .int .i64 x, .int .i64 x])) (hr1 : Kd.C (Kd.int .i64) w A1 l.length l) (hc1 : l.length ≤ c1) (hm : l.length ≤ 1000000) :
    Calls Tryz.prog 13 #[.slice (some ⟨g, 0, none⟩) l.length (l.length + 3), .slice A1 l.length c1, .int .i64 x] w fun e w' => e = .returned (.bool true) ∧ Drawn0 w w' := by
  have HB := Aside0.mk hb
  have HR1 := Aside0.mk hr1
  clear hb hr1
  go_enter Tryz.func13, Tryz.ntmps13
  go_wp2_with fail
  refine (help_Plain_int.calls (some ⟨g, 0, none⟩) (l.length + 3) l A1 c1 l true _ (HB.out.reads (by omega)) (by omega) HR1.out hc1 (by unfold help_Plain_int.f; rw [if_pos (by omega)]; simp)).mono ?_
  rintro e w1 ⟨rfl, ⟨m1, rfl⟩⟩
  go_wp2_with fail
  go_loopg [8] 4 (fun gq iv w' => ∃ (k : Nat), k ≤ 3 ∧ iv = .int .i64 ((l.length : Int) + (k : Int)) ∧ Aside0 (gq = 4 - k) ∧ Drawn0 w w')
  case atStart => exact ⟨0, by omega, by simp, ⟨rfl⟩, ⟨_, rfl⟩⟩
  case round =>
    obtain ⟨k, k3, rfl, hg, ⟨m2, rfl⟩⟩ := hrel
    by_cases hlt : k < 3
    · have hc : w.cell? ⟨g, l.length + k, none⟩ = some (.int .i64 x) := by
        rw [HB.out.cell, List.getElem?_append_right (by rw [nums_length]; simp), nums_length]
        rcases (by omega : k = 0 ∨ k = 1 ∨ k = 2) with rfl | rfl | rfl
        · rw [show l.length + 0 - l.length = 0 by omega]; rfl
        · rw [show l.length + 1 - l.length = 1 by omega]; rfl
        · rw [show l.length + 2 - l.length = 2 by omega]; rfl
      go_wp2_with fail
      go_roundg (4 - (k + 1))
      case measure => have := hg.out; omega
      case rel => exact ⟨k + 1, by omega, by simp; omega, ⟨rfl⟩, ⟨_, rfl⟩⟩
    · obtain rfl : k = 3 := by omega
      go_wp2_with fail
      go_ret
      exact ⟨rfl, ⟨_, rfl⟩⟩
end Go.Proofs.YtbbbjjfecblhpaaGreat.HL
/- The law NightlyTells, walked. -/
namespace Go.Proofs.YtbbbjjfecblhpaaGreat.Nt
open Go.RowKit Go.Proofs.YtbbbjjfecblhpaaGreatW.PrintWords Go.Proofs.YtbbbjjfecblhpaaGreatW.PrintLast Go.Proofs.YtbbbjjfecblhpaaGreatW.PrintMore Go.Proofs.YtbbbjjfecblhpaaGreat.HW
open Go.Proofs.YtbbbjjfecblhpaaGreat.Math Go.Proofs.YtbbbjjfecblhpaaGreat.H Go.Proofs.YtbbbjjfecblhpaaGreat.Pd Go.Proofs.YtbbbjjfecblhpaaGreat.Du Go.Proofs.YtbbbjjfecblhpaaGreat.Lv Pm
set_option linter.unusedVariables false
set_option linter.unusedSimpArgs false
attribute [local go_sem] max2_int min2_int max_two min_two
section
variable {P : Program} {ops : Array Oper} {rest : List Oper} {a : Act} {Q : Exit → Act → World → Prop}
theorem build_wantT {W : World} {o : Oper} (hw : Region.wanted o (yielded ops a.tmps) = true) {t : TypeId} {parts : Array (Nat × Operand)} (ho : o.op = .build t parts) {cs : Array Value}
    (hb : P.built t ((parts.map fun (i, x) => (i, a.eval x)).toList) = some cs) (h : wpList P ops Q rest (a.put o.dst (.agg cs)) W) : wpList P ops Q (o :: rest) a W :=
  Go.BigFrame.wpList_want hw fun _ hK => wp_build t parts ho (by rw [hb]; rfl) (by rw [hb]; exact hK _ _ h)
end
theorem ok_smallT {P : Pm.Prod} (h : ok P = true) : Small P := by
  unfold ok at h
  simp only [Bool.and_eq_true] at h
  obtain ⟨⟨⟨⟨h1, h2⟩, -⟩, h4⟩, h5⟩ := h
  unfold shapeOk at h1
  unfold ratesOk at h2
  unfold lateOk at h4
  unfold daysOk at h5
  rw [Bool.and_eq_true] at h1 h2 h4 h5
  have k1 := h1.1
  unfold nameOk at k1
  simp only [Bool.and_eq_true, decide_eq_true_eq] at k1
  have k2 := of_decide_eq_true h2.1
  have k4 := of_decide_eq_true h4.1
  have k5 := of_decide_eq_true h5.1
  have hn : P.name.size = P.name.data.toList.length := rfl
  exact ⟨by rw [hn]; omega, by omega, by omega, by omega⟩
set_option maxRecDepth 100000 in
set_option maxHeartbeats 8000000 in
theorem tells_not (p : Pm.Prod) (A1 : Option Addr) (c1 : Nat) (A2 : Option Addr) (c2 : Nat) (A3 : Option Addr) (c3 : Nat) (s : St) (L : Option Addr) (lc : Nat) (D : Option Addr) (dc : Nat) (raw : Bool) (w : World) (hgv : GV w) (hf : ¬ fewP p s) :
    Calls Tryz.prog 3 #[pv p A1 c1 A2 c2 A3 c3, sv s L lc D dc, .bool raw] w fun e w' => e = .returned (.bool true) ∧ Below w.heap.size w w' := by
  have FW := Aside0.mk (fun V => few_any p A1 c1 A2 c2 A3 c3 s L lc D dc V)
  rw [decide_eq_false hf] at FW
  have AK := Aside0.mk (fun (V : World) (hb : Below w.heap.size w V) => night_awake V (hgv.below hb))
  clear hgv hf
  go_enter Tryz.func3, Tryz.ntmps3
  go_wp2_with (first
    | ((with_reducible refine gate_dst (N := 3) rfl ?_); refine box_event ?hg (N := 3) ?hd (cs := pcs p A1 c1 A2 c2 A3 c3) (t := 27) ?hr ?_; (case hd => rfl); (case hg => rfl); (case hr => first | (go_simp; done) | (go_simp; rfl)); intro gp hg w4_ hb1 hb; have gpge := (show w.heap.size ≤ gp by rw [hg]; exact Nat.le_refl _); clear hg; have GP := Aside0.mk hb1; have HB := Aside0.mk hb; clear hb1 hb)
    | ((with_reducible refine gate_dst (N := 4) rfl ?_); refine box_event ?hg (N := 4) ?hd (cs := scs s L lc D dc) (t := 33) ?hr ?_; (case hd => rfl); (case hg => rfl); (case hr => first | (go_simp; done) | (go_simp; rfl)); intro gs hg w5_ hb1 hb; have gps := (show gp ≠ gs by have := blk_lt GP.out; omega); clear hg; have GS := Aside0.mk hb1; have GP := Aside0.mk (Pd.blk_below GP.out hb); have HB := Aside0.mk (below_step HB.out hb); clear hb1 hb)
    | ((with_reducible refine gate_dst (N := 12) rfl ?_); refine wpList_load_row rfl 27 (.tmp 3) rfl gp rfl 27 _ (0, 0) _ GP.out Tryz.underlying27 rfl info_prod ?_)
    | ((with_reducible refine gate_dst (N := 13) rfl ?_); refine wpList_load_row rfl 33 (.tmp 4) rfl gs rfl 33 _ (0, 0) _ GS.out Tryz.underlying33 rfl info_state ?_)
    | (go_at_call 4; (with_reducible refine (FW.out _).mono ?_); rintro e w6_ ⟨rfl, hb⟩; have GS := Aside0.mk (Pd.blk_below GS.out hb); have GP := Aside0.mk (Pd.blk_below GP.out hb); have HB := Aside0.mk (below_step HB.out hb); clear hb FW)
    | (go_at_call 5; (with_reducible refine (AK.out _ HB.out).mono ?_); rintro e w7_ ⟨rfl, hb⟩; have HB := Aside0.mk (below_step HB.out hb); clear hb))
  go_ret
  exact ⟨rfl, HB.out⟩
theorem blkI {w : World} {g : Nat} {T : TypeId} {vs : List Value} (h : w.heap[g]? = some (.cells vs.toArray T (0, 0))) : H.Blk w g T vs := h
theorem st_copy {w : World} {s : St} {gP gD : Nat} (h1 : H.Blk w gP 2 (nums .i64 s.plan ++ [.int .i64 71, .int .i64 71, .int .i64 71])) (h2 : w.heap[gD]? = some (.cells (cellsR (s.m.dues ++ [[71, 0, 0, 0], [71, 0, 0, 0], [71, 0, 0, 0]])).toArray 39 (0, 0))) (hr : ∀ r ∈ s.m.dues, r.length = 4) (hw : ∀ r ∈ s.m.dues, ∀ x ∈ r, (Lit.int .i64 x).wf = true) (hp : s.plan.length ≤ 1000000) (hd : s.m.dues.length ≤ 1000000) : StAt w s (some ⟨gP, 0, none⟩) (s.plan.length + 3) (some ⟨gD, 0, none⟩) (s.m.dues.length + 3) :=
  ⟨h1.reads (by omega), by omega, (fun h => by cases h), hp, rows_front h2 (fun r h => by rcases List.mem_append.1 h with h | h; exact hr r h; simp at h; rw [h]; rfl) hw, by omega, (fun h => by cases h), hd⟩
set_option maxRecDepth 100000 in
set_option maxHeartbeats 8000000 in
theorem tells_raw (p : Pm.Prod) (A1 : Option Addr) (c1 : Nat) (A2 : Option Addr) (c2 : Nat) (A3 : Option Addr) (c3 : Nat) (s : St) (L : Option Addr) (lc : Nat) (D : Option Addr) (dc : Nat) (w : World) (hp : ProdAt w p A1 c1 A2 c2 A3 c3) (hgv : GV w) (hcm : Comes w s L lc D dc) (hf : fewP p s) (hd : Held p) (hsm : Small p) (x : St) (cx : Int) (hx : nightsP p s 1 = (x, cx)) :
    Calls Tryz.prog 3 #[pv p A1 c1 A2 c2 A3 c3, sv s L lc D dc, .bool true] w fun e w' => e = .returned (.bool true) ∧ Below w.heap.size w w' := by
  have FW := Aside0.mk (fun V => few_any p A1 c1 A2 c2 A3 c3 s L lc D dc V)
  rw [decide_eq_true hf] at FW
  have AK := Aside0.mk (fun (V : World) (hb : Below w.heap.size w V) => night_awake V (hgv.below hb))
  have hst : StAt w s L lc D dc := hcm.st (by have := hf.2.2.2.2.2; omega) (by have := hf.2.2.2.2.1; omega)
  have SS0 := Aside0.mk (fun (V : World) (hb : Below w.heap.size w V) => hst.below hb)
  have OWD := Aside0.mk (fun (V : World) (hb : Below w.heap.size w V) => ownD_any D dc s.m.dues 71 0 0 0 V (hst.below hb).rows hst.dc_ hst.dn hst.dl)
  have OWI := Aside0.mk (fun (V : World) (hb : Below w.heap.size w V) => HL.own_any L lc s.plan 71 V (hst.below hb).plan hst.pc hst.pn hst.pl)
  have R4 := Aside0.mk (show ∀ r ∈ s.m.dues, r.length = 4 from fun r hr => (hst.rows.1 r hr).1)
  have RW := Aside0.mk (show ∀ r ∈ s.m.dues, ∀ x ∈ r, (Lit.int .i64 x).wf = true from fun r hr => (hst.rows.1 r hr).2)
  have PLN := Aside0.mk hst.pl
  have DLN := Aside0.mk hst.dl
  have NX := Aside0.mk (fun (V : World) (L' : Option Addr) (lc' : Nat) (D' : Option Addr) (dc' : Nat) (hb : Below w.heap.size w V) (hst' : StAt V s L' lc' D' dc') => by have h := Night_any p A1 c1 A2 c2 A3 c3 s L' lc' D' dc' V (hp.below hb) hsm (hgv.below hb) hst'; rw [hx] at h; exact h)
  have NR := Aside0.mk (fun (V : World) (hb : Below w.heap.size w V) => by have h := rnight_any p A1 c1 A2 c2 A3 c3 s L lc D dc V (hp.below hb) hd (hst.below hb); rw [hx] at h; exact h)
  clear hp hgv hcm hf hd hsm hx hst
  go_enter Tryz.func3, Tryz.ntmps3
  go_wp2_with (first
    | ((with_reducible refine gate_dst (N := 3) rfl ?_); refine box_event ?hg (N := 3) ?hd (cs := pcs p A1 c1 A2 c2 A3 c3) (t := 27) ?hr ?_; (case hd => rfl); (case hg => rfl); (case hr => first | (go_simp; done) | (go_simp; rfl)); intro gp hg w4_ hb1 hb; have gpge := (show w.heap.size ≤ gp by rw [hg]; exact Nat.le_refl _); clear hg; have GP := Aside0.mk hb1; have HB := Aside0.mk hb; clear hb1 hb)
    | ((with_reducible refine gate_dst (N := 4) rfl ?_); refine box_event ?hg (N := 4) ?hd (cs := scs s L lc D dc) (t := 33) ?hr ?_; (case hd => rfl); (case hg => rfl); (case hr => first | (go_simp; done) | (go_simp; rfl)); intro gs hg w5_ hb1 hb; have gps := (show gp ≠ gs by have := blk_lt GP.out; omega); clear hg; have GS := Aside0.mk hb1; have GP := Aside0.mk (Pd.blk_below GP.out hb); have HB := Aside0.mk (below_step HB.out hb); clear hb1 hb)
    | ((with_reducible refine gate_dst (N := 12) rfl ?_); refine wpList_load_row rfl 27 (.tmp 3) rfl gp rfl 27 _ (0, 0) _ GP.out Tryz.underlying27 rfl info_prod ?_)
    | ((with_reducible refine gate_dst (N := 13) rfl ?_); refine wpList_load_row rfl 33 (.tmp 4) rfl gs rfl 33 _ (0, 0) _ GS.out Tryz.underlying33 rfl info_state ?_)
    | (go_at_call 4; (with_reducible refine (FW.out _).mono ?_); rintro e w6_ ⟨rfl, hb⟩; have GS := Aside0.mk (Pd.blk_below GS.out hb); have GP := Aside0.mk (Pd.blk_below GP.out hb); have HB := Aside0.mk (below_step HB.out hb); clear hb FW)
    | ((with_reducible refine gate_dst (N := 21) rfl ?_); refine wpList_load_row rfl 33 (.tmp 4) rfl gs rfl 33 _ (0, 0) _ GS.out Tryz.underlying33 rfl info_state ?_)
    | ((with_reducible refine gate_dst (N := 7) rfl ?_); refine copy_event rfl (N := 7) rfl rfl rfl (t := 33) (v := .tmp 21) rfl (cs := scs s L lc D dc) (zs := scs zeroS none 0 none 0) ?hr rfl rfl info_state ?hz (by simp [Value.oneCell']) ?_; (case hr => first | (go_simp; done) | (go_simp; rfl)); (case hz => rfl); intro gi hg w11_ hb1 hb; have gige := (show w.heap.size ≤ gi by rw [hg]; exact HB.out.size); have gpi := (show gp ≠ gi by have := blk_lt GP.out; omega); have gsi := (show gs ≠ gi by have := blk_lt GS.out; omega); have GI := Aside0.mk hb1; have GP := Aside0.mk (Pd.blk_below GP.out hb); have GS := Aside0.mk (Pd.blk_below GS.out hb); have HB := Aside0.mk (below_step HB.out hb); clear hg hb1 hb))
  refine wp_region_held_drew (S := fun W => W.heap[gs]? = some (.cells (scs s L lc D dc) 33 (0, 0))) (by kernel_rfl) GS.out (fun hHeld => ?_)
  refine wpAnyH_take (i := 0) (v := ?_) rfl (by kernel_rfl) (by kernel_rfl) (by kernel_rfl) (fun _ _ _ h => h) (Or.inl ⟨by rfl, ?_⟩) (by assumption) ?_
  rotate_left
  · intro W hSw; (try dsimp only at hSw); clear hSw; go_simp; first | done | with_reducible rfl
  (try simp only [Act.put, List.setIfInBounds_toArray, List.set_cons_zero, List.set_cons_succ])
  refine wpAnyH_take (i := 1) (v := ?_) rfl (by kernel_rfl) (by kernel_rfl) (by kernel_rfl) (fun _ _ _ h => h) (Or.inl ⟨by rfl, ?_⟩) (by assumption) ?_
  rotate_left
  · intro W hSw; (try dsimp only at hSw); clear hSw; go_simp; first | done | with_reducible rfl
  (try simp only [Act.put, List.setIfInBounds_toArray, List.set_cons_zero, List.set_cons_succ])
  refine wpAnyH_take (i := 2) (v := ?_) rfl (by kernel_rfl) (by kernel_rfl) (by kernel_rfl) (fun _ _ _ h => h) (Or.inl ⟨by rfl, ?_⟩) (by assumption) ?_
  rotate_left
  · intro W hSw; (try dsimp only at hSw); have s8 := (show W.cell? ⟨gs, 8, none⟩ = some (.slice D s.m.dues.length dc) from (blk_cell hSw 8).trans rfl); clear hSw; go_simp; first | done | with_reducible rfl
  (try simp only [Act.put, List.setIfInBounds_toArray, List.set_cons_zero, List.set_cons_succ])
  refine wpAnyH_take (i := 3) (v := .agg #[.int .i64 71, .int .i64 0, .int .i64 0, .int .i64 0]) rfl (by kernel_rfl) (by kernel_rfl) (by kernel_rfl) (fun _ _ _ h => h) (Or.inl ⟨by rfl, fun W _ => by kernel_rfl⟩) (by assumption) ?_
  (try simp only [Act.put, List.setIfInBounds_toArray, List.set_cons_zero, List.set_cons_succ])
  refine wpAnyH_take (i := 5) (v := ?_) rfl (by kernel_rfl) (by kernel_rfl) (by kernel_rfl) (fun _ _ _ h => h) (Or.inl ⟨by rfl, ?_⟩) (by assumption) ?_
  rotate_left
  · intro W hSw; (try dsimp only at hSw); clear hSw; go_simp; first | done | with_reducible rfl
  (try simp only [Act.put, List.setIfInBounds_toArray, List.set_cons_zero, List.set_cons_succ])
  refine wpAnyH_take (i := 6) (v := ?_) rfl (by kernel_rfl) (by kernel_rfl) (by kernel_rfl) (fun _ _ _ h => h) (Or.inl ⟨by rfl, ?_⟩) (by assumption) ?_
  rotate_left
  · intro W hSw; (try dsimp only at hSw); have s3 := (show W.cell? ⟨gs, 3, none⟩ = some (.slice L s.plan.length lc) from (blk_cell hSw 3).trans rfl); clear hSw; go_simp; first | done | with_reducible rfl
  (try simp only [Act.put, List.setIfInBounds_toArray, List.set_cons_zero, List.set_cons_succ])
  refine wpAnyH_ready (rs := [4]) (by kernel_rfl) (by simp) ?_
  refine AllReadyH.cons rfl (fun K hK => ?_) AllReadyH.nil
  go_simp
  go_at_call 7
  refine (OWD.out _ (Below.drew HB.out)).mono ?_
  rintro e w12_ ⟨gD, gDge, rfl, hgD, hb⟩
  have GP1 := Aside0.mk (Pd.blk_below (w := w11_.drew) GP.out hb)
  have GS1 := Aside0.mk (Pd.blk_below (w := w11_.drew) GS.out hb)
  have GI1 := Aside0.mk (Pd.blk_below (w := w11_.drew) GI.out hb)
  have HB1 := Aside0.mk (below_step (Below.drew HB.out) hb)
  have GD1 := Aside0.mk hgD
  have gid := (show gi ≠ gD by have := blk_lt GI.out; have h : w11_.drew.heap.size = w11_.heap.size := rfl; omega)
  clear hb hgD GP GS GI HB
  try go_wp2_with fail
  refine hK.out _ _ GS1.out (fun hHeld => ?_)
  clear hK K
  (try simp only [Act.put, List.setIfInBounds_toArray, List.set_cons_zero, List.set_cons_succ])
  refine wpAnyH_take (i := 8) (v := ?_) rfl (by kernel_rfl) (by kernel_rfl) (by kernel_rfl) (fun _ _ _ h => h) (Or.inl ⟨by rfl, ?_⟩) (by assumption) ?_
  rotate_left
  · intro W hSw; (try dsimp only at hSw); clear hSw; go_simp; first | done | with_reducible rfl
  (try simp only [Act.put, List.setIfInBounds_toArray, List.set_cons_zero, List.set_cons_succ])
  refine wpAnyH_take (i := 9) (v := ?_) rfl (by kernel_rfl) (by kernel_rfl) (by kernel_rfl) (fun _ _ _ h => h) (Or.inl ⟨by rfl, ?_⟩) (by assumption) ?_
  rotate_left
  · intro W hSw; (try dsimp only at hSw); clear hSw; go_simp; first | done | with_reducible rfl
  (try simp only [Act.put, List.setIfInBounds_toArray, List.set_cons_zero, List.set_cons_succ])
  refine wpAnyH_ready (rs := [7]) (by kernel_rfl) (by simp) ?_
  refine AllReadyH.cons rfl (fun K hK => ?_) AllReadyH.nil
  go_simp
  go_at_call 8
  refine (OWI.out _ HB1.out).mono ?_
  rintro e w13_ ⟨gP, gPge, rfl, hgP, hb⟩
  have GP := Aside0.mk (Pd.blk_below GP1.out hb)
  have GS := Aside0.mk (Pd.blk_below GS1.out hb)
  have GI := Aside0.mk (Pd.blk_below GI1.out hb)
  have GD := Aside0.mk (Pd.blk_below GD1.out hb)
  have HB := Aside0.mk (below_step HB1.out hb)
  have GPL := Aside0.mk hgP
  have gip := (show gi ≠ gP by have := blk_lt GI1.out; omega)
  clear hb hgP GP1 GS1 GI1 GD1 HB1
  try go_wp2_with fail
  refine hK.out _ _ GS.out (fun hHeld => ?_)
  clear hK K
  (try simp only [Act.put, List.setIfInBounds_toArray, List.set_cons_zero, List.set_cons_succ])
  have i8 := (show w13_.cell? ⟨gi, 8, none⟩ = some (.slice D s.m.dues.length dc) from (blk_cell GI.out 8).trans rfl)
  have f8 := frozen_of_row w13_ gi 8 _ _ GI.out
  refine wpAnyH_ready (rs := [10]) (by kernel_rfl) (by simp) ?_
  refine AllReadyH.cons rfl (fun K hK => ?_) AllReadyH.nil
  go_simp
  obtain ⟨w14_, hw⟩ : ∃ x, w13_.setCell ⟨gi, 8, none⟩ (.slice (some ⟨gD, 0, none⟩) s.m.dues.length (s.m.dues.length + 3)) = x := ⟨_, rfl⟩
  rw [hw]
  have BU := Aside0.mk (show H.But gi w13_ w14_ by rw [← hw]; exact (H.But.of (gb := gi) (Below.refl w13_.heap.size w13_)).setCell (p := ⟨gi, 8, none⟩) (Or.inl rfl) _)
  have GI := Aside0.mk (show w14_.heap[gi]? = some (.cells (scs s L lc (some ⟨gD, 0, none⟩) (s.m.dues.length + 3)) 33 (0, 0)) by rw [← hw]; exact blk_set GI.out 8 _)
  have GS := Aside0.mk ((BU.out.block gs (blk_lt GS.out) gsi).trans GS.out)
  have GP := Aside0.mk ((BU.out.block gp (blk_lt GP.out) gpi).trans GP.out)
  have GD := Aside0.mk ((BU.out.block gD (blk_lt GD.out) (Ne.symm gid)).trans GD.out)
  have GPL := Aside0.mk ((BU.out.block gP (blk_lt GPL.out) (Ne.symm gip)).trans GPL.out)
  have HB := Aside0.mk (But.below HB.out HB.out.size gige BU.out)
  clear hw BU i8 f8
  refine hK.out _ _ GS.out (fun hHeld => ?_)
  clear hK K
  (try simp only [Act.put, List.setIfInBounds_toArray, List.set_cons_zero, List.set_cons_succ])
  refine wpAnyH_take (i := 11) (v := ?_) rfl (by kernel_rfl) (by kernel_rfl) (by kernel_rfl) (fun _ _ _ h => h) (Or.inl ⟨by rfl, ?_⟩) (by assumption) ?_
  rotate_left
  · intro W hSw; (try dsimp only at hSw); clear hSw; go_simp; first | done | with_reducible rfl
  (try simp only [Act.put, List.setIfInBounds_toArray, List.set_cons_zero, List.set_cons_succ])
  have i3 := (show w14_.cell? ⟨gi, 3, none⟩ = some (.slice L s.plan.length lc) from (blk_cell GI.out 3).trans rfl)
  have f3 := frozen_of_row w14_ gi 3 _ _ GI.out
  refine wpAnyH_ready (rs := [12]) (by kernel_rfl) (by simp) ?_
  refine AllReadyH.cons rfl (fun K hK => ?_) AllReadyH.nil
  go_simp
  obtain ⟨w15_, hw⟩ : ∃ x, w14_.setCell ⟨gi, 3, none⟩ (.slice (some ⟨gP, 0, none⟩) s.plan.length (s.plan.length + 3)) = x := ⟨_, rfl⟩
  rw [hw]
  have BU := Aside0.mk (show H.But gi w14_ w15_ by rw [← hw]; exact (H.But.of (gb := gi) (Below.refl w14_.heap.size w14_)).setCell (p := ⟨gi, 3, none⟩) (Or.inl rfl) _)
  have GI := Aside0.mk (show w15_.heap[gi]? = some (.cells (scs s (some ⟨gP, 0, none⟩) (s.plan.length + 3) (some ⟨gD, 0, none⟩) (s.m.dues.length + 3)) 33 (0, 0)) by rw [← hw]; exact blk_set GI.out 3 _)
  have GS := Aside0.mk ((BU.out.block gs (blk_lt GS.out) gsi).trans GS.out)
  have GP := Aside0.mk ((BU.out.block gp (blk_lt GP.out) gpi).trans GP.out)
  have GD := Aside0.mk ((BU.out.block gD (blk_lt GD.out) (Ne.symm gid)).trans GD.out)
  have GPL := Aside0.mk ((BU.out.block gP (blk_lt GPL.out) (Ne.symm gip)).trans GPL.out)
  have HB := Aside0.mk (But.below HB.out HB.out.size gige BU.out)
  clear hw BU i3 f3
  refine hK.out _ _ GS.out (fun hHeld => ?_)
  clear hK K
  (try simp only [Act.put, List.setIfInBounds_toArray, List.set_cons_zero, List.set_cons_succ])
  refine wpAnyH_done (by kernel_rfl) ?_ _
  clear hHeld
  have SI := Aside0.mk (st_copy GPL.out GD.out R4.out RW.out PLN.out DLN.out)
  go_wp2_with (first
    | ((with_reducible refine gate_dst (N := 34) rfl ?_); refine wpList_load_row rfl 27 (.tmp 3) rfl gp rfl 27 _ (0, 0) _ GP.out Tryz.underlying27 rfl info_prod ?_)
    | ((with_reducible refine gate_dst (N := 35) rfl ?_); refine wpList_load_row rfl 33 (.tmp 7) rfl gi rfl 33 _ (0, 0) _ GI.out Tryz.underlying33 rfl info_state ?_)
    | (go_at_call 9; (with_reducible refine (NX.out _  _ _ _ _ HB.out SI.out).mono ?_); rintro e w16_ ⟨L2, lc2, D2, dc2, rfl, hst, hb, -⟩; have SX := Aside0.mk hst; have GP := Aside0.mk (Pd.blk_below GP.out hb); have GS := Aside0.mk (Pd.blk_below GS.out hb); have GI := Aside0.mk (Pd.blk_below GI.out hb); have GD := Aside0.mk (Pd.blk_below GD.out hb); have GPL := Aside0.mk (Pd.blk_below GPL.out hb); have HB := Aside0.mk (below_step HB.out hb); clear hst hb SI)
    | ((with_reducible refine gate_dst (N := 8) rfl ?_); refine copy_event rfl (N := 8) rfl rfl rfl (t := 33) (v := .tmp 37) rfl (cs := scs x L2 lc2 D2 dc2) (zs := scs zeroS none 0 none 0) ?hr rfl rfl info_state ?hz (by simp [Value.oneCell']) ?_; (case hr => first | (go_simp; done) | (go_simp; rfl)); (case hz => rfl); intro gx hg w17_ hb1 hb; have GX := Aside0.mk hb1; have GP := Aside0.mk (Pd.blk_below GP.out hb); have GS := Aside0.mk (Pd.blk_below GS.out hb); have GI := Aside0.mk (Pd.blk_below GI.out hb); have GD := Aside0.mk (Pd.blk_below GD.out hb); have GPL := Aside0.mk (Pd.blk_below GPL.out hb); have SX := Aside0.mk (SX.out.below hb); have HB := Aside0.mk (below_step HB.out hb); clear hg hb1 hb)
    | ((with_reducible refine gate_dst (N := 40) rfl ?_); refine wpList_load_row rfl 27 (.tmp 3) rfl gp rfl 27 _ (0, 0) _ GP.out Tryz.underlying27 rfl info_prod ?_)
    | ((with_reducible refine gate_dst (N := 41) rfl ?_); refine wpList_load_row rfl 33 (.tmp 4) rfl gs rfl 33 _ (0, 0) _ GS.out Tryz.underlying33 rfl info_state ?_)
    | (go_at_call 10; (with_reducible refine (NR.out _  HB.out).mono ?_); rintro e w18_ ⟨L3, lc3, D3, dc3, rfl, hst, hb, -⟩; have SR := Aside0.mk hst; have GX := Aside0.mk (Pd.blk_below GX.out hb); have GS := Aside0.mk (Pd.blk_below GS.out hb); have GI := Aside0.mk (Pd.blk_below GI.out hb); have GD := Aside0.mk (Pd.blk_below GD.out hb); have GPL := Aside0.mk (Pd.blk_below GPL.out hb); have SX := Aside0.mk (SX.out.below hb); have HB := Aside0.mk (below_step HB.out hb); clear hst hb GP)
    | ((with_reducible refine gate_dst (N := 10) rfl ?_); refine copy_event rfl (N := 10) rfl rfl rfl (t := 33) (v := .tmp 43) rfl (cs := scs x L3 lc3 D3 dc3) (zs := scs zeroS none 0 none 0) ?hr rfl rfl info_state ?hz (by simp [Value.oneCell']) ?_; (case hr => first | (go_simp; done) | (go_simp; rfl)); (case hz => rfl); intro gy hg w19_ hb1 hb; have GY := Aside0.mk hb1; have GX := Aside0.mk (Pd.blk_below GX.out hb); have GS := Aside0.mk (Pd.blk_below GS.out hb); have GI := Aside0.mk (Pd.blk_below GI.out hb); have GD := Aside0.mk (Pd.blk_below GD.out hb); have GPL := Aside0.mk (Pd.blk_below GPL.out hb); have SX := Aside0.mk (SX.out.below hb); have SR := Aside0.mk (SR.out.below hb); have HB := Aside0.mk (below_step HB.out hb); clear hg hb1 hb)
    | (go_at_call 5; (with_reducible refine (AK.out _ HB.out).mono ?_); rintro e w7_ ⟨rfl, hb⟩; have GX := Aside0.mk (Pd.blk_below GX.out hb); have GY := Aside0.mk (Pd.blk_below GY.out hb); have GS := Aside0.mk (Pd.blk_below GS.out hb); have GI := Aside0.mk (Pd.blk_below GI.out hb); have GD := Aside0.mk (Pd.blk_below GD.out hb); have GPL := Aside0.mk (Pd.blk_below GPL.out hb); have SX := Aside0.mk (SX.out.below hb); have SR := Aside0.mk (SR.out.below hb); have HB := Aside0.mk (below_step HB.out hb); clear hb)
    | ((with_reducible refine gate_dst (N := 47) rfl ?_); refine mid_want rfl 33 (.tmp 8) rfl gx 0 ?hx (scs x L2 lc2 D2 dc2).toList _ (blk_rangeN GX.out) Tryz.underlying33 rfl info_state ?_; (case hx => first | rfl | (go_simp; done) | (go_simp; rfl)))
    | ((with_reducible refine gate_dst (N := 48) rfl ?_); refine mid_want rfl 33 (.tmp 10) rfl gy 0 ?hx (scs x L3 lc3 D3 dc3).toList _ (blk_rangeN GY.out) Tryz.underlying33 rfl info_state ?_; (case hx => first | rfl | (go_simp; done) | (go_simp; rfl)))
    | (go_at_call 11; (with_reducible refine (sameS x L2 lc2 D2 dc2 L3 lc3 D3 dc3 _ SX.out SR.out).mono ?_); rintro e w20_ ⟨rfl, hb⟩; have GS := Aside0.mk (Pd.blk_below GS.out hb); have GI := Aside0.mk (Pd.blk_below GI.out hb); have GD := Aside0.mk (Pd.blk_below GD.out hb); have GPL := Aside0.mk (Pd.blk_below GPL.out hb); have HB := Aside0.mk (below_step HB.out hb); clear hb; have i8 := (show w20_.cell? ⟨gi, 8, none⟩ = some (.slice (some ⟨gD, 0, none⟩) s.m.dues.length (s.m.dues.length + 3)) from (blk_cell GI.out 8).trans rfl); have s8 := (show w20_.cell? ⟨gs, 8, none⟩ = some (.slice D s.m.dues.length dc) from (blk_cell GS.out 8).trans rfl))
    | ((with_reducible refine gate_dst (N := 63) rfl ?_); refine build_wantT rfl (t := 39) rfl (cs := #[.int .i64 71, .int .i64 0, .int .i64 0, .int .i64 0]) ?hb ?_; (case hb => simp only [List.map_toArray, List.map_cons, List.map_nil]; kernel_rfl))
    | (go_at_call 12; (with_reducible refine (keptD gD D dc s.m.dues 71 0 0 0 _ GD.out (SS0.out _ HB.out).rows DLN.out).mono ?_); rintro e w21_ ⟨rfl, hb⟩; have GS := Aside0.mk (Pd.blk_below GS.out hb); have GI := Aside0.mk (Pd.blk_below GI.out hb); have GPL := Aside0.mk (Pd.blk_below GPL.out hb); have HB := Aside0.mk (below_step HB.out hb); clear hb i8 s8; have i3 := (show w21_.cell? ⟨gi, 3, none⟩ = some (.slice (some ⟨gP, 0, none⟩) s.plan.length (s.plan.length + 3)) from (blk_cell GI.out 3).trans rfl); have s3 := (show w21_.cell? ⟨gs, 3, none⟩ = some (.slice L s.plan.length lc) from (blk_cell GS.out 3).trans rfl))
    | (go_at_call 13; (with_reducible refine (HL.kept_yes (blkI GPL.out) (SS0.out _ HB.out).plan (SS0.out _ HB.out).pc PLN.out).mono ?_); rintro e w22_ ⟨rfl, hd⟩; have HB := Aside0.mk (below_step HB.out hd.below); clear hd))
  go_ret
  exact ⟨by simp, HB.out⟩
set_option maxRecDepth 100000 in
set_option maxHeartbeats 8000000 in
theorem tells_near (p : Pm.Prod) (A1 : Option Addr) (c1 : Nat) (A2 : Option Addr) (c2 : Nat) (A3 : Option Addr) (c3 : Nat) (s : St) (L : Option Addr) (lc : Nat) (D : Option Addr) (dc : Nat) (q : Pm.Prod) (w : World) (hp : ProdAt w p A1 c1 A2 c2 A3 c3) (hgv : GV w) (hcm : Comes w s L lc D dc) (hf : fewP p s)
    (hne : ∀ W, Below w.heap.size w W → Calls Tryz.prog 6 #[pv p A1 c1 A2 c2 A3 c3, .int .i64 20] W (NearE p A1 c1 A2 c2 A3 c3 q W)) (hd : Held q) (hsm : Small q) (x : St) (cx : Int) (hx : nightsP q s 1 = (x, cx)) :
    Calls Tryz.prog 3 #[pv p A1 c1 A2 c2 A3 c3, sv s L lc D dc, .bool false] w fun e w' => e = .returned (.bool true) ∧ Below w.heap.size w w' := by
  have FW := Aside0.mk (fun V => few_any p A1 c1 A2 c2 A3 c3 s L lc D dc V)
  rw [decide_eq_true hf] at FW
  have AK := Aside0.mk (fun (V : World) (hb : Below w.heap.size w V) => night_awake V (hgv.below hb))
  have hst : StAt w s L lc D dc := hcm.st (by have := hf.2.2.2.2.2; omega) (by have := hf.2.2.2.2.1; omega)
  have SS0 := Aside0.mk (fun (V : World) (hb : Below w.heap.size w V) => hst.below hb)
  have OWD := Aside0.mk (fun (V : World) (hb : Below w.heap.size w V) => ownD_any D dc s.m.dues 71 0 0 0 V (hst.below hb).rows hst.dc_ hst.dn hst.dl)
  have OWI := Aside0.mk (fun (V : World) (hb : Below w.heap.size w V) => HL.own_any L lc s.plan 71 V (hst.below hb).plan hst.pc hst.pn hst.pl)
  have R4 := Aside0.mk (show ∀ r ∈ s.m.dues, r.length = 4 from fun r hr => (hst.rows.1 r hr).1)
  have RW := Aside0.mk (show ∀ r ∈ s.m.dues, ∀ x ∈ r, (Lit.int .i64 x).wf = true from fun r hr => (hst.rows.1 r hr).2)
  have PLN := Aside0.mk hst.pl
  have DLN := Aside0.mk hst.dl
  have NE := Aside0.mk hne
  have NX := Aside0.mk (fun (V : World) (B1 : Option Addr) (d1 : Nat) (B2 : Option Addr) (d2 : Nat) (B3 : Option Addr) (d3 : Nat) (L' : Option Addr) (lc' : Nat) (D' : Option Addr) (dc' : Nat) (hb : Below w.heap.size w V) (hk : ∀ w0, ProdAt w0 p A1 c1 A2 c2 A3 c3 → ProdAt w0 q B1 d1 B2 d2 B3 d3) (hst' : StAt V s L' lc' D' dc') => by have h := Night_any q B1 d1 B2 d2 B3 d3 s L' lc' D' dc' V (hk V (hp.below hb)) hsm (hgv.below hb) hst'; rw [hx] at h; exact h)
  have NR := Aside0.mk (fun (V : World) (B1 : Option Addr) (d1 : Nat) (B2 : Option Addr) (d2 : Nat) (B3 : Option Addr) (d3 : Nat) (hb : Below w.heap.size w V) (hk : ∀ w0, ProdAt w0 p A1 c1 A2 c2 A3 c3 → ProdAt w0 q B1 d1 B2 d2 B3 d3) => by have h := rnight_any q B1 d1 B2 d2 B3 d3 s L lc D dc V (hk V (hp.below hb)) hd (hst.below hb); rw [hx] at h; exact h)
  clear hne hp hgv hcm hf hd hsm hx hst
  go_enter Tryz.func3, Tryz.ntmps3
  go_wp2_with (first
    | ((with_reducible refine gate_dst (N := 3) rfl ?_); refine box_event ?hg (N := 3) ?hd (cs := pcs p A1 c1 A2 c2 A3 c3) (t := 27) ?hr ?_; (case hd => rfl); (case hg => rfl); (case hr => first | (go_simp; done) | (go_simp; rfl)); intro gp hg w4_ hb1 hb; have gpge := (show w.heap.size ≤ gp by rw [hg]; exact Nat.le_refl _); clear hg; have GP := Aside0.mk hb1; have HB := Aside0.mk hb; clear hb1 hb)
    | ((with_reducible refine gate_dst (N := 4) rfl ?_); refine box_event ?hg (N := 4) ?hd (cs := scs s L lc D dc) (t := 33) ?hr ?_; (case hd => rfl); (case hg => rfl); (case hr => first | (go_simp; done) | (go_simp; rfl)); intro gs hg w5_ hb1 hb; have gps := (show gp ≠ gs by have := blk_lt GP.out; omega); clear hg; have GS := Aside0.mk hb1; have GP := Aside0.mk (Pd.blk_below GP.out hb); have HB := Aside0.mk (below_step HB.out hb); clear hb1 hb)
    | ((with_reducible refine gate_dst (N := 12) rfl ?_); refine wpList_load_row rfl 27 (.tmp 3) rfl gp rfl 27 _ (0, 0) _ GP.out Tryz.underlying27 rfl info_prod ?_)
    | ((with_reducible refine gate_dst (N := 13) rfl ?_); refine wpList_load_row rfl 33 (.tmp 4) rfl gs rfl 33 _ (0, 0) _ GS.out Tryz.underlying33 rfl info_state ?_)
    | (go_at_call 4; (with_reducible refine (FW.out _).mono ?_); rintro e w6_ ⟨rfl, hb⟩; have GS := Aside0.mk (Pd.blk_below GS.out hb); have GP := Aside0.mk (Pd.blk_below GP.out hb); have HB := Aside0.mk (below_step HB.out hb); clear hb FW)
    | ((with_reducible refine gate_dst (N := 19) rfl ?_); refine wpList_load_row rfl 27 (.tmp 3) rfl gp rfl 27 _ (0, 0) _ GP.out Tryz.underlying27 rfl info_prod ?_)
    | (go_at_call 6; (with_reducible refine (NE.out _ HB.out).mono ?_); rintro e w8_ ⟨B1, d1, B2, d2, B3, d3, rfl, hk, hb⟩; have HK := Aside0.mk hk; have GP := Aside0.mk (Pd.blk_below GP.out hb); have GS := Aside0.mk (Pd.blk_below GS.out hb); have HB := Aside0.mk (below_step HB.out hb); clear hk hb NE)
    | ((with_reducible refine gate_store (t := 27) (p := 3) rfl ?_); refine row_event rfl (t := 27) (p := 3) (v := .tmp 20) rfl rfl (g := gp) (cs := pcs q B1 d1 B2 d2 B3 d3) (zs := pcs p A1 c1 A2 c2 A3 c3) rfl rfl GP.out info_prod rfl (pcs_one _ _ _ _ _ _ _) ?_; intro w9_ hb1 hbut; have GS := Aside0.mk ((hbut.block gs (blk_lt GS.out) (Ne.symm gps)).trans GS.out); have GP := Aside0.mk hb1; have HB := Aside0.mk (But.below HB.out HB.out.size gpge hbut); clear hb1 hbut)
    | ((with_reducible refine gate_dst (N := 21) rfl ?_); refine wpList_load_row rfl 33 (.tmp 4) rfl gs rfl 33 _ (0, 0) _ GS.out Tryz.underlying33 rfl info_state ?_)
    | ((with_reducible refine gate_dst (N := 7) rfl ?_); refine copy_event rfl (N := 7) rfl rfl rfl (t := 33) (v := .tmp 21) rfl (cs := scs s L lc D dc) (zs := scs zeroS none 0 none 0) ?hr rfl rfl info_state ?hz (by simp [Value.oneCell']) ?_; (case hr => first | (go_simp; done) | (go_simp; rfl)); (case hz => rfl); intro gi hg w11_ hb1 hb; have gige := (show w.heap.size ≤ gi by rw [hg]; exact HB.out.size); have gpi := (show gp ≠ gi by have := blk_lt GP.out; omega); have gsi := (show gs ≠ gi by have := blk_lt GS.out; omega); have GI := Aside0.mk hb1; have GP := Aside0.mk (Pd.blk_below GP.out hb); have GS := Aside0.mk (Pd.blk_below GS.out hb); have HB := Aside0.mk (below_step HB.out hb); clear hg hb1 hb))
  refine wp_region_held_drew (S := fun W => W.heap[gs]? = some (.cells (scs s L lc D dc) 33 (0, 0))) (by kernel_rfl) GS.out (fun hHeld => ?_)
  refine wpAnyH_take (i := 0) (v := ?_) rfl (by kernel_rfl) (by kernel_rfl) (by kernel_rfl) (fun _ _ _ h => h) (Or.inl ⟨by rfl, ?_⟩) (by assumption) ?_
  rotate_left
  · intro W hSw; (try dsimp only at hSw); clear hSw; go_simp; first | done | with_reducible rfl
  (try simp only [Act.put, List.setIfInBounds_toArray, List.set_cons_zero, List.set_cons_succ])
  refine wpAnyH_take (i := 1) (v := ?_) rfl (by kernel_rfl) (by kernel_rfl) (by kernel_rfl) (fun _ _ _ h => h) (Or.inl ⟨by rfl, ?_⟩) (by assumption) ?_
  rotate_left
  · intro W hSw; (try dsimp only at hSw); clear hSw; go_simp; first | done | with_reducible rfl
  (try simp only [Act.put, List.setIfInBounds_toArray, List.set_cons_zero, List.set_cons_succ])
  refine wpAnyH_take (i := 2) (v := ?_) rfl (by kernel_rfl) (by kernel_rfl) (by kernel_rfl) (fun _ _ _ h => h) (Or.inl ⟨by rfl, ?_⟩) (by assumption) ?_
  rotate_left
  · intro W hSw; (try dsimp only at hSw); have s8 := (show W.cell? ⟨gs, 8, none⟩ = some (.slice D s.m.dues.length dc) from (blk_cell hSw 8).trans rfl); clear hSw; go_simp; first | done | with_reducible rfl
  (try simp only [Act.put, List.setIfInBounds_toArray, List.set_cons_zero, List.set_cons_succ])
  refine wpAnyH_take (i := 3) (v := .agg #[.int .i64 71, .int .i64 0, .int .i64 0, .int .i64 0]) rfl (by kernel_rfl) (by kernel_rfl) (by kernel_rfl) (fun _ _ _ h => h) (Or.inl ⟨by rfl, fun W _ => by kernel_rfl⟩) (by assumption) ?_
  (try simp only [Act.put, List.setIfInBounds_toArray, List.set_cons_zero, List.set_cons_succ])
  refine wpAnyH_take (i := 5) (v := ?_) rfl (by kernel_rfl) (by kernel_rfl) (by kernel_rfl) (fun _ _ _ h => h) (Or.inl ⟨by rfl, ?_⟩) (by assumption) ?_
  rotate_left
  · intro W hSw; (try dsimp only at hSw); clear hSw; go_simp; first | done | with_reducible rfl
  (try simp only [Act.put, List.setIfInBounds_toArray, List.set_cons_zero, List.set_cons_succ])
  refine wpAnyH_take (i := 6) (v := ?_) rfl (by kernel_rfl) (by kernel_rfl) (by kernel_rfl) (fun _ _ _ h => h) (Or.inl ⟨by rfl, ?_⟩) (by assumption) ?_
  rotate_left
  · intro W hSw; (try dsimp only at hSw); have s3 := (show W.cell? ⟨gs, 3, none⟩ = some (.slice L s.plan.length lc) from (blk_cell hSw 3).trans rfl); clear hSw; go_simp; first | done | with_reducible rfl
  (try simp only [Act.put, List.setIfInBounds_toArray, List.set_cons_zero, List.set_cons_succ])
  refine wpAnyH_ready (rs := [4]) (by kernel_rfl) (by simp) ?_
  refine AllReadyH.cons rfl (fun K hK => ?_) AllReadyH.nil
  go_simp
  go_at_call 7
  refine (OWD.out _ (Below.drew HB.out)).mono ?_
  rintro e w12_ ⟨gD, gDge, rfl, hgD, hb⟩
  have GP1 := Aside0.mk (Pd.blk_below (w := w11_.drew) GP.out hb)
  have GS1 := Aside0.mk (Pd.blk_below (w := w11_.drew) GS.out hb)
  have GI1 := Aside0.mk (Pd.blk_below (w := w11_.drew) GI.out hb)
  have HB1 := Aside0.mk (below_step (Below.drew HB.out) hb)
  have GD1 := Aside0.mk hgD
  have gid := (show gi ≠ gD by have := blk_lt GI.out; have h : w11_.drew.heap.size = w11_.heap.size := rfl; omega)
  clear hb hgD GP GS GI HB
  try go_wp2_with fail
  refine hK.out _ _ GS1.out (fun hHeld => ?_)
  clear hK K
  (try simp only [Act.put, List.setIfInBounds_toArray, List.set_cons_zero, List.set_cons_succ])
  refine wpAnyH_take (i := 8) (v := ?_) rfl (by kernel_rfl) (by kernel_rfl) (by kernel_rfl) (fun _ _ _ h => h) (Or.inl ⟨by rfl, ?_⟩) (by assumption) ?_
  rotate_left
  · intro W hSw; (try dsimp only at hSw); clear hSw; go_simp; first | done | with_reducible rfl
  (try simp only [Act.put, List.setIfInBounds_toArray, List.set_cons_zero, List.set_cons_succ])
  refine wpAnyH_take (i := 9) (v := ?_) rfl (by kernel_rfl) (by kernel_rfl) (by kernel_rfl) (fun _ _ _ h => h) (Or.inl ⟨by rfl, ?_⟩) (by assumption) ?_
  rotate_left
  · intro W hSw; (try dsimp only at hSw); clear hSw; go_simp; first | done | with_reducible rfl
  (try simp only [Act.put, List.setIfInBounds_toArray, List.set_cons_zero, List.set_cons_succ])
  refine wpAnyH_ready (rs := [7]) (by kernel_rfl) (by simp) ?_
  refine AllReadyH.cons rfl (fun K hK => ?_) AllReadyH.nil
  go_simp
  go_at_call 8
  refine (OWI.out _ HB1.out).mono ?_
  rintro e w13_ ⟨gP, gPge, rfl, hgP, hb⟩
  have GP := Aside0.mk (Pd.blk_below GP1.out hb)
  have GS := Aside0.mk (Pd.blk_below GS1.out hb)
  have GI := Aside0.mk (Pd.blk_below GI1.out hb)
  have GD := Aside0.mk (Pd.blk_below GD1.out hb)
  have HB := Aside0.mk (below_step HB1.out hb)
  have GPL := Aside0.mk hgP
  have gip := (show gi ≠ gP by have := blk_lt GI1.out; omega)
  clear hb hgP GP1 GS1 GI1 GD1 HB1
  try go_wp2_with fail
  refine hK.out _ _ GS.out (fun hHeld => ?_)
  clear hK K
  (try simp only [Act.put, List.setIfInBounds_toArray, List.set_cons_zero, List.set_cons_succ])
  have i8 := (show w13_.cell? ⟨gi, 8, none⟩ = some (.slice D s.m.dues.length dc) from (blk_cell GI.out 8).trans rfl)
  have f8 := frozen_of_row w13_ gi 8 _ _ GI.out
  refine wpAnyH_ready (rs := [10]) (by kernel_rfl) (by simp) ?_
  refine AllReadyH.cons rfl (fun K hK => ?_) AllReadyH.nil
  go_simp
  obtain ⟨w14_, hw⟩ : ∃ x, w13_.setCell ⟨gi, 8, none⟩ (.slice (some ⟨gD, 0, none⟩) s.m.dues.length (s.m.dues.length + 3)) = x := ⟨_, rfl⟩
  rw [hw]
  have BU := Aside0.mk (show H.But gi w13_ w14_ by rw [← hw]; exact (H.But.of (gb := gi) (Below.refl w13_.heap.size w13_)).setCell (p := ⟨gi, 8, none⟩) (Or.inl rfl) _)
  have GI := Aside0.mk (show w14_.heap[gi]? = some (.cells (scs s L lc (some ⟨gD, 0, none⟩) (s.m.dues.length + 3)) 33 (0, 0)) by rw [← hw]; exact blk_set GI.out 8 _)
  have GS := Aside0.mk ((BU.out.block gs (blk_lt GS.out) gsi).trans GS.out)
  have GP := Aside0.mk ((BU.out.block gp (blk_lt GP.out) gpi).trans GP.out)
  have GD := Aside0.mk ((BU.out.block gD (blk_lt GD.out) (Ne.symm gid)).trans GD.out)
  have GPL := Aside0.mk ((BU.out.block gP (blk_lt GPL.out) (Ne.symm gip)).trans GPL.out)
  have HB := Aside0.mk (But.below HB.out HB.out.size gige BU.out)
  clear hw BU i8 f8
  refine hK.out _ _ GS.out (fun hHeld => ?_)
  clear hK K
  (try simp only [Act.put, List.setIfInBounds_toArray, List.set_cons_zero, List.set_cons_succ])
  refine wpAnyH_take (i := 11) (v := ?_) rfl (by kernel_rfl) (by kernel_rfl) (by kernel_rfl) (fun _ _ _ h => h) (Or.inl ⟨by rfl, ?_⟩) (by assumption) ?_
  rotate_left
  · intro W hSw; (try dsimp only at hSw); clear hSw; go_simp; first | done | with_reducible rfl
  (try simp only [Act.put, List.setIfInBounds_toArray, List.set_cons_zero, List.set_cons_succ])
  have i3 := (show w14_.cell? ⟨gi, 3, none⟩ = some (.slice L s.plan.length lc) from (blk_cell GI.out 3).trans rfl)
  have f3 := frozen_of_row w14_ gi 3 _ _ GI.out
  refine wpAnyH_ready (rs := [12]) (by kernel_rfl) (by simp) ?_
  refine AllReadyH.cons rfl (fun K hK => ?_) AllReadyH.nil
  go_simp
  obtain ⟨w15_, hw⟩ : ∃ x, w14_.setCell ⟨gi, 3, none⟩ (.slice (some ⟨gP, 0, none⟩) s.plan.length (s.plan.length + 3)) = x := ⟨_, rfl⟩
  rw [hw]
  have BU := Aside0.mk (show H.But gi w14_ w15_ by rw [← hw]; exact (H.But.of (gb := gi) (Below.refl w14_.heap.size w14_)).setCell (p := ⟨gi, 3, none⟩) (Or.inl rfl) _)
  have GI := Aside0.mk (show w15_.heap[gi]? = some (.cells (scs s (some ⟨gP, 0, none⟩) (s.plan.length + 3) (some ⟨gD, 0, none⟩) (s.m.dues.length + 3)) 33 (0, 0)) by rw [← hw]; exact blk_set GI.out 3 _)
  have GS := Aside0.mk ((BU.out.block gs (blk_lt GS.out) gsi).trans GS.out)
  have GP := Aside0.mk ((BU.out.block gp (blk_lt GP.out) gpi).trans GP.out)
  have GD := Aside0.mk ((BU.out.block gD (blk_lt GD.out) (Ne.symm gid)).trans GD.out)
  have GPL := Aside0.mk ((BU.out.block gP (blk_lt GPL.out) (Ne.symm gip)).trans GPL.out)
  have HB := Aside0.mk (But.below HB.out HB.out.size gige BU.out)
  clear hw BU i3 f3
  refine hK.out _ _ GS.out (fun hHeld => ?_)
  clear hK K
  (try simp only [Act.put, List.setIfInBounds_toArray, List.set_cons_zero, List.set_cons_succ])
  refine wpAnyH_done (by kernel_rfl) ?_ _
  clear hHeld
  have SI := Aside0.mk (st_copy GPL.out GD.out R4.out RW.out PLN.out DLN.out)
  go_wp2_with (first
    | ((with_reducible refine gate_dst (N := 34) rfl ?_); refine wpList_load_row rfl 27 (.tmp 3) rfl gp rfl 27 _ (0, 0) _ GP.out Tryz.underlying27 rfl info_prod ?_)
    | ((with_reducible refine gate_dst (N := 35) rfl ?_); refine wpList_load_row rfl 33 (.tmp 7) rfl gi rfl 33 _ (0, 0) _ GI.out Tryz.underlying33 rfl info_state ?_)
    | (go_at_call 9; (with_reducible refine (NX.out _ B1 d1 B2 d2 B3 d3 _ _ _ _ HB.out HK.out SI.out).mono ?_); rintro e w16_ ⟨L2, lc2, D2, dc2, rfl, hst, hb, -⟩; have SX := Aside0.mk hst; have GP := Aside0.mk (Pd.blk_below GP.out hb); have GS := Aside0.mk (Pd.blk_below GS.out hb); have GI := Aside0.mk (Pd.blk_below GI.out hb); have GD := Aside0.mk (Pd.blk_below GD.out hb); have GPL := Aside0.mk (Pd.blk_below GPL.out hb); have HB := Aside0.mk (below_step HB.out hb); clear hst hb SI)
    | ((with_reducible refine gate_dst (N := 8) rfl ?_); refine copy_event rfl (N := 8) rfl rfl rfl (t := 33) (v := .tmp 37) rfl (cs := scs x L2 lc2 D2 dc2) (zs := scs zeroS none 0 none 0) ?hr rfl rfl info_state ?hz (by simp [Value.oneCell']) ?_; (case hr => first | (go_simp; done) | (go_simp; rfl)); (case hz => rfl); intro gx hg w17_ hb1 hb; have GX := Aside0.mk hb1; have GP := Aside0.mk (Pd.blk_below GP.out hb); have GS := Aside0.mk (Pd.blk_below GS.out hb); have GI := Aside0.mk (Pd.blk_below GI.out hb); have GD := Aside0.mk (Pd.blk_below GD.out hb); have GPL := Aside0.mk (Pd.blk_below GPL.out hb); have SX := Aside0.mk (SX.out.below hb); have HB := Aside0.mk (below_step HB.out hb); clear hg hb1 hb)
    | ((with_reducible refine gate_dst (N := 40) rfl ?_); refine wpList_load_row rfl 27 (.tmp 3) rfl gp rfl 27 _ (0, 0) _ GP.out Tryz.underlying27 rfl info_prod ?_)
    | ((with_reducible refine gate_dst (N := 41) rfl ?_); refine wpList_load_row rfl 33 (.tmp 4) rfl gs rfl 33 _ (0, 0) _ GS.out Tryz.underlying33 rfl info_state ?_)
    | (go_at_call 10; (with_reducible refine (NR.out _ B1 d1 B2 d2 B3 d3 HB.out HK.out).mono ?_); rintro e w18_ ⟨L3, lc3, D3, dc3, rfl, hst, hb, -⟩; have SR := Aside0.mk hst; have GX := Aside0.mk (Pd.blk_below GX.out hb); have GS := Aside0.mk (Pd.blk_below GS.out hb); have GI := Aside0.mk (Pd.blk_below GI.out hb); have GD := Aside0.mk (Pd.blk_below GD.out hb); have GPL := Aside0.mk (Pd.blk_below GPL.out hb); have SX := Aside0.mk (SX.out.below hb); have HB := Aside0.mk (below_step HB.out hb); clear hst hb GP)
    | ((with_reducible refine gate_dst (N := 10) rfl ?_); refine copy_event rfl (N := 10) rfl rfl rfl (t := 33) (v := .tmp 43) rfl (cs := scs x L3 lc3 D3 dc3) (zs := scs zeroS none 0 none 0) ?hr rfl rfl info_state ?hz (by simp [Value.oneCell']) ?_; (case hr => first | (go_simp; done) | (go_simp; rfl)); (case hz => rfl); intro gy hg w19_ hb1 hb; have GY := Aside0.mk hb1; have GX := Aside0.mk (Pd.blk_below GX.out hb); have GS := Aside0.mk (Pd.blk_below GS.out hb); have GI := Aside0.mk (Pd.blk_below GI.out hb); have GD := Aside0.mk (Pd.blk_below GD.out hb); have GPL := Aside0.mk (Pd.blk_below GPL.out hb); have SX := Aside0.mk (SX.out.below hb); have SR := Aside0.mk (SR.out.below hb); have HB := Aside0.mk (below_step HB.out hb); clear hg hb1 hb)
    | (go_at_call 5; (with_reducible refine (AK.out _ HB.out).mono ?_); rintro e w7_ ⟨rfl, hb⟩; have GX := Aside0.mk (Pd.blk_below GX.out hb); have GY := Aside0.mk (Pd.blk_below GY.out hb); have GS := Aside0.mk (Pd.blk_below GS.out hb); have GI := Aside0.mk (Pd.blk_below GI.out hb); have GD := Aside0.mk (Pd.blk_below GD.out hb); have GPL := Aside0.mk (Pd.blk_below GPL.out hb); have SX := Aside0.mk (SX.out.below hb); have SR := Aside0.mk (SR.out.below hb); have HB := Aside0.mk (below_step HB.out hb); clear hb)
    | ((with_reducible refine gate_dst (N := 47) rfl ?_); refine mid_want rfl 33 (.tmp 8) rfl gx 0 ?hx (scs x L2 lc2 D2 dc2).toList _ (blk_rangeN GX.out) Tryz.underlying33 rfl info_state ?_; (case hx => first | rfl | (go_simp; done) | (go_simp; rfl)))
    | ((with_reducible refine gate_dst (N := 48) rfl ?_); refine mid_want rfl 33 (.tmp 10) rfl gy 0 ?hx (scs x L3 lc3 D3 dc3).toList _ (blk_rangeN GY.out) Tryz.underlying33 rfl info_state ?_; (case hx => first | rfl | (go_simp; done) | (go_simp; rfl)))
    | (go_at_call 11; (with_reducible refine (sameS x L2 lc2 D2 dc2 L3 lc3 D3 dc3 _ SX.out SR.out).mono ?_); rintro e w20_ ⟨rfl, hb⟩; have GS := Aside0.mk (Pd.blk_below GS.out hb); have GI := Aside0.mk (Pd.blk_below GI.out hb); have GD := Aside0.mk (Pd.blk_below GD.out hb); have GPL := Aside0.mk (Pd.blk_below GPL.out hb); have HB := Aside0.mk (below_step HB.out hb); clear hb; have i8 := (show w20_.cell? ⟨gi, 8, none⟩ = some (.slice (some ⟨gD, 0, none⟩) s.m.dues.length (s.m.dues.length + 3)) from (blk_cell GI.out 8).trans rfl); have s8 := (show w20_.cell? ⟨gs, 8, none⟩ = some (.slice D s.m.dues.length dc) from (blk_cell GS.out 8).trans rfl))
    | ((with_reducible refine gate_dst (N := 63) rfl ?_); refine build_wantT rfl (t := 39) rfl (cs := #[.int .i64 71, .int .i64 0, .int .i64 0, .int .i64 0]) ?hb ?_; (case hb => simp only [List.map_toArray, List.map_cons, List.map_nil]; kernel_rfl))
    | (go_at_call 12; (with_reducible refine (keptD gD D dc s.m.dues 71 0 0 0 _ GD.out (SS0.out _ HB.out).rows DLN.out).mono ?_); rintro e w21_ ⟨rfl, hb⟩; have GS := Aside0.mk (Pd.blk_below GS.out hb); have GI := Aside0.mk (Pd.blk_below GI.out hb); have GPL := Aside0.mk (Pd.blk_below GPL.out hb); have HB := Aside0.mk (below_step HB.out hb); clear hb i8 s8; have i3 := (show w21_.cell? ⟨gi, 3, none⟩ = some (.slice (some ⟨gP, 0, none⟩) s.plan.length (s.plan.length + 3)) from (blk_cell GI.out 3).trans rfl); have s3 := (show w21_.cell? ⟨gs, 3, none⟩ = some (.slice L s.plan.length lc) from (blk_cell GS.out 3).trans rfl))
    | (go_at_call 13; (with_reducible refine (HL.kept_yes (blkI GPL.out) (SS0.out _ HB.out).plan (SS0.out _ HB.out).pc PLN.out).mono ?_); rintro e w22_ ⟨rfl, hd⟩; have HB := Aside0.mk (below_step HB.out hd.below); clear hd))
  go_ret
  exact ⟨by simp, HB.out⟩
theorem nightlyTells_walk (p : Pm.Prod) (A1 : Option Addr) (c1 : Nat) (A2 : Option Addr) (c2 : Nat) (A3 : Option Addr) (c3 : Nat) (s : St) (L : Option Addr) (lc : Nat) (D : Option Addr) (dc : Nat) (raw : Bool) (w : World) (hp : ProdAt w p A1 c1 A2 c2 A3 c3) (hz0 : p.name.size ≤ maxLen) (hz1 : c1 ≤ maxLen) (hz2 : c2 ≤ maxLen) (hz3 : c3 ≤ maxLen) (hcm : Comes w s L lc D dc) (hgv : GV w) (hd : Held p) :
    Calls Tryz.prog 3 #[pv p A1 c1 A2 c2 A3 c3, sv s L lc D dc, .bool raw] w fun e w' => e = .returned (.bool true) ∧ Below w.heap.size w w' := by
  by_cases hf : fewP p s
  · cases raw with
    | true =>
      obtain ⟨⟨x, cx⟩, hx⟩ : ∃ x, nightsP p s 1 = x := ⟨_, rfl⟩
      exact tells_raw p A1 c1 A2 c2 A3 c3 s L lc D dc w hp hgv hcm hf hd ⟨by have := hf.1; omega, by have := hf.2.1; omega, by have := hf.2.2.1; omega, by have := hf.2.2.2.1; omega⟩ x cx hx
    | false =>
      have hne : ∀ W, Below w.heap.size w W → Calls Tryz.prog 6 #[pv p A1 c1 A2 c2 A3 c3, .int .i64 20] W (NearE p A1 c1 A2 c2 A3 c3 (nearP p 20) W) := fun W hb => near_any p A1 c1 A2 c2 A3 c3 20 W (hp.below hb) hd (by omega) (by omega)
      obtain ⟨oq, nt⟩ := near_valid p (n := 20) (by omega) (by omega)
      have hsm := ok_smallT oq
      generalize nearP p 20 = q at hne oq nt hsm
      obtain ⟨⟨x, cx⟩, hx⟩ : ∃ x, nightsP q s 1 = x := ⟨_, rfl⟩
      exact tells_near p A1 c1 A2 c2 A3 c3 s L lc D dc q w hp hgv hcm hf hne ⟨by have := hsm.name; omega, by have := hsm.s1; omega, by have := hsm.s2; omega, by have := hsm.s3; omega⟩ hsm x cx hx
  · exact tells_not p A1 c1 A2 c2 A3 c3 s L lc D dc raw w hgv hf
end Go.Proofs.YtbbbjjfecblhpaaGreat.Nt
