/- Texts of this claim, joined in build order. -/
import Derived.Test.YtfmkdledofbhdaaGreatProg
import Derived.Below
import Derived.Deep.Draws
import Derived.Deep.AppendLies
import Derived.Maps.AppendAt
import Derived.OwnWalk
import Derived.Laws.BytesArg
import Derived.Laws.MakeOwn
import Derived.Laws.OwnMore
import Derived.Tactics
import Derived.Lib.ConvBytes
import Derived.Laws.Slices
import Derived.WalkKit
import Derived.KernelRfl
import Derived.RowKit3
import Derived.Deep.LoopGhost
import Derived.Deep.QuietTactic
import Derived.BigQuiet
import Derived.WideLaws
import Derived.Deep.DeepCutAuto
import Derived.Deep.CutBlock
import Derived.Deep.RegionHeld3
import Derived.Lib.AppendStr
import Derived.ArgAppend
import Derived.Laws.IdiomCopy
import Derived.OrdersHeld
import Derived.Laws.BitsLemmas
import Derived.RowKit
import Derived.Laws.StructEq
import Derived.WalkLawsBesides
import Derived.WalkSpells
import Derived.Lib.IndexMore
import Derived.Deep.Slices
import Derived.Deep.Fields
import Derived.ChangeSame
import Derived.Lib.SmallJoins
import Derived.ProofKit
import Derived.Defers
import Derived.Laws.Tables
import Derived.Deep.WholeRow
import Derived.Recover
import Derived.StillTailTactics
import Derived.IntWalk
import Derived.Shelf.Small.Bits
import Derived.Shelf.Strconv.Itoa0
import Derived.Shelf.Strings.Search1
import Derived.Shelf.Strings.Search2
import Derived.Shelf.Strings.Search3
import Derived.Shelf.LaysM
import Derived.Shelf.Strings.Shaped
import Derived.Shelf.Bits.Mul64
import Derived.Lib.SlBytesConst
import Derived.Deep.RegionWith
import Derived.Lib.Hide
import Derived.BigFrame
import Derived.Lib.BitFns
import Derived.Laws.BitsAllLaws
import Derived.Laws.Externs
import Derived.RegionTactic
import Derived.Deep.MidRow
import Derived.OpenShut
import Derived.ShutString
import Derived.ChangeOld
import Derived.Laws.IdiomArrays
import Derived.SizedLaws
import Derived.HandedShaped
import Derived.Shelf.Vars
import Derived.Test.YtfmkdledofbhdaaGreatJT1
import Derived.Test.YtfmkdledofbhdaaGreatJT2
import Derived.Test.YtfmkdledofbhdaaGreatJT3
import Derived.Test.YtfmkdledofbhdaaGreatJT4
import Derived.Test.YtfmkdledofbhdaaGreatJT5
import Derived.Test.YtfmkdledofbhdaaGreatJT6
set_option linter.unusedVariables false
set_option linter.unusedSimpArgs false
/- Contracts by hand: schedule.Of. -/
namespace Go.Proofs.YtfmkdledofbhdaaGreat.Sc
open Go.RowKit Go.Proofs.YtfmkdledofbhdaaGreatW.PrintWords Go.Proofs.YtfmkdledofbhdaaGreatW.PrintLast Go.Proofs.YtfmkdledofbhdaaGreatW.PrintMore Go.Proofs.YtfmkdledofbhdaaGreat.HW
open Go.Proofs.YtfmkdledofbhdaaGreat.Math Go.Proofs.YtfmkdledofbhdaaGreat.H Go.Proofs.YtfmkdledofbhdaaGreat.Pd Go.Proofs.YtfmkdledofbhdaaGreat.Du Go.Proofs.YtfmkdledofbhdaaGreat.Lv Pm
set_option linter.unusedVariables false
set_option linter.unusedSimpArgs false
attribute [local go_sem] max2_int min2_int max_two min_two
theorem built_maker (p : Prod) (A1 : Option Addr) (c1 : Nat) (A2 : Option Addr) (c2 : Nat) (A3 : Option Addr) (c3 : Nat) (m : Int) : Tryz.prog.built 56 [(0, .agg (pcs p A1 c1 A2 c2 A3 c3)), (1, .int .i64 m), (3, .int .i64 m)] = some (mcs p A1 c1 A2 c2 A3 c3 m 0 m (.pointer none)) := by kernel_rfl
theorem Blk.readsL {w : World} {g : Nat} {e : TypeId} {l : List Int} {t : List Value} (h : H.Blk w g e (nums .i64 l ++ t)) (hm : l.length ≤ 1000000) : Kd.C (Kd.int .i64) w (some ⟨g, 0, none⟩) l.length l := Blk.reads h (by omega)
theorem info_lineb : (Tryz.prog.info? 38).map (fun i => (i.zero, i.size, i.bytes)) = some (some (.agg #[.int .i64 0, .int .i64 0, .int .i64 0, .int .i64 0]), 4, 32) := by kernel_rfl
theorem line_M {w : World} {base : Nat} {ok : Nat → Prop} (a b c d : Int) : (Kd.pair (Kd.int .i64) (Kd.pair (Kd.int .i64) (Kd.pair (Kd.int .i64) (Kd.int .i64)))).M w base ok (a, b, c, d) [.int .i64 a, .int .i64 b, .int .i64 c, .int .i64 d] :=
 ⟨[_], _, rfl, rfl, [_], _, rfl, rfl, [_], _, rfl, rfl, rfl⟩
theorem But2.toBelow {a b : Nat} {w w1 w2 : World} (h : Below w.heap.size w w1) (hb : But2 a b w1 w2) (ha : w.heap.size ≤ a) (hc : w.heap.size ≤ b) : Below w.heap.size w w2 :=
 ⟨hb.os.trans h.os, hb.tape.trans h.tape, hb.output.trans h.output, Nat.le_trans h.size hb.size, fun k hk => (hb.block k (Nat.lt_of_lt_of_le hk h.size) (by omega) (by omega)).trans (h.block k hk)⟩
theorem _root_.Go.Proofs.YtfmkdledofbhdaaGreat.H.BearAt.same {w w1 : World} {g : Nat} {W h rest : Int} (H : BearAt w g W h rest) (hb : w1.heap[g]? = w.heap[g]?) (hs : w.heap.size ≤ w1.heap.size) : BearAt w1 g W h rest :=
 ⟨(World.cell?_of_block (a := ⟨g, 0, none⟩) hb).trans H.c0, (World.cell?_of_block (a := ⟨g, 1, none⟩) hb).trans H.c1, (World.cell?_of_block (a := ⟨g, 2, none⟩) hb).trans H.c2, (World.frozen?_of_block (a := ⟨g, 2, none⟩) hb).trans H.f2, Nat.lt_of_lt_of_le H.lt hs⟩
theorem zip_drop {xs ys : List Int} {k : Nat} (h : k < xs.length) (h2 : ys.length = xs.length) : (xs.zip ys).drop k = (rd xs (k : Int), rd ys (k : Int)) :: (xs.zip ys).drop (k + 1) := by
 rw [List.drop_eq_getElem_cons (by rw [List.length_zip]; omega), List.getElem_zip]
 simp [rd, h, show k < ys.length by omega]
theorem inst_bd {p : Prod} {ys : List Int} {m inst : Int} (h : ofE p ys m = (inst, 0)) : 1 ≤ inst ∧ inst ≤ 1000000000000000 := by
 have ha : askE p ys m = 0 := by
  rcases Decidable.em (askE p ys m = 0) with e | e
  ·exact e
  ·unfold ofE at h
   rw [if_pos e] at h
   exact absurd (congrArg Prod.snd h) e
 obtain ⟨hm, hz⟩ := lf_mono ha
 have hn : ¬ askE p ys m ≠ 0 := by rw [ha]; decide
 unfold ofE at h
 rw [if_neg hn] at h
 by_cases h2 : 0 < lf p ys m 1000000000000000
 ·rw [if_pos h2] at h
  exact absurd (congrArg Prod.snd h) (fun e => by simp at e)
 ·rw [if_neg h2] at h
  have L := srch_least (lf p ys m) 50 0 1000000000000000 (by decide) (by decide) (by decide) (by decide) hz (by omega)
  have e := congrArg Prod.fst h
  simp only [] at e
  rw [e] at L
  exact ⟨L.v1, L.vm⟩
def ListedL1 (l : List Int) (w : World) (e : Ending) (w' : World) : Prop := ∃ g c t, e = .returned (.tuple #[.slice (some ⟨g, 0, none⟩) l.length c, .int .i64 0]) ∧ w.heap.size ≤ g ∧ l.length ≤ c ∧ H.Blk w' g 2 (nums .i64 l ++ t) ∧ Below w.heap.size w w'
theorem listed_one {l : List Int} {w w' : World} {e : Ending} (h : ListedL (l, 0) w e w') (hl : l ≠ []) : ListedL1 l w e w' := by
 obtain ⟨v, he, hr, hb⟩ := h
 rcases hr with ⟨-, h⟩ | ⟨g, c, t, rfl, hg, hc, hk⟩
 ·exact absurd h hl
 ·exact ⟨g, c, t, he, hg, hc, hk, hb⟩
def Sched (r : List Ln × Int) (w : World) (e : Ending) (w' : World) : Prop := ∃ A c, e = .returned (.tuple #[.slice A r.1.length c, .int .i64 r.2]) ∧ Kd.R (Kd.pair (Kd.int .i64) (Kd.pair (Kd.int .i64) (Kd.pair (Kd.int .i64) (Kd.int .i64)))) 38 w' w.heap.size (fun _ => True) (.slice A r.1.length c) r.1 ∧ Below w.heap.size w w'
set_option maxRecDepth 100000 in
set_option maxHeartbeats 20000000 in
theorem sched_one (p : Prod) (A1 : Option Addr) (c1 : Nat) (A2 : Option Addr) (c2 : Nat) (A3 : Option Addr) (c3 : Nat) (start m inst : Int) (w : World) (hg : GV w) (hp : ProdAt w p A1 c1 A2 c2 A3 c3) (hs : Small p) (xs ys : List Int) (hd : daysP p start = (xs, 0)) (hpx : partsP p start = (ys, 0)) (hxl : xs.length ≤ 600) (m0 : 1 ≤ m) (m1 : m ≤ 10000000000000) (hi : p.kind = 1 ∧ ofE p ys m = (inst, 0)) :
  Calls Tryz.prog 7 #[pv p A1 c1 A2 c2 A3 c3, .int .i64 start, .int .i64 m] w (Sched (linesP p start m inst) w) := by
 obtain ⟨ho, hs0, hds, hl, t1, t2, hr, -⟩ := days_known hd
 have hyl : ys.length = xs.length := by
  have := hpx
  unfold partsP at this
  rw [hd, if_pos rfl] at this
  obtain ⟨rfl, -⟩ := Prod.mk.inj this
  exact rparts_len _ _ _
 have hJ : linesP p start m inst = join [] (lines p (Gm.whole p.count) (Gm.half p.count p.round) m inst 0 (xs.zip ys) m 0) := by
  unfold linesP
  rw [hd, hpx]
  exact (join_nil _ (lines_err _ _ _ _ _ _ _ _ _)).symm
 obtain ⟨⟨⟨⟨⟨_, a2, a3, a4, a5, a6, a7, a8⟩, ⟨b1, b2, b3⟩, b4⟩, c⟩, d_⟩, e_⟩ := (ok_iff p).1 ho
 have hne : xs ≠ [] := fun e => by rw [e] at hl; simp at hl; omega
 have hne2 : ys ≠ [] := fun e => by rw [e] at hyl; simp at hyl; exact hne (List.eq_nil_of_length_eq_zero hyl.symm)
 have ib : 0 ≤ inst ∧ inst ≤ 1000000000000000 := by
  have := inst_bd hi.2; omega
 have MM := Aside0.mk (show Mid p m 0 m from ⟨by omega, by omega, fun _ _ => by rw [show max 0 (0 - p.grace) = 0 by omega]; omega⟩)
 have GN := good_new p.count p.round
 have NW := Aside0.mk (fun U => bnew_any (c := p.count) (r := p.round) (by omega) a3 U)
 have DA := Aside0.mk (fun W (hb : Below w.heap.size w W) => show Calls Tryz.prog 15 #[pv p A1 c1 A2 c2 A3 c3, .int .i64 start] W (Listed1 xs W) from (days_any p A1 c1 A2 c2 A3 c3 start W (hg.below hb) (hp.below hb) hs).mono fun e w' h => by rw [hd] at h; exact h.one hne)
 have PA := Aside0.mk (fun W (hb : Below w.heap.size w W) => show Calls Tryz.prog 16 #[pv p A1 c1 A2 c2 A3 c3, .int .i64 start] W (ListedL1 ys W) from (parts_any p A1 c1 A2 c2 A3 c3 start W (hg.below hb) (hp.below hb) hs).mono fun e w' h => by rw [hpx] at h; exact listed_one h hne2)
 have OF := Aside0.mk (fun (A : Option Addr) (c : Nat) (W : World) (hb : Below w.heap.size w W) (hc : Kd.C (Kd.int .i64) W A ys.length ys) => show Calls Tryz.prog 17 #[pv p A1 c1 A2 c2 A3 c3, .slice A ys.length c, .int .i64 m] W (Two (inst, 0) W) from by have := Of_any p A1 c1 A2 c2 A3 c3 A ys c m W (hg.below hb) (hp.below hb) hs hc (by omega); rw [hi.2] at this; exact this)
 obtain ⟨R, hR⟩ : ∃ R, linesP p start m inst = R := ⟨_, rfl⟩
 rw [hR] at hJ ⊢
 obtain ⟨Wh, hWh⟩ : ∃ y, Gm.whole p.count = y := ⟨_, rfl⟩
 obtain ⟨Hf, hHf⟩ : ∃ y, Gm.half p.count p.round = y := ⟨_, rfl⟩
 rw [hWh, hHf] at GN hJ
 have HWh := Aside0.mk hWh
 have HHf := Aside0.mk hHf
 have GN := Aside0.mk GN
 have HJ := Aside0.mk hJ
 have KD := Aside0.mk a4
 have kk : (p.kind == 1) = true := by simpa using hi.1
 have HYL := Aside0.mk hyl
 have T2 := Aside0.mk t2
 have HLT := Aside0.mk hl
 have G0 := Aside0.mk a7
 clear hg hp hs hd hpx hJ hR hWh hHf ho hs0 hds hr a2 a3 a4 a5 a6 a8 b1 b2 b3 b4 c d_ e_ hne hne2 hi hyl hl t2 a7
 go_enter Tryz.func7, Tryz.ntmps7
 go_wp2_with (first
  | ((with_reducible refine gate_dst (N := 3) rfl ?_); refine box_event ?hg (N := 3) ?hd (cs := pcs p A1 c1 A2 c2 A3 c3) (t := 27) ?hr ?_; (case hd => rfl); (case hg => rfl); (case hr => first | (go_simp; done) | (go_simp; rfl)); intro g hg w1 hb1 hbl1; have gge := (show w.heap.size ≤ g by rw [hg]; exact Nat.le_refl _); clear hg; have GG := Aside0.mk hb1; have HB := Aside0.mk hbl1; clear hb1 hbl1)
  | ((with_reducible refine gate_dst (N := 20) rfl ?_); refine wpList_load_row rfl 27 (.tmp 3) rfl g rfl 27 _ (0, 0) _ GG.out Tryz.underlying27 rfl info_prod ?_)
  | (go_at_call 15; (with_reducible refine (DA.out _ HB.out).mono ?_); rintro e w2 ⟨gl, cl, tl, rfl, gle, lc, hbk, hb⟩; have BL := Aside0.mk hbk; have glge := Nat.le_trans HB.out.size gle; have HB := Aside0.mk (below_step HB.out hb); have GG := Aside0.mk (Pd.blk_below GG.out hb); clear hb hbk)
  | ((with_reducible refine gate_dst (N := 35) rfl ?_); refine wpList_load_row rfl 27 (.tmp 3) rfl g rfl 27 _ (0, 0) _ GG.out Tryz.underlying27 rfl info_prod ?_)
  | (go_at_call 16; (with_reducible refine (PA.out _ HB.out).mono ?_); rintro e w3 ⟨gx, cx, tx, rfl, gxe, xc, hbk, hb⟩; have BX := Aside0.mk hbk; have gxge := Nat.le_trans HB.out.size gxe; have BL := Aside0.mk (Blk.below BL.out hb); have HB := Aside0.mk (below_step HB.out hb); have GG := Aside0.mk (Pd.blk_below GG.out hb); clear hb hbk)
  | ((with_reducible refine gate_dst (N := 40) rfl ?_); refine wpList_load_row rfl 27 (.tmp 3) rfl g rfl 27 _ (0, 0) _ GG.out Tryz.underlying27 rfl info_prod ?_)
  | ((with_reducible refine gate_dst (N := 43) rfl ?_); refine build_event rfl (t := 56) rfl (cs := mcs p A1 c1 A2 c2 A3 c3 m 0 m (.pointer none)) ?hb ?_; (case hb => simp only [List.map_toArray, List.map_cons, List.map_nil]; exact built_maker p A1 c1 A2 c2 A3 c3 m))
  | ((with_reducible refine gate_dst (N := 44) rfl ?_); refine box_event ?hg (N := 44) ?hd (cs := mcs p A1 c1 A2 c2 A3 c3 m 0 m (.pointer none)) (t := 56) ?hr ?_; (case hd => rfl); (case hg => rfl); (case hr => first | (go_simp; done) | (go_simp; rfl)); intro gm hgm w4 hb1 hb; have gmge := (show w.heap.size ≤ gm by rw [hgm]; exact HB.out.size); have gmx := (show gx ≠ gm by have := Blk.lt BX.out; omega); have gml := (show gl ≠ gm by have := Blk.lt BL.out; omega); have gmg := (show g ≠ gm by have := blk_lt GG.out; omega); clear hgm; have GM := Aside0.mk hb1; have BL := Aside0.mk (Blk.below BL.out hb); have BX := Aside0.mk (Blk.below BX.out hb); have HB := Aside0.mk (below_step HB.out hb); have GG := Aside0.mk (Pd.blk_below GG.out hb); clear hb1 hb; have v20 := (show w4.cell? ⟨gm, 20, none⟩ = some (.int .i64 0) from (blk_cell GM.out 20).trans rfl); have f20 := frozen_of_row w4 gm 20 _ _ GM.out; have v22 := (show w4.cell? ⟨gm, 22, none⟩ = some (.pointer none) from (blk_cell GM.out 22).trans rfl); have f22 := frozen_of_row w4 gm 22 _ _ GM.out; obtain ⟨-, u1, u2, u3, -⟩ := pc_cells GG.out)
  | ((with_reducible refine gate_dst (N := 50) rfl ?_); refine wpList_load_row rfl 27 (.tmp 3) rfl g rfl 27 _ (0, 0) _ GG.out Tryz.underlying27 rfl info_prod ?_)
  | (go_at_call 17; (with_reducible refine (OF.out _ _ _ HB.out (Blk.readsL BX.out (by have := HYL.out; omega))).mono ?_); rintro e w5 ⟨rfl, hb⟩; have BL := Aside0.mk (Blk.below BL.out hb); have BX := Aside0.mk (Blk.below BX.out hb); have GM := Aside0.mk (Pd.blk_below GM.out hb); have HB := Aside0.mk (below_step HB.out hb); have GG := Aside0.mk (Pd.blk_below GG.out hb); clear hb v20 f20 v22 f22 u1 u2 u3; have v20 := (show w5.cell? ⟨gm, 20, none⟩ = some (.int .i64 0) from (blk_cell GM.out 20).trans rfl); have f20 := frozen_of_row w5 gm 20 _ _ GM.out)
  | ((with_reducible refine gate_store (t := 2) (p := 57) rfl ?_); refine put_event rfl (t := 2) (p := 57) (v := .tmp 54) rfl rfl (g := gm) (i := 20) (cs := mcs p A1 c1 A2 c2 A3 c3 m 0 m (.pointer none)) (cs' := mcs p A1 c1 A2 c2 A3 c3 m inst m (.pointer none)) (x := .int .i64 inst) ?hr GM.out ?hc ?_; (case hc => rfl); (case hr => go_simp); intro w6 hb8 hbut; have GM := Aside0.mk hb8; have BL := Aside0.mk (Blk.but BL.out hbut gml); have BX := Aside0.mk (Blk.but BX.out hbut gmx); have GG := Aside0.mk ((hbut.block g (blk_lt GG.out) gmg).trans GG.out); have HB := Aside0.mk (But.below HB.out HB.out.size gmge hbut); clear hb8 hbut; have v22 := (show w6.cell? ⟨gm, 22, none⟩ = some (.pointer none) from (blk_cell GM.out 22).trans rfl); have f22 := frozen_of_row w6 gm 22 _ _ GM.out; obtain ⟨-, u1, u2, u3, -⟩ := pc_cells GG.out)
  | (go_at_call 18; (with_reducible refine (NW.out _).mono ?_); rintro e w7 ⟨hb, gb, hgb, rfl, hba⟩; rw [HWh.out, HHf.out] at hba; have gbge := Nat.le_trans HB.out.size hgb; have gbm := (show gm ≠ gb by have := blk_lt GM.out; omega); have gbl := (show gl ≠ gb by have := Blk.lt BL.out; omega); have gbx := (show gx ≠ gb by have := Blk.lt BX.out; omega); have gbg := (show g ≠ gb by have := blk_lt GG.out; omega); have BA := Aside0.mk hba; have BL := Aside0.mk (Blk.below BL.out hb); have BX := Aside0.mk (Blk.below BX.out hb); have GM := Aside0.mk (Pd.blk_below GM.out hb); have HB := Aside0.mk (below_step HB.out hb); have GG := Aside0.mk (Pd.blk_below GG.out hb); clear hb hba hgb v22 f22 u1 u2 u3; have v22 := (show w7.cell? ⟨gm, 22, none⟩ = some (.pointer none) from (blk_cell GM.out 22).trans rfl); have f22 := frozen_of_row w7 gm 22 _ _ GM.out)
  | ((with_reducible refine gate_store (t := 54) (p := 71) rfl ?_); refine put_event rfl (t := 54) (p := 71) (v := .tmp 68) rfl rfl (g := gm) (i := 22) (cs := mcs p A1 c1 A2 c2 A3 c3 m inst m (.pointer none)) (cs' := mcs p A1 c1 A2 c2 A3 c3 m inst m (.pointer (some ⟨gb, 0, none⟩))) (x := .pointer (some ⟨gb, 0, none⟩)) ?hr GM.out ?hc ?_; (case hc => rfl); (case hr => go_simp); intro w8 hb8 hbut; have GM := Aside0.mk hb8; have BA := Aside0.mk (BA.out.but hbut (Ne.symm gbm)); have BL := Aside0.mk (Blk.but BL.out hbut gml); have BX := Aside0.mk (Blk.but BX.out hbut gmx); have GG := Aside0.mk ((hbut.block g (blk_lt GG.out) gmg).trans GG.out); have HB := Aside0.mk (But.below HB.out HB.out.size gmge hbut); clear hb8 hbut v22 f22))
 clear kk
 have HGE := Aside0.mk (show 0 ≤ p.grace ∧ p.grace < p.times by have := G0.out; omega)
 have HZD := Aside0.mk (List.length_zip (l₁ := xs) (l₂ := ys))
 go_loopg [14, 76] (xs.length + 1) (fun gq ov iv w' => ∃ (k : Nat) (left rest : Int) (Ax : Option Addr) (cw : Nat) (ls : List Ln), k ≤ xs.length ∧ iv = .int .i64 (k : Int) ∧ ov = .slice Ax ls.length cw ∧ Aside0 (ls.length = k) ∧ Aside0 (gq = xs.length + 1 - k) ∧ Aside0 (R = join ls (lines p Wh Hf m inst (k : Int) ((xs.zip ys).drop k) left rest)) ∧ Aside0 (Mid p m (k : Int) left) ∧ Aside0 (H.Good Wh Hf rest) ∧ Aside0 (w'.heap[gm]? = some (.cells (mcs p A1 c1 A2 c2 A3 c3 m inst left (.pointer (some ⟨gb, 0, none⟩))) 56 (0, 0))) ∧ Aside0 (BearAt w' gb Wh Hf rest) ∧ Aside0 (Kd.R (Kd.pair (Kd.int .i64) (Kd.pair (Kd.int .i64) (Kd.pair (Kd.int .i64) (Kd.int .i64)))) 38 w' w.heap.size (fun b => b ≠ g ∧ b ≠ gl ∧ b ≠ gx ∧ b ≠ gm ∧ b ≠ gb) (.slice Ax ls.length cw) ls) ∧ Aside0 (H.Blk w' gl 3 (nums .i64 xs ++ tl)) ∧ Aside0 (H.Blk w' gx 2 (nums .i64 ys ++ tx)) ∧ Aside0 (w'.heap[g]? = some (.cells (pcs p A1 c1 A2 c2 A3 c3) 27 (0, 0))) ∧ Aside0 (Below w.heap.size w w'))
 case atStart => exact ⟨0, m, 0, none, 0, [], by omega, rfl, rfl, ⟨rfl⟩, ⟨rfl⟩, ⟨by rw [List.drop_zero]; exact HJ.out⟩, MM, GN, GM, BA, ⟨Kd.R_nil _ _ _ _ _⟩, BL, BX, GG, HB⟩
 case round =>
  obtain ⟨k, left, rest, Ax, cw, ls, hk, rfl, rfl, hlen, hgq, HJ, MM, GN, GM, BA, HO, BL, BX, GG, HB⟩ := hrel
  by_cases hlt : k < xs.length
  ·obtain ⟨d, hdd⟩ : ∃ d, rd xs (k : Int) = d := ⟨_, rfl⟩
   obtain ⟨n, hnn⟩ : ∃ n, rd ys (k : Int) = n := ⟨_, rfl⟩
   have hcl : wr.cell? ⟨gl, k, none⟩ = some (.int .i64 d) := (BL.out.cell k).trans (by rw [List.getElem?_append_left (by simp [nums]; omega), ← hdd]; simp [nums, rd, hlt])
   have hkl : k < ys.length := by have := HYL.out; omega
   have hcx : wr.cell? ⟨gx, k, none⟩ = some (.int .i64 n) := (BX.out.cell k).trans (by rw [List.getElem?_append_left (by simp [nums]; omega), ← hnn]; simp [nums, rd, hkl])
   have hkx : (k : Int) < (xs.length : Int) := by omega
   have hky : (k : Int) < (ys.length : Int) := by omega
   obtain ⟨z, hz⟩ : ∃ z, Gm.bear Wh Hf rest left p.rate n = z := ⟨_, rfl⟩
   have hj := HJ.out
   rw [zip_drop hlt HYL.out, hdd, hnn, lines_cons hz] at hj
   have ge := HGE.out
   have kt : (k : Int) < p.times := by have := HLT.out; omega
   have LA := line_any p A1 c1 A2 c2 A3 c3 m inst left Wh Hf rest n (k : Int) d gm gb wr z hz BA.out GN.out GM.out gbm MM.out ge.1 ge.2 T2.out (by omega) kt (by omega) m1 ib.1 ib.2 (by have := KD.out; omega)
   obtain ⟨p1, p2, p3⟩ := prin_bd (inst := inst) (v := z.1) MM.out (by omega) ge.1 ge.2 (by omega) kt
   have G2 := good_bear (bal := left) (rate := p.rate) (n := n) GN.out
   rw [hz] at G2
   by_cases he : lerr p m inst (k : Int) left z = 0
   ·rw [if_neg (by simpa using he)] at hj
    have pz := (lerr_zero he).2.1
    have M2 := p3 pz
    obtain ⟨z1, z2, z3⟩ := z
    obtain ⟨pr, hpr⟩ : ∃ x, prin p m inst (k : Int) z1 left = x := ⟨_, rfl⟩
    simp only [] at hj M2 G2
    rw [hpr] at hj M2
    have LN := Aside0.mk (show Calls Tryz.prog 19 #[.pointer (some ⟨gm, 0, none⟩), .int .i64 (k : Int), .int .i64 d, .int .i64 n] wr fun e w' => e = .returned (.tuple #[.agg #[.int .i64 d, .int .i64 pr, .int .i64 z1, .int .i64 (left - pr)], .int .i64 0]) ∧ But2 gm gb wr w' ∧ w'.heap[gm]? = some (.cells (mcs p A1 c1 A2 c2 A3 c3 m inst (left - pr) (.pointer (some ⟨gb, 0, none⟩))) 56 (0, 0)) ∧ BearAt w' gb Wh Hf z3 from LA.mono fun e w' h => by
     obtain ⟨hbt, v, rfl, h1, h2⟩ := h
     obtain ⟨rfl, h3, h4⟩ := h1 he
     simp only [] at h3
     rw [hpr] at h3
     rw [he]
     simp only []
     rw [hpr]
     exact ⟨rfl, hbt, h3, h4⟩)
    have HJ2 := Aside0.mk hj
    have MM2 := Aside0.mk M2
    have GN2 := Aside0.mk G2
    have HPR := Aside0.mk hpr
    clear hj LA p1 p2 p3 M2 G2 pz hz hpr he hdd hnn ge HJ MM kt
    go_wp2_with (first
     | (go_at_call 19; (with_reducible refine LN.out.mono ?_); rintro e w10 ⟨rfl, hbt, hgm, hba⟩; have GM := Aside0.mk hgm; have BA := Aside0.mk hba; have HO := Aside0.mk (Kd.R_step HO.out (fun b hb hlt => hbt.block b hlt hb.2.2.2.1 hb.2.2.2.2)); have BL := Aside0.mk (BL.out.same (hbt.block gl (Blk.lt BL.out) gml gbl)); have BX := Aside0.mk (BX.out.same (hbt.block gx (Blk.lt BX.out) gmx gbx)); have GG := Aside0.mk ((hbt.block g (blk_lt GG.out) gmg gbg).trans GG.out); have HB := Aside0.mk (But2.toBelow HB.out hbt gmge gbge); clear hbt hgm hba)
     | ((with_reducible refine gate_dst (N := 17) rfl ?_); refine copy_event rfl (N := 17) rfl rfl rfl (t := 38) (v := .tmp 90) rfl (cs := #[.int .i64 d, .int .i64 pr, .int .i64 z1, .int .i64 (left - pr)]) (zs := #[.int .i64 0, .int .i64 0, .int .i64 0, .int .i64 0]) ?hr rfl rfl info_line ?hz (line_one _ _ _ _) ?_; (case hr => first | (go_simp; done) | (go_simp; rfl)); (case hz => rfl); intro gt hgt w11 hb1 hb; have GT := Aside0.mk hb1; have HO := Aside0.mk (Kd.R_below HO.out hb); have BA := Aside0.mk (BA.out.below hb); have BL := Aside0.mk (Blk.below BL.out hb); have BX := Aside0.mk (Blk.below BX.out hb); have GM := Aside0.mk (Pd.blk_below GM.out hb); have HB := Aside0.mk (below_step HB.out hb); have GG := Aside0.mk (Pd.blk_below GG.out hb); clear hgt hb1 hb)
     | ((with_reducible refine gate_dst (N := 96) rfl ?_); refine wpList_load_row rfl 38 (.tmp 17) rfl gt rfl 38 _ (0, 0) _ GT.out Tryz.underlying38 rfl info_line ?_)
     | ((with_reducible refine gate_builtin (b := .append) (xs := #[.tmp 95, .tmp 97]) rfl ?_); at_builtin; refine Kd.R_append (Kd.pair (Kd.int .i64) (Kd.pair (Kd.int .i64) (Kd.pair (Kd.int .i64) (Kd.int .i64)))) (w0 := w) w.heap.size rfl (.tmp 95) (.tmp 97) 32 38 (.agg #[.int .i64 0, .int .i64 0, .int .i64 0, .int .i64 0]) 32 rfl Tryz.underlying32 info_lineb rfl (by decide) (by decide) (.slice Ax ls.length cw) ls (d, pr, z1, left - pr) [.int .i64 d, .int .i64 pr, .int .i64 z1, .int .i64 (left - pr)] (fun b => b ≠ g ∧ b ≠ gl ∧ b ≠ gx ∧ b ≠ gm ∧ b ≠ gb) (fun _ => False) rfl rfl ?aP (fun _ hk => hk.elim) ?aF ?aO ?aB ?aS ?aL ?_; (case aP => exact line_M d pr z1 (left - pr)); (case aF => exact fun b hb => ⟨(by have := blk_lt GG.out; omega), (by have := Blk.lt BL.out; omega), (by have := Blk.lt BX.out; omega), (by have := blk_lt GM.out; omega), (by have := BA.out.lt; omega)⟩); (case aO => exact HO.out); (case aB => exact HB.out); (case aS => exact HB.out.size); (case aL => have := hlen.out; omega); intro v1 w12 hr1 hb1 hg1 hat1; obtain ⟨l2, hl2⟩ : ∃ l2, l2 = ls ++ [(d, pr, z1, left - pr)] := ⟨_, rfl⟩; rw [← hl2] at hr1; obtain ⟨An, cn, rfl⟩ := Kd.R_slice hr1; have L2 := Aside0.mk hl2; have R1 := Aside0.mk hr1; have BL := Aside0.mk (BL.out.same (hg1.block gl (Blk.lt BL.out) (fun e => (HO.out.1 gl e.symm).2.1 rfl))); have BX := Aside0.mk (BX.out.same (hg1.block gx (Blk.lt BX.out) (fun e => (HO.out.1 gx e.symm).2.2.1 rfl))); have GM := Aside0.mk ((hg1.block gm (blk_lt GM.out) (fun e => (HO.out.1 gm e.symm).2.2.2.1 rfl)).trans GM.out); have BA := Aside0.mk (BA.out.same (hg1.block gb BA.out.lt (fun e => (HO.out.1 gb e.symm).2.2.2.2 rfl)) hg1.size); have GG := Aside0.mk ((hg1.block g (blk_lt GG.out) (fun e => (HO.out.1 g e.symm).1 rfl)).trans GG.out); have HB := Aside0.mk hb1; clear hl2 hr1 hb1 hg1 hat1))
    have L3 := Aside0.mk (show l2.length = k + 1 by rw [L2.out, List.length_append, hlen.out]; rfl)
    go_roundg (xs.length + 1 - (k + 1))
    case measure => have := hgq.out; omega
    case rel => exact ⟨k + 1, left - pr, z3, An, cn, l2, by omega, by simp, rfl, L3, ⟨rfl⟩, ⟨by rw [HJ2.out, L2.out]; rfl⟩, ⟨MM2.out⟩, GN2, GM, BA, R1, BL, BX, GG, HB⟩
   ·obtain ⟨er, her⟩ : ∃ er, lerr p m inst (k : Int) left z = er := ⟨_, rfl⟩
    rw [if_pos he, her] at hj
    have LN := Aside0.mk (show Calls Tryz.prog 19 #[.pointer (some ⟨gm, 0, none⟩), .int .i64 (k : Int), .int .i64 d, .int .i64 n] wr fun e w' => e = .returned (.tuple #[.agg #[.int .i64 0, .int .i64 0, .int .i64 0, .int .i64 0], .int .i64 er]) ∧ But2 gm gb wr w' from LA.mono fun e w' h => by
     obtain ⟨hbt, v, rfl, h1, h2⟩ := h
     obtain rfl := h2 he
     rw [her]
     exact ⟨rfl, hbt⟩)
    rw [her] at he
    have hen : (er != 0) = true := by simpa using he
    have HJ2 := Aside0.mk hj
    clear hj LA p1 p2 p3 G2 hz he her hdd hnn ge HJ MM kt
    go_wp2_with (first
     | (go_at_call 19; (with_reducible refine LN.out.mono ?_); rintro e w10 ⟨rfl, hbt⟩; have HB := Aside0.mk (But2.toBelow HB.out hbt gmge gbge); clear hbt)
     | ((with_reducible refine gate_dst (N := 17) rfl ?_); refine copy_event rfl (N := 17) rfl rfl rfl (t := 38) (v := .tmp 90) rfl (cs := #[.int .i64 0, .int .i64 0, .int .i64 0, .int .i64 0]) (zs := #[.int .i64 0, .int .i64 0, .int .i64 0, .int .i64 0]) ?hr rfl rfl info_line ?hz (line_one _ _ _ _) ?_; (case hr => first | (go_simp; done) | (go_simp; rfl)); (case hz => rfl); intro gt hgt w11 hb1 hb; have HB := Aside0.mk (below_step HB.out hb); clear hgt hb1 hb))
    go_ret2
    obtain rfl := HJ2.out
    exact ⟨none, 0, rfl, Kd.R_nil _ _ _ _ _, HB.out⟩
  ·have hj := HJ.out
   rw [List.drop_of_length_le (by rw [HZD.out]; omega), lines, join, if_pos rfl, List.append_nil] at hj
   have HJ2 := Aside0.mk hj
   clear hj HJ
   go_wp2_with fail
   go_ret2
   obtain rfl := HJ2.out
   exact ⟨Ax, cw, rfl, Kd.R_mono HO.out (fun _ _ => trivial), HB.out⟩
set_option maxRecDepth 100000 in
set_option maxHeartbeats 20000000 in
theorem sched_two (p : Prod) (A1 : Option Addr) (c1 : Nat) (A2 : Option Addr) (c2 : Nat) (A3 : Option Addr) (c3 : Nat) (start m inst : Int) (w : World) (hg : GV w) (hp : ProdAt w p A1 c1 A2 c2 A3 c3) (hs : Small p) (xs ys : List Int) (hd : daysP p start = (xs, 0)) (hpx : partsP p start = (ys, 0)) (hxl : xs.length ≤ 600) (m0 : 1 ≤ m) (m1 : m ≤ 10000000000000) (hi : p.kind ≠ 1 ∧ inst = 0) :
  Calls Tryz.prog 7 #[pv p A1 c1 A2 c2 A3 c3, .int .i64 start, .int .i64 m] w (Sched (linesP p start m inst) w) := by
 obtain ⟨ho, hs0, hds, hl, t1, t2, hr, -⟩ := days_known hd
 have hyl : ys.length = xs.length := by
  have := hpx
  unfold partsP at this
  rw [hd, if_pos rfl] at this
  obtain ⟨rfl, -⟩ := Prod.mk.inj this
  exact rparts_len _ _ _
 have hJ : linesP p start m inst = join [] (lines p (Gm.whole p.count) (Gm.half p.count p.round) m inst 0 (xs.zip ys) m 0) := by
  unfold linesP
  rw [hd, hpx]
  exact (join_nil _ (lines_err _ _ _ _ _ _ _ _ _)).symm
 obtain ⟨⟨⟨⟨⟨_, a2, a3, a4, a5, a6, a7, a8⟩, ⟨b1, b2, b3⟩, b4⟩, c⟩, d_⟩, e_⟩ := (ok_iff p).1 ho
 have hne : xs ≠ [] := fun e => by rw [e] at hl; simp at hl; omega
 have hne2 : ys ≠ [] := fun e => by rw [e] at hyl; simp at hyl; exact hne (List.eq_nil_of_length_eq_zero hyl.symm)
 have ib : 0 ≤ inst ∧ inst ≤ 1000000000000000 := by
  have := hi.2; omega
 have MM := Aside0.mk (show Mid p m 0 m from ⟨by omega, by omega, fun _ _ => by rw [show max 0 (0 - p.grace) = 0 by omega]; omega⟩)
 have GN := good_new p.count p.round
 have NW := Aside0.mk (fun U => bnew_any (c := p.count) (r := p.round) (by omega) a3 U)
 have DA := Aside0.mk (fun W (hb : Below w.heap.size w W) => show Calls Tryz.prog 15 #[pv p A1 c1 A2 c2 A3 c3, .int .i64 start] W (Listed1 xs W) from (days_any p A1 c1 A2 c2 A3 c3 start W (hg.below hb) (hp.below hb) hs).mono fun e w' h => by rw [hd] at h; exact h.one hne)
 have PA := Aside0.mk (fun W (hb : Below w.heap.size w W) => show Calls Tryz.prog 16 #[pv p A1 c1 A2 c2 A3 c3, .int .i64 start] W (ListedL1 ys W) from (parts_any p A1 c1 A2 c2 A3 c3 start W (hg.below hb) (hp.below hb) hs).mono fun e w' h => by rw [hpx] at h; exact listed_one h hne2)
 obtain ⟨R, hR⟩ : ∃ R, linesP p start m inst = R := ⟨_, rfl⟩
 rw [hR] at hJ ⊢
 obtain ⟨Wh, hWh⟩ : ∃ y, Gm.whole p.count = y := ⟨_, rfl⟩
 obtain ⟨Hf, hHf⟩ : ∃ y, Gm.half p.count p.round = y := ⟨_, rfl⟩
 rw [hWh, hHf] at GN hJ
 have HWh := Aside0.mk hWh
 have HHf := Aside0.mk hHf
 have GN := Aside0.mk GN
 have HJ := Aside0.mk hJ
 have KD := Aside0.mk a4
 have kk : (p.kind == 1) = false := by simpa using hi.1
 have HYL := Aside0.mk hyl
 have T2 := Aside0.mk t2
 have HLT := Aside0.mk hl
 have G0 := Aside0.mk a7
 obtain rfl := hi.2
 clear hg hp hs hd hpx hJ hR hWh hHf ho hs0 hds hr a2 a3 a4 a5 a6 a8 b1 b2 b3 b4 c d_ e_ hne hne2 hi hyl hl t2 a7
 go_enter Tryz.func7, Tryz.ntmps7
 go_wp2_with (first
  | ((with_reducible refine gate_dst (N := 3) rfl ?_); refine box_event ?hg (N := 3) ?hd (cs := pcs p A1 c1 A2 c2 A3 c3) (t := 27) ?hr ?_; (case hd => rfl); (case hg => rfl); (case hr => first | (go_simp; done) | (go_simp; rfl)); intro g hg w1 hb1 hbl1; have gge := (show w.heap.size ≤ g by rw [hg]; exact Nat.le_refl _); clear hg; have GG := Aside0.mk hb1; have HB := Aside0.mk hbl1; clear hb1 hbl1)
  | ((with_reducible refine gate_dst (N := 20) rfl ?_); refine wpList_load_row rfl 27 (.tmp 3) rfl g rfl 27 _ (0, 0) _ GG.out Tryz.underlying27 rfl info_prod ?_)
  | (go_at_call 15; (with_reducible refine (DA.out _ HB.out).mono ?_); rintro e w2 ⟨gl, cl, tl, rfl, gle, lc, hbk, hb⟩; have BL := Aside0.mk hbk; have glge := Nat.le_trans HB.out.size gle; have HB := Aside0.mk (below_step HB.out hb); have GG := Aside0.mk (Pd.blk_below GG.out hb); clear hb hbk)
  | ((with_reducible refine gate_dst (N := 35) rfl ?_); refine wpList_load_row rfl 27 (.tmp 3) rfl g rfl 27 _ (0, 0) _ GG.out Tryz.underlying27 rfl info_prod ?_)
  | (go_at_call 16; (with_reducible refine (PA.out _ HB.out).mono ?_); rintro e w3 ⟨gx, cx, tx, rfl, gxe, xc, hbk, hb⟩; have BX := Aside0.mk hbk; have gxge := Nat.le_trans HB.out.size gxe; have BL := Aside0.mk (Blk.below BL.out hb); have HB := Aside0.mk (below_step HB.out hb); have GG := Aside0.mk (Pd.blk_below GG.out hb); clear hb hbk)
  | ((with_reducible refine gate_dst (N := 40) rfl ?_); refine wpList_load_row rfl 27 (.tmp 3) rfl g rfl 27 _ (0, 0) _ GG.out Tryz.underlying27 rfl info_prod ?_)
  | ((with_reducible refine gate_dst (N := 43) rfl ?_); refine build_event rfl (t := 56) rfl (cs := mcs p A1 c1 A2 c2 A3 c3 m 0 m (.pointer none)) ?hb ?_; (case hb => simp only [List.map_toArray, List.map_cons, List.map_nil]; exact built_maker p A1 c1 A2 c2 A3 c3 m))
  | ((with_reducible refine gate_dst (N := 44) rfl ?_); refine box_event ?hg (N := 44) ?hd (cs := mcs p A1 c1 A2 c2 A3 c3 m 0 m (.pointer none)) (t := 56) ?hr ?_; (case hd => rfl); (case hg => rfl); (case hr => first | (go_simp; done) | (go_simp; rfl)); intro gm hgm w4 hb1 hb; have gmge := (show w.heap.size ≤ gm by rw [hgm]; exact HB.out.size); have gmx := (show gx ≠ gm by have := Blk.lt BX.out; omega); have gml := (show gl ≠ gm by have := Blk.lt BL.out; omega); have gmg := (show g ≠ gm by have := blk_lt GG.out; omega); clear hgm; have GM := Aside0.mk hb1; have BL := Aside0.mk (Blk.below BL.out hb); have BX := Aside0.mk (Blk.below BX.out hb); have HB := Aside0.mk (below_step HB.out hb); have GG := Aside0.mk (Pd.blk_below GG.out hb); clear hb1 hb; have v20 := (show w4.cell? ⟨gm, 20, none⟩ = some (.int .i64 0) from (blk_cell GM.out 20).trans rfl); have f20 := frozen_of_row w4 gm 20 _ _ GM.out; have v22 := (show w4.cell? ⟨gm, 22, none⟩ = some (.pointer none) from (blk_cell GM.out 22).trans rfl); have f22 := frozen_of_row w4 gm 22 _ _ GM.out; obtain ⟨-, u1, u2, u3, -⟩ := pc_cells GG.out)
  | ((with_reducible refine gate_dst (N := 50) rfl ?_); refine wpList_load_row rfl 27 (.tmp 3) rfl g rfl 27 _ (0, 0) _ GG.out Tryz.underlying27 rfl info_prod ?_)
  | (go_at_call 18; (with_reducible refine (NW.out _).mono ?_); rintro e w7 ⟨hb, gb, hgb, rfl, hba⟩; rw [HWh.out, HHf.out] at hba; have gbge := Nat.le_trans HB.out.size hgb; have gbm := (show gm ≠ gb by have := blk_lt GM.out; omega); have gbl := (show gl ≠ gb by have := Blk.lt BL.out; omega); have gbx := (show gx ≠ gb by have := Blk.lt BX.out; omega); have gbg := (show g ≠ gb by have := blk_lt GG.out; omega); have BA := Aside0.mk hba; have BL := Aside0.mk (Blk.below BL.out hb); have BX := Aside0.mk (Blk.below BX.out hb); have GM := Aside0.mk (Pd.blk_below GM.out hb); have HB := Aside0.mk (below_step HB.out hb); have GG := Aside0.mk (Pd.blk_below GG.out hb); clear hb hba hgb v22 f22 u1 u2 u3; have v22 := (show w7.cell? ⟨gm, 22, none⟩ = some (.pointer none) from (blk_cell GM.out 22).trans rfl); have f22 := frozen_of_row w7 gm 22 _ _ GM.out)
  | ((with_reducible refine gate_store (t := 54) (p := 71) rfl ?_); refine put_event rfl (t := 54) (p := 71) (v := .tmp 68) rfl rfl (g := gm) (i := 22) (cs := mcs p A1 c1 A2 c2 A3 c3 m 0 m (.pointer none)) (cs' := mcs p A1 c1 A2 c2 A3 c3 m 0 m (.pointer (some ⟨gb, 0, none⟩))) (x := .pointer (some ⟨gb, 0, none⟩)) ?hr GM.out ?hc ?_; (case hc => rfl); (case hr => go_simp); intro w8 hb8 hbut; have GM := Aside0.mk hb8; have BA := Aside0.mk (BA.out.but hbut (Ne.symm gbm)); have BL := Aside0.mk (Blk.but BL.out hbut gml); have BX := Aside0.mk (Blk.but BX.out hbut gmx); have GG := Aside0.mk ((hbut.block g (blk_lt GG.out) gmg).trans GG.out); have HB := Aside0.mk (But.below HB.out HB.out.size gmge hbut); clear hb8 hbut v22 f22))
 clear kk
 have HGE := Aside0.mk (show 0 ≤ p.grace ∧ p.grace < p.times by have := G0.out; omega)
 have HZD := Aside0.mk (List.length_zip (l₁ := xs) (l₂ := ys))
 go_loopg [14, 76] (xs.length + 1) (fun gq ov iv w' => ∃ (k : Nat) (left rest : Int) (Ax : Option Addr) (cw : Nat) (ls : List Ln), k ≤ xs.length ∧ iv = .int .i64 (k : Int) ∧ ov = .slice Ax ls.length cw ∧ Aside0 (ls.length = k) ∧ Aside0 (gq = xs.length + 1 - k) ∧ Aside0 (R = join ls (lines p Wh Hf m 0 (k : Int) ((xs.zip ys).drop k) left rest)) ∧ Aside0 (Mid p m (k : Int) left) ∧ Aside0 (H.Good Wh Hf rest) ∧ Aside0 (w'.heap[gm]? = some (.cells (mcs p A1 c1 A2 c2 A3 c3 m 0 left (.pointer (some ⟨gb, 0, none⟩))) 56 (0, 0))) ∧ Aside0 (BearAt w' gb Wh Hf rest) ∧ Aside0 (Kd.R (Kd.pair (Kd.int .i64) (Kd.pair (Kd.int .i64) (Kd.pair (Kd.int .i64) (Kd.int .i64)))) 38 w' w.heap.size (fun b => b ≠ g ∧ b ≠ gl ∧ b ≠ gx ∧ b ≠ gm ∧ b ≠ gb) (.slice Ax ls.length cw) ls) ∧ Aside0 (H.Blk w' gl 3 (nums .i64 xs ++ tl)) ∧ Aside0 (H.Blk w' gx 2 (nums .i64 ys ++ tx)) ∧ Aside0 (w'.heap[g]? = some (.cells (pcs p A1 c1 A2 c2 A3 c3) 27 (0, 0))) ∧ Aside0 (Below w.heap.size w w'))
 case atStart => exact ⟨0, m, 0, none, 0, [], by omega, rfl, rfl, ⟨rfl⟩, ⟨rfl⟩, ⟨by rw [List.drop_zero]; exact HJ.out⟩, MM, GN, GM, BA, ⟨Kd.R_nil _ _ _ _ _⟩, BL, BX, GG, HB⟩
 case round =>
  obtain ⟨k, left, rest, Ax, cw, ls, hk, rfl, rfl, hlen, hgq, HJ, MM, GN, GM, BA, HO, BL, BX, GG, HB⟩ := hrel
  by_cases hlt : k < xs.length
  ·obtain ⟨d, hdd⟩ : ∃ d, rd xs (k : Int) = d := ⟨_, rfl⟩
   obtain ⟨n, hnn⟩ : ∃ n, rd ys (k : Int) = n := ⟨_, rfl⟩
   have hcl : wr.cell? ⟨gl, k, none⟩ = some (.int .i64 d) := (BL.out.cell k).trans (by rw [List.getElem?_append_left (by simp [nums]; omega), ← hdd]; simp [nums, rd, hlt])
   have hkl : k < ys.length := by have := HYL.out; omega
   have hcx : wr.cell? ⟨gx, k, none⟩ = some (.int .i64 n) := (BX.out.cell k).trans (by rw [List.getElem?_append_left (by simp [nums]; omega), ← hnn]; simp [nums, rd, hkl])
   have hkx : (k : Int) < (xs.length : Int) := by omega
   have hky : (k : Int) < (ys.length : Int) := by omega
   obtain ⟨z, hz⟩ : ∃ z, Gm.bear Wh Hf rest left p.rate n = z := ⟨_, rfl⟩
   have hj := HJ.out
   rw [zip_drop hlt HYL.out, hdd, hnn, lines_cons hz] at hj
   have ge := HGE.out
   have kt : (k : Int) < p.times := by have := HLT.out; omega
   have LA := line_any p A1 c1 A2 c2 A3 c3 m 0 left Wh Hf rest n (k : Int) d gm gb wr z hz BA.out GN.out GM.out gbm MM.out ge.1 ge.2 T2.out (by omega) kt (by omega) m1 ib.1 ib.2 (by have := KD.out; omega)
   obtain ⟨p1, p2, p3⟩ := prin_bd (inst := 0) (v := z.1) MM.out (by omega) ge.1 ge.2 (by omega) kt
   have G2 := good_bear (bal := left) (rate := p.rate) (n := n) GN.out
   rw [hz] at G2
   by_cases he : lerr p m 0 (k : Int) left z = 0
   ·rw [if_neg (by simpa using he)] at hj
    have pz := (lerr_zero he).2.1
    have M2 := p3 pz
    obtain ⟨z1, z2, z3⟩ := z
    obtain ⟨pr, hpr⟩ : ∃ x, prin p m 0 (k : Int) z1 left = x := ⟨_, rfl⟩
    simp only [] at hj M2 G2
    rw [hpr] at hj M2
    have LN := Aside0.mk (show Calls Tryz.prog 19 #[.pointer (some ⟨gm, 0, none⟩), .int .i64 (k : Int), .int .i64 d, .int .i64 n] wr fun e w' => e = .returned (.tuple #[.agg #[.int .i64 d, .int .i64 pr, .int .i64 z1, .int .i64 (left - pr)], .int .i64 0]) ∧ But2 gm gb wr w' ∧ w'.heap[gm]? = some (.cells (mcs p A1 c1 A2 c2 A3 c3 m 0 (left - pr) (.pointer (some ⟨gb, 0, none⟩))) 56 (0, 0)) ∧ BearAt w' gb Wh Hf z3 from LA.mono fun e w' h => by
     obtain ⟨hbt, v, rfl, h1, h2⟩ := h
     obtain ⟨rfl, h3, h4⟩ := h1 he
     simp only [] at h3
     rw [hpr] at h3
     rw [he]
     simp only []
     rw [hpr]
     exact ⟨rfl, hbt, h3, h4⟩)
    have HJ2 := Aside0.mk hj
    have MM2 := Aside0.mk M2
    have GN2 := Aside0.mk G2
    have HPR := Aside0.mk hpr
    clear hj LA p1 p2 p3 M2 G2 pz hz hpr he hdd hnn ge HJ MM kt
    go_wp2_with (first
     | (go_at_call 19; (with_reducible refine LN.out.mono ?_); rintro e w10 ⟨rfl, hbt, hgm, hba⟩; have GM := Aside0.mk hgm; have BA := Aside0.mk hba; have HO := Aside0.mk (Kd.R_step HO.out (fun b hb hlt => hbt.block b hlt hb.2.2.2.1 hb.2.2.2.2)); have BL := Aside0.mk (BL.out.same (hbt.block gl (Blk.lt BL.out) gml gbl)); have BX := Aside0.mk (BX.out.same (hbt.block gx (Blk.lt BX.out) gmx gbx)); have GG := Aside0.mk ((hbt.block g (blk_lt GG.out) gmg gbg).trans GG.out); have HB := Aside0.mk (But2.toBelow HB.out hbt gmge gbge); clear hbt hgm hba)
     | ((with_reducible refine gate_dst (N := 17) rfl ?_); refine copy_event rfl (N := 17) rfl rfl rfl (t := 38) (v := .tmp 90) rfl (cs := #[.int .i64 d, .int .i64 pr, .int .i64 z1, .int .i64 (left - pr)]) (zs := #[.int .i64 0, .int .i64 0, .int .i64 0, .int .i64 0]) ?hr rfl rfl info_line ?hz (line_one _ _ _ _) ?_; (case hr => first | (go_simp; done) | (go_simp; rfl)); (case hz => rfl); intro gt hgt w11 hb1 hb; have GT := Aside0.mk hb1; have HO := Aside0.mk (Kd.R_below HO.out hb); have BA := Aside0.mk (BA.out.below hb); have BL := Aside0.mk (Blk.below BL.out hb); have BX := Aside0.mk (Blk.below BX.out hb); have GM := Aside0.mk (Pd.blk_below GM.out hb); have HB := Aside0.mk (below_step HB.out hb); have GG := Aside0.mk (Pd.blk_below GG.out hb); clear hgt hb1 hb)
     | ((with_reducible refine gate_dst (N := 96) rfl ?_); refine wpList_load_row rfl 38 (.tmp 17) rfl gt rfl 38 _ (0, 0) _ GT.out Tryz.underlying38 rfl info_line ?_)
     | ((with_reducible refine gate_builtin (b := .append) (xs := #[.tmp 95, .tmp 97]) rfl ?_); at_builtin; refine Kd.R_append (Kd.pair (Kd.int .i64) (Kd.pair (Kd.int .i64) (Kd.pair (Kd.int .i64) (Kd.int .i64)))) (w0 := w) w.heap.size rfl (.tmp 95) (.tmp 97) 32 38 (.agg #[.int .i64 0, .int .i64 0, .int .i64 0, .int .i64 0]) 32 rfl Tryz.underlying32 info_lineb rfl (by decide) (by decide) (.slice Ax ls.length cw) ls (d, pr, z1, left - pr) [.int .i64 d, .int .i64 pr, .int .i64 z1, .int .i64 (left - pr)] (fun b => b ≠ g ∧ b ≠ gl ∧ b ≠ gx ∧ b ≠ gm ∧ b ≠ gb) (fun _ => False) rfl rfl ?aP (fun _ hk => hk.elim) ?aF ?aO ?aB ?aS ?aL ?_; (case aP => exact line_M d pr z1 (left - pr)); (case aF => exact fun b hb => ⟨(by have := blk_lt GG.out; omega), (by have := Blk.lt BL.out; omega), (by have := Blk.lt BX.out; omega), (by have := blk_lt GM.out; omega), (by have := BA.out.lt; omega)⟩); (case aO => exact HO.out); (case aB => exact HB.out); (case aS => exact HB.out.size); (case aL => have := hlen.out; omega); intro v1 w12 hr1 hb1 hg1 hat1; obtain ⟨l2, hl2⟩ : ∃ l2, l2 = ls ++ [(d, pr, z1, left - pr)] := ⟨_, rfl⟩; rw [← hl2] at hr1; obtain ⟨An, cn, rfl⟩ := Kd.R_slice hr1; have L2 := Aside0.mk hl2; have R1 := Aside0.mk hr1; have BL := Aside0.mk (BL.out.same (hg1.block gl (Blk.lt BL.out) (fun e => (HO.out.1 gl e.symm).2.1 rfl))); have BX := Aside0.mk (BX.out.same (hg1.block gx (Blk.lt BX.out) (fun e => (HO.out.1 gx e.symm).2.2.1 rfl))); have GM := Aside0.mk ((hg1.block gm (blk_lt GM.out) (fun e => (HO.out.1 gm e.symm).2.2.2.1 rfl)).trans GM.out); have BA := Aside0.mk (BA.out.same (hg1.block gb BA.out.lt (fun e => (HO.out.1 gb e.symm).2.2.2.2 rfl)) hg1.size); have GG := Aside0.mk ((hg1.block g (blk_lt GG.out) (fun e => (HO.out.1 g e.symm).1 rfl)).trans GG.out); have HB := Aside0.mk hb1; clear hl2 hr1 hb1 hg1 hat1))
    have L3 := Aside0.mk (show l2.length = k + 1 by rw [L2.out, List.length_append, hlen.out]; rfl)
    go_roundg (xs.length + 1 - (k + 1))
    case measure => have := hgq.out; omega
    case rel => exact ⟨k + 1, left - pr, z3, An, cn, l2, by omega, by simp, rfl, L3, ⟨rfl⟩, ⟨by rw [HJ2.out, L2.out]; rfl⟩, ⟨MM2.out⟩, GN2, GM, BA, R1, BL, BX, GG, HB⟩
   ·obtain ⟨er, her⟩ : ∃ er, lerr p m 0 (k : Int) left z = er := ⟨_, rfl⟩
    rw [if_pos he, her] at hj
    have LN := Aside0.mk (show Calls Tryz.prog 19 #[.pointer (some ⟨gm, 0, none⟩), .int .i64 (k : Int), .int .i64 d, .int .i64 n] wr fun e w' => e = .returned (.tuple #[.agg #[.int .i64 0, .int .i64 0, .int .i64 0, .int .i64 0], .int .i64 er]) ∧ But2 gm gb wr w' from LA.mono fun e w' h => by
     obtain ⟨hbt, v, rfl, h1, h2⟩ := h
     obtain rfl := h2 he
     rw [her]
     exact ⟨rfl, hbt⟩)
    rw [her] at he
    have hen : (er != 0) = true := by simpa using he
    have HJ2 := Aside0.mk hj
    clear hj LA p1 p2 p3 G2 hz he her hdd hnn ge HJ MM kt
    go_wp2_with (first
     | (go_at_call 19; (with_reducible refine LN.out.mono ?_); rintro e w10 ⟨rfl, hbt⟩; have HB := Aside0.mk (But2.toBelow HB.out hbt gmge gbge); clear hbt)
     | ((with_reducible refine gate_dst (N := 17) rfl ?_); refine copy_event rfl (N := 17) rfl rfl rfl (t := 38) (v := .tmp 90) rfl (cs := #[.int .i64 0, .int .i64 0, .int .i64 0, .int .i64 0]) (zs := #[.int .i64 0, .int .i64 0, .int .i64 0, .int .i64 0]) ?hr rfl rfl info_line ?hz (line_one _ _ _ _) ?_; (case hr => first | (go_simp; done) | (go_simp; rfl)); (case hz => rfl); intro gt hgt w11 hb1 hb; have HB := Aside0.mk (below_step HB.out hb); clear hgt hb1 hb))
    go_ret2
    obtain rfl := HJ2.out
    exact ⟨none, 0, rfl, Kd.R_nil _ _ _ _ _, HB.out⟩
  ·have hj := HJ.out
   rw [List.drop_of_length_le (by rw [HZD.out]; omega), lines, join, if_pos rfl, List.append_nil] at hj
   have HJ2 := Aside0.mk hj
   clear hj HJ
   go_wp2_with fail
   go_ret2
   obtain rfl := HJ2.out
   exact ⟨Ax, cw, rfl, Kd.R_mono HO.out (fun _ _ => trivial), HB.out⟩
end Go.Proofs.YtfmkdledofbhdaaGreat.Sc
/- Contracts by hand: schedule.Of, all of it. -/
namespace Go.Proofs.YtfmkdledofbhdaaGreat.Sc
open Go.RowKit Go.Proofs.YtfmkdledofbhdaaGreatW.PrintWords Go.Proofs.YtfmkdledofbhdaaGreatW.PrintLast Go.Proofs.YtfmkdledofbhdaaGreatW.PrintMore Go.Proofs.YtfmkdledofbhdaaGreat.HW
open Go.Proofs.YtfmkdledofbhdaaGreat.Math Go.Proofs.YtfmkdledofbhdaaGreat.H Go.Proofs.YtfmkdledofbhdaaGreat.Pd Go.Proofs.YtfmkdledofbhdaaGreat.Du Go.Proofs.YtfmkdledofbhdaaGreat.Lv Pm
set_option linter.unusedVariables false
set_option linter.unusedSimpArgs false
attribute [local go_sem] max2_int min2_int max_two min_two
theorem sched_days (p : Prod) (A1 : Option Addr) (c1 : Nat) (A2 : Option Addr) (c2 : Nat) (A3 : Option Addr) (c3 : Nat) (start m : Int) (w : World) (hg : GV w) (hp : ProdAt w p A1 c1 A2 c2 A3 c3) (hs : Small p) (er : Int) (he : (daysP p start).2 = er) (hn : er ≠ 0) : Calls Tryz.prog 7 #[pv p A1 c1 A2 c2 A3 c3, .int .i64 start, .int .i64 m] w (Sched ([], er) w) := by
 have DA := Aside0.mk (fun W (hb : Below w.heap.size w W) => show Calls Tryz.prog 15 #[pv p A1 c1 A2 c2 A3 c3, .int .i64 start] W (fun e w' => ∃ v, e = .returned (.tuple #[v, .int .i64 er]) ∧ Below W.heap.size W w') from (days_any p A1 c1 A2 c2 A3 c3 start W (hg.below hb) (hp.below hb) hs).mono fun e w' h => by obtain ⟨v, h1, _, h3⟩ := h; exact ⟨v, by rw [h1, he], h3⟩)
 have hen : (er != 0) = true := by simpa using hn
 clear hg hp hs he hn
 go_enter Tryz.func7, Tryz.ntmps7
 go_wp2_with (first
  | ((with_reducible refine gate_dst (N := 3) rfl ?_); refine box_event ?hg (N := 3) ?hd (cs := pcs p A1 c1 A2 c2 A3 c3) (t := 27) ?hr ?_; (case hd => rfl); (case hg => rfl); (case hr => first | (go_simp; done) | (go_simp; rfl)); intro g hg w1 hb1 hbl1; have gge := (show w.heap.size ≤ g by rw [hg]; exact Nat.le_refl _); clear hg; have GG := Aside0.mk hb1; have HB := Aside0.mk hbl1; clear hb1 hbl1)
  | ((with_reducible refine gate_dst (N := 20) rfl ?_); refine wpList_load_row rfl 27 (.tmp 3) rfl g rfl 27 _ (0, 0) _ GG.out Tryz.underlying27 rfl info_prod ?_)
  | (go_at_call 15; (with_reducible refine (DA.out _ HB.out).mono ?_); rintro e w2 ⟨v, rfl, hb⟩; have HB := Aside0.mk (below_step HB.out hb); clear hb))
 go_ret2
 exact ⟨none, 0, rfl, Kd.R_nil _ _ _ _ _, HB.out⟩
theorem sched_amt (p : Prod) (A1 : Option Addr) (c1 : Nat) (A2 : Option Addr) (c2 : Nat) (A3 : Option Addr) (c3 : Nat) (start m : Int) (w : World) (hg : GV w) (hp : ProdAt w p A1 c1 A2 c2 A3 c3) (hs : Small p) (xs : List Int) (hd : daysP p start = (xs, 0)) (hm : m < 1 ∨ (1 ≤ m ∧ 10000000000000 < m)) : Calls Tryz.prog 7 #[pv p A1 c1 A2 c2 A3 c3, .int .i64 start, .int .i64 m] w (Sched ([], 16) w) := by
 obtain ⟨ho, hs0, hds, hl, t1, t2, hr, -⟩ := days_known hd
 have hne : xs ≠ [] := fun e => by rw [e] at hl; simp at hl; omega
 have DA := Aside0.mk (fun W (hb : Below w.heap.size w W) => show Calls Tryz.prog 15 #[pv p A1 c1 A2 c2 A3 c3, .int .i64 start] W (Listed1 xs W) from (days_any p A1 c1 A2 c2 A3 c3 start W (hg.below hb) (hp.below hb) hs).mono fun e w' h => by rw [hd] at h; exact h.one hne)
 clear hg hp hs hd ho hs0 hds hl t1 t2 hr hne
 rcases hm with h | ⟨h, h2⟩
 all_goals
  go_enter Tryz.func7, Tryz.ntmps7
  go_wp2_with (first
   | ((with_reducible refine gate_dst (N := 3) rfl ?_); refine box_event ?hg (N := 3) ?hd (cs := pcs p A1 c1 A2 c2 A3 c3) (t := 27) ?hr ?_; (case hd => rfl); (case hg => rfl); (case hr => first | (go_simp; done) | (go_simp; rfl)); intro g hg w1 hb1 hbl1; have gge := (show w.heap.size ≤ g by rw [hg]; exact Nat.le_refl _); clear hg; have GG := Aside0.mk hb1; have HB := Aside0.mk hbl1; clear hb1 hbl1)
   | ((with_reducible refine gate_dst (N := 20) rfl ?_); refine wpList_load_row rfl 27 (.tmp 3) rfl g rfl 27 _ (0, 0) _ GG.out Tryz.underlying27 rfl info_prod ?_)
   | (go_at_call 15; (with_reducible refine (DA.out _ HB.out).mono ?_); rintro e w2 ⟨gl, cl, tl, rfl, gle, lc, hbk, hb⟩; have BL := Aside0.mk hbk; have glge := Nat.le_trans HB.out.size gle; have HB := Aside0.mk (below_step HB.out hb); have GG := Aside0.mk (Pd.blk_below GG.out hb); clear hb hbk))
  go_ret2
  exact ⟨none, 0, rfl, Kd.R_nil _ _ _ _ _, HB.out⟩
set_option maxRecDepth 100000 in
set_option maxHeartbeats 8000000 in
theorem sched_steep (p : Prod) (A1 : Option Addr) (c1 : Nat) (A2 : Option Addr) (c2 : Nat) (A3 : Option Addr) (c3 : Nat) (start m : Int) (w : World) (hg : GV w) (hp : ProdAt w p A1 c1 A2 c2 A3 c3) (hs : Small p) (xs ys : List Int) (hd : daysP p start = (xs, 0)) (hpx : partsP p start = (ys, 0)) (m0 : 1 ≤ m) (m1 : m ≤ 10000000000000) (hk : p.kind = 1) (ov er : Int) (ho1 : ofE p ys m = (ov, er)) (hn : er ≠ 0) : Calls Tryz.prog 7 #[pv p A1 c1 A2 c2 A3 c3, .int .i64 start, .int .i64 m] w (Sched ([], er) w) := by
 obtain ⟨ho, hs0, hds, hl, t1, t2, hr, -⟩ := days_known hd
 have hne : xs ≠ [] := fun e => by rw [e] at hl; simp at hl; omega
 have DA := Aside0.mk (fun W (hb : Below w.heap.size w W) => show Calls Tryz.prog 15 #[pv p A1 c1 A2 c2 A3 c3, .int .i64 start] W (Listed1 xs W) from (days_any p A1 c1 A2 c2 A3 c3 start W (hg.below hb) (hp.below hb) hs).mono fun e w' h => by rw [hd] at h; exact h.one hne)
 have hyl : ys.length = xs.length := by
  have := hpx
  unfold partsP at this
  rw [hd, if_pos rfl] at this
  obtain ⟨rfl, -⟩ := Prod.mk.inj this
  exact rparts_len _ _ _
 have hne2 : ys ≠ [] := fun e => by rw [e] at hyl; simp at hyl; exact hne (List.eq_nil_of_length_eq_zero hyl.symm)
 have PA := Aside0.mk (fun W (hb : Below w.heap.size w W) => show Calls Tryz.prog 16 #[pv p A1 c1 A2 c2 A3 c3, .int .i64 start] W (ListedL1 ys W) from (parts_any p A1 c1 A2 c2 A3 c3 start W (hg.below hb) (hp.below hb) hs).mono fun e w' h => by rw [hpx] at h; exact listed_one h hne2)
 have OF := Aside0.mk (fun (A : Option Addr) (c : Nat) (W : World) (hb : Below w.heap.size w W) (hc : Kd.C (Kd.int .i64) W A ys.length ys) => show Calls Tryz.prog 17 #[pv p A1 c1 A2 c2 A3 c3, .slice A ys.length c, .int .i64 m] W (Two (ov, er) W) from by have := Of_any p A1 c1 A2 c2 A3 c3 A ys c m W (hg.below hb) (hp.below hb) hs hc (by omega); rw [ho1] at this; exact this)
 have hen : (er != 0) = true := by simpa using hn
 have kk : (p.kind == 1) = true := by simpa using hk
 have HYL := Aside0.mk (show ys.length ≤ 600 by omega)
 clear hg hp hs hd hpx ho hs0 hds hl t1 t2 hr hne hne2 hyl ho1 hn hk
 go_enter Tryz.func7, Tryz.ntmps7
 go_wp2_with (first
  | ((with_reducible refine gate_dst (N := 3) rfl ?_); refine box_event ?hg (N := 3) ?hd (cs := pcs p A1 c1 A2 c2 A3 c3) (t := 27) ?hr ?_; (case hd => rfl); (case hg => rfl); (case hr => first | (go_simp; done) | (go_simp; rfl)); intro g hg w1 hb1 hbl1; have gge := (show w.heap.size ≤ g by rw [hg]; exact Nat.le_refl _); clear hg; have GG := Aside0.mk hb1; have HB := Aside0.mk hbl1; clear hb1 hbl1)
  | ((with_reducible refine gate_dst (N := 20) rfl ?_); refine wpList_load_row rfl 27 (.tmp 3) rfl g rfl 27 _ (0, 0) _ GG.out Tryz.underlying27 rfl info_prod ?_)
  | (go_at_call 15; (with_reducible refine (DA.out _ HB.out).mono ?_); rintro e w2 ⟨gl, cl, tl, rfl, gle, lc, hbk, hb⟩; have BL := Aside0.mk hbk; have glge := Nat.le_trans HB.out.size gle; have HB := Aside0.mk (below_step HB.out hb); have GG := Aside0.mk (Pd.blk_below GG.out hb); clear hb hbk)
  | ((with_reducible refine gate_dst (N := 35) rfl ?_); refine wpList_load_row rfl 27 (.tmp 3) rfl g rfl 27 _ (0, 0) _ GG.out Tryz.underlying27 rfl info_prod ?_)
  | (go_at_call 16; (with_reducible refine (PA.out _ HB.out).mono ?_); rintro e w3 ⟨gx, cx, tx, rfl, gxe, xc, hbk, hb⟩; have BX := Aside0.mk hbk; have gxge := Nat.le_trans HB.out.size gxe; have BL := Aside0.mk (Blk.below BL.out hb); have HB := Aside0.mk (below_step HB.out hb); have GG := Aside0.mk (Pd.blk_below GG.out hb); clear hb hbk)
  | ((with_reducible refine gate_dst (N := 40) rfl ?_); refine wpList_load_row rfl 27 (.tmp 3) rfl g rfl 27 _ (0, 0) _ GG.out Tryz.underlying27 rfl info_prod ?_)
  | ((with_reducible refine gate_dst (N := 43) rfl ?_); refine build_event rfl (t := 56) rfl (cs := mcs p A1 c1 A2 c2 A3 c3 m 0 m (.pointer none)) ?hb ?_; (case hb => simp only [List.map_toArray, List.map_cons, List.map_nil]; exact built_maker p A1 c1 A2 c2 A3 c3 m))
  | ((with_reducible refine gate_dst (N := 44) rfl ?_); refine box_event ?hg (N := 44) ?hd (cs := mcs p A1 c1 A2 c2 A3 c3 m 0 m (.pointer none)) (t := 56) ?hr ?_; (case hd => rfl); (case hg => rfl); (case hr => first | (go_simp; done) | (go_simp; rfl)); intro gm hgm w4 hb1 hb; have gmge := (show w.heap.size ≤ gm by rw [hgm]; exact HB.out.size); have gmx := (show gx ≠ gm by have := Blk.lt BX.out; omega); have gml := (show gl ≠ gm by have := Blk.lt BL.out; omega); have gmg := (show g ≠ gm by have := blk_lt GG.out; omega); clear hgm; have GM := Aside0.mk hb1; have BL := Aside0.mk (Blk.below BL.out hb); have BX := Aside0.mk (Blk.below BX.out hb); have HB := Aside0.mk (below_step HB.out hb); have GG := Aside0.mk (Pd.blk_below GG.out hb); clear hb1 hb; have v20 := (show w4.cell? ⟨gm, 20, none⟩ = some (.int .i64 0) from (blk_cell GM.out 20).trans rfl); have f20 := frozen_of_row w4 gm 20 _ _ GM.out; have v22 := (show w4.cell? ⟨gm, 22, none⟩ = some (.pointer none) from (blk_cell GM.out 22).trans rfl); have f22 := frozen_of_row w4 gm 22 _ _ GM.out; obtain ⟨-, u1, u2, u3, -⟩ := pc_cells GG.out)
  | ((with_reducible refine gate_dst (N := 50) rfl ?_); refine wpList_load_row rfl 27 (.tmp 3) rfl g rfl 27 _ (0, 0) _ GG.out Tryz.underlying27 rfl info_prod ?_)
  | (go_at_call 17; (with_reducible refine (OF.out _ _ _ HB.out (Blk.readsL BX.out (by have := HYL.out; omega))).mono ?_); rintro e w5 ⟨rfl, hb⟩; have BL := Aside0.mk (Blk.below BL.out hb); have BX := Aside0.mk (Blk.below BX.out hb); have GM := Aside0.mk (Pd.blk_below GM.out hb); have HB := Aside0.mk (below_step HB.out hb); have GG := Aside0.mk (Pd.blk_below GG.out hb); clear hb v20 f20 v22 f22 u1 u2 u3; have v20 := (show w5.cell? ⟨gm, 20, none⟩ = some (.int .i64 0) from (blk_cell GM.out 20).trans rfl); have f20 := frozen_of_row w5 gm 20 _ _ GM.out)
  | ((with_reducible refine gate_store (t := 2) (p := 57) rfl ?_); refine put_event rfl (t := 2) (p := 57) (v := .tmp 54) rfl rfl (g := gm) (i := 20) (cs := mcs p A1 c1 A2 c2 A3 c3 m 0 m (.pointer none)) (cs' := mcs p A1 c1 A2 c2 A3 c3 m ov m (.pointer none)) (x := .int .i64 ov) ?hr GM.out ?hc ?_; (case hc => rfl); (case hr => go_simp); intro w6 hb8 hbut; have GM := Aside0.mk hb8; have BL := Aside0.mk (Blk.but BL.out hbut gml); have BX := Aside0.mk (Blk.but BX.out hbut gmx); have GG := Aside0.mk ((hbut.block g (blk_lt GG.out) gmg).trans GG.out); have HB := Aside0.mk (But.below HB.out HB.out.size gmge hbut); clear hb8 hbut; have v22 := (show w6.cell? ⟨gm, 22, none⟩ = some (.pointer none) from (blk_cell GM.out 22).trans rfl); have f22 := frozen_of_row w6 gm 22 _ _ GM.out; obtain ⟨-, u1, u2, u3, -⟩ := pc_cells GG.out))
 go_ret2
 exact ⟨none, 0, rfl, Kd.R_nil _ _ _ _ _, HB.out⟩
theorem sched_any (p : Prod) (A1 : Option Addr) (c1 : Nat) (A2 : Option Addr) (c2 : Nat) (A3 : Option Addr) (c3 : Nat) (start m : Int) (w : World) (hg : GV w) (hp : ProdAt w p A1 c1 A2 c2 A3 c3) (hs : Small p) : Calls Tryz.prog 7 #[pv p A1 c1 A2 c2 A3 c3, .int .i64 start, .int .i64 m] w (Sched (schedP p start m) w) := by
 by_cases h1 : (daysP p start).2 = 0
 ·have hd : daysP p start = ((daysP p start).1, 0) := Prod.ext rfl h1
  have hpx : partsP p start = ((partsP p start).1, 0) := by unfold partsP; rw [if_pos h1]
  have hxl : (daysP p start).1.length ≤ 600 := by
   obtain ⟨_, _, _, hl, t1, t2, _⟩ := days_known hd
   omega
  have n1 : ¬ (daysP p start).2 ≠ 0 := by rw [h1]; decide
  by_cases h2 : 1 ≤ m ∧ m ≤ 10000000000000
  ·have n2 : ¬ ¬ (1 ≤ m ∧ m ≤ 10000000000000) := fun h => h h2
   by_cases h3 : p.kind = 1
   ·by_cases h4 : (ofE p (partsP p start).1 m).2 = 0
    ·have e : schedP p start m = linesP p start m (ofE p (partsP p start).1 m).1 := by
      unfold schedP
      rw [if_neg n1, if_neg n2, if_pos h3, if_neg (by rw [h4]; decide)]
     rw [e]
     exact sched_one p A1 c1 A2 c2 A3 c3 start m _ w hg hp hs _ _ hd hpx hxl h2.1 h2.2 ⟨h3, Prod.ext rfl h4⟩
    ·have e : schedP p start m = ([], (ofE p (partsP p start).1 m).2) := by
      unfold schedP
      rw [if_neg n1, if_neg n2, if_pos h3, if_pos h4]
     rw [e]
     exact sched_steep p A1 c1 A2 c2 A3 c3 start m w hg hp hs _ _ hd hpx h2.1 h2.2 h3 _ _ rfl h4
   ·have e : schedP p start m = linesP p start m 0 := by
     unfold schedP
     rw [if_neg n1, if_neg n2, if_neg h3]
    rw [e]
    exact sched_two p A1 c1 A2 c2 A3 c3 start m 0 w hg hp hs _ _ hd hpx hxl h2.1 h2.2 ⟨h3, rfl⟩
  ·have e : schedP p start m = ([], 16) := by unfold schedP; rw [if_neg n1, if_pos h2]
   rw [e]
   exact sched_amt p A1 c1 A2 c2 A3 c3 start m w hg hp hs _ hd (by omega)
 ·have e : schedP p start m = ([], (daysP p start).2) := by unfold schedP; rw [if_pos h1]
  rw [e]
  exact sched_days p A1 c1 A2 c2 A3 c3 start m w hg hp hs _ rfl h1
end Go.Proofs.YtfmkdledofbhdaaGreat.Sc
/- Schedule: lines by their cells; the law's awake. -/
namespace Go.Proofs.YtfmkdledofbhdaaGreat.Sc
open Go.RowKit Go.Proofs.YtfmkdledofbhdaaGreatW.PrintWords Go.Proofs.YtfmkdledofbhdaaGreatW.PrintLast Go.Proofs.YtfmkdledofbhdaaGreatW.PrintMore Go.Proofs.YtfmkdledofbhdaaGreat.HW
open Go.Proofs.YtfmkdledofbhdaaGreat.Math Go.Proofs.YtfmkdledofbhdaaGreat.H Go.Proofs.YtfmkdledofbhdaaGreat.Pd Go.Proofs.YtfmkdledofbhdaaGreat.Du Go.Proofs.YtfmkdledofbhdaaGreat.Lv Pm
set_option linter.unusedVariables false
set_option linter.unusedSimpArgs false
attribute [local go_sem] max2_int min2_int max_two min_two
theorem line_K {w : World} {x : Ln} {cs : List Value} (h : (Kd.pair (Kd.int .i64) (Kd.pair (Kd.int .i64) (Kd.pair (Kd.int .i64) (Kd.int .i64)))).K w x cs) : cs = [.int .i64 x.1, .int .i64 x.2.1, .int .i64 x.2.2.1, .int .i64 x.2.2.2] := by
 obtain ⟨c0, c1, rfl, h0, d0, d1, rfl, h1, e0, e1, rfl, h2, h3⟩ := h
 obtain rfl : c0 = [.int .i64 x.1] := h0
 obtain rfl : d0 = [.int .i64 x.2.1] := h1
 obtain rfl : e0 = [.int .i64 x.2.2.1] := h2
 obtain rfl : e1 = [.int .i64 x.2.2.2] := h3
 rfl
theorem lines_cells {w : World} {g n : Nat} {ls : List Ln} (h : (Kd.pair (Kd.int .i64) (Kd.pair (Kd.int .i64) (Kd.pair (Kd.int .i64) (Kd.int .i64)))).C w (some ⟨g, 0, none⟩) n ls) (hn : n = ls.length) {i : Nat} {x : Ln} (hi : ls[i]? = some x) :
  w.cell? ⟨g, i * 4, none⟩ = some (.int .i64 x.1) ∧ w.cell? ⟨g, i * 4 + 1, none⟩ = some (.int .i64 x.2.1) ∧ w.cell? ⟨g, i * 4 + 2, none⟩ = some (.int .i64 x.2.2.1) ∧ w.cell? ⟨g, i * 4 + 3, none⟩ = some (.int .i64 x.2.2.2) := by
 have hlt : i < ls.length := (List.getElem?_eq_some_iff.1 hi).1
 obtain ⟨_, _, h3⟩ := h
 obtain ⟨ad, e, hc⟩ := h3 (by omega)
 cases e
 obtain ⟨cs, hl, hK, hcell⟩ := hc i x hi
 obtain rfl := line_K hK
 have a0 := hcell 0 _ rfl
 have a1 := hcell 1 _ rfl
 have a2 := hcell 2 _ rfl
 have a3 := hcell 3 _ rfl
 have hs : (Kd.pair (Kd.int .i64) (Kd.pair (Kd.int .i64) (Kd.pair (Kd.int .i64) (Kd.int .i64)))).sz = 4 := rfl
 simp only [hs, Addr.add_mid, Nat.zero_add, Nat.add_zero] at a0 a1 a2 a3
 exact ⟨a0, a1, a2, a3⟩
abbrev awP : Prod := { plainP with kind := 3, rate := 0, times := 2 }
theorem aw_sched : schedP awP 19723 100 = ([(19754, 0, 0, 100), (19783, 100, 0, 0)], 0) := by decide +kernel
theorem sched_awake (w : World) (hg : GV w) : Calls Tryz.prog 5 #[] w fun e w' => e = .returned (.bool true) ∧ Below w.heap.size w w' := by
 have OF := Aside0.mk (fun (W : World) (hb : Below w.heap.size w W) => show Calls Tryz.prog 7 #[pv awP none 0 none 0 none 0, .int .i64 19723, .int .i64 100] W (Sched ([(19754, 0, 0, 100), (19783, 100, 0, 0)], 0) W) from by have := sched_any awP none 0 none 0 none 0 19723 100 W (hg.below hb) (nilAt rfl rfl rfl) ⟨by decide, by decide, by decide, by decide⟩; rw [aw_sched] at this; exact this)
 clear hg
 go_enter Tryz.func5, Tryz.ntmps5
 go_wp2_with (first
  | (go_at_call 13; (with_reducible refine (plain_any _).mono ?_); rintro e w0 ⟨rfl, hb⟩; have HB := Aside0.mk hb; clear hb)
  | ((with_reducible refine gate_dst (N := 1) rfl ?_); refine copy_event rfl (N := 1) rfl rfl rfl (t := 27) (v := .tmp 4) rfl (cs := pcs plainP none 0 none 0 none 0) (zs := pzs) ?hr rfl rfl info_prod ?hz (pcs_one _ _ _ _ _ _ _) ?_; (case hr => first | (go_simp; done) | (go_simp; rfl)); (case hz => rfl); intro g hg w1 hb1 hbl1; have gge := (show w.heap.size ≤ g by rw [hg]; exact HB.out.size); have HB := Aside0.mk (below_step HB.out hbl1); have GG := Aside0.mk hb1; clear hg hb1 hbl1; have u3 : w1.cell? ⟨g, 3, none⟩ = some (.int .i64 _) := (blk_cell GG.out 3).trans rfl; have f3 := frozen_of_row w1 g 3 _ _ GG.out)
  | ((with_reducible refine gate_store (t := 3) (p := 5) rfl ?_); refine put_event rfl (t := 3) (p := 5) (v := (.const (.int .i64 3))) rfl rfl (g := g) (i := 3) (cs := pcs plainP none 0 none 0 none 0) (cs' := pcs { plainP with kind := 3 } none 0 none 0 none 0) (x := .int .i64 3) ?hr GG.out ?hc ?_; (case hc => rfl); (case hr => go_simp); intro w2 hb8 hbut; have GG := Aside0.mk hb8; have HB := Aside0.mk (But.below HB.out HB.out.size gge hbut); clear hbut; clear hb8; have u7 : w2.cell? ⟨g, 7, none⟩ = some (.int .i64 _) := (blk_cell GG.out 7).trans rfl; have f7 := frozen_of_row w2 g 7 _ _ GG.out)
  | ((with_reducible refine gate_store (t := 2) (p := 6) rfl ?_); refine put_event rfl (t := 2) (p := 6) (v := (.const (.int .i64 0))) rfl rfl (g := g) (i := 7) (cs := pcs { plainP with kind := 3 } none 0 none 0 none 0) (cs' := pcs { plainP with kind := 3, rate := 0 } none 0 none 0 none 0) (x := .int .i64 0) ?hr GG.out ?hc ?_; (case hc => rfl); (case hr => go_simp); intro w3 hb8 hbut; have GG := Aside0.mk hb8; have HB := Aside0.mk (But.below HB.out HB.out.size gge hbut); clear hbut; clear hb8; have u5 : w3.cell? ⟨g, 5, none⟩ = some (.int .i64 _) := (blk_cell GG.out 5).trans rfl; have f5 := frozen_of_row w3 g 5 _ _ GG.out)
  | ((with_reducible refine gate_store (t := 3) (p := 7) rfl ?_); refine put_event rfl (t := 3) (p := 7) (v := (.const (.int .i64 2))) rfl rfl (g := g) (i := 5) (cs := pcs { plainP with kind := 3, rate := 0 } none 0 none 0 none 0) (cs' := pcs { plainP with kind := 3, rate := 0, times := 2 } none 0 none 0 none 0) (x := .int .i64 2) ?hr GG.out ?hc ?_; (case hc => rfl); (case hr => go_simp); intro w4 hb8 hbut; have GG := Aside0.mk hb8; have HB := Aside0.mk (But.below HB.out HB.out.size gge hbut); clear hbut; clear hb8; skip)
  | ((with_reducible refine gate_dst (N := 9) rfl ?_); refine wpList_load_row rfl 27 (.tmp 1) rfl g rfl 27 _ (0, 0) _ GG.out Tryz.underlying27 rfl info_prod ?_)
  | (go_at_call 7; (with_reducible refine (OF.out _ HB.out).mono ?_); rintro e w5 ⟨A, c, rfl, hR, hb⟩; have HB := Aside0.mk (below_step HB.out hb); obtain ⟨gn, cn, e1, _⟩ := Kd.R_form hR (by decide); injection e1 with e1 _ e3; subst e1 e3; obtain ⟨_, hc2, hC⟩ := Kd.R_reads' hR; obtain ⟨x0, x1, x2, x3⟩ := lines_cells hC rfl (i := 0) rfl; obtain ⟨y0, y1, y2, y3⟩ := lines_cells hC rfl (i := 1) rfl; clear hb hR hC))
 go_ret
 exact ⟨rfl, HB.out⟩
end Go.Proofs.YtfmkdledofbhdaaGreat.Sc
/- Plain laws of schedule: what of a near product may be wrong; lines, one by one; equal parts. -/
namespace Go.Proofs.YtfmkdledofbhdaaGreat.Sc
open Go.RowKit Go.Proofs.YtfmkdledofbhdaaGreatW.PrintWords Go.Proofs.YtfmkdledofbhdaaGreatW.PrintLast Go.Proofs.YtfmkdledofbhdaaGreatW.PrintMore Go.Proofs.YtfmkdledofbhdaaGreat.HW
open Go.Proofs.YtfmkdledofbhdaaGreat.Math Go.Proofs.YtfmkdledofbhdaaGreat.H Go.Proofs.YtfmkdledofbhdaaGreat.Pd Go.Proofs.YtfmkdledofbhdaaGreat.Du Go.Proofs.YtfmkdledofbhdaaGreat.Lv Pm
set_option linter.unusedVariables false
set_option linter.unusedSimpArgs false
theorem mid_start {p : Prod} {m : Int} (m0 : 0 ≤ m) (g0 : 0 ≤ p.grace) : Mid p m 0 m := ⟨m0, Int.le_refl m, fun _ _ => by rw [show max 0 (0 - p.grace) = 0 by omega]; omega⟩
theorem ok_grace {p : Prod} (h : ok p = true) : 0 ≤ p.grace ∧ p.grace < p.times ∧ (p.kind = 1 ∨ p.kind = 2 ∨ p.kind = 3) ∧ 0 ≤ p.rate ∧ p.rate ≤ 1000000000 := by
 obtain ⟨⟨⟨⟨⟨_, a2, a3, a4, a5, a6, a7, a8⟩, ⟨b1, b2, b3⟩, b4⟩, c⟩, d_⟩, e_⟩ := (ok_iff p).1 h
 omega
theorem zip_len {xs ys : List Int} {n : Int} (h1 : (xs.length : Int) = n) (h2 : ys.length = xs.length) : (0 : Int) + (xs.zip ys).length = n := by
 rw [List.length_zip]
 omega
theorem parts_known {p : Prod} {start : Int} {xs : List Int} (h : daysP p start = (xs, 0)) : ∃ ys, partsP p start = (ys, 0) ∧ ys.length = xs.length ∧ ∀ n ∈ ys, 0 ≤ n ∧ n ≤ 53436000 := by
 obtain ⟨ho, hs0, hds, hl, t1, t2, hr, -⟩ := days_known h
 refine ⟨rpartsL p.count start xs, ?_, rparts_len _ _ _, parts_may (count_known ho) _ _ hs0 hds hr⟩
 unfold partsP
 rw [h, if_pos rfl]
theorem sched_chain {p : Prod} {start m : Int} {ls : List Ln} (h : schedP p start m = (ls, 0)) :
  ∃ xs ys inst, daysP p start = (xs, 0) ∧ partsP p start = (ys, 0) ∧ ys.length = xs.length ∧ (∀ n ∈ ys, 0 ≤ n ∧ n ≤ 53436000) ∧ 1 ≤ m ∧ m ≤ 10000000000000 ∧ Chain p (Gm.whole p.count) (Gm.half p.count p.round) m inst 0 m 0 (xs.zip ys) ls := by
 unfold schedP at h
 split at h
 ·rename_i h1
  exact absurd (congrArg Prod.snd h) h1
 ·rename_i h1
  have hd : (daysP p start).2 = 0 := by simpa using h1
  have hx : daysP p start = ((daysP p start).1, 0) := by rw [← hd]
  obtain ⟨ys, hy, hyl, hyb⟩ := parts_known hx
  split at h
  ·exact absurd (show (16 : Int) = 0 from congrArg Prod.snd h) (by decide)
  ·rename_i hm
   have hm : 1 ≤ m ∧ m ≤ 10000000000000 := by omega
   have hlin : ∀ inst, linesP p start m inst = (ls, 0) → ∃ xs ys inst, daysP p start = (xs, 0) ∧ partsP p start = (ys, 0) ∧ ys.length = xs.length ∧ (∀ n ∈ ys, 0 ≤ n ∧ n ≤ 53436000) ∧ 1 ≤ m ∧ m ≤ 10000000000000 ∧ Chain p (Gm.whole p.count) (Gm.half p.count p.round) m inst 0 m 0 (xs.zip ys) ls := by
    intro inst hi
    unfold linesP at hi
    rw [hy] at hi
    exact ⟨(daysP p start).1, ys, inst, hx, hy, hyl, hyb, hm.1, hm.2, lines_chain _ _ _ _ _ hi⟩
   split at h
   ·split at h
    ·rename_i he
     exact absurd (congrArg Prod.snd h) he
    ·exact hlin _ h
   ·exact hlin _ h
def pl (x0 : Ln) (ls : List Ln) : Nat → Ln
 | 0 => x0
 | k + 1 => ls.getD k x0
theorem chain_int {p : Prod} {m inst W h : Int} : ∀ (l : List (Int × Int)) (k left rest : Int) (ls : List Ln), Chain p W h m inst k left rest l ls → ∀ x ∈ ls, x.2.2.1 ≤ 1000000000000000
 | [], k, left, rest, [], c, x, hx => by simp at hx
 | [], k, left, rest, y :: t, c, x, hx => by simp [Chain] at c
 | y :: r, k, left, rest, [], c, x, hx => by simp [Chain] at c
 | (d, n) :: r, k, left, rest, y :: t, c, x, hx => by
  obtain ⟨c1, c2, c3, c4, c5, c6, c7, c8⟩ := c
  rcases List.mem_cons.1 hx with rfl | hx
  ·obtain ⟨hm, hq, he⟩ := bear_ok c1
   rw [c5, he]
   exact hq
  ·exact chain_int r _ _ _ t c8 x hx
theorem sched_looks {p : Prod} {start m : Int} {ls : List Ln} (h : schedP p start m = (ls, 0)) : (ls.length : Int) = p.times ∧ looks p 0 m start ls ∧ (∀ x ∈ ls, x.2.2.1 ≤ 1000000000000000) := by
 obtain ⟨xs, ys, inst, hx, hy, hyl, hyb, m0, m1, c⟩ := sched_chain h
 obtain ⟨ho, hs0, hds, hl, t1, t2, hr, -⟩ := days_known hx
 obtain ⟨g0, gt, -⟩ := ok_grace ho
 have hz := zip_len hl hyl
 refine ⟨?_, ?_, chain_int _ _ _ _ _ c⟩
 ·rw [chain_len _ _ _ _ _ c]; omega
 ·refine chain_looks (by omega) m1 g0 gt _ 0 m 0 start ls (good_new _ _) c (mid_start (by omega) g0) (by omega) hz (.inl (by omega)) ?_
  rw [List.map_fst_zip (by omega)]
  exact hr
end Go.Proofs.YtfmkdledofbhdaaGreat.Sc
/- The law ScheduleInterest, walked. -/
namespace Go.Proofs.YtfmkdledofbhdaaGreat.Sc
open Go.RowKit Go.Proofs.YtfmkdledofbhdaaGreatW.PrintWords Go.Proofs.YtfmkdledofbhdaaGreatW.PrintLast Go.Proofs.YtfmkdledofbhdaaGreatW.PrintMore Go.Proofs.YtfmkdledofbhdaaGreat.HW
open Go.Proofs.YtfmkdledofbhdaaGreat.Math Go.Proofs.YtfmkdledofbhdaaGreat.H Go.Proofs.YtfmkdledofbhdaaGreat.Pd Go.Proofs.YtfmkdledofbhdaaGreat.Du Go.Proofs.YtfmkdledofbhdaaGreat.Lv Pm
set_option linter.unusedVariables false
set_option linter.unusedSimpArgs false
attribute [local go_sem] max2_int min2_int max_two min_two
theorem U_isC (x : Int) {m : Int} (h : 0 < m) (h2 : m ≤ 9000000000000000000) : IntKind.i64.wrap (Int.tmod (IntKind.u64.wrap x) m) = U x m := by
 have e : IntKind.u64.wrap x = x % 18446744073709551616 := rfl
 have hn := Int.emod_nonneg x (show (18446744073709551616 : Int) ≠ 0 by omega)
 have hb := U_bd x h
 rw [e, Int.tmod_eq_emod_of_nonneg hn]
 show IntKind.i64.wrap (U x m) = U x m
 exact IntWalk.i64_in _ (by omega)
theorem ok_small {q : Prod} (h : ok q = true) : Small q := by
 obtain ⟨⟨⟨⟨⟨a1, _⟩, ⟨_, _, b3⟩, _⟩, _⟩, ⟨d1, _⟩, _⟩, ⟨e1, _⟩, _⟩ := (ok_iff q).1 h
 simp only [nameOk, Bool.and_eq_true, decide_eq_true_eq] at a1
 have hn : q.name.data.toList.length = q.name.size := rfl
 exact ⟨by omega, by omega, by omega, by omega⟩
def LinesAt (w : World) (g : Nat) (ls : List Ln) : Prop := g < w.heap.size ∧ ∀ (i : Nat) (x : Ln), ls[i]? = some x →
  w.cell? ⟨g, i * 4, none⟩ = some (.int .i64 x.1) ∧ w.cell? ⟨g, i * 4 + 1, none⟩ = some (.int .i64 x.2.1) ∧ w.cell? ⟨g, i * 4 + 2, none⟩ = some (.int .i64 x.2.2.1) ∧ w.cell? ⟨g, i * 4 + 3, none⟩ = some (.int .i64 x.2.2.2)
theorem LinesAt.same {w w1 : World} {g : Nat} {ls : List Ln} (h : LinesAt w g ls) (hb : w1.heap[g]? = w.heap[g]?) (hs : w.heap.size ≤ w1.heap.size) : LinesAt w1 g ls :=
 ⟨Nat.lt_of_lt_of_le h.1 hs, fun i x hx => ⟨(World.cell?_of_block (a := ⟨g, i * 4, none⟩) hb).trans (h.2 i x hx).1, (World.cell?_of_block (a := ⟨g, i * 4 + 1, none⟩) hb).trans (h.2 i x hx).2.1, (World.cell?_of_block (a := ⟨g, i * 4 + 2, none⟩) hb).trans (h.2 i x hx).2.2.1, (World.cell?_of_block (a := ⟨g, i * 4 + 3, none⟩) hb).trans (h.2 i x hx).2.2.2⟩⟩
theorem LinesAt.below {w w1 : World} {g : Nat} {ls : List Ln} (h : LinesAt w g ls) (hb : Below w.heap.size w w1) : LinesAt w1 g ls := h.same (hb.block g h.1) hb.size
theorem Sched.at {ls : List Ln} {w w' : World} {e : Ending} (h : Sched (ls, 0) w e w') (hl : 0 < ls.length) : ∃ gn c, e = .returned (.tuple #[.slice (some ⟨gn, 0, none⟩) ls.length c, .int .i64 0]) ∧ ls.length ≤ c ∧ w.heap.size ≤ gn ∧ LinesAt w' gn ls ∧ Below w.heap.size w w' := by
 obtain ⟨A, c, he, hR, hb⟩ := h
 obtain ⟨gn, cn, e1, hge, hlt, _⟩ := Kd.R_form hR hl
 injection e1 with e1 _ e3
 subst e1 e3
 obtain ⟨_, hc2, hC⟩ := Kd.R_reads' hR
 exact ⟨gn, _, he, hc2, hge, ⟨hlt, fun i x hx => lines_cells hC rfl hx⟩, hb⟩
end Go.Proofs.YtfmkdledofbhdaaGreat.Sc
/- Contracts by hand: the document's schedule: the principal part; the cases of a line. -/
namespace Go.Proofs.YtfmkdledofbhdaaGreat.Sc
open Go.RowKit Go.Proofs.YtfmkdledofbhdaaGreatW.PrintWords Go.Proofs.YtfmkdledofbhdaaGreatW.PrintLast Go.Proofs.YtfmkdledofbhdaaGreatW.PrintMore Go.Proofs.YtfmkdledofbhdaaGreat.HW
open Go.Proofs.YtfmkdledofbhdaaGreat.Math Go.Proofs.YtfmkdledofbhdaaGreat.H Go.Proofs.YtfmkdledofbhdaaGreat.Pd Go.Proofs.YtfmkdledofbhdaaGreat.Du Go.Proofs.YtfmkdledofbhdaaGreat.Lv Pm
set_option linter.unusedVariables false
set_option linter.unusedSimpArgs false
attribute [local go_sem] max2_int min2_int max_two min_two
def partR (p : Prod) (m inst v left : Int) : Int := if p.kind = 1 then min left (inst - v) else if p.kind = 2 then m / (p.times - p.grace) else 0
set_option maxRecDepth 100000 in
set_option maxHeartbeats 4000000 in
theorem part_any (p : Prod) (A1 : Option Addr) (c1 : Nat) (A2 : Option Addr) (c2 : Nat) (A3 : Option Addr) (c3 : Nat) (m inst v left : Int) (w : World) (g0 : 0 ≤ p.grace) (g1 : p.grace < p.times) (t1 : p.times ≤ 600) (m0 : 0 ≤ m) (m1 : m ≤ 10000000000000) (i0 : 0 ≤ inst) (i1 : inst ≤ 1000000000000000) (v0 : 0 ≤ v) (v1 : v ≤ 1000000000000000) (l0 : 0 ≤ left) (l1 : left ≤ 10000000000000) :
  Calls Tryz.prog 22 #[pv p A1 c1 A2 c2 A3 c3, .int .i64 m, .int .i64 inst, .int .i64 v, .int .i64 left] w fun e w' => e = .returned (.int .i64 (partR p m inst v left)) ∧ Below w.heap.size w w' := by
 obtain ⟨pr, hpr⟩ : ∃ x, partR p m inst v left = x := ⟨_, rfl⟩
 rw [hpr]
 unfold partR at hpr
 by_cases h3 : p.kind = 1
 ·rw [if_pos h3] at hpr
  have hk : (p.kind == 1) = true := by simpa using h3
  have si : IntKind.i64.wrap (inst - v) = inst - v := IntWalk.i64_in _ (by omega)
  rcases Int.lt_or_le (inst - v) left with hlt | hlt
  ·have HP := Aside0.mk (show inst - v = pr by omega)
   clear hpr h3
   go_enter Tryz.func22, Tryz.ntmps22
   go_wp2_with (first
    | ((with_reducible refine gate_dst (N := 5) rfl ?_); refine box_event ?hg (N := 5) ?hd (cs := pcs p A1 c1 A2 c2 A3 c3) (t := 27) ?hr ?_; (case hd => rfl); (case hg => rfl); (case hr => first | (go_simp; done) | (go_simp; rfl)); intro g hg w1 hb1 hbl1; clear hg; obtain ⟨-, -, -, u3, -, u5, u6, -⟩ := pc_cells hb1; have HB := Aside0.mk hbl1; clear hb1 hbl1))
   all_goals
    go_ret
    obtain rfl := HP.out
    exact ⟨rfl, HB.out⟩
  ·have HP := Aside0.mk (show left = pr by omega)
   clear hpr h3
   go_enter Tryz.func22, Tryz.ntmps22
   go_wp2_with (first
    | ((with_reducible refine gate_dst (N := 5) rfl ?_); refine box_event ?hg (N := 5) ?hd (cs := pcs p A1 c1 A2 c2 A3 c3) (t := 27) ?hr ?_; (case hd => rfl); (case hg => rfl); (case hr => first | (go_simp; done) | (go_simp; rfl)); intro g hg w1 hb1 hbl1; clear hg; obtain ⟨-, -, -, u3, -, u5, u6, -⟩ := pc_cells hb1; have HB := Aside0.mk hbl1; clear hb1 hbl1))
   all_goals
    go_ret
    obtain rfl := HP.out
    exact ⟨rfl, HB.out⟩
 ·rw [if_neg h3] at hpr
  have hk : (p.kind == 1) = false := by simpa using h3
  clear h3
  by_cases h4 : p.kind = 2
  ·rw [if_pos h4] at hpr
   have hk2 : (p.kind == 2) = true := by simpa using h4
   obtain ⟨N, hN⟩ : ∃ N, p.times - p.grace = N := ⟨_, rfl⟩
   rw [hN] at hpr
   have sN : IntKind.i64.wrap (p.times - p.grace) = N := by rw [hN]; exact IntWalk.i64_in _ (by omega)
   have n1 : 1 ≤ N := by omega
   have nz : (N == 0) = false := by simp; omega
   have nz3 : ¬ N = 0 := by omega
   have nm : (N == -1) = false := by simp; omega
   have p0 : 0 ≤ pr := by rw [← hpr]; exact Int.ediv_nonneg m0 (by omega)
   have p1 : pr ≤ m := by rw [← hpr]; exact Int.ediv_le_self _ m0
   have sd : IntKind.i64.wrap (Int.tdiv m N) = pr := by rw [Int.tdiv_eq_ediv_of_nonneg m0, hpr]; exact IntWalk.i64_in _ (by omega)
   clear hpr h4 hN
   go_enter Tryz.func22, Tryz.ntmps22
   go_wp2_with (first
    | ((with_reducible refine gate_dst (N := 5) rfl ?_); refine box_event ?hg (N := 5) ?hd (cs := pcs p A1 c1 A2 c2 A3 c3) (t := 27) ?hr ?_; (case hd => rfl); (case hg => rfl); (case hr => first | (go_simp; done) | (go_simp; rfl)); intro g hg w1 hb1 hbl1; clear hg; obtain ⟨-, -, -, u3, -, u5, u6, -⟩ := pc_cells hb1; have HB := Aside0.mk hbl1; clear hb1 hbl1))
   go_ret
   exact ⟨rfl, HB.out⟩
  ·rw [if_neg h4] at hpr
   have hk2 : (p.kind == 2) = false := by simpa using h4
   have HP := Aside0.mk hpr
   clear hpr h4
   go_enter Tryz.func22, Tryz.ntmps22
   go_wp2_with (first
    | ((with_reducible refine gate_dst (N := 5) rfl ?_); refine box_event ?hg (N := 5) ?hd (cs := pcs p A1 c1 A2 c2 A3 c3) (t := 27) ?hr ?_; (case hd => rfl); (case hg => rfl); (case hr => first | (go_simp; done) | (go_simp; rfl)); intro g hg w1 hb1 hbl1; clear hg; obtain ⟨-, -, -, u3, -, u5, u6, -⟩ := pc_cells hb1; have HB := Aside0.mk hbl1; clear hb1 hbl1))
   go_ret
   obtain rfl := HP.out
   exact ⟨rfl, HB.out⟩
theorem line_cases {p : Prod} {m inst k left : Int} {z : Int × Int × Int} (hz : z.2.1 = 0 ∨ z.2.1 = 3) (M : Mid p m k left) (m0 : 0 ≤ m) (g0 : 0 ≤ p.grace) (gt : p.grace < p.times) (k0 : 0 ≤ k) (k1 : k < p.times) :
  (z.2.1 = 3 ∧ lerr p m inst k left z = 3) ∨
  (z.2.1 = 0 ∧ k = p.times - 1 ∧ p.kind = 1 ∧ (p.times < left + z.1 - inst ∨ (left + z.1 - inst ≤ p.times ∧ p.times < -(left + z.1 - inst))) ∧ lerr p m inst k left z = 10) ∨
  (z.2.1 = 0 ∧ k = p.times - 1 ∧ (p.kind = 1 → left + z.1 - inst ≤ p.times ∧ -(left + z.1 - inst) ≤ p.times) ∧ lerr p m inst k left z = 0 ∧ prin p m inst k z.1 left = left) ∨
  (z.2.1 = 0 ∧ k ≠ p.times - 1 ∧ p.grace ≤ k ∧ p.kind = 1 ∧ partR p m inst z.1 left < 0 ∧ lerr p m inst k left z = 10) ∨
  (z.2.1 = 0 ∧ k ≠ p.times - 1 ∧ p.grace ≤ k ∧ 0 ≤ partR p m inst z.1 left ∧ lerr p m inst k left z = 0 ∧ prin p m inst k z.1 left = partR p m inst z.1 left) ∨
  (z.2.1 = 0 ∧ k ≠ p.times - 1 ∧ k < p.grace ∧ lerr p m inst k left z = 0 ∧ prin p m inst k z.1 left = 0) := by
 have hr := rerr_is (inst := inst) hz M m0 g0 gt k0 k1
 obtain ⟨b1, b2, _⟩ := prin_bd (inst := inst) (v := z.1) M m0 g0 gt k0 k1
 rcases hz with h0 | h3
 ·have hn : ¬ z.2.1 ≠ 0 := fun h => h h0
  unfold rerr at hr
  rw [if_neg hn] at hr
  by_cases h1 : k = p.times - 1
  ·have e : prin p m inst k z.1 left = left := by unfold prin; rw [if_neg (by omega), if_pos h1]
   by_cases h2 : p.kind = 1 ∧ (p.times < left + z.1 - inst ∨ p.times < -(left + z.1 - inst))
   ·refine .inr (.inl ⟨h0, h1, h2.1, by omega, ?_⟩)
    rw [← hr, if_pos ⟨h2.1, .inl ⟨h1, h2.2⟩⟩]
   ·refine .inr (.inr (.inl ⟨h0, h1, fun hk => ?_, ?_, e⟩))
    ·have : ¬ (p.times < left + z.1 - inst ∨ p.times < -(left + z.1 - inst)) := fun h => h2 ⟨hk, h⟩
     omega
    ·rw [← hr, if_neg]
     rintro ⟨hk, ⟨_, h⟩ | ⟨h, _⟩⟩
     ·exact h2 ⟨hk, h⟩
     ·exact h h1
  ·by_cases h4 : p.grace ≤ k
   ·have e : prin p m inst k z.1 left = partR p m inst z.1 left := by
     unfold prin partR
     rw [if_neg (by omega), if_neg h1, show min (inst - z.1) left = min left (inst - z.1) by omega]
    by_cases h5 : p.kind = 1
    ·have e2 : partR p m inst z.1 left = min left (inst - z.1) := by unfold partR; rw [if_pos h5]
     by_cases h6 : min left (inst - z.1) < 0
     ·refine .inr (.inr (.inr (.inl ⟨h0, h1, h4, h5, by rw [e2]; exact h6, ?_⟩)))
      rw [← hr, if_pos ⟨h5, .inr ⟨h1, h4, h6⟩⟩]
     ·refine .inr (.inr (.inr (.inr (.inl ⟨h0, h1, h4, by rw [e2]; omega, ?_, e⟩))))
      rw [← hr, if_neg]
      rintro ⟨hk, ⟨h, _⟩ | ⟨_, _, h⟩⟩
      ·exact h1 h
      ·exact h6 h
    ·refine .inr (.inr (.inr (.inr (.inl ⟨h0, h1, h4, by rw [← e]; exact b2 h5, ?_, e⟩))))
     rw [← hr, if_neg (fun h => h5 h.1)]
   ·refine .inr (.inr (.inr (.inr (.inr ⟨h0, h1, by omega, ?_, ?_⟩))))
    ·rw [← hr, if_neg]
     rintro ⟨hk, ⟨h, _⟩ | ⟨_, h, _⟩⟩
     ·exact h1 h
     ·exact h4 h
    ·unfold prin; rw [if_pos (by omega)]
 ·refine .inl ⟨h3, ?_⟩
  unfold lerr
  rw [if_pos (by rw [h3]; decide)]
end Go.Proofs.YtfmkdledofbhdaaGreat.Sc
/- Contracts by hand: the document's schedule (its lines). -/
namespace Go.Proofs.YtfmkdledofbhdaaGreat.Sc
open Go.RowKit Go.Proofs.YtfmkdledofbhdaaGreatW.PrintWords Go.Proofs.YtfmkdledofbhdaaGreatW.PrintLast Go.Proofs.YtfmkdledofbhdaaGreatW.PrintMore Go.Proofs.YtfmkdledofbhdaaGreat.HW
open Go.Proofs.YtfmkdledofbhdaaGreat.Math Go.Proofs.YtfmkdledofbhdaaGreat.H Go.Proofs.YtfmkdledofbhdaaGreat.Pd Go.Proofs.YtfmkdledofbhdaaGreat.Du Go.Proofs.YtfmkdledofbhdaaGreat.Lv Pm
set_option linter.unusedVariables false
set_option linter.unusedSimpArgs false
attribute [local go_sem] max2_int min2_int max_two min_two
theorem RefAt.same {w w1 : World} {g : Nat} {P rest : Int} {up : Bool} (H : RefAt w g P up rest) (hb : w1.heap[g]? = w.heap[g]?) (hs : w.heap.size ≤ w1.heap.size) : RefAt w1 g P up rest :=
 ⟨(World.cell?_of_block (a := ⟨g, 0, none⟩) hb).trans H.c0, (World.cell?_of_block (a := ⟨g, 1, none⟩) hb).trans H.c1, (World.cell?_of_block (a := ⟨g, 2, none⟩) hb).trans H.c2, (World.frozen?_of_block (a := ⟨g, 2, none⟩) hb).trans H.f2, Nat.lt_of_lt_of_le H.lt hs⟩
theorem built_day (d v : Int) : Tryz.prog.built 38 [(0, .int .i64 d), (2, .int .i64 v)] = some #[.int .i64 d, .int .i64 0, .int .i64 v, .int .i64 0] := by kernel_rfl
theorem parts_fit {p : Prod} {start : Int} {xs ys : List Int} (hd : daysP p start = (xs, 0)) (hpx : partsP p start = (ys, 0)) : ys.length = xs.length ∧ ∀ n ∈ ys, 0 ≤ n ∧ n ≤ 53436000 := by
 obtain ⟨ho, hs0, hds, hl, t1, t2, hr, -⟩ := days_known hd
 unfold partsP at hpx
 rw [hd, if_pos rfl] at hpx
 obtain ⟨rfl, -⟩ := Prod.mk.inj hpx
 exact ⟨rparts_len _ _ _, parts_may (count_known ho) _ _ hs0 hds hr⟩
theorem rd_mem {l : List Int} {k : Nat} (h : k < l.length) : rd l (k : Int) ∈ l := by
 have : rd l (k : Int) = l[k] := by simp [rd, h]
 rw [this]
 exact List.getElem_mem h
set_option maxRecDepth 100000 in
set_option maxHeartbeats 20000000 in
theorem rsched_one (p : Prod) (A1 : Option Addr) (c1 : Nat) (A2 : Option Addr) (c2 : Nat) (A3 : Option Addr) (c3 : Nat) (start m inst : Int) (w : World) (hp : ProdAt w p A1 c1 A2 c2 A3 c3) (hs : Held p) (hh : p.hol.length ≤ 1000000) (xs ys : List Int) (hd : daysP p start = (xs, 0)) (hpx : partsP p start = (ys, 0)) (hxl : xs.length ≤ 600) (m0 : 1 ≤ m) (m1 : m ≤ 10000000000000) (hi : p.kind = 1 ∧ ofE p ys m = (inst, 0)) :
  Calls Tryz.prog 8 #[pv p A1 c1 A2 c2 A3 c3, .int .i64 start, .int .i64 m] w (Sched (linesP p start m inst) w) := by
 obtain ⟨ho, hs0, hds, hl, t1, t2, hr, -⟩ := days_known hd
 obtain ⟨hyl, hyb⟩ := parts_fit hd hpx
 have hJ : linesP p start m inst = join [] (lines p (Gm.whole p.count) (Gm.half p.count p.round) m inst 0 (xs.zip ys) m 0) := by
  unfold linesP
  rw [hd, hpx]
  exact (join_nil _ (lines_err _ _ _ _ _ _ _ _ _)).symm
 obtain ⟨⟨⟨⟨⟨_, a2, a3, a4, a5, a6, a7, a8⟩, ⟨b1, b2, b3⟩, b4⟩, c⟩, d_⟩, e_⟩ := (ok_iff p).1 ho
 have hne : xs ≠ [] := fun e => by rw [e] at hl; simp at hl; omega
 have hne2 : ys ≠ [] := fun e => by rw [e] at hyl; simp at hyl; exact hne (List.eq_nil_of_length_eq_zero hyl.symm)
 have ib : 0 ≤ inst ∧ inst ≤ 1000000000000000 := by
  have := inst_bd hi.2; omega
 have MM := Aside0.mk (show Mid p m 0 m from ⟨by omega, by omega, fun _ _ => by rw [show max 0 (0 - p.grace) = 0 by omega]; omega⟩)
 obtain ⟨up, hup⟩ : ∃ up : Bool, p.round = 1 ∧ up = true ∨ p.round = 3 ∧ up = false := by
  rcases (show p.round = 1 ∨ p.round = 3 by omega) with h | h
  ·exact ⟨true, .inl ⟨h, rfl⟩⟩
  ·exact ⟨false, .inr ⟨h, rfl⟩⟩
 have NW := Aside0.mk (fun W => H.rnew_any (c := p.count) (r := p.round) (up := up) (by omega) hup W)
 have GN := good_new p.count p.round
 have HH := Aside0.mk (show up = true ∧ Gm.whole p.count = 2 * Gm.half p.count p.round ∨ up = false ∧ Gm.half p.count p.round = 0 by
  rcases hup with ⟨h, h2⟩ | ⟨h, h2⟩
  ·rw [h]; exact .inl ⟨h2, (Gm.half_one p.count).symm⟩
  ·exact .inr ⟨h2, Gm.half_no (by omega)⟩)
 have HPW := Aside0.mk (show Gm.whole p.count = 1000000000 * Gm.gp p.count from rfl)
 have GPB := Aside0.mk (gp_bd p.count)
 have DA := Aside0.mk (fun W (hb : Below w.heap.size w W) => show Calls Tryz.prog 20 #[pv p A1 c1 A2 c2 A3 c3, .int .i64 start] W (Listed1 xs W) from (Du.rdays_any p A1 c1 A2 c2 A3 c3 start W (hp.below hb) hs hh).mono fun e w' h => by rw [hd] at h; exact h.one hne)
 have PA := Aside0.mk (fun W (hb : Below w.heap.size w W) => show Calls Tryz.prog 10 #[pv p A1 c1 A2 c2 A3 c3, .int .i64 start] W (ListedL1 ys W) from (Du.rparts_any p A1 c1 A2 c2 A3 c3 start W (hp.below hb) hs hh).mono fun e w' h => by rw [hpx] at h; exact listed_one h hne2)
 have OF := Aside0.mk (fun (A : Option Addr) (c : Nat) (W : World) (hb : Below w.heap.size w W) (hc : Kd.C (Kd.int .i64) W A ys.length ys) => show Calls Tryz.prog 21 #[pv p A1 c1 A2 c2 A3 c3, .slice A ys.length c, .int .i64 m] W (Two (inst, 0) W) from by have := rOf_any p A1 c1 A2 c2 A3 c3 A ys c m W (hp.below hb) hs hc (by omega); rw [of_rof, hi.2] at this; exact this)
 obtain ⟨R, hR⟩ : ∃ R, linesP p start m inst = R := ⟨_, rfl⟩
 rw [hR] at hJ ⊢
 obtain ⟨Wh, hWh⟩ : ∃ y, Gm.whole p.count = y := ⟨_, rfl⟩
 obtain ⟨Hf, hHf⟩ : ∃ y, Gm.half p.count p.round = y := ⟨_, rfl⟩
 obtain ⟨Pp, hPp⟩ : ∃ y, Gm.gp p.count = y := ⟨_, rfl⟩
 rw [hWh, hHf] at GN hJ HH
 rw [hWh, hPp] at HPW
 rw [hPp] at GPB
 have HPp := Aside0.mk hPp
 have RB := Aside0.mk (fun (W : World) (gb : Nat) (bal rest n : Int) (G : H.Good Wh Hf rest) (RA : RefAt W gb Pp up rest) => rbear_any (bal := bal) (rate := p.rate) (n := n) RA GPB.out.1 GPB.out.2 HPW.out HH.out G)
 have GN := Aside0.mk GN
 have HJ := Aside0.mk hJ
 have kk : (p.kind == 1) = true := by simpa using hi.1
 have KK := Aside0.mk hi.1
 have HYL := Aside0.mk hyl
 have HYB := Aside0.mk hyb
 have T2 := Aside0.mk (And.intro t1 t2)
 have HLT := Aside0.mk hl
 have G0 := Aside0.mk a7
 have RT := Aside0.mk (show 0 ≤ p.rate ∧ p.rate ≤ 1000000000 by omega)
 have IB := Aside0.mk ib
 have PT := Aside0.mk (fun (W : World) (v left : Int) => part_any p A1 c1 A2 c2 A3 c3 m inst v left W (by omega) (by omega) t2 (by omega) m1 ib.1 ib.2)
 clear hp hs hh hd hpx hJ hR hWh hHf hPp ho hs0 hds hr a2 a3 a4 a5 a6 a8 b1 b2 b3 b4 c d_ e_ hne hne2 hi hyl hyb hl t1 t2 a7 hup HH HPW GPB ib
 go_enter Tryz.func8, Tryz.ntmps8
 go_wp2_with (first
  | ((with_reducible refine gate_dst (N := 3) rfl ?_); refine box_event ?hg (N := 3) ?hd (cs := pcs p A1 c1 A2 c2 A3 c3) (t := 27) ?hr ?_; (case hd => rfl); (case hg => rfl); (case hr => first | (go_simp; done) | (go_simp; rfl)); intro g hg w1 hb1 hbl1; have gge := (show w.heap.size ≤ g by rw [hg]; exact Nat.le_refl _); clear hg; have GG := Aside0.mk hb1; have HB := Aside0.mk hbl1; clear hb1 hbl1)
  | ((with_reducible refine gate_dst (N := 26) rfl ?_); refine wpList_load_row rfl 27 (.tmp 3) rfl g rfl 27 _ (0, 0) _ GG.out Tryz.underlying27 rfl info_prod ?_)
  | (go_at_call 20; (with_reducible refine (DA.out _ HB.out).mono ?_); rintro e w2 ⟨gl, cl, tl, rfl, gle, lc, hbk, hb⟩; have BL := Aside0.mk hbk; have glge := Nat.le_trans HB.out.size gle; have HB := Aside0.mk (below_step HB.out hb); have GG := Aside0.mk (Pd.blk_below GG.out hb); clear hb hbk)
  | ((with_reducible refine gate_dst (N := 41) rfl ?_); refine wpList_load_row rfl 27 (.tmp 3) rfl g rfl 27 _ (0, 0) _ GG.out Tryz.underlying27 rfl info_prod ?_)
  | (go_at_call 10; (with_reducible refine (PA.out _ HB.out).mono ?_); rintro e w3 ⟨gx, cx, tx, rfl, gxe, xc, hbk, hb⟩; have BX := Aside0.mk hbk; have gxge := Nat.le_trans HB.out.size gxe; have BL := Aside0.mk (Blk.below BL.out hb); have HB := Aside0.mk (below_step HB.out hb); have GG := Aside0.mk (Pd.blk_below GG.out hb); clear hb hbk; obtain ⟨-, u1, u2, u3, -⟩ := pc_cells GG.out)
  | ((with_reducible refine gate_dst (N := 50) rfl ?_); refine wpList_load_row rfl 27 (.tmp 3) rfl g rfl 27 _ (0, 0) _ GG.out Tryz.underlying27 rfl info_prod ?_)
  | (go_at_call 21; (with_reducible refine (OF.out _ _ _ HB.out (Blk.readsL BX.out (by have := HYL.out; omega))).mono ?_); rintro e w5 ⟨rfl, hb⟩; have BL := Aside0.mk (Blk.below BL.out hb); have BX := Aside0.mk (Blk.below BX.out hb); have HB := Aside0.mk (below_step HB.out hb); have GG := Aside0.mk (Pd.blk_below GG.out hb); clear hb u1 u2 u3; obtain ⟨-, u1, u2, u3, -⟩ := pc_cells GG.out)
  | (go_at_call 11; (with_reducible refine (NW.out _).mono ?_); rintro e w7 ⟨hb, gb, hgb, rfl, hba⟩; rw [HPp.out] at hba; have gbge := Nat.le_trans HB.out.size hgb; have gbl := (show gl ≠ gb by have := Blk.lt BL.out; omega); have gbx := (show gx ≠ gb by have := Blk.lt BX.out; omega); have gbg := (show g ≠ gb by have := blk_lt GG.out; omega); have BA := Aside0.mk hba; have BL := Aside0.mk (Blk.below BL.out hb); have BX := Aside0.mk (Blk.below BX.out hb); have HB := Aside0.mk (below_step HB.out hb); have GG := Aside0.mk (Pd.blk_below GG.out hb); clear hb hba hgb u1 u2 u3))
 have HZD := Aside0.mk (List.length_zip (l₁ := xs) (l₂ := ys))
 go_loopg [17, 18, 19, 20] (xs.length + 1) (fun gq lv sv ov iv w' => ∃ (k : Nat) (left rest : Int) (s : Bool) (Ax : Option Addr) (cw : Nat) (ls : List Ln), k ≤ xs.length ∧ lv = .int .i64 left ∧ sv = .bool s ∧ ov = .slice Ax ls.length cw ∧ iv = .int .i64 (k : Int) ∧ s = false ∧ Aside0 (ls.length = k) ∧ Aside0 (gq = xs.length + 1 - k) ∧ Aside0 (R = join ls (lines p Wh Hf m inst (k : Int) ((xs.zip ys).drop k) left rest)) ∧ Aside0 (Mid p m (k : Int) left) ∧ Aside0 (H.Good Wh Hf rest) ∧ Aside0 (RefAt w' gb Pp up rest) ∧ Aside0 (Kd.R (Kd.pair (Kd.int .i64) (Kd.pair (Kd.int .i64) (Kd.pair (Kd.int .i64) (Kd.int .i64)))) 38 w' w.heap.size (fun b => b ≠ g ∧ b ≠ gl ∧ b ≠ gx ∧ b ≠ gb) (.slice Ax ls.length cw) ls) ∧ Aside0 (H.Blk w' gl 3 (nums .i64 xs ++ tl)) ∧ Aside0 (H.Blk w' gx 2 (nums .i64 ys ++ tx)) ∧ Aside0 (w'.heap[g]? = some (.cells (pcs p A1 c1 A2 c2 A3 c3) 27 (0, 0))) ∧ Aside0 (Below w.heap.size w w'))
 case atStart => exact ⟨0, m, 0, false, none, 0, [], by omega, rfl, rfl, rfl, rfl, rfl, ⟨rfl⟩, ⟨rfl⟩, ⟨by rw [List.drop_zero]; exact HJ.out⟩, MM, GN, BA, ⟨Kd.R_nil _ _ _ _ _⟩, BL, BX, GG, HB⟩
 case round =>
  obtain ⟨k, left, rest, s, Ax, cw, ls, hk, rfl, rfl, rfl, rfl, rfl, hlen, hgq, HJ, MM, GN, BA, HO, BL, BX, GG, HB⟩ := hrel
  obtain ⟨-, -, -, -, -, u5, -, u7, -⟩ := pc_cells GG.out
  by_cases hlt : k < xs.length
  ·obtain ⟨d, hdd⟩ : ∃ d, rd xs (k : Int) = d := ⟨_, rfl⟩
   obtain ⟨n, hnn⟩ : ∃ n, rd ys (k : Int) = n := ⟨_, rfl⟩
   have hkl : k < ys.length := by have := HYL.out; omega
   have hcx : wr.cell? ⟨gx, k, none⟩ = some (.int .i64 n) := (BX.out.cell k).trans (by rw [List.getElem?_append_left (by simp [nums]; omega), ← hnn]; simp [nums, rd, hkl])
   have hkx : (k : Int) < (xs.length : Int) := by omega
   have hky : (k : Int) < (ys.length : Int) := by omega
   have kt : (k : Int) < p.times := by have := HLT.out; omega
   have nb := HYB.out n (by rw [← hnn]; exact rd_mem hkl)
   obtain ⟨z, hz⟩ : ∃ z, Gm.bear Wh Hf rest left p.rate n = z := ⟨_, rfl⟩
   have hj := HJ.out
   rw [zip_drop hlt HYL.out, hdd, hnn, lines_cons hz] at hj
   have l0 := MM.out.l0
   have l1 : left ≤ 10000000000000 := by have := MM.out.l1; omega
   have zb := bear_bdL (rate := p.rate) (n := n) GN.out l0 (show left ≤ 1000000000000000 by omega)
   have hz3 := bear_code (W := Wh) (h := Hf) (rest := rest) (bal := left) (rate := p.rate) (n := n) ⟨l0, by omega, RT.out.1, RT.out.2, nb.1, nb.2⟩
   have G2 := good_bear (bal := left) (rate := p.rate) (n := n) GN.out
   have RR := Aside0.mk (fun W RA => RB.out W gb left rest n GN.out RA)
   rw [hz] at zb hz3 G2 RR
   have ge := G0.out
   have tt := T2.out
   have CS := line_cases (inst := inst) hz3 MM.out (by omega) ge.1 (by omega) (by omega) kt
   obtain ⟨p1, p2, p3⟩ := prin_bd (inst := inst) (v := z.1) MM.out (by omega) ge.1 (by omega) (by omega) kt
   obtain ⟨z1, z2, z3⟩ := z
   simp only [] at zb CS G2 p3 hj
   have GN2 := Aside0.mk G2
   have HJ2 := Aside0.mk hj
   have MM2 := Aside0.mk p3
   have CS := Aside0.mk CS
   have ZB := Aside0.mk zb
   have LB := Aside0.mk (And.intro l0 l1)
   have RA := Aside0.mk (BA.out.below (w1 := wr.drew) (Below.drew (Below.refl _ _)))
   have HADL := Aside0.mk (Blk.lt BX.out)
   have HADN := Aside0.mk gbx
   have HLG := Aside0.mk (blk_lt GG.out)
   have HNE := Aside0.mk gbg
   have DD := Aside0.mk hdd
   have BND := Aside0.mk (And.intro m0 m1)
   clear hdd hnn hz hj zb hz3 G2 p1 p2 p3 l0 l1 nb ge tt HJ m0 m1
   go_wp2_with fail
   go_region_held3 (fun W => W.cell? ⟨g, 7, none⟩ = some (.int .i64 p.rate) ∧ W.cell? ⟨gx, k, none⟩ = some (.int .i64 n)) (first | exact ⟨u7, hcx⟩ | go_keep) ((go_at_call 12; (with_reducible refine (RR.out _ RA.out).mono ?_); rintro e yy ⟨rfl, hba, hbut⟩; have u7 := (hbut.cell (p := ⟨g, 7, none⟩) HLG.out HNE.out).trans u7; have hcx := (hbut.cell (p := ⟨gx, k, none⟩) HADL.out HADN.out).trans hcx))
   have BA := Aside0.mk hba
   have HO := Aside0.mk (Kd.R_step HO.out (fun b hb hlt => hbut.block b hlt hb.2.2.2))
   have HBn := Aside0.mk (But.below (Below.drew HB.out) (by first | exact HB.out.size | (simp; exact HB.out.size)) gbge hbut)
   have BL := Aside0.mk (BL.out.same (hbut.block gl (Blk.lt BL.out) gbl))
   have BX := Aside0.mk (BX.out.same (hbut.block gx (Blk.lt BX.out) gbx))
   have GG := Aside0.mk (show yy.heap[g]? = some (.cells (pcs p A1 c1 A2 c2 A3 c3) 27 (0, 0)) from (hbut.block g HLG.out HNE.out).trans GG.out)
   have hcl : yy.cell? ⟨gl, k, none⟩ = some (.int .i64 d) := (BL.out.cell k).trans (by rw [List.getElem?_append_left (by simp [nums]; omega), ← DD.out]; simp [nums, rd, hlt])
   obtain ⟨-, -, -, u3, -, u5, u6, -⟩ := pc_cells GG.out
   clear hba hbut HB RR RA u7 hcx HADL HADN HLG HNE DD hky
   have HB := HBn
   clear HBn
   have tt := T2.out
   have zb := ZB.out
   have lb := LB.out
   have ib := IB.out
   have mb := BND.out
   have st : IntKind.i64.wrap (p.times - 1) = p.times - 1 := IntWalk.i64_in _ (by omega)
   rcases CS.out with ⟨hz2, hle⟩ | ⟨hz2, hq, hk1, hbad, hle⟩ | ⟨hz2, hq, hok, hle, hpn⟩ | ⟨hz2, hq, hg, hk1, hneg, hle⟩ | ⟨hz2, hq, hg, hpos, hle, hpn⟩ | ⟨hz2, hq, hg, hle, hpn⟩
   ·have hj := HJ2.out
    rw [hle, if_pos (by decide)] at hj
    have HJ3 := Aside0.mk hj
    clear hj hle HJ2 CS
    have hzb : (z2 != 0) = true := by rw [hz2]; decide
    subst hz2
    clear tt zb lb ib mb
    go_wp2_with fail
    go_ret2
    obtain rfl := HJ3.out
    exact ⟨none, 0, rfl, Kd.R_nil _ _ _ _ _, HB.out⟩
   ·subst hz2
    obtain ⟨ap, hap⟩ : ∃ x, left + z1 - inst = x := ⟨_, rfl⟩
    have s1 : IntKind.i64.wrap (left + z1) = left + z1 := IntWalk.i64_in _ (by omega)
    have s2 : IntKind.i64.wrap (left + z1 - inst) = ap := by rw [hap]; exact IntWalk.i64_in _ (by omega)
    have s4 : IntKind.i64.wrap (-ap) = -ap := IntWalk.i64_in _ (by omega)
    rw [hap] at hbad
    have hj := HJ2.out
    rw [hle, if_pos (by decide)] at hj
    have HJ3 := Aside0.mk hj
    clear hj hle HJ2 CS
    have hqb : ((k : Int) == p.times - 1) = true := by simpa using hq
    clear hap hq
    rcases hbad with h1 | ⟨h1, h2⟩
    all_goals
     clear tt zb lb ib mb
     go_wp2_with (first
      | ((with_reducible refine gate_dst (N := 95) rfl ?_); refine build_event rfl (t := 38) rfl (cs := #[.int .i64 d, .int .i64 0, .int .i64 z1, .int .i64 0]) ?hb ?_; (case hb => simp only [List.map_toArray, List.map_cons, List.map_nil]; exact built_day d z1))
      | ((with_reducible refine gate_dst (N := 23) rfl ?_); refine copy_event rfl (N := 23) rfl rfl rfl (t := 38) (v := .tmp 95) rfl (cs := #[.int .i64 d, .int .i64 0, .int .i64 z1, .int .i64 0]) (zs := #[.int .i64 0, .int .i64 0, .int .i64 0, .int .i64 0]) ?hr rfl rfl info_line ?hz (line_one _ _ _ _) ?_; (case hr => first | (go_simp; done) | (go_simp; rfl)); (case hz => rfl); intro gt hgt w11 hb1 hb; have gtge := (show yy.heap.size ≤ gt by rw [hgt]; exact Nat.le_refl _); have GT := Aside0.mk hb1; have HT := Aside0.mk hb; clear hgt hb1 hb hcl; obtain ⟨-, -, -, u3, -, u5, u6, -⟩ := pc_cells (Pd.blk_below GG.out HT.out); have x1 := (show w11.cell? ⟨gt, 1, none⟩ = some (.int .i64 0) from (blk_cell GT.out 1).trans rfl); have fx1 := frozen_of_row w11 gt 1 _ _ GT.out; have x3 := (show w11.cell? ⟨gt, 3, none⟩ = some (.int .i64 0) from (blk_cell GT.out 3).trans rfl); have fx3 := frozen_of_row w11 gt 3 _ _ GT.out)
      | ((with_reducible refine gate_store (t := 2) (p := 103) rfl ?_); refine put_event rfl (t := 2) (p := 103) (v := .tmp 102) rfl rfl (g := gt) (i := 1) (cs := #[.int .i64 d, .int .i64 0, .int .i64 z1, .int .i64 0]) (cs' := #[.int .i64 d, .int .i64 left, .int .i64 z1, .int .i64 0]) (x := .int .i64 left) ?hr GT.out ?hc ?_; (case hc => rfl); (case hr => go_simp); intro w12 hb8 hbut; have GT := Aside0.mk hb8; have HT := Aside0.mk (But.below HT.out HT.out.size gtge hbut); clear hb8 hbut; clear u3 u5 u6 x1 fx1 x3 fx3; obtain ⟨-, -, -, u3, -, u5, u6, -⟩ := pc_cells (Pd.blk_below GG.out HT.out); have x1 := (show w12.cell? ⟨gt, 1, none⟩ = some (.int .i64 left) from (blk_cell GT.out 1).trans rfl); have fx1 := frozen_of_row w12 gt 1 _ _ GT.out; have x3 := (show w12.cell? ⟨gt, 3, none⟩ = some (.int .i64 0) from (blk_cell GT.out 3).trans rfl); have fx3 := frozen_of_row w12 gt 3 _ _ GT.out))
     go_ret2
     obtain rfl := HJ3.out
     exact ⟨none, 0, rfl, Kd.R_nil _ _ _ _ _, below_step HB.out HT.out⟩
   ·subst hz2
    obtain ⟨ap, hap⟩ : ∃ x, left + z1 - inst = x := ⟨_, rfl⟩
    have s1 : IntKind.i64.wrap (left + z1) = left + z1 := IntWalk.i64_in _ (by omega)
    have s2 : IntKind.i64.wrap (left + z1 - inst) = ap := by rw [hap]; exact IntWalk.i64_in _ (by omega)
    have s4 : IntKind.i64.wrap (-ap) = -ap := IntWalk.i64_in _ (by omega)
    have hj := HJ2.out
    rw [hle, if_neg (by decide), hpn] at hj
    have M2 := MM2.out (by rw [hpn]; omega)
    rw [hpn] at M2
    rw [show left - left = 0 by omega] at hj M2
    have HJ3 := Aside0.mk hj
    have M3 := Aside0.mk M2
    clear hj hle HJ2 CS hpn M2 MM2
    have hqb : ((k : Int) == p.times - 1) = true := by simpa using hq
    have hok := hok KK.out
    rw [hap] at hok
    obtain ⟨h1, h2⟩ := hok
    clear hap hq
    clear tt zb lb ib mb
    go_wp2_with (first
     | ((with_reducible refine gate_dst (N := 95) rfl ?_); refine build_event rfl (t := 38) rfl (cs := #[.int .i64 d, .int .i64 0, .int .i64 z1, .int .i64 0]) ?hb ?_; (case hb => simp only [List.map_toArray, List.map_cons, List.map_nil]; exact built_day d z1))
     | ((with_reducible refine gate_dst (N := 23) rfl ?_); refine copy_event rfl (N := 23) rfl rfl rfl (t := 38) (v := .tmp 95) rfl (cs := #[.int .i64 d, .int .i64 0, .int .i64 z1, .int .i64 0]) (zs := #[.int .i64 0, .int .i64 0, .int .i64 0, .int .i64 0]) ?hr rfl rfl info_line ?hz (line_one _ _ _ _) ?_; (case hr => first | (go_simp; done) | (go_simp; rfl)); (case hz => rfl); intro gt hgt w11 hb1 hb; have gtge := (show yy.heap.size ≤ gt by rw [hgt]; exact Nat.le_refl _); have GT := Aside0.mk hb1; have HT := Aside0.mk hb; clear hgt hb1 hb hcl; obtain ⟨-, -, -, u3, -, u5, u6, -⟩ := pc_cells (Pd.blk_below GG.out HT.out); have x1 := (show w11.cell? ⟨gt, 1, none⟩ = some (.int .i64 0) from (blk_cell GT.out 1).trans rfl); have fx1 := frozen_of_row w11 gt 1 _ _ GT.out; have x3 := (show w11.cell? ⟨gt, 3, none⟩ = some (.int .i64 0) from (blk_cell GT.out 3).trans rfl); have fx3 := frozen_of_row w11 gt 3 _ _ GT.out)
     | ((with_reducible refine gate_store (t := 2) (p := 103) rfl ?_); refine put_event rfl (t := 2) (p := 103) (v := .tmp 102) rfl rfl (g := gt) (i := 1) (cs := #[.int .i64 d, .int .i64 0, .int .i64 z1, .int .i64 0]) (cs' := #[.int .i64 d, .int .i64 left, .int .i64 z1, .int .i64 0]) (x := .int .i64 left) ?hr GT.out ?hc ?_; (case hc => rfl); (case hr => go_simp); intro w12 hb8 hbut; have GT := Aside0.mk hb8; have HT := Aside0.mk (But.below HT.out HT.out.size gtge hbut); clear hb8 hbut; clear u3 u5 u6 x1 fx1 x3 fx3; obtain ⟨-, -, -, u3, -, u5, u6, -⟩ := pc_cells (Pd.blk_below GG.out HT.out); have x1 := (show w12.cell? ⟨gt, 1, none⟩ = some (.int .i64 left) from (blk_cell GT.out 1).trans rfl); have fx1 := frozen_of_row w12 gt 1 _ _ GT.out; have x3 := (show w12.cell? ⟨gt, 3, none⟩ = some (.int .i64 0) from (blk_cell GT.out 3).trans rfl); have fx3 := frozen_of_row w12 gt 3 _ _ GT.out)
     | ((with_reducible refine gate_store (t := 2) (p := 152) rfl ?_); refine put_event rfl (t := 2) (p := 152) (v := .tmp 151) rfl rfl (g := gt) (i := 3) (cs := #[.int .i64 d, .int .i64 left, .int .i64 z1, .int .i64 0]) (cs' := #[.int .i64 d, .int .i64 left, .int .i64 z1, .int .i64 0]) (x := .int .i64 0) ?hr GT.out ?hc ?_; (case hc => rfl); (case hr => go_simp); intro w14 hb8 hbut; have GT := Aside0.mk hb8; have HT := Aside0.mk (But.below HT.out HT.out.size gtge hbut); clear hb8 hbut; clear u3 u5 u6 x1 fx1 x3 fx3)
     | ((with_reducible refine gate_dst (N := 154) rfl ?_); refine wpList_load_row rfl 38 (.tmp 23) rfl gt rfl 38 _ (0, 0) _ GT.out Tryz.underlying38 rfl info_line ?_)
     | ((with_reducible refine gate_builtin (b := .append) (xs := #[.tmp 153, .tmp 155]) rfl ?_); at_builtin; refine Kd.R_append (Kd.pair (Kd.int .i64) (Kd.pair (Kd.int .i64) (Kd.pair (Kd.int .i64) (Kd.int .i64)))) (w0 := w) w.heap.size rfl (.tmp 153) (.tmp 155) 32 38 (.agg #[.int .i64 0, .int .i64 0, .int .i64 0, .int .i64 0]) 32 rfl Tryz.underlying32 info_lineb rfl (by decide) (by decide) (.slice Ax ls.length cw) ls (d, left, z1, 0) [.int .i64 d, .int .i64 left, .int .i64 z1, .int .i64 0] (fun b => b ≠ g ∧ b ≠ gl ∧ b ≠ gx ∧ b ≠ gb) (fun _ => False) rfl rfl ?aP (fun _ hk => hk.elim) ?aF ?aO ?aB ?aS ?aL ?_; (case aP => exact line_M d left z1 0); (case aF => exact fun b hb => ⟨(by have := blk_lt (Pd.blk_below GG.out HT.out); omega), (by have := Blk.lt (Blk.below BL.out HT.out); omega), (by have := Blk.lt (Blk.below BX.out HT.out); omega), (by have := (BA.out.below HT.out).lt; omega)⟩); (case aO => exact Kd.R_below HO.out HT.out); (case aB => exact below_step HB.out HT.out); (case aS => exact (below_step HB.out HT.out).size); (case aL => have := hlen.out; omega); intro v1 w15 hr1 hb1 hg1 hat1; obtain ⟨l2, hl2⟩ : ∃ l2, l2 = ls ++ [(d, left, z1, 0)] := ⟨_, rfl⟩; rw [← hl2] at hr1; obtain ⟨An, cn, rfl⟩ := Kd.R_slice hr1; have L2 := Aside0.mk hl2; have R1 := Aside0.mk hr1; have HO2 := (Kd.R_below HO.out HT.out); have BL := Aside0.mk ((Blk.below BL.out HT.out).same (hg1.block gl (Blk.lt (Blk.below BL.out HT.out)) (fun e => (HO2.1 gl e.symm).2.1 rfl))); have BX := Aside0.mk ((Blk.below BX.out HT.out).same (hg1.block gx (Blk.lt (Blk.below BX.out HT.out)) (fun e => (HO2.1 gx e.symm).2.2.1 rfl))); have BA := Aside0.mk (RefAt.same (BA.out.below HT.out) (hg1.block gb (BA.out.below HT.out).lt (fun e => (HO2.1 gb e.symm).2.2.2 rfl)) hg1.size); have GG := Aside0.mk ((hg1.block g (blk_lt (Pd.blk_below GG.out HT.out)) (fun e => (HO2.1 g e.symm).1 rfl)).trans (Pd.blk_below GG.out HT.out)); have HB := Aside0.mk hb1; clear hl2 hr1 hb1 hg1 hat1 HO2))
    have L3 := Aside0.mk (show l2.length = k + 1 by rw [L2.out, List.length_append, hlen.out]; rfl)
    go_roundg (xs.length + 1 - (k + 1))
    case measure => have := hgq.out; omega
    case rel => exact ⟨k + 1, 0, z3, _, An, cn, l2, by omega, rfl, rfl, rfl, by simp, (by first | rfl | exact decide_eq_false (by omega) | exact Bool.or_eq_false_iff.2 ⟨decide_eq_false (by omega), decide_eq_false (by omega)⟩), L3, ⟨rfl⟩, ⟨by rw [HJ3.out, L2.out]; rfl⟩, ⟨M3.out⟩, GN2, BA, R1, BL, BX, GG, HB⟩
   ·subst hz2
    obtain ⟨pr, hpr⟩ : ∃ x, partR p m inst z1 left = x := ⟨_, rfl⟩
    have PT2 := Aside0.mk (fun W => by have := PT.out W z1 left zb.1 zb.2 lb.1 lb.2; rw [hpr] at this; exact this)
    rw [hpr] at hneg
    have hj := HJ2.out
    rw [hle, if_pos (by decide)] at hj
    have HJ3 := Aside0.mk hj
    clear hj hle HJ2 CS
    have hqb : ((k : Int) == p.times - 1) = false := by simpa using hq
    clear hpr hq
    clear tt zb lb ib mb
    go_wp2_with (first
     | ((with_reducible refine gate_dst (N := 95) rfl ?_); refine build_event rfl (t := 38) rfl (cs := #[.int .i64 d, .int .i64 0, .int .i64 z1, .int .i64 0]) ?hb ?_; (case hb => simp only [List.map_toArray, List.map_cons, List.map_nil]; exact built_day d z1))
     | ((with_reducible refine gate_dst (N := 23) rfl ?_); refine copy_event rfl (N := 23) rfl rfl rfl (t := 38) (v := .tmp 95) rfl (cs := #[.int .i64 d, .int .i64 0, .int .i64 z1, .int .i64 0]) (zs := #[.int .i64 0, .int .i64 0, .int .i64 0, .int .i64 0]) ?hr rfl rfl info_line ?hz (line_one _ _ _ _) ?_; (case hr => first | (go_simp; done) | (go_simp; rfl)); (case hz => rfl); intro gt hgt w11 hb1 hb; have gtge := (show yy.heap.size ≤ gt by rw [hgt]; exact Nat.le_refl _); have GT := Aside0.mk hb1; have HT := Aside0.mk hb; clear hgt hb1 hb hcl; obtain ⟨-, -, -, u3, -, u5, u6, -⟩ := pc_cells (Pd.blk_below GG.out HT.out); have x1 := (show w11.cell? ⟨gt, 1, none⟩ = some (.int .i64 0) from (blk_cell GT.out 1).trans rfl); have fx1 := frozen_of_row w11 gt 1 _ _ GT.out; have x3 := (show w11.cell? ⟨gt, 3, none⟩ = some (.int .i64 0) from (blk_cell GT.out 3).trans rfl); have fx3 := frozen_of_row w11 gt 3 _ _ GT.out)
     | ((with_reducible refine gate_dst (N := 128) rfl ?_); refine wpList_load_row rfl 27 (.tmp 3) rfl g rfl 27 _ (0, 0) _ (Pd.blk_below GG.out HT.out) Tryz.underlying27 rfl info_prod ?_)
     | (go_at_call 22; (with_reducible refine (PT2.out _).mono ?_); rintro e w13 ⟨rfl, hb⟩; have HT := Aside0.mk (below_step HT.out hb); have GT := Aside0.mk (Pd.blk_below GT.out hb); clear hb; clear u3 u5 u6 x1 fx1 x3 fx3; obtain ⟨-, -, -, u3, -, u5, u6, -⟩ := pc_cells (Pd.blk_below GG.out HT.out); have x1 := (show w13.cell? ⟨gt, 1, none⟩ = some (.int .i64 0) from (blk_cell GT.out 1).trans rfl); have fx1 := frozen_of_row w13 gt 1 _ _ GT.out; have x3 := (show w13.cell? ⟨gt, 3, none⟩ = some (.int .i64 0) from (blk_cell GT.out 3).trans rfl); have fx3 := frozen_of_row w13 gt 3 _ _ GT.out)
     | ((with_reducible refine gate_store (t := 2) (p := 134) rfl ?_); refine put_event rfl (t := 2) (p := 134) (v := .tmp 133) rfl rfl (g := gt) (i := 1) (cs := #[.int .i64 d, .int .i64 0, .int .i64 z1, .int .i64 0]) (cs' := #[.int .i64 d, .int .i64 pr, .int .i64 z1, .int .i64 0]) (x := .int .i64 pr) ?hr GT.out ?hc ?_; (case hc => rfl); (case hr => go_simp); intro w12 hb8 hbut; have GT := Aside0.mk hb8; have HT := Aside0.mk (But.below HT.out HT.out.size gtge hbut); clear hb8 hbut; clear u3 u5 u6 x1 fx1 x3 fx3; obtain ⟨-, -, -, u3, -, u5, u6, -⟩ := pc_cells (Pd.blk_below GG.out HT.out); have x1 := (show w12.cell? ⟨gt, 1, none⟩ = some (.int .i64 pr) from (blk_cell GT.out 1).trans rfl); have fx1 := frozen_of_row w12 gt 1 _ _ GT.out; have x3 := (show w12.cell? ⟨gt, 3, none⟩ = some (.int .i64 0) from (blk_cell GT.out 3).trans rfl); have fx3 := frozen_of_row w12 gt 3 _ _ GT.out))
    go_ret2
    obtain rfl := HJ3.out
    exact ⟨none, 0, rfl, Kd.R_nil _ _ _ _ _, below_step HB.out HT.out⟩
   ·subst hz2
    obtain ⟨pr, hpr⟩ : ∃ x, partR p m inst z1 left = x := ⟨_, rfl⟩
    have PT2 := Aside0.mk (fun W => by have := PT.out W z1 left zb.1 zb.2 lb.1 lb.2; rw [hpr] at this; exact this)
    rw [hpr] at hpos hpn
    have hj := HJ2.out
    rw [hle, if_neg (by decide), hpn] at hj
    have M2 := MM2.out (by rw [hpn]; exact hpos)
    rw [hpn] at M2
    have HJ3 := Aside0.mk hj
    have M3 := Aside0.mk M2
    clear hj hle HJ2 CS hpn M2 MM2
    have hqb : ((k : Int) == p.times - 1) = false := by simpa using hq
    have s3 : IntKind.i64.wrap (left - pr) = left - pr := by have := M3.out.l0; have := M3.out.l1; exact IntWalk.i64_in _ (by omega)
    clear hpr hq
    clear tt zb lb ib mb
    go_wp2_with (first
     | ((with_reducible refine gate_dst (N := 95) rfl ?_); refine build_event rfl (t := 38) rfl (cs := #[.int .i64 d, .int .i64 0, .int .i64 z1, .int .i64 0]) ?hb ?_; (case hb => simp only [List.map_toArray, List.map_cons, List.map_nil]; exact built_day d z1))
     | ((with_reducible refine gate_dst (N := 23) rfl ?_); refine copy_event rfl (N := 23) rfl rfl rfl (t := 38) (v := .tmp 95) rfl (cs := #[.int .i64 d, .int .i64 0, .int .i64 z1, .int .i64 0]) (zs := #[.int .i64 0, .int .i64 0, .int .i64 0, .int .i64 0]) ?hr rfl rfl info_line ?hz (line_one _ _ _ _) ?_; (case hr => first | (go_simp; done) | (go_simp; rfl)); (case hz => rfl); intro gt hgt w11 hb1 hb; have gtge := (show yy.heap.size ≤ gt by rw [hgt]; exact Nat.le_refl _); have GT := Aside0.mk hb1; have HT := Aside0.mk hb; clear hgt hb1 hb hcl; obtain ⟨-, -, -, u3, -, u5, u6, -⟩ := pc_cells (Pd.blk_below GG.out HT.out); have x1 := (show w11.cell? ⟨gt, 1, none⟩ = some (.int .i64 0) from (blk_cell GT.out 1).trans rfl); have fx1 := frozen_of_row w11 gt 1 _ _ GT.out; have x3 := (show w11.cell? ⟨gt, 3, none⟩ = some (.int .i64 0) from (blk_cell GT.out 3).trans rfl); have fx3 := frozen_of_row w11 gt 3 _ _ GT.out)
     | ((with_reducible refine gate_dst (N := 128) rfl ?_); refine wpList_load_row rfl 27 (.tmp 3) rfl g rfl 27 _ (0, 0) _ (Pd.blk_below GG.out HT.out) Tryz.underlying27 rfl info_prod ?_)
     | (go_at_call 22; (with_reducible refine (PT2.out _).mono ?_); rintro e w13 ⟨rfl, hb⟩; have HT := Aside0.mk (below_step HT.out hb); have GT := Aside0.mk (Pd.blk_below GT.out hb); clear hb; clear u3 u5 u6 x1 fx1 x3 fx3; obtain ⟨-, -, -, u3, -, u5, u6, -⟩ := pc_cells (Pd.blk_below GG.out HT.out); have x1 := (show w13.cell? ⟨gt, 1, none⟩ = some (.int .i64 0) from (blk_cell GT.out 1).trans rfl); have fx1 := frozen_of_row w13 gt 1 _ _ GT.out; have x3 := (show w13.cell? ⟨gt, 3, none⟩ = some (.int .i64 0) from (blk_cell GT.out 3).trans rfl); have fx3 := frozen_of_row w13 gt 3 _ _ GT.out)
     | ((with_reducible refine gate_store (t := 2) (p := 134) rfl ?_); refine put_event rfl (t := 2) (p := 134) (v := .tmp 133) rfl rfl (g := gt) (i := 1) (cs := #[.int .i64 d, .int .i64 0, .int .i64 z1, .int .i64 0]) (cs' := #[.int .i64 d, .int .i64 pr, .int .i64 z1, .int .i64 0]) (x := .int .i64 pr) ?hr GT.out ?hc ?_; (case hc => rfl); (case hr => go_simp); intro w12 hb8 hbut; have GT := Aside0.mk hb8; have HT := Aside0.mk (But.below HT.out HT.out.size gtge hbut); clear hb8 hbut; clear u3 u5 u6 x1 fx1 x3 fx3; obtain ⟨-, -, -, u3, -, u5, u6, -⟩ := pc_cells (Pd.blk_below GG.out HT.out); have x1 := (show w12.cell? ⟨gt, 1, none⟩ = some (.int .i64 pr) from (blk_cell GT.out 1).trans rfl); have fx1 := frozen_of_row w12 gt 1 _ _ GT.out; have x3 := (show w12.cell? ⟨gt, 3, none⟩ = some (.int .i64 0) from (blk_cell GT.out 3).trans rfl); have fx3 := frozen_of_row w12 gt 3 _ _ GT.out)
     | ((with_reducible refine gate_store (t := 2) (p := 152) rfl ?_); refine put_event rfl (t := 2) (p := 152) (v := .tmp 151) rfl rfl (g := gt) (i := 3) (cs := #[.int .i64 d, .int .i64 pr, .int .i64 z1, .int .i64 0]) (cs' := #[.int .i64 d, .int .i64 pr, .int .i64 z1, .int .i64 (left - pr)]) (x := .int .i64 (left - pr)) ?hr GT.out ?hc ?_; (case hc => rfl); (case hr => go_simp); intro w14 hb8 hbut; have GT := Aside0.mk hb8; have HT := Aside0.mk (But.below HT.out HT.out.size gtge hbut); clear hb8 hbut; clear u3 u5 u6 x1 fx1 x3 fx3)
     | ((with_reducible refine gate_dst (N := 154) rfl ?_); refine wpList_load_row rfl 38 (.tmp 23) rfl gt rfl 38 _ (0, 0) _ GT.out Tryz.underlying38 rfl info_line ?_)
     | ((with_reducible refine gate_builtin (b := .append) (xs := #[.tmp 153, .tmp 155]) rfl ?_); at_builtin; refine Kd.R_append (Kd.pair (Kd.int .i64) (Kd.pair (Kd.int .i64) (Kd.pair (Kd.int .i64) (Kd.int .i64)))) (w0 := w) w.heap.size rfl (.tmp 153) (.tmp 155) 32 38 (.agg #[.int .i64 0, .int .i64 0, .int .i64 0, .int .i64 0]) 32 rfl Tryz.underlying32 info_lineb rfl (by decide) (by decide) (.slice Ax ls.length cw) ls (d, pr, z1, (left - pr)) [.int .i64 d, .int .i64 pr, .int .i64 z1, .int .i64 (left - pr)] (fun b => b ≠ g ∧ b ≠ gl ∧ b ≠ gx ∧ b ≠ gb) (fun _ => False) rfl rfl ?aP (fun _ hk => hk.elim) ?aF ?aO ?aB ?aS ?aL ?_; (case aP => exact line_M d pr z1 (left - pr)); (case aF => exact fun b hb => ⟨(by have := blk_lt (Pd.blk_below GG.out HT.out); omega), (by have := Blk.lt (Blk.below BL.out HT.out); omega), (by have := Blk.lt (Blk.below BX.out HT.out); omega), (by have := (BA.out.below HT.out).lt; omega)⟩); (case aO => exact Kd.R_below HO.out HT.out); (case aB => exact below_step HB.out HT.out); (case aS => exact (below_step HB.out HT.out).size); (case aL => have := hlen.out; omega); intro v1 w15 hr1 hb1 hg1 hat1; obtain ⟨l2, hl2⟩ : ∃ l2, l2 = ls ++ [(d, pr, z1, (left - pr))] := ⟨_, rfl⟩; rw [← hl2] at hr1; obtain ⟨An, cn, rfl⟩ := Kd.R_slice hr1; have L2 := Aside0.mk hl2; have R1 := Aside0.mk hr1; have HO2 := (Kd.R_below HO.out HT.out); have BL := Aside0.mk ((Blk.below BL.out HT.out).same (hg1.block gl (Blk.lt (Blk.below BL.out HT.out)) (fun e => (HO2.1 gl e.symm).2.1 rfl))); have BX := Aside0.mk ((Blk.below BX.out HT.out).same (hg1.block gx (Blk.lt (Blk.below BX.out HT.out)) (fun e => (HO2.1 gx e.symm).2.2.1 rfl))); have BA := Aside0.mk (RefAt.same (BA.out.below HT.out) (hg1.block gb (BA.out.below HT.out).lt (fun e => (HO2.1 gb e.symm).2.2.2 rfl)) hg1.size); have GG := Aside0.mk ((hg1.block g (blk_lt (Pd.blk_below GG.out HT.out)) (fun e => (HO2.1 g e.symm).1 rfl)).trans (Pd.blk_below GG.out HT.out)); have HB := Aside0.mk hb1; clear hl2 hr1 hb1 hg1 hat1 HO2))
    have L3 := Aside0.mk (show l2.length = k + 1 by rw [L2.out, List.length_append, hlen.out]; rfl)
    go_roundg (xs.length + 1 - (k + 1))
    case measure => have := hgq.out; omega
    case rel => exact ⟨k + 1, (left - pr), z3, _, An, cn, l2, by omega, rfl, rfl, rfl, by simp, (by first | rfl | exact decide_eq_false (by omega) | exact Bool.or_eq_false_iff.2 ⟨decide_eq_false (by omega), decide_eq_false (by omega)⟩), L3, ⟨rfl⟩, ⟨by rw [HJ3.out, L2.out]; rfl⟩, ⟨M3.out⟩, GN2, BA, R1, BL, BX, GG, HB⟩
   ·subst hz2
    have hj := HJ2.out
    rw [hle, if_neg (by decide), hpn] at hj
    have M2 := MM2.out (by rw [hpn]; omega)
    rw [hpn] at M2
    rw [Int.sub_zero] at hj M2
    have HJ3 := Aside0.mk hj
    have M3 := Aside0.mk M2
    clear hj hle HJ2 CS hpn M2 MM2
    have hqb : ((k : Int) == p.times - 1) = false := by simpa using hq
    have s3 : IntKind.i64.wrap left = left := IntWalk.i64_in _ (by omega)
    clear hq
    clear tt zb lb ib mb
    go_wp2_with (first
     | ((with_reducible refine gate_dst (N := 95) rfl ?_); refine build_event rfl (t := 38) rfl (cs := #[.int .i64 d, .int .i64 0, .int .i64 z1, .int .i64 0]) ?hb ?_; (case hb => simp only [List.map_toArray, List.map_cons, List.map_nil]; exact built_day d z1))
     | ((with_reducible refine gate_dst (N := 23) rfl ?_); refine copy_event rfl (N := 23) rfl rfl rfl (t := 38) (v := .tmp 95) rfl (cs := #[.int .i64 d, .int .i64 0, .int .i64 z1, .int .i64 0]) (zs := #[.int .i64 0, .int .i64 0, .int .i64 0, .int .i64 0]) ?hr rfl rfl info_line ?hz (line_one _ _ _ _) ?_; (case hr => first | (go_simp; done) | (go_simp; rfl)); (case hz => rfl); intro gt hgt w11 hb1 hb; have gtge := (show yy.heap.size ≤ gt by rw [hgt]; exact Nat.le_refl _); have GT := Aside0.mk hb1; have HT := Aside0.mk hb; clear hgt hb1 hb hcl; obtain ⟨-, -, -, u3, -, u5, u6, -⟩ := pc_cells (Pd.blk_below GG.out HT.out); have x1 := (show w11.cell? ⟨gt, 1, none⟩ = some (.int .i64 0) from (blk_cell GT.out 1).trans rfl); have fx1 := frozen_of_row w11 gt 1 _ _ GT.out; have x3 := (show w11.cell? ⟨gt, 3, none⟩ = some (.int .i64 0) from (blk_cell GT.out 3).trans rfl); have fx3 := frozen_of_row w11 gt 3 _ _ GT.out)
     | ((with_reducible refine gate_store (t := 2) (p := 152) rfl ?_); refine put_event rfl (t := 2) (p := 152) (v := .tmp 151) rfl rfl (g := gt) (i := 3) (cs := #[.int .i64 d, .int .i64 0, .int .i64 z1, .int .i64 0]) (cs' := #[.int .i64 d, .int .i64 0, .int .i64 z1, .int .i64 left]) (x := .int .i64 left) ?hr GT.out ?hc ?_; (case hc => rfl); (case hr => go_simp); intro w14 hb8 hbut; have GT := Aside0.mk hb8; have HT := Aside0.mk (But.below HT.out HT.out.size gtge hbut); clear hb8 hbut; clear u3 u5 u6 x1 fx1 x3 fx3)
     | ((with_reducible refine gate_dst (N := 154) rfl ?_); refine wpList_load_row rfl 38 (.tmp 23) rfl gt rfl 38 _ (0, 0) _ GT.out Tryz.underlying38 rfl info_line ?_)
     | ((with_reducible refine gate_builtin (b := .append) (xs := #[.tmp 153, .tmp 155]) rfl ?_); at_builtin; refine Kd.R_append (Kd.pair (Kd.int .i64) (Kd.pair (Kd.int .i64) (Kd.pair (Kd.int .i64) (Kd.int .i64)))) (w0 := w) w.heap.size rfl (.tmp 153) (.tmp 155) 32 38 (.agg #[.int .i64 0, .int .i64 0, .int .i64 0, .int .i64 0]) 32 rfl Tryz.underlying32 info_lineb rfl (by decide) (by decide) (.slice Ax ls.length cw) ls (d, 0, z1, left) [.int .i64 d, .int .i64 0, .int .i64 z1, .int .i64 left] (fun b => b ≠ g ∧ b ≠ gl ∧ b ≠ gx ∧ b ≠ gb) (fun _ => False) rfl rfl ?aP (fun _ hk => hk.elim) ?aF ?aO ?aB ?aS ?aL ?_; (case aP => exact line_M d 0 z1 left); (case aF => exact fun b hb => ⟨(by have := blk_lt (Pd.blk_below GG.out HT.out); omega), (by have := Blk.lt (Blk.below BL.out HT.out); omega), (by have := Blk.lt (Blk.below BX.out HT.out); omega), (by have := (BA.out.below HT.out).lt; omega)⟩); (case aO => exact Kd.R_below HO.out HT.out); (case aB => exact below_step HB.out HT.out); (case aS => exact (below_step HB.out HT.out).size); (case aL => have := hlen.out; omega); intro v1 w15 hr1 hb1 hg1 hat1; obtain ⟨l2, hl2⟩ : ∃ l2, l2 = ls ++ [(d, 0, z1, left)] := ⟨_, rfl⟩; rw [← hl2] at hr1; obtain ⟨An, cn, rfl⟩ := Kd.R_slice hr1; have L2 := Aside0.mk hl2; have R1 := Aside0.mk hr1; have HO2 := (Kd.R_below HO.out HT.out); have BL := Aside0.mk ((Blk.below BL.out HT.out).same (hg1.block gl (Blk.lt (Blk.below BL.out HT.out)) (fun e => (HO2.1 gl e.symm).2.1 rfl))); have BX := Aside0.mk ((Blk.below BX.out HT.out).same (hg1.block gx (Blk.lt (Blk.below BX.out HT.out)) (fun e => (HO2.1 gx e.symm).2.2.1 rfl))); have BA := Aside0.mk (RefAt.same (BA.out.below HT.out) (hg1.block gb (BA.out.below HT.out).lt (fun e => (HO2.1 gb e.symm).2.2.2 rfl)) hg1.size); have GG := Aside0.mk ((hg1.block g (blk_lt (Pd.blk_below GG.out HT.out)) (fun e => (HO2.1 g e.symm).1 rfl)).trans (Pd.blk_below GG.out HT.out)); have HB := Aside0.mk hb1; clear hl2 hr1 hb1 hg1 hat1 HO2))
    have L3 := Aside0.mk (show l2.length = k + 1 by rw [L2.out, List.length_append, hlen.out]; rfl)
    go_roundg (xs.length + 1 - (k + 1))
    case measure => have := hgq.out; omega
    case rel => exact ⟨k + 1, left, z3, _, An, cn, l2, by omega, rfl, rfl, rfl, by simp, (by first | rfl | exact decide_eq_false (by omega) | exact Bool.or_eq_false_iff.2 ⟨decide_eq_false (by omega), decide_eq_false (by omega)⟩), L3, ⟨rfl⟩, ⟨by rw [HJ3.out, L2.out]; rfl⟩, ⟨M3.out⟩, GN2, BA, R1, BL, BX, GG, HB⟩
  ·have hj := HJ.out
   rw [List.drop_of_length_le (by rw [HZD.out]; omega), lines, join, if_pos rfl, List.append_nil] at hj
   have HJ2 := Aside0.mk hj
   have kt : p.times ≤ (k : Int) := by have := HLT.out; omega
   clear hj HJ
   go_wp2_with fail
   go_ret2
   obtain rfl := HJ2.out
   exact ⟨Ax, cw, rfl, Kd.R_mono HO.out (fun _ _ => trivial), HB.out⟩
end Go.Proofs.YtfmkdledofbhdaaGreat.Sc
/- Contracts by hand: the document's schedule (its lines). -/
namespace Go.Proofs.YtfmkdledofbhdaaGreat.Sc
open Go.RowKit Go.Proofs.YtfmkdledofbhdaaGreatW.PrintWords Go.Proofs.YtfmkdledofbhdaaGreatW.PrintLast Go.Proofs.YtfmkdledofbhdaaGreatW.PrintMore Go.Proofs.YtfmkdledofbhdaaGreat.HW
open Go.Proofs.YtfmkdledofbhdaaGreat.Math Go.Proofs.YtfmkdledofbhdaaGreat.H Go.Proofs.YtfmkdledofbhdaaGreat.Pd Go.Proofs.YtfmkdledofbhdaaGreat.Du Go.Proofs.YtfmkdledofbhdaaGreat.Lv Pm
set_option linter.unusedVariables false
set_option linter.unusedSimpArgs false
attribute [local go_sem] max2_int min2_int max_two min_two
set_option maxRecDepth 100000 in
set_option maxHeartbeats 20000000 in
theorem rsched_two (p : Prod) (A1 : Option Addr) (c1 : Nat) (A2 : Option Addr) (c2 : Nat) (A3 : Option Addr) (c3 : Nat) (start m inst : Int) (w : World) (hp : ProdAt w p A1 c1 A2 c2 A3 c3) (hs : Held p) (hh : p.hol.length ≤ 1000000) (xs ys : List Int) (hd : daysP p start = (xs, 0)) (hpx : partsP p start = (ys, 0)) (hxl : xs.length ≤ 600) (m0 : 1 ≤ m) (m1 : m ≤ 10000000000000) (hi : p.kind ≠ 1 ∧ inst = 0) :
  Calls Tryz.prog 8 #[pv p A1 c1 A2 c2 A3 c3, .int .i64 start, .int .i64 m] w (Sched (linesP p start m inst) w) := by
 obtain ⟨ho, hs0, hds, hl, t1, t2, hr, -⟩ := days_known hd
 obtain ⟨hyl, hyb⟩ := parts_fit hd hpx
 have hJ : linesP p start m inst = join [] (lines p (Gm.whole p.count) (Gm.half p.count p.round) m inst 0 (xs.zip ys) m 0) := by
  unfold linesP
  rw [hd, hpx]
  exact (join_nil _ (lines_err _ _ _ _ _ _ _ _ _)).symm
 obtain ⟨⟨⟨⟨⟨_, a2, a3, a4, a5, a6, a7, a8⟩, ⟨b1, b2, b3⟩, b4⟩, c⟩, d_⟩, e_⟩ := (ok_iff p).1 ho
 have hne : xs ≠ [] := fun e => by rw [e] at hl; simp at hl; omega
 have hne2 : ys ≠ [] := fun e => by rw [e] at hyl; simp at hyl; exact hne (List.eq_nil_of_length_eq_zero hyl.symm)
 have ib : 0 ≤ inst ∧ inst ≤ 1000000000000000 := by
  have := hi.2; omega
 have MM := Aside0.mk (show Mid p m 0 m from ⟨by omega, by omega, fun _ _ => by rw [show max 0 (0 - p.grace) = 0 by omega]; omega⟩)
 obtain ⟨up, hup⟩ : ∃ up : Bool, p.round = 1 ∧ up = true ∨ p.round = 3 ∧ up = false := by
  rcases (show p.round = 1 ∨ p.round = 3 by omega) with h | h
  ·exact ⟨true, .inl ⟨h, rfl⟩⟩
  ·exact ⟨false, .inr ⟨h, rfl⟩⟩
 have NW := Aside0.mk (fun W => H.rnew_any (c := p.count) (r := p.round) (up := up) (by omega) hup W)
 have GN := good_new p.count p.round
 have HH := Aside0.mk (show up = true ∧ Gm.whole p.count = 2 * Gm.half p.count p.round ∨ up = false ∧ Gm.half p.count p.round = 0 by
  rcases hup with ⟨h, h2⟩ | ⟨h, h2⟩
  ·rw [h]; exact .inl ⟨h2, (Gm.half_one p.count).symm⟩
  ·exact .inr ⟨h2, Gm.half_no (by omega)⟩)
 have HPW := Aside0.mk (show Gm.whole p.count = 1000000000 * Gm.gp p.count from rfl)
 have GPB := Aside0.mk (gp_bd p.count)
 have DA := Aside0.mk (fun W (hb : Below w.heap.size w W) => show Calls Tryz.prog 20 #[pv p A1 c1 A2 c2 A3 c3, .int .i64 start] W (Listed1 xs W) from (Du.rdays_any p A1 c1 A2 c2 A3 c3 start W (hp.below hb) hs hh).mono fun e w' h => by rw [hd] at h; exact h.one hne)
 have PA := Aside0.mk (fun W (hb : Below w.heap.size w W) => show Calls Tryz.prog 10 #[pv p A1 c1 A2 c2 A3 c3, .int .i64 start] W (ListedL1 ys W) from (Du.rparts_any p A1 c1 A2 c2 A3 c3 start W (hp.below hb) hs hh).mono fun e w' h => by rw [hpx] at h; exact listed_one h hne2)
 obtain ⟨R, hR⟩ : ∃ R, linesP p start m inst = R := ⟨_, rfl⟩
 rw [hR] at hJ ⊢
 obtain ⟨Wh, hWh⟩ : ∃ y, Gm.whole p.count = y := ⟨_, rfl⟩
 obtain ⟨Hf, hHf⟩ : ∃ y, Gm.half p.count p.round = y := ⟨_, rfl⟩
 obtain ⟨Pp, hPp⟩ : ∃ y, Gm.gp p.count = y := ⟨_, rfl⟩
 rw [hWh, hHf] at GN hJ HH
 rw [hWh, hPp] at HPW
 rw [hPp] at GPB
 have HPp := Aside0.mk hPp
 have RB := Aside0.mk (fun (W : World) (gb : Nat) (bal rest n : Int) (G : H.Good Wh Hf rest) (RA : RefAt W gb Pp up rest) => rbear_any (bal := bal) (rate := p.rate) (n := n) RA GPB.out.1 GPB.out.2 HPW.out HH.out G)
 have GN := Aside0.mk GN
 have HJ := Aside0.mk hJ
 have kk : (p.kind == 1) = false := by simpa using hi.1
 have KK := Aside0.mk hi.1
 have HYL := Aside0.mk hyl
 have HYB := Aside0.mk hyb
 have T2 := Aside0.mk (And.intro t1 t2)
 have HLT := Aside0.mk hl
 have G0 := Aside0.mk a7
 have RT := Aside0.mk (show 0 ≤ p.rate ∧ p.rate ≤ 1000000000 by omega)
 have IB := Aside0.mk ib
 have PT := Aside0.mk (fun (W : World) (v left : Int) => part_any p A1 c1 A2 c2 A3 c3 m 0 v left W (by omega) (by omega) t2 (by omega) m1 (by omega) (by omega))
 obtain rfl := hi.2
 clear hp hs hh hd hpx hJ hR hWh hHf hPp ho hs0 hds hr a2 a3 a4 a5 a6 a8 b1 b2 b3 b4 c d_ e_ hne hne2 hi hyl hyb hl t1 t2 a7 hup HH HPW GPB ib
 go_enter Tryz.func8, Tryz.ntmps8
 go_wp2_with (first
  | ((with_reducible refine gate_dst (N := 3) rfl ?_); refine box_event ?hg (N := 3) ?hd (cs := pcs p A1 c1 A2 c2 A3 c3) (t := 27) ?hr ?_; (case hd => rfl); (case hg => rfl); (case hr => first | (go_simp; done) | (go_simp; rfl)); intro g hg w1 hb1 hbl1; have gge := (show w.heap.size ≤ g by rw [hg]; exact Nat.le_refl _); clear hg; have GG := Aside0.mk hb1; have HB := Aside0.mk hbl1; clear hb1 hbl1)
  | ((with_reducible refine gate_dst (N := 26) rfl ?_); refine wpList_load_row rfl 27 (.tmp 3) rfl g rfl 27 _ (0, 0) _ GG.out Tryz.underlying27 rfl info_prod ?_)
  | (go_at_call 20; (with_reducible refine (DA.out _ HB.out).mono ?_); rintro e w2 ⟨gl, cl, tl, rfl, gle, lc, hbk, hb⟩; have BL := Aside0.mk hbk; have glge := Nat.le_trans HB.out.size gle; have HB := Aside0.mk (below_step HB.out hb); have GG := Aside0.mk (Pd.blk_below GG.out hb); clear hb hbk)
  | ((with_reducible refine gate_dst (N := 41) rfl ?_); refine wpList_load_row rfl 27 (.tmp 3) rfl g rfl 27 _ (0, 0) _ GG.out Tryz.underlying27 rfl info_prod ?_)
  | (go_at_call 10; (with_reducible refine (PA.out _ HB.out).mono ?_); rintro e w3 ⟨gx, cx, tx, rfl, gxe, xc, hbk, hb⟩; have BX := Aside0.mk hbk; have gxge := Nat.le_trans HB.out.size gxe; have BL := Aside0.mk (Blk.below BL.out hb); have HB := Aside0.mk (below_step HB.out hb); have GG := Aside0.mk (Pd.blk_below GG.out hb); clear hb hbk; obtain ⟨-, u1, u2, u3, -⟩ := pc_cells GG.out)
  | ((with_reducible refine gate_dst (N := 50) rfl ?_); refine wpList_load_row rfl 27 (.tmp 3) rfl g rfl 27 _ (0, 0) _ GG.out Tryz.underlying27 rfl info_prod ?_)
  | (go_at_call 11; (with_reducible refine (NW.out _).mono ?_); rintro e w7 ⟨hb, gb, hgb, rfl, hba⟩; rw [HPp.out] at hba; have gbge := Nat.le_trans HB.out.size hgb; have gbl := (show gl ≠ gb by have := Blk.lt BL.out; omega); have gbx := (show gx ≠ gb by have := Blk.lt BX.out; omega); have gbg := (show g ≠ gb by have := blk_lt GG.out; omega); have BA := Aside0.mk hba; have BL := Aside0.mk (Blk.below BL.out hb); have BX := Aside0.mk (Blk.below BX.out hb); have HB := Aside0.mk (below_step HB.out hb); have GG := Aside0.mk (Pd.blk_below GG.out hb); clear hb hba hgb u1 u2 u3))
 have HZD := Aside0.mk (List.length_zip (l₁ := xs) (l₂ := ys))
 go_loopg [17, 18, 19, 20] (xs.length + 1) (fun gq lv sv ov iv w' => ∃ (k : Nat) (left rest : Int) (s : Bool) (Ax : Option Addr) (cw : Nat) (ls : List Ln), k ≤ xs.length ∧ lv = .int .i64 left ∧ sv = .bool s ∧ ov = .slice Ax ls.length cw ∧ iv = .int .i64 (k : Int) ∧ Aside0 (ls.length = k) ∧ Aside0 (gq = xs.length + 1 - k) ∧ Aside0 (R = join ls (lines p Wh Hf m 0 (k : Int) ((xs.zip ys).drop k) left rest)) ∧ Aside0 (Mid p m (k : Int) left) ∧ Aside0 (H.Good Wh Hf rest) ∧ Aside0 (RefAt w' gb Pp up rest) ∧ Aside0 (Kd.R (Kd.pair (Kd.int .i64) (Kd.pair (Kd.int .i64) (Kd.pair (Kd.int .i64) (Kd.int .i64)))) 38 w' w.heap.size (fun b => b ≠ g ∧ b ≠ gl ∧ b ≠ gx ∧ b ≠ gb) (.slice Ax ls.length cw) ls) ∧ Aside0 (H.Blk w' gl 3 (nums .i64 xs ++ tl)) ∧ Aside0 (H.Blk w' gx 2 (nums .i64 ys ++ tx)) ∧ Aside0 (w'.heap[g]? = some (.cells (pcs p A1 c1 A2 c2 A3 c3) 27 (0, 0))) ∧ Aside0 (Below w.heap.size w w'))
 case atStart => exact ⟨0, m, 0, false, none, 0, [], by omega, rfl, rfl, rfl, rfl, ⟨rfl⟩, ⟨rfl⟩, ⟨by rw [List.drop_zero]; exact HJ.out⟩, MM, GN, BA, ⟨Kd.R_nil _ _ _ _ _⟩, BL, BX, GG, HB⟩
 case round =>
  obtain ⟨k, left, rest, s, Ax, cw, ls, hk, rfl, rfl, rfl, rfl, hlen, hgq, HJ, MM, GN, BA, HO, BL, BX, GG, HB⟩ := hrel
  obtain ⟨-, -, -, -, -, u5, -, u7, -⟩ := pc_cells GG.out
  by_cases hlt : k < xs.length
  ·obtain ⟨d, hdd⟩ : ∃ d, rd xs (k : Int) = d := ⟨_, rfl⟩
   obtain ⟨n, hnn⟩ : ∃ n, rd ys (k : Int) = n := ⟨_, rfl⟩
   have hkl : k < ys.length := by have := HYL.out; omega
   have hcx : wr.cell? ⟨gx, k, none⟩ = some (.int .i64 n) := (BX.out.cell k).trans (by rw [List.getElem?_append_left (by simp [nums]; omega), ← hnn]; simp [nums, rd, hkl])
   have hkx : (k : Int) < (xs.length : Int) := by omega
   have hky : (k : Int) < (ys.length : Int) := by omega
   have kt : (k : Int) < p.times := by have := HLT.out; omega
   have nb := HYB.out n (by rw [← hnn]; exact rd_mem hkl)
   obtain ⟨z, hz⟩ : ∃ z, Gm.bear Wh Hf rest left p.rate n = z := ⟨_, rfl⟩
   have hj := HJ.out
   rw [zip_drop hlt HYL.out, hdd, hnn, lines_cons hz] at hj
   have l0 := MM.out.l0
   have l1 : left ≤ 10000000000000 := by have := MM.out.l1; omega
   have zb := bear_bdL (rate := p.rate) (n := n) GN.out l0 (show left ≤ 1000000000000000 by omega)
   have hz3 := bear_code (W := Wh) (h := Hf) (rest := rest) (bal := left) (rate := p.rate) (n := n) ⟨l0, by omega, RT.out.1, RT.out.2, nb.1, nb.2⟩
   have G2 := good_bear (bal := left) (rate := p.rate) (n := n) GN.out
   have RR := Aside0.mk (fun W RA => RB.out W gb left rest n GN.out RA)
   rw [hz] at zb hz3 G2 RR
   have ge := G0.out
   have tt := T2.out
   have CS := line_cases (inst := 0) hz3 MM.out (by omega) ge.1 (by omega) (by omega) kt
   obtain ⟨p1, p2, p3⟩ := prin_bd (inst := 0) (v := z.1) MM.out (by omega) ge.1 (by omega) (by omega) kt
   obtain ⟨z1, z2, z3⟩ := z
   simp only [] at zb CS G2 p3 hj
   have GN2 := Aside0.mk G2
   have HJ2 := Aside0.mk hj
   have MM2 := Aside0.mk p3
   have CS := Aside0.mk CS
   have ZB := Aside0.mk zb
   have LB := Aside0.mk (And.intro l0 l1)
   have RA := Aside0.mk (BA.out.below (w1 := wr.drew) (Below.drew (Below.refl _ _)))
   have HADL := Aside0.mk (Blk.lt BX.out)
   have HADN := Aside0.mk gbx
   have HLG := Aside0.mk (blk_lt GG.out)
   have HNE := Aside0.mk gbg
   have DD := Aside0.mk hdd
   have BND := Aside0.mk (And.intro m0 m1)
   clear hdd hnn hz hj zb hz3 G2 p1 p2 p3 l0 l1 nb ge tt HJ m0 m1
   go_wp2_with fail
   go_region_held3 (fun W => W.cell? ⟨g, 7, none⟩ = some (.int .i64 p.rate) ∧ W.cell? ⟨gx, k, none⟩ = some (.int .i64 n)) (first | exact ⟨u7, hcx⟩ | go_keep) ((go_at_call 12; (with_reducible refine (RR.out _ RA.out).mono ?_); rintro e yy ⟨rfl, hba, hbut⟩; have u7 := (hbut.cell (p := ⟨g, 7, none⟩) HLG.out HNE.out).trans u7; have hcx := (hbut.cell (p := ⟨gx, k, none⟩) HADL.out HADN.out).trans hcx))
   have BA := Aside0.mk hba
   have HO := Aside0.mk (Kd.R_step HO.out (fun b hb hlt => hbut.block b hlt hb.2.2.2))
   have HBn := Aside0.mk (But.below (Below.drew HB.out) (by first | exact HB.out.size | (simp; exact HB.out.size)) gbge hbut)
   have BL := Aside0.mk (BL.out.same (hbut.block gl (Blk.lt BL.out) gbl))
   have BX := Aside0.mk (BX.out.same (hbut.block gx (Blk.lt BX.out) gbx))
   have GG := Aside0.mk (show yy.heap[g]? = some (.cells (pcs p A1 c1 A2 c2 A3 c3) 27 (0, 0)) from (hbut.block g HLG.out HNE.out).trans GG.out)
   have hcl : yy.cell? ⟨gl, k, none⟩ = some (.int .i64 d) := (BL.out.cell k).trans (by rw [List.getElem?_append_left (by simp [nums]; omega), ← DD.out]; simp [nums, rd, hlt])
   obtain ⟨-, -, -, u3, -, u5, u6, -⟩ := pc_cells GG.out
   clear hba hbut HB RR RA u7 hcx HADL HADN HLG HNE DD hky
   have HB := HBn
   clear HBn
   have tt := T2.out
   have zb := ZB.out
   have lb := LB.out
   have ib := IB.out
   have mb := BND.out
   have st : IntKind.i64.wrap (p.times - 1) = p.times - 1 := IntWalk.i64_in _ (by omega)
   rcases CS.out with ⟨hz2, hle⟩ | ⟨hz2, hq, hk1, hbad, hle⟩ | ⟨hz2, hq, hok, hle, hpn⟩ | ⟨hz2, hq, hg, hk1, hneg, hle⟩ | ⟨hz2, hq, hg, hpos, hle, hpn⟩ | ⟨hz2, hq, hg, hle, hpn⟩
   ·have hj := HJ2.out
    rw [hle, if_pos (by decide)] at hj
    have HJ3 := Aside0.mk hj
    clear hj hle HJ2 CS
    have hzb : (z2 != 0) = true := by rw [hz2]; decide
    subst hz2
    clear tt zb lb ib mb
    go_wp2_with fail
    go_ret2
    obtain rfl := HJ3.out
    exact ⟨none, 0, rfl, Kd.R_nil _ _ _ _ _, HB.out⟩
   ·exact absurd hk1 KK.out
   ·subst hz2
    obtain ⟨ap, hap⟩ : ∃ x, left + z1 = x := ⟨_, rfl⟩
    have s1 : IntKind.i64.wrap (left + z1) = ap := by rw [hap]; exact IntWalk.i64_in _ (by omega)
    have s2 : IntKind.i64.wrap ap = ap := IntWalk.i64_in _ (by omega)
    have s4 : IntKind.i64.wrap (-ap) = -ap := IntWalk.i64_in _ (by omega)
    have hj := HJ2.out
    rw [hle, if_neg (by decide), hpn] at hj
    have M2 := MM2.out (by rw [hpn]; omega)
    rw [hpn] at M2
    rw [show left - left = 0 by omega] at hj M2
    have HJ3 := Aside0.mk hj
    have M3 := Aside0.mk M2
    clear hj hle HJ2 CS hpn M2 MM2
    have hqb : ((k : Int) == p.times - 1) = true := by simpa using hq
    clear hap hq hok
    clear tt zb lb ib mb
    go_wp2_with (first
     | ((with_reducible refine gate_dst (N := 95) rfl ?_); refine build_event rfl (t := 38) rfl (cs := #[.int .i64 d, .int .i64 0, .int .i64 z1, .int .i64 0]) ?hb ?_; (case hb => simp only [List.map_toArray, List.map_cons, List.map_nil]; exact built_day d z1))
     | ((with_reducible refine gate_dst (N := 23) rfl ?_); refine copy_event rfl (N := 23) rfl rfl rfl (t := 38) (v := .tmp 95) rfl (cs := #[.int .i64 d, .int .i64 0, .int .i64 z1, .int .i64 0]) (zs := #[.int .i64 0, .int .i64 0, .int .i64 0, .int .i64 0]) ?hr rfl rfl info_line ?hz (line_one _ _ _ _) ?_; (case hr => first | (go_simp; done) | (go_simp; rfl)); (case hz => rfl); intro gt hgt w11 hb1 hb; have gtge := (show yy.heap.size ≤ gt by rw [hgt]; exact Nat.le_refl _); have GT := Aside0.mk hb1; have HT := Aside0.mk hb; clear hgt hb1 hb hcl; obtain ⟨-, -, -, u3, -, u5, u6, -⟩ := pc_cells (Pd.blk_below GG.out HT.out); have x1 := (show w11.cell? ⟨gt, 1, none⟩ = some (.int .i64 0) from (blk_cell GT.out 1).trans rfl); have fx1 := frozen_of_row w11 gt 1 _ _ GT.out; have x3 := (show w11.cell? ⟨gt, 3, none⟩ = some (.int .i64 0) from (blk_cell GT.out 3).trans rfl); have fx3 := frozen_of_row w11 gt 3 _ _ GT.out)
     | ((with_reducible refine gate_store (t := 2) (p := 103) rfl ?_); refine put_event rfl (t := 2) (p := 103) (v := .tmp 102) rfl rfl (g := gt) (i := 1) (cs := #[.int .i64 d, .int .i64 0, .int .i64 z1, .int .i64 0]) (cs' := #[.int .i64 d, .int .i64 left, .int .i64 z1, .int .i64 0]) (x := .int .i64 left) ?hr GT.out ?hc ?_; (case hc => rfl); (case hr => go_simp); intro w12 hb8 hbut; have GT := Aside0.mk hb8; have HT := Aside0.mk (But.below HT.out HT.out.size gtge hbut); clear hb8 hbut; clear u3 u5 u6 x1 fx1 x3 fx3; obtain ⟨-, -, -, u3, -, u5, u6, -⟩ := pc_cells (Pd.blk_below GG.out HT.out); have x1 := (show w12.cell? ⟨gt, 1, none⟩ = some (.int .i64 left) from (blk_cell GT.out 1).trans rfl); have fx1 := frozen_of_row w12 gt 1 _ _ GT.out; have x3 := (show w12.cell? ⟨gt, 3, none⟩ = some (.int .i64 0) from (blk_cell GT.out 3).trans rfl); have fx3 := frozen_of_row w12 gt 3 _ _ GT.out)
     | ((with_reducible refine gate_store (t := 2) (p := 152) rfl ?_); refine put_event rfl (t := 2) (p := 152) (v := .tmp 151) rfl rfl (g := gt) (i := 3) (cs := #[.int .i64 d, .int .i64 left, .int .i64 z1, .int .i64 0]) (cs' := #[.int .i64 d, .int .i64 left, .int .i64 z1, .int .i64 0]) (x := .int .i64 0) ?hr GT.out ?hc ?_; (case hc => rfl); (case hr => go_simp); intro w14 hb8 hbut; have GT := Aside0.mk hb8; have HT := Aside0.mk (But.below HT.out HT.out.size gtge hbut); clear hb8 hbut; clear u3 u5 u6 x1 fx1 x3 fx3)
     | ((with_reducible refine gate_dst (N := 154) rfl ?_); refine wpList_load_row rfl 38 (.tmp 23) rfl gt rfl 38 _ (0, 0) _ GT.out Tryz.underlying38 rfl info_line ?_)
     | ((with_reducible refine gate_builtin (b := .append) (xs := #[.tmp 153, .tmp 155]) rfl ?_); at_builtin; refine Kd.R_append (Kd.pair (Kd.int .i64) (Kd.pair (Kd.int .i64) (Kd.pair (Kd.int .i64) (Kd.int .i64)))) (w0 := w) w.heap.size rfl (.tmp 153) (.tmp 155) 32 38 (.agg #[.int .i64 0, .int .i64 0, .int .i64 0, .int .i64 0]) 32 rfl Tryz.underlying32 info_lineb rfl (by decide) (by decide) (.slice Ax ls.length cw) ls (d, left, z1, 0) [.int .i64 d, .int .i64 left, .int .i64 z1, .int .i64 0] (fun b => b ≠ g ∧ b ≠ gl ∧ b ≠ gx ∧ b ≠ gb) (fun _ => False) rfl rfl ?aP (fun _ hk => hk.elim) ?aF ?aO ?aB ?aS ?aL ?_; (case aP => exact line_M d left z1 0); (case aF => exact fun b hb => ⟨(by have := blk_lt (Pd.blk_below GG.out HT.out); omega), (by have := Blk.lt (Blk.below BL.out HT.out); omega), (by have := Blk.lt (Blk.below BX.out HT.out); omega), (by have := (BA.out.below HT.out).lt; omega)⟩); (case aO => exact Kd.R_below HO.out HT.out); (case aB => exact below_step HB.out HT.out); (case aS => exact (below_step HB.out HT.out).size); (case aL => have := hlen.out; omega); intro v1 w15 hr1 hb1 hg1 hat1; obtain ⟨l2, hl2⟩ : ∃ l2, l2 = ls ++ [(d, left, z1, 0)] := ⟨_, rfl⟩; rw [← hl2] at hr1; obtain ⟨An, cn, rfl⟩ := Kd.R_slice hr1; have L2 := Aside0.mk hl2; have R1 := Aside0.mk hr1; have HO2 := (Kd.R_below HO.out HT.out); have BL := Aside0.mk ((Blk.below BL.out HT.out).same (hg1.block gl (Blk.lt (Blk.below BL.out HT.out)) (fun e => (HO2.1 gl e.symm).2.1 rfl))); have BX := Aside0.mk ((Blk.below BX.out HT.out).same (hg1.block gx (Blk.lt (Blk.below BX.out HT.out)) (fun e => (HO2.1 gx e.symm).2.2.1 rfl))); have BA := Aside0.mk (RefAt.same (BA.out.below HT.out) (hg1.block gb (BA.out.below HT.out).lt (fun e => (HO2.1 gb e.symm).2.2.2 rfl)) hg1.size); have GG := Aside0.mk ((hg1.block g (blk_lt (Pd.blk_below GG.out HT.out)) (fun e => (HO2.1 g e.symm).1 rfl)).trans (Pd.blk_below GG.out HT.out)); have HB := Aside0.mk hb1; clear hl2 hr1 hb1 hg1 hat1 HO2))
    all_goals
     have L3 := Aside0.mk (show l2.length = k + 1 by rw [L2.out, List.length_append, hlen.out]; rfl)
     go_roundg (xs.length + 1 - (k + 1))
     case measure => have := hgq.out; omega
     case rel => exact ⟨k + 1, 0, z3, _, An, cn, l2, by omega, rfl, rfl, rfl, by simp, L3, ⟨rfl⟩, ⟨by rw [HJ3.out, L2.out]; rfl⟩, ⟨M3.out⟩, GN2, BA, R1, BL, BX, GG, HB⟩
   ·exact absurd hk1 KK.out
   ·subst hz2
    obtain ⟨pr, hpr⟩ : ∃ x, partR p m 0 z1 left = x := ⟨_, rfl⟩
    have PT2 := Aside0.mk (fun W => by have := PT.out W z1 left zb.1 zb.2 lb.1 lb.2; rw [hpr] at this; exact this)
    rw [hpr] at hpos hpn
    have hj := HJ2.out
    rw [hle, if_neg (by decide), hpn] at hj
    have M2 := MM2.out (by rw [hpn]; exact hpos)
    rw [hpn] at M2
    have HJ3 := Aside0.mk hj
    have M3 := Aside0.mk M2
    clear hj hle HJ2 CS hpn M2 MM2
    have hqb : ((k : Int) == p.times - 1) = false := by simpa using hq
    have s3 : IntKind.i64.wrap (left - pr) = left - pr := by have := M3.out.l0; have := M3.out.l1; exact IntWalk.i64_in _ (by omega)
    clear hpr hq
    clear tt zb lb ib mb
    go_wp2_with (first
     | ((with_reducible refine gate_dst (N := 95) rfl ?_); refine build_event rfl (t := 38) rfl (cs := #[.int .i64 d, .int .i64 0, .int .i64 z1, .int .i64 0]) ?hb ?_; (case hb => simp only [List.map_toArray, List.map_cons, List.map_nil]; exact built_day d z1))
     | ((with_reducible refine gate_dst (N := 23) rfl ?_); refine copy_event rfl (N := 23) rfl rfl rfl (t := 38) (v := .tmp 95) rfl (cs := #[.int .i64 d, .int .i64 0, .int .i64 z1, .int .i64 0]) (zs := #[.int .i64 0, .int .i64 0, .int .i64 0, .int .i64 0]) ?hr rfl rfl info_line ?hz (line_one _ _ _ _) ?_; (case hr => first | (go_simp; done) | (go_simp; rfl)); (case hz => rfl); intro gt hgt w11 hb1 hb; have gtge := (show yy.heap.size ≤ gt by rw [hgt]; exact Nat.le_refl _); have GT := Aside0.mk hb1; have HT := Aside0.mk hb; clear hgt hb1 hb hcl; obtain ⟨-, -, -, u3, -, u5, u6, -⟩ := pc_cells (Pd.blk_below GG.out HT.out); have x1 := (show w11.cell? ⟨gt, 1, none⟩ = some (.int .i64 0) from (blk_cell GT.out 1).trans rfl); have fx1 := frozen_of_row w11 gt 1 _ _ GT.out; have x3 := (show w11.cell? ⟨gt, 3, none⟩ = some (.int .i64 0) from (blk_cell GT.out 3).trans rfl); have fx3 := frozen_of_row w11 gt 3 _ _ GT.out)
     | ((with_reducible refine gate_dst (N := 128) rfl ?_); refine wpList_load_row rfl 27 (.tmp 3) rfl g rfl 27 _ (0, 0) _ (Pd.blk_below GG.out HT.out) Tryz.underlying27 rfl info_prod ?_)
     | (go_at_call 22; (with_reducible refine (PT2.out _).mono ?_); rintro e w13 ⟨rfl, hb⟩; have HT := Aside0.mk (below_step HT.out hb); have GT := Aside0.mk (Pd.blk_below GT.out hb); clear hb; clear u3 u5 u6 x1 fx1 x3 fx3; obtain ⟨-, -, -, u3, -, u5, u6, -⟩ := pc_cells (Pd.blk_below GG.out HT.out); have x1 := (show w13.cell? ⟨gt, 1, none⟩ = some (.int .i64 0) from (blk_cell GT.out 1).trans rfl); have fx1 := frozen_of_row w13 gt 1 _ _ GT.out; have x3 := (show w13.cell? ⟨gt, 3, none⟩ = some (.int .i64 0) from (blk_cell GT.out 3).trans rfl); have fx3 := frozen_of_row w13 gt 3 _ _ GT.out)
     | ((with_reducible refine gate_store (t := 2) (p := 134) rfl ?_); refine put_event rfl (t := 2) (p := 134) (v := .tmp 133) rfl rfl (g := gt) (i := 1) (cs := #[.int .i64 d, .int .i64 0, .int .i64 z1, .int .i64 0]) (cs' := #[.int .i64 d, .int .i64 pr, .int .i64 z1, .int .i64 0]) (x := .int .i64 pr) ?hr GT.out ?hc ?_; (case hc => rfl); (case hr => go_simp); intro w12 hb8 hbut; have GT := Aside0.mk hb8; have HT := Aside0.mk (But.below HT.out HT.out.size gtge hbut); clear hb8 hbut; clear u3 u5 u6 x1 fx1 x3 fx3; obtain ⟨-, -, -, u3, -, u5, u6, -⟩ := pc_cells (Pd.blk_below GG.out HT.out); have x1 := (show w12.cell? ⟨gt, 1, none⟩ = some (.int .i64 pr) from (blk_cell GT.out 1).trans rfl); have fx1 := frozen_of_row w12 gt 1 _ _ GT.out; have x3 := (show w12.cell? ⟨gt, 3, none⟩ = some (.int .i64 0) from (blk_cell GT.out 3).trans rfl); have fx3 := frozen_of_row w12 gt 3 _ _ GT.out)
     | ((with_reducible refine gate_store (t := 2) (p := 152) rfl ?_); refine put_event rfl (t := 2) (p := 152) (v := .tmp 151) rfl rfl (g := gt) (i := 3) (cs := #[.int .i64 d, .int .i64 pr, .int .i64 z1, .int .i64 0]) (cs' := #[.int .i64 d, .int .i64 pr, .int .i64 z1, .int .i64 (left - pr)]) (x := .int .i64 (left - pr)) ?hr GT.out ?hc ?_; (case hc => rfl); (case hr => go_simp); intro w14 hb8 hbut; have GT := Aside0.mk hb8; have HT := Aside0.mk (But.below HT.out HT.out.size gtge hbut); clear hb8 hbut; clear u3 u5 u6 x1 fx1 x3 fx3)
     | ((with_reducible refine gate_dst (N := 154) rfl ?_); refine wpList_load_row rfl 38 (.tmp 23) rfl gt rfl 38 _ (0, 0) _ GT.out Tryz.underlying38 rfl info_line ?_)
     | ((with_reducible refine gate_builtin (b := .append) (xs := #[.tmp 153, .tmp 155]) rfl ?_); at_builtin; refine Kd.R_append (Kd.pair (Kd.int .i64) (Kd.pair (Kd.int .i64) (Kd.pair (Kd.int .i64) (Kd.int .i64)))) (w0 := w) w.heap.size rfl (.tmp 153) (.tmp 155) 32 38 (.agg #[.int .i64 0, .int .i64 0, .int .i64 0, .int .i64 0]) 32 rfl Tryz.underlying32 info_lineb rfl (by decide) (by decide) (.slice Ax ls.length cw) ls (d, pr, z1, (left - pr)) [.int .i64 d, .int .i64 pr, .int .i64 z1, .int .i64 (left - pr)] (fun b => b ≠ g ∧ b ≠ gl ∧ b ≠ gx ∧ b ≠ gb) (fun _ => False) rfl rfl ?aP (fun _ hk => hk.elim) ?aF ?aO ?aB ?aS ?aL ?_; (case aP => exact line_M d pr z1 (left - pr)); (case aF => exact fun b hb => ⟨(by have := blk_lt (Pd.blk_below GG.out HT.out); omega), (by have := Blk.lt (Blk.below BL.out HT.out); omega), (by have := Blk.lt (Blk.below BX.out HT.out); omega), (by have := (BA.out.below HT.out).lt; omega)⟩); (case aO => exact Kd.R_below HO.out HT.out); (case aB => exact below_step HB.out HT.out); (case aS => exact (below_step HB.out HT.out).size); (case aL => have := hlen.out; omega); intro v1 w15 hr1 hb1 hg1 hat1; obtain ⟨l2, hl2⟩ : ∃ l2, l2 = ls ++ [(d, pr, z1, (left - pr))] := ⟨_, rfl⟩; rw [← hl2] at hr1; obtain ⟨An, cn, rfl⟩ := Kd.R_slice hr1; have L2 := Aside0.mk hl2; have R1 := Aside0.mk hr1; have HO2 := (Kd.R_below HO.out HT.out); have BL := Aside0.mk ((Blk.below BL.out HT.out).same (hg1.block gl (Blk.lt (Blk.below BL.out HT.out)) (fun e => (HO2.1 gl e.symm).2.1 rfl))); have BX := Aside0.mk ((Blk.below BX.out HT.out).same (hg1.block gx (Blk.lt (Blk.below BX.out HT.out)) (fun e => (HO2.1 gx e.symm).2.2.1 rfl))); have BA := Aside0.mk (RefAt.same (BA.out.below HT.out) (hg1.block gb (BA.out.below HT.out).lt (fun e => (HO2.1 gb e.symm).2.2.2 rfl)) hg1.size); have GG := Aside0.mk ((hg1.block g (blk_lt (Pd.blk_below GG.out HT.out)) (fun e => (HO2.1 g e.symm).1 rfl)).trans (Pd.blk_below GG.out HT.out)); have HB := Aside0.mk hb1; clear hl2 hr1 hb1 hg1 hat1 HO2))
    all_goals
     have L3 := Aside0.mk (show l2.length = k + 1 by rw [L2.out, List.length_append, hlen.out]; rfl)
     go_roundg (xs.length + 1 - (k + 1))
     case measure => have := hgq.out; omega
     case rel => exact ⟨k + 1, (left - pr), z3, _, An, cn, l2, by omega, rfl, rfl, rfl, by simp, L3, ⟨rfl⟩, ⟨by rw [HJ3.out, L2.out]; rfl⟩, ⟨M3.out⟩, GN2, BA, R1, BL, BX, GG, HB⟩
   ·subst hz2
    have hj := HJ2.out
    rw [hle, if_neg (by decide), hpn] at hj
    have M2 := MM2.out (by rw [hpn]; omega)
    rw [hpn] at M2
    rw [Int.sub_zero] at hj M2
    have HJ3 := Aside0.mk hj
    have M3 := Aside0.mk M2
    clear hj hle HJ2 CS hpn M2 MM2
    have hqb : ((k : Int) == p.times - 1) = false := by simpa using hq
    have s3 : IntKind.i64.wrap left = left := IntWalk.i64_in _ (by omega)
    clear hq
    clear tt zb lb ib mb
    go_wp2_with (first
     | ((with_reducible refine gate_dst (N := 95) rfl ?_); refine build_event rfl (t := 38) rfl (cs := #[.int .i64 d, .int .i64 0, .int .i64 z1, .int .i64 0]) ?hb ?_; (case hb => simp only [List.map_toArray, List.map_cons, List.map_nil]; exact built_day d z1))
     | ((with_reducible refine gate_dst (N := 23) rfl ?_); refine copy_event rfl (N := 23) rfl rfl rfl (t := 38) (v := .tmp 95) rfl (cs := #[.int .i64 d, .int .i64 0, .int .i64 z1, .int .i64 0]) (zs := #[.int .i64 0, .int .i64 0, .int .i64 0, .int .i64 0]) ?hr rfl rfl info_line ?hz (line_one _ _ _ _) ?_; (case hr => first | (go_simp; done) | (go_simp; rfl)); (case hz => rfl); intro gt hgt w11 hb1 hb; have gtge := (show yy.heap.size ≤ gt by rw [hgt]; exact Nat.le_refl _); have GT := Aside0.mk hb1; have HT := Aside0.mk hb; clear hgt hb1 hb hcl; obtain ⟨-, -, -, u3, -, u5, u6, -⟩ := pc_cells (Pd.blk_below GG.out HT.out); have x1 := (show w11.cell? ⟨gt, 1, none⟩ = some (.int .i64 0) from (blk_cell GT.out 1).trans rfl); have fx1 := frozen_of_row w11 gt 1 _ _ GT.out; have x3 := (show w11.cell? ⟨gt, 3, none⟩ = some (.int .i64 0) from (blk_cell GT.out 3).trans rfl); have fx3 := frozen_of_row w11 gt 3 _ _ GT.out)
     | ((with_reducible refine gate_store (t := 2) (p := 152) rfl ?_); refine put_event rfl (t := 2) (p := 152) (v := .tmp 151) rfl rfl (g := gt) (i := 3) (cs := #[.int .i64 d, .int .i64 0, .int .i64 z1, .int .i64 0]) (cs' := #[.int .i64 d, .int .i64 0, .int .i64 z1, .int .i64 left]) (x := .int .i64 left) ?hr GT.out ?hc ?_; (case hc => rfl); (case hr => go_simp); intro w14 hb8 hbut; have GT := Aside0.mk hb8; have HT := Aside0.mk (But.below HT.out HT.out.size gtge hbut); clear hb8 hbut; clear u3 u5 u6 x1 fx1 x3 fx3)
     | ((with_reducible refine gate_dst (N := 154) rfl ?_); refine wpList_load_row rfl 38 (.tmp 23) rfl gt rfl 38 _ (0, 0) _ GT.out Tryz.underlying38 rfl info_line ?_)
     | ((with_reducible refine gate_builtin (b := .append) (xs := #[.tmp 153, .tmp 155]) rfl ?_); at_builtin; refine Kd.R_append (Kd.pair (Kd.int .i64) (Kd.pair (Kd.int .i64) (Kd.pair (Kd.int .i64) (Kd.int .i64)))) (w0 := w) w.heap.size rfl (.tmp 153) (.tmp 155) 32 38 (.agg #[.int .i64 0, .int .i64 0, .int .i64 0, .int .i64 0]) 32 rfl Tryz.underlying32 info_lineb rfl (by decide) (by decide) (.slice Ax ls.length cw) ls (d, 0, z1, left) [.int .i64 d, .int .i64 0, .int .i64 z1, .int .i64 left] (fun b => b ≠ g ∧ b ≠ gl ∧ b ≠ gx ∧ b ≠ gb) (fun _ => False) rfl rfl ?aP (fun _ hk => hk.elim) ?aF ?aO ?aB ?aS ?aL ?_; (case aP => exact line_M d 0 z1 left); (case aF => exact fun b hb => ⟨(by have := blk_lt (Pd.blk_below GG.out HT.out); omega), (by have := Blk.lt (Blk.below BL.out HT.out); omega), (by have := Blk.lt (Blk.below BX.out HT.out); omega), (by have := (BA.out.below HT.out).lt; omega)⟩); (case aO => exact Kd.R_below HO.out HT.out); (case aB => exact below_step HB.out HT.out); (case aS => exact (below_step HB.out HT.out).size); (case aL => have := hlen.out; omega); intro v1 w15 hr1 hb1 hg1 hat1; obtain ⟨l2, hl2⟩ : ∃ l2, l2 = ls ++ [(d, 0, z1, left)] := ⟨_, rfl⟩; rw [← hl2] at hr1; obtain ⟨An, cn, rfl⟩ := Kd.R_slice hr1; have L2 := Aside0.mk hl2; have R1 := Aside0.mk hr1; have HO2 := (Kd.R_below HO.out HT.out); have BL := Aside0.mk ((Blk.below BL.out HT.out).same (hg1.block gl (Blk.lt (Blk.below BL.out HT.out)) (fun e => (HO2.1 gl e.symm).2.1 rfl))); have BX := Aside0.mk ((Blk.below BX.out HT.out).same (hg1.block gx (Blk.lt (Blk.below BX.out HT.out)) (fun e => (HO2.1 gx e.symm).2.2.1 rfl))); have BA := Aside0.mk (RefAt.same (BA.out.below HT.out) (hg1.block gb (BA.out.below HT.out).lt (fun e => (HO2.1 gb e.symm).2.2.2 rfl)) hg1.size); have GG := Aside0.mk ((hg1.block g (blk_lt (Pd.blk_below GG.out HT.out)) (fun e => (HO2.1 g e.symm).1 rfl)).trans (Pd.blk_below GG.out HT.out)); have HB := Aside0.mk hb1; clear hl2 hr1 hb1 hg1 hat1 HO2))
    have L3 := Aside0.mk (show l2.length = k + 1 by rw [L2.out, List.length_append, hlen.out]; rfl)
    go_roundg (xs.length + 1 - (k + 1))
    case measure => have := hgq.out; omega
    case rel => exact ⟨k + 1, left, z3, _, An, cn, l2, by omega, rfl, rfl, rfl, by simp, L3, ⟨rfl⟩, ⟨by rw [HJ3.out, L2.out]; rfl⟩, ⟨M3.out⟩, GN2, BA, R1, BL, BX, GG, HB⟩
  ·have hj := HJ.out
   rw [List.drop_of_length_le (by rw [HZD.out]; omega), lines, join, if_pos rfl, List.append_nil] at hj
   have HJ2 := Aside0.mk hj
   have kt : p.times ≤ (k : Int) := by have := HLT.out; omega
   clear hj HJ
   go_wp2_with fail
   go_ret2
   obtain rfl := HJ2.out
   exact ⟨Ax, cw, rfl, Kd.R_mono HO.out (fun _ _ => trivial), HB.out⟩
end Go.Proofs.YtfmkdledofbhdaaGreat.Sc
/- Contracts by hand: the document's schedule, all of it. -/
namespace Go.Proofs.YtfmkdledofbhdaaGreat.Sc
open Go.RowKit Go.Proofs.YtfmkdledofbhdaaGreatW.PrintWords Go.Proofs.YtfmkdledofbhdaaGreatW.PrintLast Go.Proofs.YtfmkdledofbhdaaGreatW.PrintMore Go.Proofs.YtfmkdledofbhdaaGreat.HW
open Go.Proofs.YtfmkdledofbhdaaGreat.Math Go.Proofs.YtfmkdledofbhdaaGreat.H Go.Proofs.YtfmkdledofbhdaaGreat.Pd Go.Proofs.YtfmkdledofbhdaaGreat.Du Go.Proofs.YtfmkdledofbhdaaGreat.Lv Pm
set_option linter.unusedVariables false
set_option linter.unusedSimpArgs false
attribute [local go_sem] max2_int min2_int max_two min_two
set_option maxRecDepth 100000 in
set_option maxHeartbeats 8000000 in
theorem rsched_days (p : Prod) (A1 : Option Addr) (c1 : Nat) (A2 : Option Addr) (c2 : Nat) (A3 : Option Addr) (c3 : Nat) (start m : Int) (w : World) (hp : ProdAt w p A1 c1 A2 c2 A3 c3) (hs : Held p) (hh : p.hol.length ≤ 1000000) (er : Int) (he : (daysP p start).2 = er) (hn : er ≠ 0) : Calls Tryz.prog 8 #[pv p A1 c1 A2 c2 A3 c3, .int .i64 start, .int .i64 m] w (Sched ([], er) w) := by
 have DA := Aside0.mk (fun W (hb : Below w.heap.size w W) => show Calls Tryz.prog 20 #[pv p A1 c1 A2 c2 A3 c3, .int .i64 start] W (fun e w' => ∃ v, e = .returned (.tuple #[v, .int .i64 er]) ∧ Below W.heap.size W w') from (Du.rdays_any p A1 c1 A2 c2 A3 c3 start W (hp.below hb) hs hh).mono fun e w' h => by obtain ⟨v, h1, _, h3⟩ := h; exact ⟨v, by rw [h1, he], h3⟩)
 have hen : (er != 0) = true := by simpa using hn
 clear hp hs hh he hn
 go_enter Tryz.func8, Tryz.ntmps8
 go_wp2_with (first
  | ((with_reducible refine gate_dst (N := 3) rfl ?_); refine box_event ?hg (N := 3) ?hd (cs := pcs p A1 c1 A2 c2 A3 c3) (t := 27) ?hr ?_; (case hd => rfl); (case hg => rfl); (case hr => first | (go_simp; done) | (go_simp; rfl)); intro g hg w1 hb1 hbl1; have gge := (show w.heap.size ≤ g by rw [hg]; exact Nat.le_refl _); clear hg; have GG := Aside0.mk hb1; have HB := Aside0.mk hbl1; clear hb1 hbl1)
  | ((with_reducible refine gate_dst (N := 26) rfl ?_); refine wpList_load_row rfl 27 (.tmp 3) rfl g rfl 27 _ (0, 0) _ GG.out Tryz.underlying27 rfl info_prod ?_)
  | (go_at_call 20; (with_reducible refine (DA.out _ HB.out).mono ?_); rintro e w2 ⟨v, rfl, hb⟩; have HB := Aside0.mk (below_step HB.out hb); clear hb))
 go_ret2
 exact ⟨none, 0, rfl, Kd.R_nil _ _ _ _ _, HB.out⟩
set_option maxRecDepth 100000 in
set_option maxHeartbeats 8000000 in
theorem rsched_amt (p : Prod) (A1 : Option Addr) (c1 : Nat) (A2 : Option Addr) (c2 : Nat) (A3 : Option Addr) (c3 : Nat) (start m : Int) (w : World) (hp : ProdAt w p A1 c1 A2 c2 A3 c3) (hs : Held p) (hh : p.hol.length ≤ 1000000) (xs : List Int) (hd : daysP p start = (xs, 0)) (hm : m < 1 ∨ (1 ≤ m ∧ 10000000000000 < m)) : Calls Tryz.prog 8 #[pv p A1 c1 A2 c2 A3 c3, .int .i64 start, .int .i64 m] w (Sched ([], 16) w) := by
 obtain ⟨ho, hs0, hds, hl, t1, t2, hr, -⟩ := days_known hd
 have hne : xs ≠ [] := fun e => by rw [e] at hl; simp at hl; omega
 have DA := Aside0.mk (fun W (hb : Below w.heap.size w W) => show Calls Tryz.prog 20 #[pv p A1 c1 A2 c2 A3 c3, .int .i64 start] W (Listed1 xs W) from (Du.rdays_any p A1 c1 A2 c2 A3 c3 start W (hp.below hb) hs hh).mono fun e w' h => by rw [hd] at h; exact h.one hne)
 clear hp hs hh hd ho hs0 hds hl t1 t2 hr hne
 rcases hm with h | ⟨h, h2⟩
 all_goals
  go_enter Tryz.func8, Tryz.ntmps8
  go_wp2_with (first
   | ((with_reducible refine gate_dst (N := 3) rfl ?_); refine box_event ?hg (N := 3) ?hd (cs := pcs p A1 c1 A2 c2 A3 c3) (t := 27) ?hr ?_; (case hd => rfl); (case hg => rfl); (case hr => first | (go_simp; done) | (go_simp; rfl)); intro g hg w1 hb1 hbl1; have gge := (show w.heap.size ≤ g by rw [hg]; exact Nat.le_refl _); clear hg; have GG := Aside0.mk hb1; have HB := Aside0.mk hbl1; clear hb1 hbl1)
   | ((with_reducible refine gate_dst (N := 26) rfl ?_); refine wpList_load_row rfl 27 (.tmp 3) rfl g rfl 27 _ (0, 0) _ GG.out Tryz.underlying27 rfl info_prod ?_)
   | (go_at_call 20; (with_reducible refine (DA.out _ HB.out).mono ?_); rintro e w2 ⟨gl, cl, tl, rfl, gle, lc, hbk, hb⟩; have BL := Aside0.mk hbk; have glge := Nat.le_trans HB.out.size gle; have HB := Aside0.mk (below_step HB.out hb); have GG := Aside0.mk (Pd.blk_below GG.out hb); clear hb hbk))
  go_ret2
  exact ⟨none, 0, rfl, Kd.R_nil _ _ _ _ _, HB.out⟩
set_option maxRecDepth 100000 in
set_option maxHeartbeats 8000000 in
theorem rsched_steep (p : Prod) (A1 : Option Addr) (c1 : Nat) (A2 : Option Addr) (c2 : Nat) (A3 : Option Addr) (c3 : Nat) (start m : Int) (w : World) (hp : ProdAt w p A1 c1 A2 c2 A3 c3) (hs : Held p) (hh : p.hol.length ≤ 1000000) (xs ys : List Int) (hd : daysP p start = (xs, 0)) (hpx : partsP p start = (ys, 0)) (m0 : 1 ≤ m) (m1 : m ≤ 10000000000000) (hk : p.kind = 1) (ov er : Int) (ho1 : ofE p ys m = (ov, er)) (hn : er ≠ 0) : Calls Tryz.prog 8 #[pv p A1 c1 A2 c2 A3 c3, .int .i64 start, .int .i64 m] w (Sched ([], er) w) := by
 obtain ⟨ho, hs0, hds, hl, t1, t2, hr, -⟩ := days_known hd
 have hne : xs ≠ [] := fun e => by rw [e] at hl; simp at hl; omega
 have DA := Aside0.mk (fun W (hb : Below w.heap.size w W) => show Calls Tryz.prog 20 #[pv p A1 c1 A2 c2 A3 c3, .int .i64 start] W (Listed1 xs W) from (Du.rdays_any p A1 c1 A2 c2 A3 c3 start W (hp.below hb) hs hh).mono fun e w' h => by rw [hd] at h; exact h.one hne)
 have hyl : ys.length = xs.length := by
  have := hpx
  unfold partsP at this
  rw [hd, if_pos rfl] at this
  obtain ⟨rfl, -⟩ := Prod.mk.inj this
  exact rparts_len _ _ _
 have hne2 : ys ≠ [] := fun e => by rw [e] at hyl; simp at hyl; exact hne (List.eq_nil_of_length_eq_zero hyl.symm)
 have PA := Aside0.mk (fun W (hb : Below w.heap.size w W) => show Calls Tryz.prog 10 #[pv p A1 c1 A2 c2 A3 c3, .int .i64 start] W (ListedL1 ys W) from (Du.rparts_any p A1 c1 A2 c2 A3 c3 start W (hp.below hb) hs hh).mono fun e w' h => by rw [hpx] at h; exact listed_one h hne2)
 have OF := Aside0.mk (fun (A : Option Addr) (c : Nat) (W : World) (hb : Below w.heap.size w W) (hc : Kd.C (Kd.int .i64) W A ys.length ys) => show Calls Tryz.prog 21 #[pv p A1 c1 A2 c2 A3 c3, .slice A ys.length c, .int .i64 m] W (Two (ov, er) W) from by have := rOf_any p A1 c1 A2 c2 A3 c3 A ys c m W (hp.below hb) hs hc (by omega); rw [of_rof, ho1] at this; exact this)
 have hen : (er != 0) = true := by simpa using hn
 have kk : (p.kind == 1) = true := by simpa using hk
 have HYL := Aside0.mk (show ys.length ≤ 600 by omega)
 clear hp hs hh hd hpx ho hs0 hds hl t1 t2 hr hne hne2 hyl ho1 hn hk
 go_enter Tryz.func8, Tryz.ntmps8
 go_wp2_with (first
  | ((with_reducible refine gate_dst (N := 3) rfl ?_); refine box_event ?hg (N := 3) ?hd (cs := pcs p A1 c1 A2 c2 A3 c3) (t := 27) ?hr ?_; (case hd => rfl); (case hg => rfl); (case hr => first | (go_simp; done) | (go_simp; rfl)); intro g hg w1 hb1 hbl1; have gge := (show w.heap.size ≤ g by rw [hg]; exact Nat.le_refl _); clear hg; have GG := Aside0.mk hb1; have HB := Aside0.mk hbl1; clear hb1 hbl1)
  | ((with_reducible refine gate_dst (N := 26) rfl ?_); refine wpList_load_row rfl 27 (.tmp 3) rfl g rfl 27 _ (0, 0) _ GG.out Tryz.underlying27 rfl info_prod ?_)
  | (go_at_call 20; (with_reducible refine (DA.out _ HB.out).mono ?_); rintro e w2 ⟨gl, cl, tl, rfl, gle, lc, hbk, hb⟩; have BL := Aside0.mk hbk; have glge := Nat.le_trans HB.out.size gle; have HB := Aside0.mk (below_step HB.out hb); have GG := Aside0.mk (Pd.blk_below GG.out hb); clear hb hbk)
  | ((with_reducible refine gate_dst (N := 41) rfl ?_); refine wpList_load_row rfl 27 (.tmp 3) rfl g rfl 27 _ (0, 0) _ GG.out Tryz.underlying27 rfl info_prod ?_)
  | (go_at_call 10; (with_reducible refine (PA.out _ HB.out).mono ?_); rintro e w3 ⟨gx, cx, tx, rfl, gxe, xc, hbk, hb⟩; have BX := Aside0.mk hbk; have gxge := Nat.le_trans HB.out.size gxe; have BL := Aside0.mk (Blk.below BL.out hb); have HB := Aside0.mk (below_step HB.out hb); have GG := Aside0.mk (Pd.blk_below GG.out hb); clear hb hbk; obtain ⟨-, u1, u2, u3, -⟩ := pc_cells GG.out)
  | ((with_reducible refine gate_dst (N := 50) rfl ?_); refine wpList_load_row rfl 27 (.tmp 3) rfl g rfl 27 _ (0, 0) _ GG.out Tryz.underlying27 rfl info_prod ?_)
  | (go_at_call 21; (with_reducible refine (OF.out _ _ _ HB.out (Blk.readsL BX.out (by have := HYL.out; omega))).mono ?_); rintro e w5 ⟨rfl, hb⟩; have HB := Aside0.mk (below_step HB.out hb); clear hb u1 u2 u3))
 go_ret2
 exact ⟨none, 0, rfl, Kd.R_nil _ _ _ _ _, HB.out⟩
theorem rsched_any (p : Prod) (A1 : Option Addr) (c1 : Nat) (A2 : Option Addr) (c2 : Nat) (A3 : Option Addr) (c3 : Nat) (start m : Int) (w : World) (hp : ProdAt w p A1 c1 A2 c2 A3 c3) (hs : Held p) (hh : p.hol.length ≤ 1000000) : Calls Tryz.prog 8 #[pv p A1 c1 A2 c2 A3 c3, .int .i64 start, .int .i64 m] w (Sched (schedP p start m) w) := by
 by_cases h1 : (daysP p start).2 = 0
 ·have hd : daysP p start = ((daysP p start).1, 0) := Prod.ext rfl h1
  have hpx : partsP p start = ((partsP p start).1, 0) := by unfold partsP; rw [if_pos h1]
  have hxl : (daysP p start).1.length ≤ 600 := by
   obtain ⟨_, _, _, hl, t1, t2, _⟩ := days_known hd
   omega
  have n1 : ¬ (daysP p start).2 ≠ 0 := by rw [h1]; decide
  by_cases h2 : 1 ≤ m ∧ m ≤ 10000000000000
  ·have n2 : ¬ ¬ (1 ≤ m ∧ m ≤ 10000000000000) := fun h => h h2
   by_cases h3 : p.kind = 1
   ·by_cases h4 : (ofE p (partsP p start).1 m).2 = 0
    ·have e : schedP p start m = linesP p start m (ofE p (partsP p start).1 m).1 := by
      unfold schedP
      rw [if_neg n1, if_neg n2, if_pos h3, if_neg (by rw [h4]; decide)]
     rw [e]
     exact rsched_one p A1 c1 A2 c2 A3 c3 start m _ w hp hs hh _ _ hd hpx hxl h2.1 h2.2 ⟨h3, Prod.ext rfl h4⟩
    ·have e : schedP p start m = ([], (ofE p (partsP p start).1 m).2) := by
      unfold schedP
      rw [if_neg n1, if_neg n2, if_pos h3, if_pos h4]
     rw [e]
     exact rsched_steep p A1 c1 A2 c2 A3 c3 start m w hp hs hh _ _ hd hpx h2.1 h2.2 h3 _ _ rfl h4
   ·have e : schedP p start m = linesP p start m 0 := by
     unfold schedP
     rw [if_neg n1, if_neg n2, if_neg h3]
    rw [e]
    exact rsched_two p A1 c1 A2 c2 A3 c3 start m 0 w hp hs hh _ _ hd hpx hxl h2.1 h2.2 ⟨h3, rfl⟩
  ·have e : schedP p start m = ([], 16) := by unfold schedP; rw [if_neg n1, if_pos h2]
   rw [e]
   exact rsched_amt p A1 c1 A2 c2 A3 c3 start m w hp hs hh _ hd (by omega)
 ·have e : schedP p start m = ([], (daysP p start).2) := by unfold schedP; rw [if_pos h1]
  rw [e]
  exact rsched_days p A1 c1 A2 c2 A3 c3 start m w hp hs hh _ rfl h1
end Go.Proofs.YtfmkdledofbhdaaGreat.Sc
/- Contracts by hand: two lists of lines that are alike. -/
namespace Go.Proofs.YtfmkdledofbhdaaGreat.Sc
open Go.RowKit Go.Proofs.YtfmkdledofbhdaaGreatW.PrintWords Go.Proofs.YtfmkdledofbhdaaGreatW.PrintLast Go.Proofs.YtfmkdledofbhdaaGreatW.PrintMore Go.Proofs.YtfmkdledofbhdaaGreat.HW
open Go.Proofs.YtfmkdledofbhdaaGreat.Math Go.Proofs.YtfmkdledofbhdaaGreat.H Go.Proofs.YtfmkdledofbhdaaGreat.Pd Go.Proofs.YtfmkdledofbhdaaGreat.Du Go.Proofs.YtfmkdledofbhdaaGreat.Lv Pm
set_option linter.unusedVariables false
set_option linter.unusedSimpArgs false
attribute [local go_sem] max2_int min2_int max_two min_two
set_option maxRecDepth 100000 in
set_option maxHeartbeats 1000000 in
theorem plainLn1 (a b c d : Int) (w : World) : Calls Tryz.prog 24 #[.agg #[.int .i64 a, .int .i64 b, .int .i64 c, .int .i64 d], .agg #[.int .i64 a, .int .i64 b, .int .i64 c, .int .i64 d]] w fun e w' => e = .returned (.bool true) ∧ Below w.heap.size w w' := by
 go_enter Tryz.func24, Tryz.ntmps24
 go_wp2_with (first
  | ((with_reducible refine gate_dst (N := 2) rfl ?_); refine box_event ?hg (N := 2) ?hd (cs := #[.int .i64 a, .int .i64 b, .int .i64 c, .int .i64 d]) (t := 38) ?hr ?_; (case hd => rfl); (case hg => rfl); (case hr => first | (go_simp; done) | (go_simp; rfl)); intro g2 hg w1 hb1 hbl1; clear hg; have HB2 := Aside0.mk hb1; have BL1 := Aside0.mk hbl1; clear hb1 hbl1)
  | ((with_reducible refine gate_dst (N := 3) rfl ?_); refine box_event ?hg (N := 3) ?hd (cs := #[.int .i64 a, .int .i64 b, .int .i64 c, .int .i64 d]) (t := 38) ?hr ?_; (case hd => rfl); (case hg => rfl); (case hr => first | (go_simp; done) | (go_simp; rfl)); intro g3 hg w2 hb1 hbl1; clear hg; have HB3 := Aside0.mk hb1; have HB22 := Aside0.mk (Pd.blk_below HB2.out hbl1); have BL2 := Aside0.mk (below_step BL1.out hbl1); clear hb1 hbl1)
  | ((with_reducible refine gate_dst (N := 5) rfl ?_); refine wpList_load_row rfl 38 (.tmp 2) rfl g2 rfl 38 _ (0, 0) _ HB22.out Tryz.underlying38 rfl info_line ?_)
  | ((with_reducible refine gate_dst (N := 6) rfl ?_); refine wpList_load_row rfl 38 (.tmp 3) rfl g3 rfl 38 _ (0, 0) _ HB3.out Tryz.underlying38 rfl info_line ?_))
 go_ret
 exact ⟨by simp, BL2.out⟩
set_option maxRecDepth 100000 in
set_option maxHeartbeats 1000000 in
theorem sameLn (g0 g1 c0 c1 : Nat) (ls : List Ln) (w : World) (h0 : LinesAt w g0 ls) (h1 : LinesAt w g1 ls) (hm : ls.length ≤ 1000000) :
  Calls Tryz.prog 23 #[.slice (some ⟨g0, 0, none⟩) ls.length c0, .slice (some ⟨g1, 0, none⟩) ls.length c1, .func (.func 24) #[] #[]] w fun e w' => e = .returned (.bool true) ∧ Below w.heap.size w w' := by
 have HR0 := Aside0.mk h0
 have HR1 := Aside0.mk h1
 clear h0 h1
 go_enter Tryz.func23, Tryz.ntmps23
 go_wp2_with fail
 go_loopg [7] (ls.length + 1) (fun gq iv w' => ∃ (k : Nat), k ≤ ls.length ∧ iv = .int .i64 (k : Int) ∧ Aside0 (gq = ls.length + 1 - k) ∧ Aside0 (Below w.heap.size w w'))
 case atStart => exact ⟨0, Nat.zero_le _, rfl, ⟨rfl⟩, ⟨Below.refl _ _⟩⟩
 case round =>
  obtain ⟨k, hk, rfl, hgq, hbl⟩ := hrel
  by_cases hlt : k < ls.length
  ·obtain ⟨⟨a, b, c, d⟩, hx⟩ : ∃ x, ls[k]? = some x := ⟨_, List.getElem?_eq_getElem hlt⟩
   obtain ⟨p0, p1, p2, p3⟩ := (HR0.out.below hbl.out).2 k _ hx
   obtain ⟨s0, s1, s2, s3⟩ := (HR1.out.below hbl.out).2 k _ hx
   have kk0 : (0 : Int) ≤ (k : Int) := by omega
   have kk1 : (k : Int) < (ls.length : Int) := by omega
   clear hx
   go_wp2_with fail
   go_still_tail 9, (by kernel_rfl)
   go_wp2_with ((go_at_call 24; refine (plainLn1 a b c d _).mono ?_; rintro e v1 ⟨rfl, hb⟩; have B1 := Aside0.mk (below_step (by first | exact pw_below_drewN hbl.out _ | exact Below.drew hbl.out | exact hbl.out) hb); clear hb))
   go_roundg (ls.length + 1 - (k + 1))
   case measure => have := hgq.out; omega
   case rel => exact ⟨k + 1, by omega, by simp, ⟨rfl⟩, B1⟩
  ·have hk2 : k = ls.length := by omega
   subst hk2
   go_wp2_with fail
   go_ret
   exact ⟨rfl, hbl.out⟩
set_option maxRecDepth 100000 in
set_option maxHeartbeats 1000000 in
theorem sameLn0 (A0 A1 : Option Addr) (c0 c1 : Nat) (w : World) :
  Calls Tryz.prog 23 #[.slice A0 0 c0, .slice A1 0 c1, .func (.func 24) #[] #[]] w fun e w' => e = .returned (.bool true) ∧ Below w.heap.size w w' := by
 go_enter Tryz.func23, Tryz.ntmps23
 go_wp2_with fail
 go_loopg [7] 1 (fun gq iv w' => iv = .int .i64 0 ∧ w' = w)
 case atStart => exact ⟨rfl, rfl⟩
 case round =>
  obtain ⟨rfl, rfl⟩ := hrel
  go_wp2_with fail
  go_ret
  exact ⟨rfl, Below.refl _ _⟩
theorem plainLn (g0 g1 c0 c1 : Nat) (ls : List Ln) (w : World) (h0 : LinesAt w g0 ls) (h1 : LinesAt w g1 ls) (hm : ls.length ≤ 1000000) :
  Calls Tryz.prog 9 #[.slice (some ⟨g0, 0, none⟩) ls.length c0, .slice (some ⟨g1, 0, none⟩) ls.length c1] w fun e w' => e = .returned (.bool true) ∧ Below w.heap.size w w' := by
 have HS := Aside0.mk (sameLn g0 g1 c0 c1 ls w h0 h1 hm)
 clear h0 h1
 go_enter Tryz.func9, Tryz.ntmps9
 go_wp2_with fail
 refine HS.out.mono ?_
 rintro e v1 ⟨rfl, hb⟩
 have B1 := Aside0.mk hb
 clear hb
 go_wp2_with fail
 go_ret
 exact ⟨rfl, B1.out⟩
theorem plainLn0 (A0 A1 : Option Addr) (c0 c1 : Nat) (w : World) :
  Calls Tryz.prog 9 #[.slice A0 0 c0, .slice A1 0 c1] w fun e w' => e = .returned (.bool true) ∧ Below w.heap.size w w' := by
 have HS := Aside0.mk (sameLn0 A0 A1 c0 c1 w)
 go_enter Tryz.func9, Tryz.ntmps9
 go_wp2_with fail
 refine HS.out.mono ?_
 rintro e v1 ⟨rfl, hb⟩
 have B1 := Aside0.mk hb
 clear hb
 go_wp2_with fail
 go_ret
 exact ⟨rfl, B1.out⟩
theorem sched_err (p : Prod) (start m : Int) (h : (schedP p start m).2 ≠ 0) : (schedP p start m).1 = [] := by
 revert h
 unfold schedP
 split
 ·intro _; rfl
 ·split
  ·intro _; rfl
  ·split
   ·split
    ·intro _; rfl
    ·exact lines_err _ _ _ _ _ _ _ _ _
   ·exact lines_err _ _ _ _ _ _ _ _ _
theorem sched_len (p : Prod) (start m : Int) : (schedP p start m).1.length ≤ 600 := by
 by_cases h : (schedP p start m).2 = 0
 ·have hs : schedP p start m = ((schedP p start m).1, 0) := Prod.ext rfl h
  obtain ⟨hl, -, -⟩ := sched_looks hs
  obtain ⟨xs, ys, inst, hx, -⟩ := sched_chain hs
  have := (days_known hx).2.2.2.2.2.1
  omega
 ·rw [sched_err p start m h]; decide
theorem Sched.at_ {ls : List Ln} {cd : Int} {w w' : World} {e : Ending} (h : Sched (ls, cd) w e w') (hl : 0 < ls.length) : ∃ gn c, e = .returned (.tuple #[.slice (some ⟨gn, 0, none⟩) ls.length c, .int .i64 cd]) ∧ LinesAt w' gn ls ∧ Below w.heap.size w w' := by
 obtain ⟨A, c, he, hR, hb⟩ := h
 obtain ⟨gn, cn, e1, hge, hlt, _⟩ := Kd.R_form hR hl
 injection e1 with e1 _ e3
 subst e1 e3
 obtain ⟨_, hc2, hC⟩ := Kd.R_reads' hR
 exact ⟨gn, _, he, ⟨hlt, fun i x hx => lines_cells hC rfl hx⟩, hb⟩
end Go.Proofs.YtfmkdledofbhdaaGreat.Sc
/- The law ScheduleTells, walked. -/
namespace Go.Proofs.YtfmkdledofbhdaaGreat.Sc
open Go.RowKit Go.Proofs.YtfmkdledofbhdaaGreatW.PrintWords Go.Proofs.YtfmkdledofbhdaaGreatW.PrintLast Go.Proofs.YtfmkdledofbhdaaGreatW.PrintMore Go.Proofs.YtfmkdledofbhdaaGreat.HW
open Go.Proofs.YtfmkdledofbhdaaGreat.Math Go.Proofs.YtfmkdledofbhdaaGreat.H Go.Proofs.YtfmkdledofbhdaaGreat.Pd Go.Proofs.YtfmkdledofbhdaaGreat.Du Go.Proofs.YtfmkdledofbhdaaGreat.Lv Pm
set_option linter.unusedVariables false
set_option linter.unusedSimpArgs false
attribute [local go_sem] max2_int min2_int max_two min_two
set_option maxRecDepth 100000 in
set_option maxHeartbeats 8000000 in
theorem stells_big (p : Prod) (A1 : Option Addr) (c1 : Nat) (A2 : Option Addr) (c2 : Nat) (A3 : Option Addr) (c3 : Nat) (start amt : Int) (raw : Bool) (w : World) (hp : ProdAt w p A1 c1 A2 c2 A3 c3) (hz0 : p.name.size ≤ maxLen) (hz1 : c1 ≤ maxLen) (hz2 : c2 ≤ maxLen) (hz3 : c3 ≤ maxLen) (hgv : GV w) (big : 100 < p.name.size ∨ 50 < p.resets.length ∨ 50 < p.late.length ∨ 300 < p.hol.length) :
  Calls Tryz.prog 3 #[pv p A1 c1 A2 c2 A3 c3, .int .i64 start, .int .i64 amt, .bool raw] w fun e w' => e = .returned (.bool true) ∧ Below w.heap.size w w' := by
 have AK := Aside0.mk (fun (W : World) (hb : Below w.heap.size w W) => sched_awake W (hgv.below hb))
 have z1 := hp.l1
 have z2 := hp.l2
 have z3 := hp.l3
 unfold maxLen at hz0 hz1 hz2 hz3
 clear hp hgv
 rcases (by omega : 100 < p.name.size ∨ (p.name.size ≤ 100 ∧ 50 < p.resets.length) ∨ (p.name.size ≤ 100 ∧ p.resets.length ≤ 50 ∧ 50 < p.late.length) ∨ (p.name.size ≤ 100 ∧ p.resets.length ≤ 50 ∧ p.late.length ≤ 50 ∧ 300 < p.hol.length)) with b1 | ⟨b1, b2⟩ | ⟨b1, b2, b3⟩ | ⟨b1, b2, b3, b4⟩
 all_goals
  clear big
  go_enter Tryz.func3, Tryz.ntmps3
  go_wp2_with ((with_reducible refine gate_dst (N := 4) rfl ?_); refine box_event ?hg (N := 4) ?hd (cs := pcs p A1 c1 A2 c2 A3 c3) (t := 27) ?hr ?_; (case hd => rfl); (case hg => rfl); (case hr => first | (go_simp; done) | (go_simp; rfl)); intro g2 hg v0 hb1 hbl1; have ge2 := (show w.heap.size ≤ g2 by rw [hg]; exact Nat.le_refl _); clear hg; have G2 := Aside0.mk hb1; have HB := Aside0.mk hbl1; clear hb1 hbl1; refine Hid.out ?_)
  refine Lib.hid ?_
  obtain ⟨v0_, -, -, -, -, v5_, -, -, v8_, -, -, -, -, -, -, v15_, -, -, v18_⟩ := pc_cells G2.out
  go_wp2_with (go_at_call 5; (with_reducible refine (AK.out _ HB.out).mono ?_); rintro e y5 ⟨rfl, hb⟩; have HB := Aside0.mk (below_step HB.out hb); clear hb)
  go_ret
  exact ⟨rfl, HB.out⟩
set_option maxRecDepth 100000 in
set_option maxHeartbeats 8000000 in
theorem stells_long (p : Prod) (A1 : Option Addr) (c1 : Nat) (A2 : Option Addr) (c2 : Nat) (A3 : Option Addr) (c3 : Nat) (start amt : Int) (w : World) (hp : ProdAt w p A1 c1 A2 c2 A3 c3) (hgv : GV w) (b1 : p.name.size ≤ 100) (b2 : p.resets.length ≤ 50) (b3 : p.late.length ≤ 50) (b4 : p.hol.length ≤ 300) (b5 : 40 < p.times) :
  Calls Tryz.prog 3 #[pv p A1 c1 A2 c2 A3 c3, .int .i64 start, .int .i64 amt, .bool true] w fun e w' => e = .returned (.bool true) ∧ Below w.heap.size w w' := by
 have AK := Aside0.mk (fun (W : World) (hb : Below w.heap.size w W) => sched_awake W (hgv.below hb))
 clear hp hgv
 go_enter Tryz.func3, Tryz.ntmps3
 go_wp2_with ((with_reducible refine gate_dst (N := 4) rfl ?_); refine box_event ?hg (N := 4) ?hd (cs := pcs p A1 c1 A2 c2 A3 c3) (t := 27) ?hr ?_; (case hd => rfl); (case hg => rfl); (case hr => first | (go_simp; done) | (go_simp; rfl)); intro g2 hg v0 hb1 hbl1; have ge2 := (show w.heap.size ≤ g2 by rw [hg]; exact Nat.le_refl _); clear hg; have G2 := Aside0.mk hb1; have HB := Aside0.mk hbl1; clear hb1 hbl1; refine Hid.out ?_)
 refine Lib.hid ?_
 obtain ⟨v0_, -, -, -, -, v5_, -, -, v8_, -, -, -, -, -, -, v15_, -, -, v18_⟩ := pc_cells G2.out
 go_wp2_with (go_at_call 5; (with_reducible refine (AK.out _ HB.out).mono ?_); rintro e y5 ⟨rfl, hb⟩; have HB := Aside0.mk (below_step HB.out hb); clear hb)
 go_ret
 exact ⟨rfl, HB.out⟩
set_option maxRecDepth 100000 in
set_option maxHeartbeats 8000000 in
theorem stells_raw_nil (p : Prod) (A1 : Option Addr) (c1 : Nat) (A2 : Option Addr) (c2 : Nat) (A3 : Option Addr) (c3 : Nat) (start amt : Int) (w : World) (hp : ProdAt w p A1 c1 A2 c2 A3 c3) (hgv : GV w) (b1 : p.name.size ≤ 100) (b2 : p.resets.length ≤ 50) (b3 : p.late.length ≤ 50) (b4 : p.hol.length ≤ 300) (b5 : p.times ≤ 40) (cd : Int) (hs : schedP p start amt = ([], cd)) :
  Calls Tryz.prog 3 #[pv p A1 c1 A2 c2 A3 c3, .int .i64 start, .int .i64 amt, .bool true] w fun e w' => e = .returned (.bool true) ∧ Below w.heap.size w w' := by
 have HG := Aside0.mk hgv
 have HP := Aside0.mk hp
 have AK := Aside0.mk (fun (W : World) (hb : Below w.heap.size w W) => sched_awake W (hgv.below hb))
 have sq : Small p := ⟨by omega, by omega, by omega, by omega⟩
 have OF := Aside0.mk (fun (W : World) (hb : Below w.heap.size w W) => show Calls Tryz.prog 7 #[pv p A1 c1 A2 c2 A3 c3, .int .i64 start, .int .i64 amt] W (fun e w' => ∃ A c, e = .returned (.tuple #[.slice A 0 c, .int .i64 cd]) ∧ Below W.heap.size W w') from by
  have h := sched_any p A1 c1 A2 c2 A3 c3 start amt W (HG.out.below hb) (HP.out.below hb) sq
  rw [hs] at h
  exact h.mono fun e w' h => (by obtain ⟨A, c, he, -, hb⟩ := h; exact ⟨A, c, he, hb⟩))
 have RF := Aside0.mk (fun (W : World) (hb : Below w.heap.size w W) => show Calls Tryz.prog 8 #[pv p A1 c1 A2 c2 A3 c3, .int .i64 start, .int .i64 amt] W (fun e w' => ∃ A c, e = .returned (.tuple #[.slice A 0 c, .int .i64 cd]) ∧ Below W.heap.size W w') from by
  have h := rsched_any p A1 c1 A2 c2 A3 c3 start amt W (HP.out.below hb) sq.held sq.s3
  rw [hs] at h
  exact h.mono fun e w' h => (by obtain ⟨A, c, he, -, hb⟩ := h; exact ⟨A, c, he, hb⟩))
 clear hp hgv hs sq
 go_enter Tryz.func3, Tryz.ntmps3
 go_wp2_with ((with_reducible refine gate_dst (N := 4) rfl ?_); refine box_event ?hg (N := 4) ?hd (cs := pcs p A1 c1 A2 c2 A3 c3) (t := 27) ?hr ?_; (case hd => rfl); (case hg => rfl); (case hr => first | (go_simp; done) | (go_simp; rfl)); intro g2 hg v0 hb1 hbl1; have ge2 := (show w.heap.size ≤ g2 by rw [hg]; exact Nat.le_refl _); clear hg; have G2 := Aside0.mk hb1; have HB := Aside0.mk hbl1; clear hb1 hbl1; refine Hid.out ?_)
 refine Lib.hid ?_
 obtain ⟨v0_, -, -, -, -, v5_, -, -, v8_, -, -, -, -, -, -, v15_, -, -, v18_⟩ := pc_cells G2.out
 go_wp2_with (first
  | ((with_reducible refine gate_dst (N := 59) rfl ?_); refine wpList_load_row rfl 27 (.tmp 4) rfl g2 rfl 27 _ (0, 0) _ G2.out Tryz.underlying27 rfl info_prod ?_)
  | (go_at_call 7; (with_reducible refine (OF.out _ HB.out).mono ?_); rintro e y1 ⟨A, c, rfl, hb⟩; have HB := Aside0.mk (below_step HB.out hb); have G2 := Aside0.mk (Pd.blk_below G2.out hb); clear hb)
  | ((with_reducible refine gate_dst (N := 66) rfl ?_); refine wpList_load_row rfl 27 (.tmp 4) rfl g2 rfl 27 _ (0, 0) _ G2.out Tryz.underlying27 rfl info_prod ?_)
  | (go_at_call 8; (with_reducible refine (RF.out _ HB.out).mono ?_); rintro e y2 ⟨A', c', rfl, hb⟩; have HB := Aside0.mk (below_step HB.out hb); have G2 := Aside0.mk (Pd.blk_below G2.out hb); clear hb)
  | (go_at_call 5; (with_reducible refine (AK.out _ HB.out).mono ?_); rintro e y5 ⟨rfl, hb⟩; have HB := Aside0.mk (below_step HB.out hb); clear hb)
  | (go_at_call 9; (with_reducible refine (plainLn0 _ _ _ _ _).mono ?_); rintro e y6 ⟨rfl, hb⟩; have HB := Aside0.mk (below_step HB.out hb); clear hb))
 go_ret
 exact ⟨rfl, HB.out⟩
set_option maxRecDepth 100000 in
set_option maxHeartbeats 8000000 in
theorem stells_near_nil (p : Prod) (A1 : Option Addr) (c1 : Nat) (A2 : Option Addr) (c2 : Nat) (A3 : Option Addr) (c3 : Nat) (start amt : Int) (S M : Int) (q0 : Prod) (w : World) (hp : ProdAt w p A1 c1 A2 c2 A3 c3) (hgv : GV w) (b1 : p.name.size ≤ 100) (b2 : p.resets.length ≤ 50) (b3 : p.late.length ≤ 50) (b4 : p.hol.length ≤ 300) (m0 : IntKind.i64.wrap (Int.tmod (IntKind.u64.wrap amt) 1000000000) = U amt 1000000000) (s0 : IntKind.i64.wrap (1 + U amt 1000000000) = M) (m1 : IntKind.i64.wrap (Int.tmod (IntKind.u64.wrap start) 400) = U start 400) (s1 : IntKind.i64.wrap (19723 + U start 400) = S) (hne : ∀ W, Below w.heap.size w W → Calls Tryz.prog 6 #[pv p A1 c1 A2 c2 A3 c3, .int .i64 30] W (NearE p A1 c1 A2 c2 A3 c3 q0 W)) (sq : Small q0) (cd : Int) (hs : schedP q0 S M = ([], cd)) :
  Calls Tryz.prog 3 #[pv p A1 c1 A2 c2 A3 c3, .int .i64 start, .int .i64 amt, .bool false] w fun e w' => e = .returned (.bool true) ∧ Below w.heap.size w w' := by
 have HG := Aside0.mk hgv
 have HP := Aside0.mk hp
 have NE := Aside0.mk hne
 have AK := Aside0.mk (fun (W : World) (hb : Below w.heap.size w W) => sched_awake W (hgv.below hb))
 have OF := Aside0.mk (fun (B1 : Option Addr) (d1 : Nat) (B2 : Option Addr) (d2 : Nat) (B3 : Option Addr) (d3 : Nat) (hq : ∀ w0, ProdAt w0 p A1 c1 A2 c2 A3 c3 → ProdAt w0 q0 B1 d1 B2 d2 B3 d3) (W : World) (hb : Below w.heap.size w W) => show Calls Tryz.prog 7 #[pv q0 B1 d1 B2 d2 B3 d3, .int .i64 S, .int .i64 M] W (fun e w' => ∃ A c, e = .returned (.tuple #[.slice A 0 c, .int .i64 cd]) ∧ Below W.heap.size W w') from by
  have h := sched_any q0 B1 d1 B2 d2 B3 d3 S M W (HG.out.below hb) (hq W (HP.out.below hb)) sq
  rw [hs] at h
  exact h.mono fun e w' h => (by obtain ⟨A, c, he, -, hb⟩ := h; exact ⟨A, c, he, hb⟩))
 have RF := Aside0.mk (fun (B1 : Option Addr) (d1 : Nat) (B2 : Option Addr) (d2 : Nat) (B3 : Option Addr) (d3 : Nat) (hq : ∀ w0, ProdAt w0 p A1 c1 A2 c2 A3 c3 → ProdAt w0 q0 B1 d1 B2 d2 B3 d3) (W : World) (hb : Below w.heap.size w W) => show Calls Tryz.prog 8 #[pv q0 B1 d1 B2 d2 B3 d3, .int .i64 S, .int .i64 M] W (fun e w' => ∃ A c, e = .returned (.tuple #[.slice A 0 c, .int .i64 cd]) ∧ Below W.heap.size W w') from by
  have h := rsched_any q0 B1 d1 B2 d2 B3 d3 S M W (hq W (HP.out.below hb)) sq.held sq.s3
  rw [hs] at h
  exact h.mono fun e w' h => (by obtain ⟨A, c, he, -, hb⟩ := h; exact ⟨A, c, he, hb⟩))
 clear hp hgv hs sq hne
 go_enter Tryz.func3, Tryz.ntmps3
 go_wp2_with ((with_reducible refine gate_dst (N := 4) rfl ?_); refine box_event ?hg (N := 4) ?hd (cs := pcs p A1 c1 A2 c2 A3 c3) (t := 27) ?hr ?_; (case hd => rfl); (case hg => rfl); (case hr => first | (go_simp; done) | (go_simp; rfl)); intro g2 hg v0 hb1 hbl1; have ge2 := (show w.heap.size ≤ g2 by rw [hg]; exact Nat.le_refl _); clear hg; have G2 := Aside0.mk hb1; have HB := Aside0.mk hbl1; clear hb1 hbl1; refine Hid.out ?_)
 refine Lib.hid ?_
 obtain ⟨v0_, -, -, -, -, v5_, -, -, v8_, -, -, -, -, -, -, v15_, -, -, v18_⟩ := pc_cells G2.out
 go_wp2_with (first
  | ((with_reducible refine gate_dst (N := 46) rfl ?_); refine wpList_load_row rfl 27 (.tmp 4) rfl g2 rfl 27 _ (0, 0) _ G2.out Tryz.underlying27 rfl info_prod ?_)
  | (go_at_call 6; (with_reducible refine (NE.out _ HB.out).mono ?_); rintro e y47 ⟨B1, d1, B2, d2, B3, d3, rfl, hq, hb⟩; have HQ := Aside0.mk hq; have HB := Aside0.mk (below_step HB.out hb); have G2 := Aside0.mk (Pd.blk_below G2.out hb); clear hb; clear hq)
  | ((with_reducible refine gate_store (t := 27) (p := 4) rfl ?_); refine row_event rfl (t := 27) (p := 4) (v := .tmp 47) rfl rfl (g := g2) (cs := pcs q0 B1 d1 B2 d2 B3 d3) (zs := pcs p A1 c1 A2 c2 A3 c3) rfl rfl G2.out info_prod rfl (pcs_one _ _ _ _ _ _ _) ?_; intro x1 hb8 hbut; have G2 := Aside0.mk hb8; have HB := Aside0.mk (But.below HB.out HB.out.size ge2 hbut); clear hb8 hbut)
  | ((with_reducible refine gate_dst (N := 59) rfl ?_); refine wpList_load_row rfl 27 (.tmp 4) rfl g2 rfl 27 _ (0, 0) _ G2.out Tryz.underlying27 rfl info_prod ?_)
  | (go_at_call 7; (with_reducible refine (OF.out _ _ _ _ _ _ HQ.out _ HB.out).mono ?_); rintro e y1 ⟨A, c, rfl, hb⟩; have HB := Aside0.mk (below_step HB.out hb); have G2 := Aside0.mk (Pd.blk_below G2.out hb); clear hb)
  | ((with_reducible refine gate_dst (N := 66) rfl ?_); refine wpList_load_row rfl 27 (.tmp 4) rfl g2 rfl 27 _ (0, 0) _ G2.out Tryz.underlying27 rfl info_prod ?_)
  | (go_at_call 8; (with_reducible refine (RF.out _ _ _ _ _ _ HQ.out _ HB.out).mono ?_); rintro e y2 ⟨A', c', rfl, hb⟩; have HB := Aside0.mk (below_step HB.out hb); have G2 := Aside0.mk (Pd.blk_below G2.out hb); clear hb)
  | (go_at_call 5; (with_reducible refine (AK.out _ HB.out).mono ?_); rintro e y5 ⟨rfl, hb⟩; have HB := Aside0.mk (below_step HB.out hb); clear hb)
  | (go_at_call 9; (with_reducible refine (plainLn0 _ _ _ _ _).mono ?_); rintro e y6 ⟨rfl, hb⟩; have HB := Aside0.mk (below_step HB.out hb); clear hb))
 go_ret
 exact ⟨rfl, HB.out⟩
set_option maxRecDepth 100000 in
set_option maxHeartbeats 8000000 in
theorem stells_raw_one (p : Prod) (A1 : Option Addr) (c1 : Nat) (A2 : Option Addr) (c2 : Nat) (A3 : Option Addr) (c3 : Nat) (start amt : Int) (w : World) (hp : ProdAt w p A1 c1 A2 c2 A3 c3) (hgv : GV w) (b1 : p.name.size ≤ 100) (b2 : p.resets.length ≤ 50) (b3 : p.late.length ≤ 50) (b4 : p.hol.length ≤ 300) (b5 : p.times ≤ 40) (ls : List Ln) (hpos : 0 < ls.length) (hll : ls.length ≤ 600) (cd : Int) (hs : schedP p start amt = (ls, cd)) :
  Calls Tryz.prog 3 #[pv p A1 c1 A2 c2 A3 c3, .int .i64 start, .int .i64 amt, .bool true] w fun e w' => e = .returned (.bool true) ∧ Below w.heap.size w w' := by
 have HG := Aside0.mk hgv
 have HP := Aside0.mk hp
 have AK := Aside0.mk (fun (W : World) (hb : Below w.heap.size w W) => sched_awake W (hgv.below hb))
 have sq : Small p := ⟨by omega, by omega, by omega, by omega⟩
 have OF := Aside0.mk (fun (W : World) (hb : Below w.heap.size w W) => show Calls Tryz.prog 7 #[pv p A1 c1 A2 c2 A3 c3, .int .i64 start, .int .i64 amt] W (fun e w' => ∃ gn c, e = .returned (.tuple #[.slice (some ⟨gn, 0, none⟩) ls.length c, .int .i64 cd]) ∧ LinesAt w' gn ls ∧ Below W.heap.size W w') from by
  have h := sched_any p A1 c1 A2 c2 A3 c3 start amt W (HG.out.below hb) (HP.out.below hb) sq
  rw [hs] at h
  exact h.mono fun e w' h => (h.at_ hpos))
 have RF := Aside0.mk (fun (W : World) (hb : Below w.heap.size w W) => show Calls Tryz.prog 8 #[pv p A1 c1 A2 c2 A3 c3, .int .i64 start, .int .i64 amt] W (fun e w' => ∃ gn c, e = .returned (.tuple #[.slice (some ⟨gn, 0, none⟩) ls.length c, .int .i64 cd]) ∧ LinesAt w' gn ls ∧ Below W.heap.size W w') from by
  have h := rsched_any p A1 c1 A2 c2 A3 c3 start amt W (HP.out.below hb) sq.held sq.s3
  rw [hs] at h
  exact h.mono fun e w' h => (h.at_ hpos))
 have LM := Aside0.mk (show ls.length ≤ 1000000 by omega)
 clear hp hgv hs sq hpos hll
 go_enter Tryz.func3, Tryz.ntmps3
 go_wp2_with ((with_reducible refine gate_dst (N := 4) rfl ?_); refine box_event ?hg (N := 4) ?hd (cs := pcs p A1 c1 A2 c2 A3 c3) (t := 27) ?hr ?_; (case hd => rfl); (case hg => rfl); (case hr => first | (go_simp; done) | (go_simp; rfl)); intro g2 hg v0 hb1 hbl1; have ge2 := (show w.heap.size ≤ g2 by rw [hg]; exact Nat.le_refl _); clear hg; have G2 := Aside0.mk hb1; have HB := Aside0.mk hbl1; clear hb1 hbl1; refine Hid.out ?_)
 refine Lib.hid ?_
 obtain ⟨v0_, -, -, -, -, v5_, -, -, v8_, -, -, -, -, -, -, v15_, -, -, v18_⟩ := pc_cells G2.out
 go_wp2_with (first
  | ((with_reducible refine gate_dst (N := 59) rfl ?_); refine wpList_load_row rfl 27 (.tmp 4) rfl g2 rfl 27 _ (0, 0) _ G2.out Tryz.underlying27 rfl info_prod ?_)
  | (go_at_call 7; (with_reducible refine (OF.out _ HB.out).mono ?_); rintro e y1 ⟨gn, c, rfl, hC, hb⟩; have HB := Aside0.mk (below_step HB.out hb); have G2 := Aside0.mk (Pd.blk_below G2.out hb); have HA := Aside0.mk hC; clear hb hC)
  | ((with_reducible refine gate_dst (N := 66) rfl ?_); refine wpList_load_row rfl 27 (.tmp 4) rfl g2 rfl 27 _ (0, 0) _ G2.out Tryz.underlying27 rfl info_prod ?_)
  | (go_at_call 8; (with_reducible refine (RF.out _ HB.out).mono ?_); rintro e y2 ⟨gm, c', rfl, hC, hb⟩; have HB := Aside0.mk (below_step HB.out hb); have G2 := Aside0.mk (Pd.blk_below G2.out hb); have HA := Aside0.mk (HA.out.below hb); have HD := Aside0.mk hC; clear hb hC)
  | (go_at_call 5; (with_reducible refine (AK.out _ HB.out).mono ?_); rintro e y5 ⟨rfl, hb⟩; have HB := Aside0.mk (below_step HB.out hb); have HA := Aside0.mk (HA.out.below hb); have HD := Aside0.mk (HD.out.below hb); clear hb)
  | (go_at_call 9; (with_reducible refine (plainLn _ _ _ _ ls _ HA.out HD.out LM.out).mono ?_); rintro e y6 ⟨rfl, hb⟩; have HB := Aside0.mk (below_step HB.out hb); clear hb))
 go_ret
 exact ⟨rfl, HB.out⟩
set_option maxRecDepth 100000 in
set_option maxHeartbeats 8000000 in
theorem stells_near_one (p : Prod) (A1 : Option Addr) (c1 : Nat) (A2 : Option Addr) (c2 : Nat) (A3 : Option Addr) (c3 : Nat) (start amt : Int) (S M : Int) (q0 : Prod) (w : World) (hp : ProdAt w p A1 c1 A2 c2 A3 c3) (hgv : GV w) (b1 : p.name.size ≤ 100) (b2 : p.resets.length ≤ 50) (b3 : p.late.length ≤ 50) (b4 : p.hol.length ≤ 300) (m0 : IntKind.i64.wrap (Int.tmod (IntKind.u64.wrap amt) 1000000000) = U amt 1000000000) (s0 : IntKind.i64.wrap (1 + U amt 1000000000) = M) (m1 : IntKind.i64.wrap (Int.tmod (IntKind.u64.wrap start) 400) = U start 400) (s1 : IntKind.i64.wrap (19723 + U start 400) = S) (hne : ∀ W, Below w.heap.size w W → Calls Tryz.prog 6 #[pv p A1 c1 A2 c2 A3 c3, .int .i64 30] W (NearE p A1 c1 A2 c2 A3 c3 q0 W)) (sq : Small q0) (ls : List Ln) (hpos : 0 < ls.length) (hll : ls.length ≤ 600) (cd : Int) (hs : schedP q0 S M = (ls, cd)) :
  Calls Tryz.prog 3 #[pv p A1 c1 A2 c2 A3 c3, .int .i64 start, .int .i64 amt, .bool false] w fun e w' => e = .returned (.bool true) ∧ Below w.heap.size w w' := by
 have HG := Aside0.mk hgv
 have HP := Aside0.mk hp
 have NE := Aside0.mk hne
 have AK := Aside0.mk (fun (W : World) (hb : Below w.heap.size w W) => sched_awake W (hgv.below hb))
 have OF := Aside0.mk (fun (B1 : Option Addr) (d1 : Nat) (B2 : Option Addr) (d2 : Nat) (B3 : Option Addr) (d3 : Nat) (hq : ∀ w0, ProdAt w0 p A1 c1 A2 c2 A3 c3 → ProdAt w0 q0 B1 d1 B2 d2 B3 d3) (W : World) (hb : Below w.heap.size w W) => show Calls Tryz.prog 7 #[pv q0 B1 d1 B2 d2 B3 d3, .int .i64 S, .int .i64 M] W (fun e w' => ∃ gn c, e = .returned (.tuple #[.slice (some ⟨gn, 0, none⟩) ls.length c, .int .i64 cd]) ∧ LinesAt w' gn ls ∧ Below W.heap.size W w') from by
  have h := sched_any q0 B1 d1 B2 d2 B3 d3 S M W (HG.out.below hb) (hq W (HP.out.below hb)) sq
  rw [hs] at h
  exact h.mono fun e w' h => (h.at_ hpos))
 have RF := Aside0.mk (fun (B1 : Option Addr) (d1 : Nat) (B2 : Option Addr) (d2 : Nat) (B3 : Option Addr) (d3 : Nat) (hq : ∀ w0, ProdAt w0 p A1 c1 A2 c2 A3 c3 → ProdAt w0 q0 B1 d1 B2 d2 B3 d3) (W : World) (hb : Below w.heap.size w W) => show Calls Tryz.prog 8 #[pv q0 B1 d1 B2 d2 B3 d3, .int .i64 S, .int .i64 M] W (fun e w' => ∃ gn c, e = .returned (.tuple #[.slice (some ⟨gn, 0, none⟩) ls.length c, .int .i64 cd]) ∧ LinesAt w' gn ls ∧ Below W.heap.size W w') from by
  have h := rsched_any q0 B1 d1 B2 d2 B3 d3 S M W (hq W (HP.out.below hb)) sq.held sq.s3
  rw [hs] at h
  exact h.mono fun e w' h => (h.at_ hpos))
 have LM := Aside0.mk (show ls.length ≤ 1000000 by omega)
 clear hp hgv hs sq hne hpos hll
 go_enter Tryz.func3, Tryz.ntmps3
 go_wp2_with ((with_reducible refine gate_dst (N := 4) rfl ?_); refine box_event ?hg (N := 4) ?hd (cs := pcs p A1 c1 A2 c2 A3 c3) (t := 27) ?hr ?_; (case hd => rfl); (case hg => rfl); (case hr => first | (go_simp; done) | (go_simp; rfl)); intro g2 hg v0 hb1 hbl1; have ge2 := (show w.heap.size ≤ g2 by rw [hg]; exact Nat.le_refl _); clear hg; have G2 := Aside0.mk hb1; have HB := Aside0.mk hbl1; clear hb1 hbl1; refine Hid.out ?_)
 refine Lib.hid ?_
 obtain ⟨v0_, -, -, -, -, v5_, -, -, v8_, -, -, -, -, -, -, v15_, -, -, v18_⟩ := pc_cells G2.out
 go_wp2_with (first
  | ((with_reducible refine gate_dst (N := 46) rfl ?_); refine wpList_load_row rfl 27 (.tmp 4) rfl g2 rfl 27 _ (0, 0) _ G2.out Tryz.underlying27 rfl info_prod ?_)
  | (go_at_call 6; (with_reducible refine (NE.out _ HB.out).mono ?_); rintro e y47 ⟨B1, d1, B2, d2, B3, d3, rfl, hq, hb⟩; have HQ := Aside0.mk hq; have HB := Aside0.mk (below_step HB.out hb); have G2 := Aside0.mk (Pd.blk_below G2.out hb); clear hb; clear hq)
  | ((with_reducible refine gate_store (t := 27) (p := 4) rfl ?_); refine row_event rfl (t := 27) (p := 4) (v := .tmp 47) rfl rfl (g := g2) (cs := pcs q0 B1 d1 B2 d2 B3 d3) (zs := pcs p A1 c1 A2 c2 A3 c3) rfl rfl G2.out info_prod rfl (pcs_one _ _ _ _ _ _ _) ?_; intro x1 hb8 hbut; have G2 := Aside0.mk hb8; have HB := Aside0.mk (But.below HB.out HB.out.size ge2 hbut); clear hb8 hbut)
  | ((with_reducible refine gate_dst (N := 59) rfl ?_); refine wpList_load_row rfl 27 (.tmp 4) rfl g2 rfl 27 _ (0, 0) _ G2.out Tryz.underlying27 rfl info_prod ?_)
  | (go_at_call 7; (with_reducible refine (OF.out _ _ _ _ _ _ HQ.out _ HB.out).mono ?_); rintro e y1 ⟨gn, c, rfl, hC, hb⟩; have HB := Aside0.mk (below_step HB.out hb); have G2 := Aside0.mk (Pd.blk_below G2.out hb); have HA := Aside0.mk hC; clear hb hC)
  | ((with_reducible refine gate_dst (N := 66) rfl ?_); refine wpList_load_row rfl 27 (.tmp 4) rfl g2 rfl 27 _ (0, 0) _ G2.out Tryz.underlying27 rfl info_prod ?_)
  | (go_at_call 8; (with_reducible refine (RF.out _ _ _ _ _ _ HQ.out _ HB.out).mono ?_); rintro e y2 ⟨gm, c', rfl, hC, hb⟩; have HB := Aside0.mk (below_step HB.out hb); have G2 := Aside0.mk (Pd.blk_below G2.out hb); have HA := Aside0.mk (HA.out.below hb); have HD := Aside0.mk hC; clear hb hC)
  | (go_at_call 5; (with_reducible refine (AK.out _ HB.out).mono ?_); rintro e y5 ⟨rfl, hb⟩; have HB := Aside0.mk (below_step HB.out hb); have HA := Aside0.mk (HA.out.below hb); have HD := Aside0.mk (HD.out.below hb); clear hb)
  | (go_at_call 9; (with_reducible refine (plainLn _ _ _ _ ls _ HA.out HD.out LM.out).mono ?_); rintro e y6 ⟨rfl, hb⟩; have HB := Aside0.mk (below_step HB.out hb); clear hb))
 go_ret
 exact ⟨rfl, HB.out⟩
theorem scheduleTells_walk (p : Prod) (A1 : Option Addr) (c1 : Nat) (A2 : Option Addr) (c2 : Nat) (A3 : Option Addr) (c3 : Nat) (start amt : Int) (raw : Bool) (w : World) (hp : ProdAt w p A1 c1 A2 c2 A3 c3) (hz0 : p.name.size ≤ maxLen) (hz1 : c1 ≤ maxLen) (hz2 : c2 ≤ maxLen) (hz3 : c3 ≤ maxLen) (ws : (Lit.int .i64 start).wf = true) (wa : (Lit.int .i64 amt).wf = true) (hgv : GV w) :
  Calls Tryz.prog 3 #[pv p A1 c1 A2 c2 A3 c3, .int .i64 start, .int .i64 amt, .bool raw] w fun e w' => e = .returned (.bool true) ∧ Below w.heap.size w w' := by
 by_cases hbig : 100 < p.name.size ∨ 50 < p.resets.length ∨ 50 < p.late.length ∨ 300 < p.hol.length
 ·exact stells_big p A1 c1 A2 c2 A3 c3 start amt raw w hp hz0 hz1 hz2 hz3 hgv hbig
 ·have b1 : p.name.size ≤ 100 := by omega
  have b2 : p.resets.length ≤ 50 := by omega
  have b3 : p.late.length ≤ 50 := by omega
  have b4 : p.hol.length ≤ 300 := by omega
  clear hbig
  cases raw with
  | true =>
   have hl := sched_len p start amt
   by_cases b5 : 40 < p.times
   ·exact stells_long p A1 c1 A2 c2 A3 c3 start amt w hp hgv b1 b2 b3 b4 b5
   rcases List.eq_nil_or_concat (schedP p start amt).1 with h | ⟨_, _, h⟩
   ·exact stells_raw_nil p A1 c1 A2 c2 A3 c3 start amt w hp hgv b1 b2 b3 b4 (Int.not_lt.1 b5) _ (Prod.ext h rfl)
   ·exact stells_raw_one p A1 c1 A2 c2 A3 c3 start amt w hp hgv b1 b2 b3 b4 (Int.not_lt.1 b5) (schedP p start amt).1 (by rw [h]; simp) hl _ rfl
  | false =>
   have hd : Held p := (show Small p from ⟨by omega, by omega, by omega, by omega⟩).held
   have hne : ∀ W, Below w.heap.size w W → Calls Tryz.prog 6 #[pv p A1 c1 A2 c2 A3 c3, .int .i64 30] W (NearE p A1 c1 A2 c2 A3 c3 (nearP p 30) W) := fun W hb => near_any p A1 c1 A2 c2 A3 c3 30 W (hp.below hb) hd (by omega) (by omega)
   obtain ⟨oq, nt⟩ := near_valid p (n := 30) (by omega) (by omega)
   generalize nearP p 30 = q0 at hne oq nt
   have m0 := U_isC amt (m := 1000000000) (by omega) (by omega)
   obtain ⟨m0a, m0b⟩ := U_bd amt (m := 1000000000) (by omega)
   obtain ⟨M, hM⟩ : ∃ M, 1 + U amt 1000000000 = M := ⟨_, rfl⟩
   have s0 : IntKind.i64.wrap (1 + U amt 1000000000) = M := by rw [hM]; exact IntWalk.i64_in _ (by omega)
   have m1 := U_isC start (m := 400) (by omega) (by omega)
   obtain ⟨m1a, m1b⟩ := U_bd start (m := 400) (by omega)
   obtain ⟨S, hS⟩ : ∃ S, 19723 + U start 400 = S := ⟨_, rfl⟩
   have s1 : IntKind.i64.wrap (19723 + U start 400) = S := by rw [hS]; exact IntWalk.i64_in _ (by omega)
   have hl := sched_len q0 S M
   rcases List.eq_nil_or_concat (schedP q0 S M).1 with h | ⟨_, _, h⟩
   ·exact stells_near_nil p A1 c1 A2 c2 A3 c3 start amt S M q0 w hp hgv b1 b2 b3 b4 m0 s0 m1 s1 hne (ok_small oq) _ (Prod.ext h rfl)
   ·exact stells_near_one p A1 c1 A2 c2 A3 c3 start amt S M q0 w hp hgv b1 b2 b3 b4 m0 s0 m1 s1 hne (ok_small oq) (schedP q0 S M).1 (by rw [h]; simp) hl _ rfl
end Go.Proofs.YtfmkdledofbhdaaGreat.Sc
