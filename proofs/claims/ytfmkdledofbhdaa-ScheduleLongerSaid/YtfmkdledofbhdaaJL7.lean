/- Texts of this claim, joined in build order. -/
import Derived.Below
import Derived.Deep.Draws
import Derived.Deep.AppendLies
import Derived.Maps.AppendAt
import Derived.OwnWalk
import Derived.Laws.BytesArg
import Derived.Laws.MakeOwn
import Derived.Laws.OwnMore
import Derived.Tactics
import Derived.Lib.ConvBytes
import Derived.Laws.Slices
import Derived.WalkKit
import Derived.KernelRfl
import Derived.RowKit3
import Derived.Deep.LoopGhost
import Derived.Deep.QuietTactic
import Derived.BigQuiet
import Derived.WideLaws
import Derived.Deep.DeepCutAuto
import Derived.Deep.CutBlock
import Derived.Deep.RegionHeld3
import Derived.Lib.AppendStr
import Derived.ArgAppend
import Derived.Laws.IdiomCopy
import Derived.RowKit
import Derived.OrdersHeld
import Derived.Laws.BitsLemmas
import Derived.Test.YtfmkdledofbhdaaProg
import Derived.Laws.StructEq
import Derived.WalkLawsBesides
import Derived.WalkSpells
import Derived.IntWalk
import Derived.Lib.IndexMore
import Derived.Deep.Slices
import Derived.Deep.Fields
import Derived.ChangeSame
import Derived.Lib.SmallJoins
import Derived.ProofKit
import Derived.Defers
import Derived.Laws.Tables
import Derived.Deep.WholeRow
import Derived.Recover
import Derived.StillTailTactics
import Derived.Shelf.Small.Bits
import Derived.Shelf.Strconv.Itoa0
import Derived.Shelf.Strings.Search1
import Derived.Shelf.Strings.Search2
import Derived.Shelf.Strings.Search3
import Derived.Shelf.LaysM
import Derived.Shelf.Strings.Shaped
import Derived.Shelf.Bits.Mul64
import Derived.Lib.SlBytesConst
import Derived.Deep.RegionWith
import Derived.Lib.Hide
import Derived.BigFrame
import Derived.Lib.BitFns
import Derived.Laws.BitsAllLaws
import Derived.Laws.Externs
import Derived.RegionTactic
import Derived.Deep.MidRow
import Derived.OpenShut
import Derived.ShutString
import Derived.ChangeOld
import Derived.Laws.IdiomArrays
import Derived.SizedLaws
import Derived.HandedShaped
import Derived.Shelf.Vars
import Derived.Test.YtfmkdledofbhdaaJL1
import Derived.Test.YtfmkdledofbhdaaJL2
import Derived.Test.YtfmkdledofbhdaaJL3
import Derived.Test.YtfmkdledofbhdaaJL4
import Derived.Test.YtfmkdledofbhdaaJL5
import Derived.Test.YtfmkdledofbhdaaJL6
set_option linter.unusedVariables false
set_option linter.unusedSimpArgs false
/- Contracts by hand: schedule.Of. -/
namespace Go.Proofs.Ytfmkdledofbhdaa.Sc
open Go.RowKit Go.Proofs.YtfmkdledofbhdaaW.PrintWords Go.Proofs.YtfmkdledofbhdaaW.PrintLast Go.Proofs.YtfmkdledofbhdaaW.PrintMore Go.Proofs.Ytfmkdledofbhdaa.HW
open Go.Proofs.Ytfmkdledofbhdaa.Math Go.Proofs.Ytfmkdledofbhdaa.H Go.Proofs.Ytfmkdledofbhdaa.Pd Go.Proofs.Ytfmkdledofbhdaa.Du Go.Proofs.Ytfmkdledofbhdaa.Lv Pm
set_option linter.unusedVariables false
set_option linter.unusedSimpArgs false
attribute [local go_sem] max2_int min2_int max_two min_two

theorem built_maker (p : Prod) (A1 : Option Addr) (c1 : Nat) (A2 : Option Addr) (c2 : Nat) (A3 : Option Addr) (c3 : Nat) (m : Int) : Try.prog.built 63 [(0, .agg (pcs p A1 c1 A2 c2 A3 c3)), (1, .int .i64 m), (3, .int .i64 m)] = some (mcs p A1 c1 A2 c2 A3 c3 m 0 m (.pointer none)) := by kernel_rfl
theorem Blk.readsL {w : World} {g : Nat} {e : TypeId} {l : List Int} {t : List Value} (h : H.Blk w g e (nums .i64 l ++ t)) (hm : l.length ≤ 1000000) : Kd.C (Kd.int .i64) w (some ⟨g, 0, none⟩) l.length l := Blk.reads h (by omega)
theorem info_lineb : (Try.prog.info? 36).map (fun i => (i.zero, i.size, i.bytes)) = some (some (.agg #[.int .i64 0, .int .i64 0, .int .i64 0, .int .i64 0]), 4, 32) := by kernel_rfl
theorem line_M {w : World} {base : Nat} {ok : Nat → Prop} (a b c d : Int) : (Kd.pair (Kd.int .i64) (Kd.pair (Kd.int .i64) (Kd.pair (Kd.int .i64) (Kd.int .i64)))).M w base ok (a, b, c, d) [.int .i64 a, .int .i64 b, .int .i64 c, .int .i64 d] :=
  ⟨[_], _, rfl, rfl, [_], _, rfl, rfl, [_], _, rfl, rfl, rfl⟩
theorem But2.toBelow {a b : Nat} {w w1 w2 : World} (h : Below w.heap.size w w1) (hb : But2 a b w1 w2) (ha : w.heap.size ≤ a) (hc : w.heap.size ≤ b) : Below w.heap.size w w2 :=
  ⟨hb.os.trans h.os, hb.tape.trans h.tape, hb.output.trans h.output, Nat.le_trans h.size hb.size, fun k hk => (hb.block k (Nat.lt_of_lt_of_le hk h.size) (by omega) (by omega)).trans (h.block k hk)⟩
theorem _root_.Go.Proofs.Ytfmkdledofbhdaa.H.BearAt.same {w w1 : World} {g : Nat} {W h rest : Int} (H : BearAt w g W h rest) (hb : w1.heap[g]? = w.heap[g]?) (hs : w.heap.size ≤ w1.heap.size) : BearAt w1 g W h rest :=
  ⟨(World.cell?_of_block (a := ⟨g, 0, none⟩) hb).trans H.c0, (World.cell?_of_block (a := ⟨g, 1, none⟩) hb).trans H.c1, (World.cell?_of_block (a := ⟨g, 2, none⟩) hb).trans H.c2, (World.frozen?_of_block (a := ⟨g, 2, none⟩) hb).trans H.f2, Nat.lt_of_lt_of_le H.lt hs⟩
theorem zip_drop {xs ys : List Int} {k : Nat} (h : k < xs.length) (h2 : ys.length = xs.length) : (xs.zip ys).drop k = (rd xs (k : Int), rd ys (k : Int)) :: (xs.zip ys).drop (k + 1) := by
  rw [List.drop_eq_getElem_cons (by rw [List.length_zip]; omega), List.getElem_zip]
  simp [rd, h, show k < ys.length by omega]
theorem inst_bd {p : Prod} {ys : List Int} {m inst : Int} (h : ofE p ys m = (inst, 0)) : 1 ≤ inst ∧ inst ≤ 1000000000000000 := by
  have ha : askE p ys m = 0 := by
    rcases Decidable.em (askE p ys m = 0) with e | e
    · exact e
    · unfold ofE at h
      rw [if_pos e] at h
      exact absurd (congrArg Prod.snd h) e
  obtain ⟨hm, hz⟩ := lf_mono ha
  have hn : ¬ askE p ys m ≠ 0 := by rw [ha]; decide
  unfold ofE at h
  rw [if_neg hn] at h
  by_cases h2 : 0 < lf p ys m 1000000000000000
  · rw [if_pos h2] at h
    exact absurd (congrArg Prod.snd h) (fun e => by simp at e)
  · rw [if_neg h2] at h
    have L := srch_least (lf p ys m) 50 0 1000000000000000 (by decide) (by decide) (by decide) (by decide) hz (by omega)
    have e := congrArg Prod.fst h
    simp only [] at e
    rw [e] at L
    exact ⟨L.v1, L.vm⟩
def ListedL1 (l : List Int) (w : World) (e : Ending) (w' : World) : Prop := ∃ g c t, e = .returned (.tuple #[.slice (some ⟨g, 0, none⟩) l.length c, .int .i64 0]) ∧ w.heap.size ≤ g ∧ l.length ≤ c ∧ H.Blk w' g 2 (nums .i64 l ++ t) ∧ Below w.heap.size w w'
theorem listed_one {l : List Int} {w w' : World} {e : Ending} (h : ListedL (l, 0) w e w') (hl : l ≠ []) : ListedL1 l w e w' := by
  obtain ⟨v, he, hr, hb⟩ := h
  rcases hr with ⟨-, h⟩ | ⟨g, c, t, rfl, hg, hc, hk⟩
  · exact absurd h hl
  · exact ⟨g, c, t, he, hg, hc, hk, hb⟩
/-- What Of gives. -/
def Sched (r : List Ln × Int) (w : World) (e : Ending) (w' : World) : Prop := ∃ A c, e = .returned (.tuple #[.slice A r.1.length c, .int .i64 r.2]) ∧ Kd.R (Kd.pair (Kd.int .i64) (Kd.pair (Kd.int .i64) (Kd.pair (Kd.int .i64) (Kd.int .i64)))) 36 w' w.heap.size (fun _ => True) (.slice A r.1.length c) r.1 ∧ Below w.heap.size w w'
set_option maxRecDepth 100000 in
set_option maxHeartbeats 20000000 in
theorem sched_one (p : Prod) (A1 : Option Addr) (c1 : Nat) (A2 : Option Addr) (c2 : Nat) (A3 : Option Addr) (c3 : Nat) (start m inst : Int) (w : World) (hg : GV w) (hp : ProdAt w p A1 c1 A2 c2 A3 c3) (hs : Small p) (xs ys : List Int) (hd : daysP p start = (xs, 0)) (hpx : partsP p start = (ys, 0)) (hxl : xs.length ≤ 600) (m0 : 1 ≤ m) (m1 : m ≤ 10000000000000) (hi : p.kind = 1 ∧ ofE p ys m = (inst, 0)) :
    Calls Try.prog 11 #[pv p A1 c1 A2 c2 A3 c3, .int .i64 start, .int .i64 m] w (Sched (linesP p start m inst) w) := by
  obtain ⟨ho, hs0, hds, hl, t1, t2, hr, -⟩ := days_known hd
  have hyl : ys.length = xs.length := by
    have := hpx
    unfold partsP at this
    rw [hd, if_pos rfl] at this
    obtain ⟨rfl, -⟩ := Prod.mk.inj this
    exact rparts_len _ _ _
  have hJ : linesP p start m inst = join [] (lines p (Gm.whole p.count) (Gm.half p.count p.round) m inst 0 (xs.zip ys) m 0) := by
    unfold linesP
    rw [hd, hpx]
    exact (join_nil _ (lines_err _ _ _ _ _ _ _ _ _)).symm
  obtain ⟨⟨⟨⟨⟨_, a2, a3, a4, a5, a6, a7, a8⟩, ⟨b1, b2, b3⟩, b4⟩, c⟩, d_⟩, e_⟩ := (ok_iff p).1 ho
  have hne : xs ≠ [] := fun e => by rw [e] at hl; simp at hl; omega
  have hne2 : ys ≠ [] := fun e => by rw [e] at hyl; simp at hyl; exact hne (List.eq_nil_of_length_eq_zero hyl.symm)
  have ib : 0 ≤ inst ∧ inst ≤ 1000000000000000 := by
    have := inst_bd hi.2; omega
  have MM := Aside0.mk (show Mid p m 0 m from ⟨by omega, by omega, fun _ _ => by rw [show max 0 (0 - p.grace) = 0 by omega]; omega⟩)
  have GN := good_new p.count p.round
  have NW := Aside0.mk (fun U => bnew_any (c := p.count) (r := p.round) (by omega) a3 U)
  have DA := Aside0.mk (fun W (hb : Below w.heap.size w W) => show Calls Try.prog 16 #[pv p A1 c1 A2 c2 A3 c3, .int .i64 start] W (Listed1 xs W) from (days_any p A1 c1 A2 c2 A3 c3 start W (hg.below hb) (hp.below hb) hs).mono fun e w' h => by rw [hd] at h; exact h.one hne)
  have PA := Aside0.mk (fun W (hb : Below w.heap.size w W) => show Calls Try.prog 18 #[pv p A1 c1 A2 c2 A3 c3, .int .i64 start] W (ListedL1 ys W) from (parts_any p A1 c1 A2 c2 A3 c3 start W (hg.below hb) (hp.below hb) hs).mono fun e w' h => by rw [hpx] at h; exact listed_one h hne2)
  have OF := Aside0.mk (fun (A : Option Addr) (c : Nat) (W : World) (hb : Below w.heap.size w W) (hc : Kd.C (Kd.int .i64) W A ys.length ys) => show Calls Try.prog 26 #[pv p A1 c1 A2 c2 A3 c3, .slice A ys.length c, .int .i64 m] W (Two (inst, 0) W) from by have := Of_any p A1 c1 A2 c2 A3 c3 A ys c m W (hg.below hb) (hp.below hb) hs hc (by omega); rw [hi.2] at this; exact this)
  obtain ⟨R, hR⟩ : ∃ R, linesP p start m inst = R := ⟨_, rfl⟩
  rw [hR] at hJ ⊢
  obtain ⟨Wh, hWh⟩ : ∃ y, Gm.whole p.count = y := ⟨_, rfl⟩
  obtain ⟨Hf, hHf⟩ : ∃ y, Gm.half p.count p.round = y := ⟨_, rfl⟩
  rw [hWh, hHf] at GN hJ
  have HWh := Aside0.mk hWh
  have HHf := Aside0.mk hHf
  have GN := Aside0.mk GN
  have HJ := Aside0.mk hJ
  have KD := Aside0.mk a4
  have kk : (p.kind == 1) = true := by simpa using hi.1
  have HYL := Aside0.mk hyl
  have T2 := Aside0.mk t2
  have HLT := Aside0.mk hl
  have G0 := Aside0.mk a7
  clear hg hp hs hd hpx hJ hR hWh hHf ho hs0 hds hr a2 a3 a4 a5 a6 a8 b1 b2 b3 b4 c d_ e_ hne hne2 hi hyl hl t2 a7
  go_enter Try.func11, Try.ntmps11
  go_wp2_with (first
    | ((with_reducible refine gate_dst (N := 3) rfl ?_); refine box_event ?hg (N := 3) ?hd (cs := pcs p A1 c1 A2 c2 A3 c3) (t := 27) ?hr ?_; (case hd => rfl); (case hg => rfl); (case hr => first | (go_simp; done) | (go_simp; rfl)); intro g hg w1 hb1 hbl1; have gge := (show w.heap.size ≤ g by rw [hg]; exact Nat.le_refl _); clear hg; have GG := Aside0.mk hb1; have HB := Aside0.mk hbl1; clear hb1 hbl1)
    | ((with_reducible refine gate_dst (N := 20) rfl ?_); refine wpList_load_row rfl 27 (.tmp 3) rfl g rfl 27 _ (0, 0) _ GG.out Try.underlying27 rfl info_prod ?_)
    | (go_at_call 16; (with_reducible refine (DA.out _ HB.out).mono ?_); rintro e w2 ⟨gl, cl, tl, rfl, gle, lc, hbk, hb⟩; have BL := Aside0.mk hbk; have glge := Nat.le_trans HB.out.size gle; have HB := Aside0.mk (below_step HB.out hb); have GG := Aside0.mk (Pd.blk_below GG.out hb); clear hb hbk)
    | ((with_reducible refine gate_dst (N := 35) rfl ?_); refine wpList_load_row rfl 27 (.tmp 3) rfl g rfl 27 _ (0, 0) _ GG.out Try.underlying27 rfl info_prod ?_)
    | (go_at_call 18; (with_reducible refine (PA.out _ HB.out).mono ?_); rintro e w3 ⟨gx, cx, tx, rfl, gxe, xc, hbk, hb⟩; have BX := Aside0.mk hbk; have gxge := Nat.le_trans HB.out.size gxe; have BL := Aside0.mk (Blk.below BL.out hb); have HB := Aside0.mk (below_step HB.out hb); have GG := Aside0.mk (Pd.blk_below GG.out hb); clear hb hbk)
    | ((with_reducible refine gate_dst (N := 40) rfl ?_); refine wpList_load_row rfl 27 (.tmp 3) rfl g rfl 27 _ (0, 0) _ GG.out Try.underlying27 rfl info_prod ?_)
    | ((with_reducible refine gate_dst (N := 43) rfl ?_); refine build_event rfl (t := 63) rfl (cs := mcs p A1 c1 A2 c2 A3 c3 m 0 m (.pointer none)) ?hb ?_; (case hb => simp only [List.map_toArray, List.map_cons, List.map_nil]; exact built_maker p A1 c1 A2 c2 A3 c3 m))
    | ((with_reducible refine gate_dst (N := 44) rfl ?_); refine box_event ?hg (N := 44) ?hd (cs := mcs p A1 c1 A2 c2 A3 c3 m 0 m (.pointer none)) (t := 63) ?hr ?_; (case hd => rfl); (case hg => rfl); (case hr => first | (go_simp; done) | (go_simp; rfl)); intro gm hgm w4 hb1 hb; have gmge := (show w.heap.size ≤ gm by rw [hgm]; exact HB.out.size); have gmx := (show gx ≠ gm by have := Blk.lt BX.out; omega); have gml := (show gl ≠ gm by have := Blk.lt BL.out; omega); have gmg := (show g ≠ gm by have := blk_lt GG.out; omega); clear hgm; have GM := Aside0.mk hb1; have BL := Aside0.mk (Blk.below BL.out hb); have BX := Aside0.mk (Blk.below BX.out hb); have HB := Aside0.mk (below_step HB.out hb); have GG := Aside0.mk (Pd.blk_below GG.out hb); clear hb1 hb; have v20 := (show w4.cell? ⟨gm, 20, none⟩ = some (.int .i64 0) from (blk_cell GM.out 20).trans rfl); have f20 := frozen_of_row w4 gm 20 _ _ GM.out; have v22 := (show w4.cell? ⟨gm, 22, none⟩ = some (.pointer none) from (blk_cell GM.out 22).trans rfl); have f22 := frozen_of_row w4 gm 22 _ _ GM.out; obtain ⟨-, u1, u2, u3, -⟩ := pc_cells GG.out)
    | ((with_reducible refine gate_dst (N := 50) rfl ?_); refine wpList_load_row rfl 27 (.tmp 3) rfl g rfl 27 _ (0, 0) _ GG.out Try.underlying27 rfl info_prod ?_)
    | (go_at_call 26; (with_reducible refine (OF.out _ _ _ HB.out (Blk.readsL BX.out (by have := HYL.out; omega))).mono ?_); rintro e w5 ⟨rfl, hb⟩; have BL := Aside0.mk (Blk.below BL.out hb); have BX := Aside0.mk (Blk.below BX.out hb); have GM := Aside0.mk (Pd.blk_below GM.out hb); have HB := Aside0.mk (below_step HB.out hb); have GG := Aside0.mk (Pd.blk_below GG.out hb); clear hb v20 f20 v22 f22 u1 u2 u3; have v20 := (show w5.cell? ⟨gm, 20, none⟩ = some (.int .i64 0) from (blk_cell GM.out 20).trans rfl); have f20 := frozen_of_row w5 gm 20 _ _ GM.out)
    | ((with_reducible refine gate_store (t := 2) (p := 57) rfl ?_); refine put_event rfl (t := 2) (p := 57) (v := .tmp 54) rfl rfl (g := gm) (i := 20) (cs := mcs p A1 c1 A2 c2 A3 c3 m 0 m (.pointer none)) (cs' := mcs p A1 c1 A2 c2 A3 c3 m inst m (.pointer none)) (x := .int .i64 inst) ?hr GM.out ?hc ?_; (case hc => rfl); (case hr => go_simp); intro w6 hb8 hbut; have GM := Aside0.mk hb8; have BL := Aside0.mk (Blk.but BL.out hbut gml); have BX := Aside0.mk (Blk.but BX.out hbut gmx); have GG := Aside0.mk ((hbut.block g (blk_lt GG.out) gmg).trans GG.out); have HB := Aside0.mk (But.below HB.out HB.out.size gmge hbut); clear hb8 hbut; have v22 := (show w6.cell? ⟨gm, 22, none⟩ = some (.pointer none) from (blk_cell GM.out 22).trans rfl); have f22 := frozen_of_row w6 gm 22 _ _ GM.out; obtain ⟨-, u1, u2, u3, -⟩ := pc_cells GG.out)
    | (go_at_call 30; (with_reducible refine (NW.out _).mono ?_); rintro e w7 ⟨hb, gb, hgb, rfl, hba⟩; rw [HWh.out, HHf.out] at hba; have gbge := Nat.le_trans HB.out.size hgb; have gbm := (show gm ≠ gb by have := blk_lt GM.out; omega); have gbl := (show gl ≠ gb by have := Blk.lt BL.out; omega); have gbx := (show gx ≠ gb by have := Blk.lt BX.out; omega); have gbg := (show g ≠ gb by have := blk_lt GG.out; omega); have BA := Aside0.mk hba; have BL := Aside0.mk (Blk.below BL.out hb); have BX := Aside0.mk (Blk.below BX.out hb); have GM := Aside0.mk (Pd.blk_below GM.out hb); have HB := Aside0.mk (below_step HB.out hb); have GG := Aside0.mk (Pd.blk_below GG.out hb); clear hb hba hgb v22 f22 u1 u2 u3; have v22 := (show w7.cell? ⟨gm, 22, none⟩ = some (.pointer none) from (blk_cell GM.out 22).trans rfl); have f22 := frozen_of_row w7 gm 22 _ _ GM.out)
    | ((with_reducible refine gate_store (t := 61) (p := 71) rfl ?_); refine put_event rfl (t := 61) (p := 71) (v := .tmp 68) rfl rfl (g := gm) (i := 22) (cs := mcs p A1 c1 A2 c2 A3 c3 m inst m (.pointer none)) (cs' := mcs p A1 c1 A2 c2 A3 c3 m inst m (.pointer (some ⟨gb, 0, none⟩))) (x := .pointer (some ⟨gb, 0, none⟩)) ?hr GM.out ?hc ?_; (case hc => rfl); (case hr => go_simp); intro w8 hb8 hbut; have GM := Aside0.mk hb8; have BA := Aside0.mk (BA.out.but hbut (Ne.symm gbm)); have BL := Aside0.mk (Blk.but BL.out hbut gml); have BX := Aside0.mk (Blk.but BX.out hbut gmx); have GG := Aside0.mk ((hbut.block g (blk_lt GG.out) gmg).trans GG.out); have HB := Aside0.mk (But.below HB.out HB.out.size gmge hbut); clear hb8 hbut v22 f22))
  clear kk
  have HGE := Aside0.mk (show 0 ≤ p.grace ∧ p.grace < p.times by have := G0.out; omega)
  have HZD := Aside0.mk (List.length_zip (l₁ := xs) (l₂ := ys))
  go_loopg [14, 76] (xs.length + 1) (fun gq ov iv w' => ∃ (k : Nat) (left rest : Int) (Ax : Option Addr) (cw : Nat) (ls : List Ln), k ≤ xs.length ∧ iv = .int .i64 (k : Int) ∧ ov = .slice Ax ls.length cw ∧ Aside0 (ls.length = k) ∧ Aside0 (gq = xs.length + 1 - k) ∧ Aside0 (R = join ls (lines p Wh Hf m inst (k : Int) ((xs.zip ys).drop k) left rest)) ∧ Aside0 (Mid p m (k : Int) left) ∧ Aside0 (H.Good Wh Hf rest) ∧ Aside0 (w'.heap[gm]? = some (.cells (mcs p A1 c1 A2 c2 A3 c3 m inst left (.pointer (some ⟨gb, 0, none⟩))) 63 (0, 0))) ∧ Aside0 (BearAt w' gb Wh Hf rest) ∧ Aside0 (Kd.R (Kd.pair (Kd.int .i64) (Kd.pair (Kd.int .i64) (Kd.pair (Kd.int .i64) (Kd.int .i64)))) 36 w' w.heap.size (fun b => b ≠ g ∧ b ≠ gl ∧ b ≠ gx ∧ b ≠ gm ∧ b ≠ gb) (.slice Ax ls.length cw) ls) ∧ Aside0 (H.Blk w' gl 3 (nums .i64 xs ++ tl)) ∧ Aside0 (H.Blk w' gx 2 (nums .i64 ys ++ tx)) ∧ Aside0 (w'.heap[g]? = some (.cells (pcs p A1 c1 A2 c2 A3 c3) 27 (0, 0))) ∧ Aside0 (Below w.heap.size w w'))
  case atStart => exact ⟨0, m, 0, none, 0, [], by omega, rfl, rfl, ⟨rfl⟩, ⟨rfl⟩, ⟨by rw [List.drop_zero]; exact HJ.out⟩, MM, GN, GM, BA, ⟨Kd.R_nil _ _ _ _ _⟩, BL, BX, GG, HB⟩
  case round =>
    obtain ⟨k, left, rest, Ax, cw, ls, hk, rfl, rfl, hlen, hgq, HJ, MM, GN, GM, BA, HO, BL, BX, GG, HB⟩ := hrel
    by_cases hlt : k < xs.length
    · obtain ⟨d, hdd⟩ : ∃ d, rd xs (k : Int) = d := ⟨_, rfl⟩
      obtain ⟨n, hnn⟩ : ∃ n, rd ys (k : Int) = n := ⟨_, rfl⟩
      have hcl : wr.cell? ⟨gl, k, none⟩ = some (.int .i64 d) := (BL.out.cell k).trans (by rw [List.getElem?_append_left (by simp [nums]; omega), ← hdd]; simp [nums, rd, hlt])
      have hkl : k < ys.length := by have := HYL.out; omega
      have hcx : wr.cell? ⟨gx, k, none⟩ = some (.int .i64 n) := (BX.out.cell k).trans (by rw [List.getElem?_append_left (by simp [nums]; omega), ← hnn]; simp [nums, rd, hkl])
      have hkx : (k : Int) < (xs.length : Int) := by omega
      have hky : (k : Int) < (ys.length : Int) := by omega
      obtain ⟨z, hz⟩ : ∃ z, Gm.bear Wh Hf rest left p.rate n = z := ⟨_, rfl⟩
      have hj := HJ.out
      rw [zip_drop hlt HYL.out, hdd, hnn, lines_cons hz] at hj
      have ge := HGE.out
      have kt : (k : Int) < p.times := by have := HLT.out; omega
      have LA := line_any p A1 c1 A2 c2 A3 c3 m inst left Wh Hf rest n (k : Int) d gm gb wr z hz BA.out GN.out GM.out gbm MM.out ge.1 ge.2 T2.out (by omega) kt (by omega) m1 ib.1 ib.2 (by have := KD.out; omega)
      obtain ⟨p1, p2, p3⟩ := prin_bd (inst := inst) (v := z.1) MM.out (by omega) ge.1 ge.2 (by omega) kt
      have G2 := good_bear (bal := left) (rate := p.rate) (n := n) GN.out
      rw [hz] at G2
      by_cases he : lerr p m inst (k : Int) left z = 0
      · rw [if_neg (by simpa using he)] at hj
        have pz := (lerr_zero he).2.1
        have M2 := p3 pz
        obtain ⟨z1, z2, z3⟩ := z
        obtain ⟨pr, hpr⟩ : ∃ x, prin p m inst (k : Int) z1 left = x := ⟨_, rfl⟩
        simp only [] at hj M2 G2
        rw [hpr] at hj M2
        have LN := Aside0.mk (show Calls Try.prog 31 #[.pointer (some ⟨gm, 0, none⟩), .int .i64 (k : Int), .int .i64 d, .int .i64 n] wr fun e w' => e = .returned (.tuple #[.agg #[.int .i64 d, .int .i64 pr, .int .i64 z1, .int .i64 (left - pr)], .int .i64 0]) ∧ But2 gm gb wr w' ∧ w'.heap[gm]? = some (.cells (mcs p A1 c1 A2 c2 A3 c3 m inst (left - pr) (.pointer (some ⟨gb, 0, none⟩))) 63 (0, 0)) ∧ BearAt w' gb Wh Hf z3 from LA.mono fun e w' h => by
          obtain ⟨hbt, v, rfl, h1, h2⟩ := h
          obtain ⟨rfl, h3, h4⟩ := h1 he
          simp only [] at h3
          rw [hpr] at h3
          rw [he]
          simp only []
          rw [hpr]
          exact ⟨rfl, hbt, h3, h4⟩)
        have HJ2 := Aside0.mk hj
        have MM2 := Aside0.mk M2
        have GN2 := Aside0.mk G2
        have HPR := Aside0.mk hpr
        clear hj LA p1 p2 p3 M2 G2 pz hz hpr he hdd hnn ge HJ MM kt
        go_wp2_with (first
          | (go_at_call 31; (with_reducible refine LN.out.mono ?_); rintro e w10 ⟨rfl, hbt, hgm, hba⟩; have GM := Aside0.mk hgm; have BA := Aside0.mk hba; have HO := Aside0.mk (Kd.R_step HO.out (fun b hb hlt => hbt.block b hlt hb.2.2.2.1 hb.2.2.2.2)); have BL := Aside0.mk (BL.out.same (hbt.block gl (Blk.lt BL.out) gml gbl)); have BX := Aside0.mk (BX.out.same (hbt.block gx (Blk.lt BX.out) gmx gbx)); have GG := Aside0.mk ((hbt.block g (blk_lt GG.out) gmg gbg).trans GG.out); have HB := Aside0.mk (But2.toBelow HB.out hbt gmge gbge); clear hbt hgm hba)
          | ((with_reducible refine gate_dst (N := 17) rfl ?_); refine copy_event rfl (N := 17) rfl rfl rfl (t := 36) (v := .tmp 90) rfl (cs := #[.int .i64 d, .int .i64 pr, .int .i64 z1, .int .i64 (left - pr)]) (zs := #[.int .i64 0, .int .i64 0, .int .i64 0, .int .i64 0]) ?hr rfl rfl info_line ?hz (line_one _ _ _ _) ?_; (case hr => first | (go_simp; done) | (go_simp; rfl)); (case hz => rfl); intro gt hgt w11 hb1 hb; have GT := Aside0.mk hb1; have HO := Aside0.mk (Kd.R_below HO.out hb); have BA := Aside0.mk (BA.out.below hb); have BL := Aside0.mk (Blk.below BL.out hb); have BX := Aside0.mk (Blk.below BX.out hb); have GM := Aside0.mk (Pd.blk_below GM.out hb); have HB := Aside0.mk (below_step HB.out hb); have GG := Aside0.mk (Pd.blk_below GG.out hb); clear hgt hb1 hb)
          | ((with_reducible refine gate_dst (N := 96) rfl ?_); refine wpList_load_row rfl 36 (.tmp 17) rfl gt rfl 36 _ (0, 0) _ GT.out Try.underlying36 rfl info_line ?_)
          | ((with_reducible refine gate_builtin (b := .append) (xs := #[.tmp 95, .tmp 97]) rfl ?_); at_builtin; refine Kd.R_append (Kd.pair (Kd.int .i64) (Kd.pair (Kd.int .i64) (Kd.pair (Kd.int .i64) (Kd.int .i64)))) (w0 := w) w.heap.size rfl (.tmp 95) (.tmp 97) 30 36 (.agg #[.int .i64 0, .int .i64 0, .int .i64 0, .int .i64 0]) 32 rfl Try.underlying30 info_lineb rfl (by decide) (by decide) (.slice Ax ls.length cw) ls (d, pr, z1, left - pr) [.int .i64 d, .int .i64 pr, .int .i64 z1, .int .i64 (left - pr)] (fun b => b ≠ g ∧ b ≠ gl ∧ b ≠ gx ∧ b ≠ gm ∧ b ≠ gb) (fun _ => False) rfl rfl ?aP (fun _ hk => hk.elim) ?aF ?aO ?aB ?aS ?aL ?_; (case aP => exact line_M d pr z1 (left - pr)); (case aF => exact fun b hb => ⟨(by have := blk_lt GG.out; omega), (by have := Blk.lt BL.out; omega), (by have := Blk.lt BX.out; omega), (by have := blk_lt GM.out; omega), (by have := BA.out.lt; omega)⟩); (case aO => exact HO.out); (case aB => exact HB.out); (case aS => exact HB.out.size); (case aL => have := hlen.out; omega); intro v1 w12 hr1 hb1 hg1 hat1; obtain ⟨l2, hl2⟩ : ∃ l2, l2 = ls ++ [(d, pr, z1, left - pr)] := ⟨_, rfl⟩; rw [← hl2] at hr1; obtain ⟨An, cn, rfl⟩ := Kd.R_slice hr1; have L2 := Aside0.mk hl2; have R1 := Aside0.mk hr1; have BL := Aside0.mk (BL.out.same (hg1.block gl (Blk.lt BL.out) (fun e => (HO.out.1 gl e.symm).2.1 rfl))); have BX := Aside0.mk (BX.out.same (hg1.block gx (Blk.lt BX.out) (fun e => (HO.out.1 gx e.symm).2.2.1 rfl))); have GM := Aside0.mk ((hg1.block gm (blk_lt GM.out) (fun e => (HO.out.1 gm e.symm).2.2.2.1 rfl)).trans GM.out); have BA := Aside0.mk (BA.out.same (hg1.block gb BA.out.lt (fun e => (HO.out.1 gb e.symm).2.2.2.2 rfl)) hg1.size); have GG := Aside0.mk ((hg1.block g (blk_lt GG.out) (fun e => (HO.out.1 g e.symm).1 rfl)).trans GG.out); have HB := Aside0.mk hb1; clear hl2 hr1 hb1 hg1 hat1))
        have L3 := Aside0.mk (show l2.length = k + 1 by rw [L2.out, List.length_append, hlen.out]; rfl)
        go_roundg (xs.length + 1 - (k + 1))
        case measure => have := hgq.out; omega
        case rel => exact ⟨k + 1, left - pr, z3, An, cn, l2, by omega, by simp, rfl, L3, ⟨rfl⟩, ⟨by rw [HJ2.out, L2.out]; rfl⟩, ⟨MM2.out⟩, GN2, GM, BA, R1, BL, BX, GG, HB⟩
      · obtain ⟨er, her⟩ : ∃ er, lerr p m inst (k : Int) left z = er := ⟨_, rfl⟩
        rw [if_pos he, her] at hj
        have LN := Aside0.mk (show Calls Try.prog 31 #[.pointer (some ⟨gm, 0, none⟩), .int .i64 (k : Int), .int .i64 d, .int .i64 n] wr fun e w' => e = .returned (.tuple #[.agg #[.int .i64 0, .int .i64 0, .int .i64 0, .int .i64 0], .int .i64 er]) ∧ But2 gm gb wr w' from LA.mono fun e w' h => by
          obtain ⟨hbt, v, rfl, h1, h2⟩ := h
          obtain rfl := h2 he
          rw [her]
          exact ⟨rfl, hbt⟩)
        rw [her] at he
        have hen : (er != 0) = true := by simpa using he
        have HJ2 := Aside0.mk hj
        clear hj LA p1 p2 p3 G2 hz he her hdd hnn ge HJ MM kt
        go_wp2_with (first
          | (go_at_call 31; (with_reducible refine LN.out.mono ?_); rintro e w10 ⟨rfl, hbt⟩; have HB := Aside0.mk (But2.toBelow HB.out hbt gmge gbge); clear hbt)
          | ((with_reducible refine gate_dst (N := 17) rfl ?_); refine copy_event rfl (N := 17) rfl rfl rfl (t := 36) (v := .tmp 90) rfl (cs := #[.int .i64 0, .int .i64 0, .int .i64 0, .int .i64 0]) (zs := #[.int .i64 0, .int .i64 0, .int .i64 0, .int .i64 0]) ?hr rfl rfl info_line ?hz (line_one _ _ _ _) ?_; (case hr => first | (go_simp; done) | (go_simp; rfl)); (case hz => rfl); intro gt hgt w11 hb1 hb; have HB := Aside0.mk (below_step HB.out hb); clear hgt hb1 hb))
        go_ret2
        obtain rfl := HJ2.out
        exact ⟨none, 0, rfl, Kd.R_nil _ _ _ _ _, HB.out⟩
    · have hj := HJ.out
      rw [List.drop_of_length_le (by rw [HZD.out]; omega), lines, join, if_pos rfl, List.append_nil] at hj
      have HJ2 := Aside0.mk hj
      clear hj HJ
      go_wp2_with fail
      go_ret2
      obtain rfl := HJ2.out
      exact ⟨Ax, cw, rfl, Kd.R_mono HO.out (fun _ _ => trivial), HB.out⟩
set_option maxRecDepth 100000 in
set_option maxHeartbeats 20000000 in
theorem sched_two (p : Prod) (A1 : Option Addr) (c1 : Nat) (A2 : Option Addr) (c2 : Nat) (A3 : Option Addr) (c3 : Nat) (start m inst : Int) (w : World) (hg : GV w) (hp : ProdAt w p A1 c1 A2 c2 A3 c3) (hs : Small p) (xs ys : List Int) (hd : daysP p start = (xs, 0)) (hpx : partsP p start = (ys, 0)) (hxl : xs.length ≤ 600) (m0 : 1 ≤ m) (m1 : m ≤ 10000000000000) (hi : p.kind ≠ 1 ∧ inst = 0) :
    Calls Try.prog 11 #[pv p A1 c1 A2 c2 A3 c3, .int .i64 start, .int .i64 m] w (Sched (linesP p start m inst) w) := by
  obtain ⟨ho, hs0, hds, hl, t1, t2, hr, -⟩ := days_known hd
  have hyl : ys.length = xs.length := by
    have := hpx
    unfold partsP at this
    rw [hd, if_pos rfl] at this
    obtain ⟨rfl, -⟩ := Prod.mk.inj this
    exact rparts_len _ _ _
  have hJ : linesP p start m inst = join [] (lines p (Gm.whole p.count) (Gm.half p.count p.round) m inst 0 (xs.zip ys) m 0) := by
    unfold linesP
    rw [hd, hpx]
    exact (join_nil _ (lines_err _ _ _ _ _ _ _ _ _)).symm
  obtain ⟨⟨⟨⟨⟨_, a2, a3, a4, a5, a6, a7, a8⟩, ⟨b1, b2, b3⟩, b4⟩, c⟩, d_⟩, e_⟩ := (ok_iff p).1 ho
  have hne : xs ≠ [] := fun e => by rw [e] at hl; simp at hl; omega
  have hne2 : ys ≠ [] := fun e => by rw [e] at hyl; simp at hyl; exact hne (List.eq_nil_of_length_eq_zero hyl.symm)
  have ib : 0 ≤ inst ∧ inst ≤ 1000000000000000 := by
    have := hi.2; omega
  have MM := Aside0.mk (show Mid p m 0 m from ⟨by omega, by omega, fun _ _ => by rw [show max 0 (0 - p.grace) = 0 by omega]; omega⟩)
  have GN := good_new p.count p.round
  have NW := Aside0.mk (fun U => bnew_any (c := p.count) (r := p.round) (by omega) a3 U)
  have DA := Aside0.mk (fun W (hb : Below w.heap.size w W) => show Calls Try.prog 16 #[pv p A1 c1 A2 c2 A3 c3, .int .i64 start] W (Listed1 xs W) from (days_any p A1 c1 A2 c2 A3 c3 start W (hg.below hb) (hp.below hb) hs).mono fun e w' h => by rw [hd] at h; exact h.one hne)
  have PA := Aside0.mk (fun W (hb : Below w.heap.size w W) => show Calls Try.prog 18 #[pv p A1 c1 A2 c2 A3 c3, .int .i64 start] W (ListedL1 ys W) from (parts_any p A1 c1 A2 c2 A3 c3 start W (hg.below hb) (hp.below hb) hs).mono fun e w' h => by rw [hpx] at h; exact listed_one h hne2)
  obtain ⟨R, hR⟩ : ∃ R, linesP p start m inst = R := ⟨_, rfl⟩
  rw [hR] at hJ ⊢
  obtain ⟨Wh, hWh⟩ : ∃ y, Gm.whole p.count = y := ⟨_, rfl⟩
  obtain ⟨Hf, hHf⟩ : ∃ y, Gm.half p.count p.round = y := ⟨_, rfl⟩
  rw [hWh, hHf] at GN hJ
  have HWh := Aside0.mk hWh
  have HHf := Aside0.mk hHf
  have GN := Aside0.mk GN
  have HJ := Aside0.mk hJ
  have KD := Aside0.mk a4
  have kk : (p.kind == 1) = false := by simpa using hi.1
  have HYL := Aside0.mk hyl
  have T2 := Aside0.mk t2
  have HLT := Aside0.mk hl
  have G0 := Aside0.mk a7
  obtain rfl := hi.2
  clear hg hp hs hd hpx hJ hR hWh hHf ho hs0 hds hr a2 a3 a4 a5 a6 a8 b1 b2 b3 b4 c d_ e_ hne hne2 hi hyl hl t2 a7
  go_enter Try.func11, Try.ntmps11
  go_wp2_with (first
    | ((with_reducible refine gate_dst (N := 3) rfl ?_); refine box_event ?hg (N := 3) ?hd (cs := pcs p A1 c1 A2 c2 A3 c3) (t := 27) ?hr ?_; (case hd => rfl); (case hg => rfl); (case hr => first | (go_simp; done) | (go_simp; rfl)); intro g hg w1 hb1 hbl1; have gge := (show w.heap.size ≤ g by rw [hg]; exact Nat.le_refl _); clear hg; have GG := Aside0.mk hb1; have HB := Aside0.mk hbl1; clear hb1 hbl1)
    | ((with_reducible refine gate_dst (N := 20) rfl ?_); refine wpList_load_row rfl 27 (.tmp 3) rfl g rfl 27 _ (0, 0) _ GG.out Try.underlying27 rfl info_prod ?_)
    | (go_at_call 16; (with_reducible refine (DA.out _ HB.out).mono ?_); rintro e w2 ⟨gl, cl, tl, rfl, gle, lc, hbk, hb⟩; have BL := Aside0.mk hbk; have glge := Nat.le_trans HB.out.size gle; have HB := Aside0.mk (below_step HB.out hb); have GG := Aside0.mk (Pd.blk_below GG.out hb); clear hb hbk)
    | ((with_reducible refine gate_dst (N := 35) rfl ?_); refine wpList_load_row rfl 27 (.tmp 3) rfl g rfl 27 _ (0, 0) _ GG.out Try.underlying27 rfl info_prod ?_)
    | (go_at_call 18; (with_reducible refine (PA.out _ HB.out).mono ?_); rintro e w3 ⟨gx, cx, tx, rfl, gxe, xc, hbk, hb⟩; have BX := Aside0.mk hbk; have gxge := Nat.le_trans HB.out.size gxe; have BL := Aside0.mk (Blk.below BL.out hb); have HB := Aside0.mk (below_step HB.out hb); have GG := Aside0.mk (Pd.blk_below GG.out hb); clear hb hbk)
    | ((with_reducible refine gate_dst (N := 40) rfl ?_); refine wpList_load_row rfl 27 (.tmp 3) rfl g rfl 27 _ (0, 0) _ GG.out Try.underlying27 rfl info_prod ?_)
    | ((with_reducible refine gate_dst (N := 43) rfl ?_); refine build_event rfl (t := 63) rfl (cs := mcs p A1 c1 A2 c2 A3 c3 m 0 m (.pointer none)) ?hb ?_; (case hb => simp only [List.map_toArray, List.map_cons, List.map_nil]; exact built_maker p A1 c1 A2 c2 A3 c3 m))
    | ((with_reducible refine gate_dst (N := 44) rfl ?_); refine box_event ?hg (N := 44) ?hd (cs := mcs p A1 c1 A2 c2 A3 c3 m 0 m (.pointer none)) (t := 63) ?hr ?_; (case hd => rfl); (case hg => rfl); (case hr => first | (go_simp; done) | (go_simp; rfl)); intro gm hgm w4 hb1 hb; have gmge := (show w.heap.size ≤ gm by rw [hgm]; exact HB.out.size); have gmx := (show gx ≠ gm by have := Blk.lt BX.out; omega); have gml := (show gl ≠ gm by have := Blk.lt BL.out; omega); have gmg := (show g ≠ gm by have := blk_lt GG.out; omega); clear hgm; have GM := Aside0.mk hb1; have BL := Aside0.mk (Blk.below BL.out hb); have BX := Aside0.mk (Blk.below BX.out hb); have HB := Aside0.mk (below_step HB.out hb); have GG := Aside0.mk (Pd.blk_below GG.out hb); clear hb1 hb; have v20 := (show w4.cell? ⟨gm, 20, none⟩ = some (.int .i64 0) from (blk_cell GM.out 20).trans rfl); have f20 := frozen_of_row w4 gm 20 _ _ GM.out; have v22 := (show w4.cell? ⟨gm, 22, none⟩ = some (.pointer none) from (blk_cell GM.out 22).trans rfl); have f22 := frozen_of_row w4 gm 22 _ _ GM.out; obtain ⟨-, u1, u2, u3, -⟩ := pc_cells GG.out)
    | ((with_reducible refine gate_dst (N := 50) rfl ?_); refine wpList_load_row rfl 27 (.tmp 3) rfl g rfl 27 _ (0, 0) _ GG.out Try.underlying27 rfl info_prod ?_)
    | (go_at_call 30; (with_reducible refine (NW.out _).mono ?_); rintro e w7 ⟨hb, gb, hgb, rfl, hba⟩; rw [HWh.out, HHf.out] at hba; have gbge := Nat.le_trans HB.out.size hgb; have gbm := (show gm ≠ gb by have := blk_lt GM.out; omega); have gbl := (show gl ≠ gb by have := Blk.lt BL.out; omega); have gbx := (show gx ≠ gb by have := Blk.lt BX.out; omega); have gbg := (show g ≠ gb by have := blk_lt GG.out; omega); have BA := Aside0.mk hba; have BL := Aside0.mk (Blk.below BL.out hb); have BX := Aside0.mk (Blk.below BX.out hb); have GM := Aside0.mk (Pd.blk_below GM.out hb); have HB := Aside0.mk (below_step HB.out hb); have GG := Aside0.mk (Pd.blk_below GG.out hb); clear hb hba hgb v22 f22 u1 u2 u3; have v22 := (show w7.cell? ⟨gm, 22, none⟩ = some (.pointer none) from (blk_cell GM.out 22).trans rfl); have f22 := frozen_of_row w7 gm 22 _ _ GM.out)
    | ((with_reducible refine gate_store (t := 61) (p := 71) rfl ?_); refine put_event rfl (t := 61) (p := 71) (v := .tmp 68) rfl rfl (g := gm) (i := 22) (cs := mcs p A1 c1 A2 c2 A3 c3 m 0 m (.pointer none)) (cs' := mcs p A1 c1 A2 c2 A3 c3 m 0 m (.pointer (some ⟨gb, 0, none⟩))) (x := .pointer (some ⟨gb, 0, none⟩)) ?hr GM.out ?hc ?_; (case hc => rfl); (case hr => go_simp); intro w8 hb8 hbut; have GM := Aside0.mk hb8; have BA := Aside0.mk (BA.out.but hbut (Ne.symm gbm)); have BL := Aside0.mk (Blk.but BL.out hbut gml); have BX := Aside0.mk (Blk.but BX.out hbut gmx); have GG := Aside0.mk ((hbut.block g (blk_lt GG.out) gmg).trans GG.out); have HB := Aside0.mk (But.below HB.out HB.out.size gmge hbut); clear hb8 hbut v22 f22))
  clear kk
  have HGE := Aside0.mk (show 0 ≤ p.grace ∧ p.grace < p.times by have := G0.out; omega)
  have HZD := Aside0.mk (List.length_zip (l₁ := xs) (l₂ := ys))
  go_loopg [14, 76] (xs.length + 1) (fun gq ov iv w' => ∃ (k : Nat) (left rest : Int) (Ax : Option Addr) (cw : Nat) (ls : List Ln), k ≤ xs.length ∧ iv = .int .i64 (k : Int) ∧ ov = .slice Ax ls.length cw ∧ Aside0 (ls.length = k) ∧ Aside0 (gq = xs.length + 1 - k) ∧ Aside0 (R = join ls (lines p Wh Hf m 0 (k : Int) ((xs.zip ys).drop k) left rest)) ∧ Aside0 (Mid p m (k : Int) left) ∧ Aside0 (H.Good Wh Hf rest) ∧ Aside0 (w'.heap[gm]? = some (.cells (mcs p A1 c1 A2 c2 A3 c3 m 0 left (.pointer (some ⟨gb, 0, none⟩))) 63 (0, 0))) ∧ Aside0 (BearAt w' gb Wh Hf rest) ∧ Aside0 (Kd.R (Kd.pair (Kd.int .i64) (Kd.pair (Kd.int .i64) (Kd.pair (Kd.int .i64) (Kd.int .i64)))) 36 w' w.heap.size (fun b => b ≠ g ∧ b ≠ gl ∧ b ≠ gx ∧ b ≠ gm ∧ b ≠ gb) (.slice Ax ls.length cw) ls) ∧ Aside0 (H.Blk w' gl 3 (nums .i64 xs ++ tl)) ∧ Aside0 (H.Blk w' gx 2 (nums .i64 ys ++ tx)) ∧ Aside0 (w'.heap[g]? = some (.cells (pcs p A1 c1 A2 c2 A3 c3) 27 (0, 0))) ∧ Aside0 (Below w.heap.size w w'))
  case atStart => exact ⟨0, m, 0, none, 0, [], by omega, rfl, rfl, ⟨rfl⟩, ⟨rfl⟩, ⟨by rw [List.drop_zero]; exact HJ.out⟩, MM, GN, GM, BA, ⟨Kd.R_nil _ _ _ _ _⟩, BL, BX, GG, HB⟩
  case round =>
    obtain ⟨k, left, rest, Ax, cw, ls, hk, rfl, rfl, hlen, hgq, HJ, MM, GN, GM, BA, HO, BL, BX, GG, HB⟩ := hrel
    by_cases hlt : k < xs.length
    · obtain ⟨d, hdd⟩ : ∃ d, rd xs (k : Int) = d := ⟨_, rfl⟩
      obtain ⟨n, hnn⟩ : ∃ n, rd ys (k : Int) = n := ⟨_, rfl⟩
      have hcl : wr.cell? ⟨gl, k, none⟩ = some (.int .i64 d) := (BL.out.cell k).trans (by rw [List.getElem?_append_left (by simp [nums]; omega), ← hdd]; simp [nums, rd, hlt])
      have hkl : k < ys.length := by have := HYL.out; omega
      have hcx : wr.cell? ⟨gx, k, none⟩ = some (.int .i64 n) := (BX.out.cell k).trans (by rw [List.getElem?_append_left (by simp [nums]; omega), ← hnn]; simp [nums, rd, hkl])
      have hkx : (k : Int) < (xs.length : Int) := by omega
      have hky : (k : Int) < (ys.length : Int) := by omega
      obtain ⟨z, hz⟩ : ∃ z, Gm.bear Wh Hf rest left p.rate n = z := ⟨_, rfl⟩
      have hj := HJ.out
      rw [zip_drop hlt HYL.out, hdd, hnn, lines_cons hz] at hj
      have ge := HGE.out
      have kt : (k : Int) < p.times := by have := HLT.out; omega
      have LA := line_any p A1 c1 A2 c2 A3 c3 m 0 left Wh Hf rest n (k : Int) d gm gb wr z hz BA.out GN.out GM.out gbm MM.out ge.1 ge.2 T2.out (by omega) kt (by omega) m1 ib.1 ib.2 (by have := KD.out; omega)
      obtain ⟨p1, p2, p3⟩ := prin_bd (inst := 0) (v := z.1) MM.out (by omega) ge.1 ge.2 (by omega) kt
      have G2 := good_bear (bal := left) (rate := p.rate) (n := n) GN.out
      rw [hz] at G2
      by_cases he : lerr p m 0 (k : Int) left z = 0
      · rw [if_neg (by simpa using he)] at hj
        have pz := (lerr_zero he).2.1
        have M2 := p3 pz
        obtain ⟨z1, z2, z3⟩ := z
        obtain ⟨pr, hpr⟩ : ∃ x, prin p m 0 (k : Int) z1 left = x := ⟨_, rfl⟩
        simp only [] at hj M2 G2
        rw [hpr] at hj M2
        have LN := Aside0.mk (show Calls Try.prog 31 #[.pointer (some ⟨gm, 0, none⟩), .int .i64 (k : Int), .int .i64 d, .int .i64 n] wr fun e w' => e = .returned (.tuple #[.agg #[.int .i64 d, .int .i64 pr, .int .i64 z1, .int .i64 (left - pr)], .int .i64 0]) ∧ But2 gm gb wr w' ∧ w'.heap[gm]? = some (.cells (mcs p A1 c1 A2 c2 A3 c3 m 0 (left - pr) (.pointer (some ⟨gb, 0, none⟩))) 63 (0, 0)) ∧ BearAt w' gb Wh Hf z3 from LA.mono fun e w' h => by
          obtain ⟨hbt, v, rfl, h1, h2⟩ := h
          obtain ⟨rfl, h3, h4⟩ := h1 he
          simp only [] at h3
          rw [hpr] at h3
          rw [he]
          simp only []
          rw [hpr]
          exact ⟨rfl, hbt, h3, h4⟩)
        have HJ2 := Aside0.mk hj
        have MM2 := Aside0.mk M2
        have GN2 := Aside0.mk G2
        have HPR := Aside0.mk hpr
        clear hj LA p1 p2 p3 M2 G2 pz hz hpr he hdd hnn ge HJ MM kt
        go_wp2_with (first
          | (go_at_call 31; (with_reducible refine LN.out.mono ?_); rintro e w10 ⟨rfl, hbt, hgm, hba⟩; have GM := Aside0.mk hgm; have BA := Aside0.mk hba; have HO := Aside0.mk (Kd.R_step HO.out (fun b hb hlt => hbt.block b hlt hb.2.2.2.1 hb.2.2.2.2)); have BL := Aside0.mk (BL.out.same (hbt.block gl (Blk.lt BL.out) gml gbl)); have BX := Aside0.mk (BX.out.same (hbt.block gx (Blk.lt BX.out) gmx gbx)); have GG := Aside0.mk ((hbt.block g (blk_lt GG.out) gmg gbg).trans GG.out); have HB := Aside0.mk (But2.toBelow HB.out hbt gmge gbge); clear hbt hgm hba)
          | ((with_reducible refine gate_dst (N := 17) rfl ?_); refine copy_event rfl (N := 17) rfl rfl rfl (t := 36) (v := .tmp 90) rfl (cs := #[.int .i64 d, .int .i64 pr, .int .i64 z1, .int .i64 (left - pr)]) (zs := #[.int .i64 0, .int .i64 0, .int .i64 0, .int .i64 0]) ?hr rfl rfl info_line ?hz (line_one _ _ _ _) ?_; (case hr => first | (go_simp; done) | (go_simp; rfl)); (case hz => rfl); intro gt hgt w11 hb1 hb; have GT := Aside0.mk hb1; have HO := Aside0.mk (Kd.R_below HO.out hb); have BA := Aside0.mk (BA.out.below hb); have BL := Aside0.mk (Blk.below BL.out hb); have BX := Aside0.mk (Blk.below BX.out hb); have GM := Aside0.mk (Pd.blk_below GM.out hb); have HB := Aside0.mk (below_step HB.out hb); have GG := Aside0.mk (Pd.blk_below GG.out hb); clear hgt hb1 hb)
          | ((with_reducible refine gate_dst (N := 96) rfl ?_); refine wpList_load_row rfl 36 (.tmp 17) rfl gt rfl 36 _ (0, 0) _ GT.out Try.underlying36 rfl info_line ?_)
          | ((with_reducible refine gate_builtin (b := .append) (xs := #[.tmp 95, .tmp 97]) rfl ?_); at_builtin; refine Kd.R_append (Kd.pair (Kd.int .i64) (Kd.pair (Kd.int .i64) (Kd.pair (Kd.int .i64) (Kd.int .i64)))) (w0 := w) w.heap.size rfl (.tmp 95) (.tmp 97) 30 36 (.agg #[.int .i64 0, .int .i64 0, .int .i64 0, .int .i64 0]) 32 rfl Try.underlying30 info_lineb rfl (by decide) (by decide) (.slice Ax ls.length cw) ls (d, pr, z1, left - pr) [.int .i64 d, .int .i64 pr, .int .i64 z1, .int .i64 (left - pr)] (fun b => b ≠ g ∧ b ≠ gl ∧ b ≠ gx ∧ b ≠ gm ∧ b ≠ gb) (fun _ => False) rfl rfl ?aP (fun _ hk => hk.elim) ?aF ?aO ?aB ?aS ?aL ?_; (case aP => exact line_M d pr z1 (left - pr)); (case aF => exact fun b hb => ⟨(by have := blk_lt GG.out; omega), (by have := Blk.lt BL.out; omega), (by have := Blk.lt BX.out; omega), (by have := blk_lt GM.out; omega), (by have := BA.out.lt; omega)⟩); (case aO => exact HO.out); (case aB => exact HB.out); (case aS => exact HB.out.size); (case aL => have := hlen.out; omega); intro v1 w12 hr1 hb1 hg1 hat1; obtain ⟨l2, hl2⟩ : ∃ l2, l2 = ls ++ [(d, pr, z1, left - pr)] := ⟨_, rfl⟩; rw [← hl2] at hr1; obtain ⟨An, cn, rfl⟩ := Kd.R_slice hr1; have L2 := Aside0.mk hl2; have R1 := Aside0.mk hr1; have BL := Aside0.mk (BL.out.same (hg1.block gl (Blk.lt BL.out) (fun e => (HO.out.1 gl e.symm).2.1 rfl))); have BX := Aside0.mk (BX.out.same (hg1.block gx (Blk.lt BX.out) (fun e => (HO.out.1 gx e.symm).2.2.1 rfl))); have GM := Aside0.mk ((hg1.block gm (blk_lt GM.out) (fun e => (HO.out.1 gm e.symm).2.2.2.1 rfl)).trans GM.out); have BA := Aside0.mk (BA.out.same (hg1.block gb BA.out.lt (fun e => (HO.out.1 gb e.symm).2.2.2.2 rfl)) hg1.size); have GG := Aside0.mk ((hg1.block g (blk_lt GG.out) (fun e => (HO.out.1 g e.symm).1 rfl)).trans GG.out); have HB := Aside0.mk hb1; clear hl2 hr1 hb1 hg1 hat1))
        have L3 := Aside0.mk (show l2.length = k + 1 by rw [L2.out, List.length_append, hlen.out]; rfl)
        go_roundg (xs.length + 1 - (k + 1))
        case measure => have := hgq.out; omega
        case rel => exact ⟨k + 1, left - pr, z3, An, cn, l2, by omega, by simp, rfl, L3, ⟨rfl⟩, ⟨by rw [HJ2.out, L2.out]; rfl⟩, ⟨MM2.out⟩, GN2, GM, BA, R1, BL, BX, GG, HB⟩
      · obtain ⟨er, her⟩ : ∃ er, lerr p m 0 (k : Int) left z = er := ⟨_, rfl⟩
        rw [if_pos he, her] at hj
        have LN := Aside0.mk (show Calls Try.prog 31 #[.pointer (some ⟨gm, 0, none⟩), .int .i64 (k : Int), .int .i64 d, .int .i64 n] wr fun e w' => e = .returned (.tuple #[.agg #[.int .i64 0, .int .i64 0, .int .i64 0, .int .i64 0], .int .i64 er]) ∧ But2 gm gb wr w' from LA.mono fun e w' h => by
          obtain ⟨hbt, v, rfl, h1, h2⟩ := h
          obtain rfl := h2 he
          rw [her]
          exact ⟨rfl, hbt⟩)
        rw [her] at he
        have hen : (er != 0) = true := by simpa using he
        have HJ2 := Aside0.mk hj
        clear hj LA p1 p2 p3 G2 hz he her hdd hnn ge HJ MM kt
        go_wp2_with (first
          | (go_at_call 31; (with_reducible refine LN.out.mono ?_); rintro e w10 ⟨rfl, hbt⟩; have HB := Aside0.mk (But2.toBelow HB.out hbt gmge gbge); clear hbt)
          | ((with_reducible refine gate_dst (N := 17) rfl ?_); refine copy_event rfl (N := 17) rfl rfl rfl (t := 36) (v := .tmp 90) rfl (cs := #[.int .i64 0, .int .i64 0, .int .i64 0, .int .i64 0]) (zs := #[.int .i64 0, .int .i64 0, .int .i64 0, .int .i64 0]) ?hr rfl rfl info_line ?hz (line_one _ _ _ _) ?_; (case hr => first | (go_simp; done) | (go_simp; rfl)); (case hz => rfl); intro gt hgt w11 hb1 hb; have HB := Aside0.mk (below_step HB.out hb); clear hgt hb1 hb))
        go_ret2
        obtain rfl := HJ2.out
        exact ⟨none, 0, rfl, Kd.R_nil _ _ _ _ _, HB.out⟩
    · have hj := HJ.out
      rw [List.drop_of_length_le (by rw [HZD.out]; omega), lines, join, if_pos rfl, List.append_nil] at hj
      have HJ2 := Aside0.mk hj
      clear hj HJ
      go_wp2_with fail
      go_ret2
      obtain rfl := HJ2.out
      exact ⟨Ax, cw, rfl, Kd.R_mono HO.out (fun _ _ => trivial), HB.out⟩
end Go.Proofs.Ytfmkdledofbhdaa.Sc
/- Contracts by hand: schedule.Of, all of it. -/
namespace Go.Proofs.Ytfmkdledofbhdaa.Sc
open Go.RowKit Go.Proofs.YtfmkdledofbhdaaW.PrintWords Go.Proofs.YtfmkdledofbhdaaW.PrintLast Go.Proofs.YtfmkdledofbhdaaW.PrintMore Go.Proofs.Ytfmkdledofbhdaa.HW
open Go.Proofs.Ytfmkdledofbhdaa.Math Go.Proofs.Ytfmkdledofbhdaa.H Go.Proofs.Ytfmkdledofbhdaa.Pd Go.Proofs.Ytfmkdledofbhdaa.Du Go.Proofs.Ytfmkdledofbhdaa.Lv Pm
set_option linter.unusedVariables false
set_option linter.unusedSimpArgs false
attribute [local go_sem] max2_int min2_int max_two min_two

theorem sched_days (p : Prod) (A1 : Option Addr) (c1 : Nat) (A2 : Option Addr) (c2 : Nat) (A3 : Option Addr) (c3 : Nat) (start m : Int) (w : World) (hg : GV w) (hp : ProdAt w p A1 c1 A2 c2 A3 c3) (hs : Small p) (er : Int) (he : (daysP p start).2 = er) (hn : er ≠ 0) : Calls Try.prog 11 #[pv p A1 c1 A2 c2 A3 c3, .int .i64 start, .int .i64 m] w (Sched ([], er) w) := by
  have DA := Aside0.mk (fun W (hb : Below w.heap.size w W) => show Calls Try.prog 16 #[pv p A1 c1 A2 c2 A3 c3, .int .i64 start] W (fun e w' => ∃ v, e = .returned (.tuple #[v, .int .i64 er]) ∧ Below W.heap.size W w') from (days_any p A1 c1 A2 c2 A3 c3 start W (hg.below hb) (hp.below hb) hs).mono fun e w' h => by obtain ⟨v, h1, _, h3⟩ := h; exact ⟨v, by rw [h1, he], h3⟩)
  have hen : (er != 0) = true := by simpa using hn
  clear hg hp hs he hn
  go_enter Try.func11, Try.ntmps11
  go_wp2_with (first
    | ((with_reducible refine gate_dst (N := 3) rfl ?_); refine box_event ?hg (N := 3) ?hd (cs := pcs p A1 c1 A2 c2 A3 c3) (t := 27) ?hr ?_; (case hd => rfl); (case hg => rfl); (case hr => first | (go_simp; done) | (go_simp; rfl)); intro g hg w1 hb1 hbl1; have gge := (show w.heap.size ≤ g by rw [hg]; exact Nat.le_refl _); clear hg; have GG := Aside0.mk hb1; have HB := Aside0.mk hbl1; clear hb1 hbl1)
    | ((with_reducible refine gate_dst (N := 20) rfl ?_); refine wpList_load_row rfl 27 (.tmp 3) rfl g rfl 27 _ (0, 0) _ GG.out Try.underlying27 rfl info_prod ?_)
    | (go_at_call 16; (with_reducible refine (DA.out _ HB.out).mono ?_); rintro e w2 ⟨v, rfl, hb⟩; have HB := Aside0.mk (below_step HB.out hb); clear hb))
  go_ret2
  exact ⟨none, 0, rfl, Kd.R_nil _ _ _ _ _, HB.out⟩
theorem sched_amt (p : Prod) (A1 : Option Addr) (c1 : Nat) (A2 : Option Addr) (c2 : Nat) (A3 : Option Addr) (c3 : Nat) (start m : Int) (w : World) (hg : GV w) (hp : ProdAt w p A1 c1 A2 c2 A3 c3) (hs : Small p) (xs : List Int) (hd : daysP p start = (xs, 0)) (hm : m < 1 ∨ (1 ≤ m ∧ 10000000000000 < m)) : Calls Try.prog 11 #[pv p A1 c1 A2 c2 A3 c3, .int .i64 start, .int .i64 m] w (Sched ([], 16) w) := by
  obtain ⟨ho, hs0, hds, hl, t1, t2, hr, -⟩ := days_known hd
  have hne : xs ≠ [] := fun e => by rw [e] at hl; simp at hl; omega
  have DA := Aside0.mk (fun W (hb : Below w.heap.size w W) => show Calls Try.prog 16 #[pv p A1 c1 A2 c2 A3 c3, .int .i64 start] W (Listed1 xs W) from (days_any p A1 c1 A2 c2 A3 c3 start W (hg.below hb) (hp.below hb) hs).mono fun e w' h => by rw [hd] at h; exact h.one hne)
  clear hg hp hs hd ho hs0 hds hl t1 t2 hr hne
  rcases hm with h | ⟨h, h2⟩
  all_goals
    go_enter Try.func11, Try.ntmps11
    go_wp2_with (first
      | ((with_reducible refine gate_dst (N := 3) rfl ?_); refine box_event ?hg (N := 3) ?hd (cs := pcs p A1 c1 A2 c2 A3 c3) (t := 27) ?hr ?_; (case hd => rfl); (case hg => rfl); (case hr => first | (go_simp; done) | (go_simp; rfl)); intro g hg w1 hb1 hbl1; have gge := (show w.heap.size ≤ g by rw [hg]; exact Nat.le_refl _); clear hg; have GG := Aside0.mk hb1; have HB := Aside0.mk hbl1; clear hb1 hbl1)
      | ((with_reducible refine gate_dst (N := 20) rfl ?_); refine wpList_load_row rfl 27 (.tmp 3) rfl g rfl 27 _ (0, 0) _ GG.out Try.underlying27 rfl info_prod ?_)
      | (go_at_call 16; (with_reducible refine (DA.out _ HB.out).mono ?_); rintro e w2 ⟨gl, cl, tl, rfl, gle, lc, hbk, hb⟩; have BL := Aside0.mk hbk; have glge := Nat.le_trans HB.out.size gle; have HB := Aside0.mk (below_step HB.out hb); have GG := Aside0.mk (Pd.blk_below GG.out hb); clear hb hbk))
    go_ret2
    exact ⟨none, 0, rfl, Kd.R_nil _ _ _ _ _, HB.out⟩
set_option maxRecDepth 100000 in
set_option maxHeartbeats 8000000 in
theorem sched_steep (p : Prod) (A1 : Option Addr) (c1 : Nat) (A2 : Option Addr) (c2 : Nat) (A3 : Option Addr) (c3 : Nat) (start m : Int) (w : World) (hg : GV w) (hp : ProdAt w p A1 c1 A2 c2 A3 c3) (hs : Small p) (xs ys : List Int) (hd : daysP p start = (xs, 0)) (hpx : partsP p start = (ys, 0)) (m0 : 1 ≤ m) (m1 : m ≤ 10000000000000) (hk : p.kind = 1) (ov er : Int) (ho1 : ofE p ys m = (ov, er)) (hn : er ≠ 0) : Calls Try.prog 11 #[pv p A1 c1 A2 c2 A3 c3, .int .i64 start, .int .i64 m] w (Sched ([], er) w) := by
  obtain ⟨ho, hs0, hds, hl, t1, t2, hr, -⟩ := days_known hd
  have hne : xs ≠ [] := fun e => by rw [e] at hl; simp at hl; omega
  have DA := Aside0.mk (fun W (hb : Below w.heap.size w W) => show Calls Try.prog 16 #[pv p A1 c1 A2 c2 A3 c3, .int .i64 start] W (Listed1 xs W) from (days_any p A1 c1 A2 c2 A3 c3 start W (hg.below hb) (hp.below hb) hs).mono fun e w' h => by rw [hd] at h; exact h.one hne)
  have hyl : ys.length = xs.length := by
    have := hpx
    unfold partsP at this
    rw [hd, if_pos rfl] at this
    obtain ⟨rfl, -⟩ := Prod.mk.inj this
    exact rparts_len _ _ _
  have hne2 : ys ≠ [] := fun e => by rw [e] at hyl; simp at hyl; exact hne (List.eq_nil_of_length_eq_zero hyl.symm)
  have PA := Aside0.mk (fun W (hb : Below w.heap.size w W) => show Calls Try.prog 18 #[pv p A1 c1 A2 c2 A3 c3, .int .i64 start] W (ListedL1 ys W) from (parts_any p A1 c1 A2 c2 A3 c3 start W (hg.below hb) (hp.below hb) hs).mono fun e w' h => by rw [hpx] at h; exact listed_one h hne2)
  have OF := Aside0.mk (fun (A : Option Addr) (c : Nat) (W : World) (hb : Below w.heap.size w W) (hc : Kd.C (Kd.int .i64) W A ys.length ys) => show Calls Try.prog 26 #[pv p A1 c1 A2 c2 A3 c3, .slice A ys.length c, .int .i64 m] W (Two (ov, er) W) from by have := Of_any p A1 c1 A2 c2 A3 c3 A ys c m W (hg.below hb) (hp.below hb) hs hc (by omega); rw [ho1] at this; exact this)
  have hen : (er != 0) = true := by simpa using hn
  have kk : (p.kind == 1) = true := by simpa using hk
  have HYL := Aside0.mk (show ys.length ≤ 600 by omega)
  clear hg hp hs hd hpx ho hs0 hds hl t1 t2 hr hne hne2 hyl ho1 hn hk
  go_enter Try.func11, Try.ntmps11
  go_wp2_with (first
    | ((with_reducible refine gate_dst (N := 3) rfl ?_); refine box_event ?hg (N := 3) ?hd (cs := pcs p A1 c1 A2 c2 A3 c3) (t := 27) ?hr ?_; (case hd => rfl); (case hg => rfl); (case hr => first | (go_simp; done) | (go_simp; rfl)); intro g hg w1 hb1 hbl1; have gge := (show w.heap.size ≤ g by rw [hg]; exact Nat.le_refl _); clear hg; have GG := Aside0.mk hb1; have HB := Aside0.mk hbl1; clear hb1 hbl1)
    | ((with_reducible refine gate_dst (N := 20) rfl ?_); refine wpList_load_row rfl 27 (.tmp 3) rfl g rfl 27 _ (0, 0) _ GG.out Try.underlying27 rfl info_prod ?_)
    | (go_at_call 16; (with_reducible refine (DA.out _ HB.out).mono ?_); rintro e w2 ⟨gl, cl, tl, rfl, gle, lc, hbk, hb⟩; have BL := Aside0.mk hbk; have glge := Nat.le_trans HB.out.size gle; have HB := Aside0.mk (below_step HB.out hb); have GG := Aside0.mk (Pd.blk_below GG.out hb); clear hb hbk)
    | ((with_reducible refine gate_dst (N := 35) rfl ?_); refine wpList_load_row rfl 27 (.tmp 3) rfl g rfl 27 _ (0, 0) _ GG.out Try.underlying27 rfl info_prod ?_)
    | (go_at_call 18; (with_reducible refine (PA.out _ HB.out).mono ?_); rintro e w3 ⟨gx, cx, tx, rfl, gxe, xc, hbk, hb⟩; have BX := Aside0.mk hbk; have gxge := Nat.le_trans HB.out.size gxe; have BL := Aside0.mk (Blk.below BL.out hb); have HB := Aside0.mk (below_step HB.out hb); have GG := Aside0.mk (Pd.blk_below GG.out hb); clear hb hbk)
    | ((with_reducible refine gate_dst (N := 40) rfl ?_); refine wpList_load_row rfl 27 (.tmp 3) rfl g rfl 27 _ (0, 0) _ GG.out Try.underlying27 rfl info_prod ?_)
    | ((with_reducible refine gate_dst (N := 43) rfl ?_); refine build_event rfl (t := 63) rfl (cs := mcs p A1 c1 A2 c2 A3 c3 m 0 m (.pointer none)) ?hb ?_; (case hb => simp only [List.map_toArray, List.map_cons, List.map_nil]; exact built_maker p A1 c1 A2 c2 A3 c3 m))
    | ((with_reducible refine gate_dst (N := 44) rfl ?_); refine box_event ?hg (N := 44) ?hd (cs := mcs p A1 c1 A2 c2 A3 c3 m 0 m (.pointer none)) (t := 63) ?hr ?_; (case hd => rfl); (case hg => rfl); (case hr => first | (go_simp; done) | (go_simp; rfl)); intro gm hgm w4 hb1 hb; have gmge := (show w.heap.size ≤ gm by rw [hgm]; exact HB.out.size); have gmx := (show gx ≠ gm by have := Blk.lt BX.out; omega); have gml := (show gl ≠ gm by have := Blk.lt BL.out; omega); have gmg := (show g ≠ gm by have := blk_lt GG.out; omega); clear hgm; have GM := Aside0.mk hb1; have BL := Aside0.mk (Blk.below BL.out hb); have BX := Aside0.mk (Blk.below BX.out hb); have HB := Aside0.mk (below_step HB.out hb); have GG := Aside0.mk (Pd.blk_below GG.out hb); clear hb1 hb; have v20 := (show w4.cell? ⟨gm, 20, none⟩ = some (.int .i64 0) from (blk_cell GM.out 20).trans rfl); have f20 := frozen_of_row w4 gm 20 _ _ GM.out; have v22 := (show w4.cell? ⟨gm, 22, none⟩ = some (.pointer none) from (blk_cell GM.out 22).trans rfl); have f22 := frozen_of_row w4 gm 22 _ _ GM.out; obtain ⟨-, u1, u2, u3, -⟩ := pc_cells GG.out)
    | ((with_reducible refine gate_dst (N := 50) rfl ?_); refine wpList_load_row rfl 27 (.tmp 3) rfl g rfl 27 _ (0, 0) _ GG.out Try.underlying27 rfl info_prod ?_)
    | (go_at_call 26; (with_reducible refine (OF.out _ _ _ HB.out (Blk.readsL BX.out (by have := HYL.out; omega))).mono ?_); rintro e w5 ⟨rfl, hb⟩; have BL := Aside0.mk (Blk.below BL.out hb); have BX := Aside0.mk (Blk.below BX.out hb); have GM := Aside0.mk (Pd.blk_below GM.out hb); have HB := Aside0.mk (below_step HB.out hb); have GG := Aside0.mk (Pd.blk_below GG.out hb); clear hb v20 f20 v22 f22 u1 u2 u3; have v20 := (show w5.cell? ⟨gm, 20, none⟩ = some (.int .i64 0) from (blk_cell GM.out 20).trans rfl); have f20 := frozen_of_row w5 gm 20 _ _ GM.out)
    | ((with_reducible refine gate_store (t := 2) (p := 57) rfl ?_); refine put_event rfl (t := 2) (p := 57) (v := .tmp 54) rfl rfl (g := gm) (i := 20) (cs := mcs p A1 c1 A2 c2 A3 c3 m 0 m (.pointer none)) (cs' := mcs p A1 c1 A2 c2 A3 c3 m ov m (.pointer none)) (x := .int .i64 ov) ?hr GM.out ?hc ?_; (case hc => rfl); (case hr => go_simp); intro w6 hb8 hbut; have GM := Aside0.mk hb8; have BL := Aside0.mk (Blk.but BL.out hbut gml); have BX := Aside0.mk (Blk.but BX.out hbut gmx); have GG := Aside0.mk ((hbut.block g (blk_lt GG.out) gmg).trans GG.out); have HB := Aside0.mk (But.below HB.out HB.out.size gmge hbut); clear hb8 hbut; have v22 := (show w6.cell? ⟨gm, 22, none⟩ = some (.pointer none) from (blk_cell GM.out 22).trans rfl); have f22 := frozen_of_row w6 gm 22 _ _ GM.out; obtain ⟨-, u1, u2, u3, -⟩ := pc_cells GG.out))
  go_ret2
  exact ⟨none, 0, rfl, Kd.R_nil _ _ _ _ _, HB.out⟩
theorem sched_any (p : Prod) (A1 : Option Addr) (c1 : Nat) (A2 : Option Addr) (c2 : Nat) (A3 : Option Addr) (c3 : Nat) (start m : Int) (w : World) (hg : GV w) (hp : ProdAt w p A1 c1 A2 c2 A3 c3) (hs : Small p) : Calls Try.prog 11 #[pv p A1 c1 A2 c2 A3 c3, .int .i64 start, .int .i64 m] w (Sched (schedP p start m) w) := by
  by_cases h1 : (daysP p start).2 = 0
  · have hd : daysP p start = ((daysP p start).1, 0) := Prod.ext rfl h1
    have hpx : partsP p start = ((partsP p start).1, 0) := by unfold partsP; rw [if_pos h1]
    have hxl : (daysP p start).1.length ≤ 600 := by
      obtain ⟨_, _, _, hl, t1, t2, _⟩ := days_known hd
      omega
    have n1 : ¬ (daysP p start).2 ≠ 0 := by rw [h1]; decide
    by_cases h2 : 1 ≤ m ∧ m ≤ 10000000000000
    · have n2 : ¬ ¬ (1 ≤ m ∧ m ≤ 10000000000000) := fun h => h h2
      by_cases h3 : p.kind = 1
      · by_cases h4 : (ofE p (partsP p start).1 m).2 = 0
        · have e : schedP p start m = linesP p start m (ofE p (partsP p start).1 m).1 := by
            unfold schedP
            rw [if_neg n1, if_neg n2, if_pos h3, if_neg (by rw [h4]; decide)]
          rw [e]
          exact sched_one p A1 c1 A2 c2 A3 c3 start m _ w hg hp hs _ _ hd hpx hxl h2.1 h2.2 ⟨h3, Prod.ext rfl h4⟩
        · have e : schedP p start m = ([], (ofE p (partsP p start).1 m).2) := by
            unfold schedP
            rw [if_neg n1, if_neg n2, if_pos h3, if_pos h4]
          rw [e]
          exact sched_steep p A1 c1 A2 c2 A3 c3 start m w hg hp hs _ _ hd hpx h2.1 h2.2 h3 _ _ rfl h4
      · have e : schedP p start m = linesP p start m 0 := by
          unfold schedP
          rw [if_neg n1, if_neg n2, if_neg h3]
        rw [e]
        exact sched_two p A1 c1 A2 c2 A3 c3 start m 0 w hg hp hs _ _ hd hpx hxl h2.1 h2.2 ⟨h3, rfl⟩
    · have e : schedP p start m = ([], 16) := by unfold schedP; rw [if_neg n1, if_pos h2]
      rw [e]
      exact sched_amt p A1 c1 A2 c2 A3 c3 start m w hg hp hs _ hd (by omega)
  · have e : schedP p start m = ([], (daysP p start).2) := by unfold schedP; rw [if_pos h1]
    rw [e]
    exact sched_days p A1 c1 A2 c2 A3 c3 start m w hg hp hs _ rfl h1
end Go.Proofs.Ytfmkdledofbhdaa.Sc
/- Schedule: lines by their cells; the law's awake. -/
namespace Go.Proofs.Ytfmkdledofbhdaa.Sc
open Go.RowKit Go.Proofs.YtfmkdledofbhdaaW.PrintWords Go.Proofs.YtfmkdledofbhdaaW.PrintLast Go.Proofs.YtfmkdledofbhdaaW.PrintMore Go.Proofs.Ytfmkdledofbhdaa.HW
open Go.Proofs.Ytfmkdledofbhdaa.Math Go.Proofs.Ytfmkdledofbhdaa.H Go.Proofs.Ytfmkdledofbhdaa.Pd Go.Proofs.Ytfmkdledofbhdaa.Du Go.Proofs.Ytfmkdledofbhdaa.Lv Pm
set_option linter.unusedVariables false
set_option linter.unusedSimpArgs false
attribute [local go_sem] max2_int min2_int max_two min_two

theorem line_K {w : World} {x : Ln} {cs : List Value} (h : (Kd.pair (Kd.int .i64) (Kd.pair (Kd.int .i64) (Kd.pair (Kd.int .i64) (Kd.int .i64)))).K w x cs) : cs = [.int .i64 x.1, .int .i64 x.2.1, .int .i64 x.2.2.1, .int .i64 x.2.2.2] := by
  obtain ⟨c0, c1, rfl, h0, d0, d1, rfl, h1, e0, e1, rfl, h2, h3⟩ := h
  obtain rfl : c0 = [.int .i64 x.1] := h0
  obtain rfl : d0 = [.int .i64 x.2.1] := h1
  obtain rfl : e0 = [.int .i64 x.2.2.1] := h2
  obtain rfl : e1 = [.int .i64 x.2.2.2] := h3
  rfl
/-- A row of lines, by its cells. -/
theorem lines_cells {w : World} {g n : Nat} {ls : List Ln} (h : (Kd.pair (Kd.int .i64) (Kd.pair (Kd.int .i64) (Kd.pair (Kd.int .i64) (Kd.int .i64)))).C w (some ⟨g, 0, none⟩) n ls) (hn : n = ls.length) {i : Nat} {x : Ln} (hi : ls[i]? = some x) :
    w.cell? ⟨g, i * 4, none⟩ = some (.int .i64 x.1) ∧ w.cell? ⟨g, i * 4 + 1, none⟩ = some (.int .i64 x.2.1) ∧ w.cell? ⟨g, i * 4 + 2, none⟩ = some (.int .i64 x.2.2.1) ∧ w.cell? ⟨g, i * 4 + 3, none⟩ = some (.int .i64 x.2.2.2) := by
  have hlt : i < ls.length := (List.getElem?_eq_some_iff.1 hi).1
  obtain ⟨_, _, h3⟩ := h
  obtain ⟨ad, e, hc⟩ := h3 (by omega)
  cases e
  obtain ⟨cs, hl, hK, hcell⟩ := hc i x hi
  obtain rfl := line_K hK
  have a0 := hcell 0 _ rfl
  have a1 := hcell 1 _ rfl
  have a2 := hcell 2 _ rfl
  have a3 := hcell 3 _ rfl
  have hs : (Kd.pair (Kd.int .i64) (Kd.pair (Kd.int .i64) (Kd.pair (Kd.int .i64) (Kd.int .i64)))).sz = 4 := rfl
  simp only [hs, Addr.add_mid, Nat.zero_add, Nat.add_zero] at a0 a1 a2 a3
  exact ⟨a0, a1, a2, a3⟩
abbrev awP : Prod := { plainP with kind := 3, rate := 0, times := 2 }
theorem aw_sched : schedP awP 19723 100 = ([(19754, 0, 0, 100), (19783, 100, 0, 0)], 0) := by decide +kernel
theorem sched_awake (w : World) (hg : GV w) : Calls Try.prog 12 #[] w fun e w' => e = .returned (.bool true) ∧ Below w.heap.size w w' := by
  have OF := Aside0.mk (fun (W : World) (hb : Below w.heap.size w W) => show Calls Try.prog 11 #[pv awP none 0 none 0 none 0, .int .i64 19723, .int .i64 100] W (Sched ([(19754, 0, 0, 100), (19783, 100, 0, 0)], 0) W) from by have := sched_any awP none 0 none 0 none 0 19723 100 W (hg.below hb) (nilAt rfl rfl rfl) ⟨by decide, by decide, by decide, by decide⟩; rw [aw_sched] at this; exact this)
  clear hg
  go_enter Try.func12, Try.ntmps12
  go_wp2_with (first
    | (go_at_call 13; (with_reducible refine (plain_any _).mono ?_); rintro e w0 ⟨rfl, hb⟩; have HB := Aside0.mk hb; clear hb)
    | ((with_reducible refine gate_dst (N := 1) rfl ?_); refine copy_event rfl (N := 1) rfl rfl rfl (t := 27) (v := .tmp 4) rfl (cs := pcs plainP none 0 none 0 none 0) (zs := pzs) ?hr rfl rfl info_prod ?hz (pcs_one _ _ _ _ _ _ _) ?_; (case hr => first | (go_simp; done) | (go_simp; rfl)); (case hz => rfl); intro g hg w1 hb1 hbl1; have gge := (show w.heap.size ≤ g by rw [hg]; exact HB.out.size); have HB := Aside0.mk (below_step HB.out hbl1); have GG := Aside0.mk hb1; clear hg hb1 hbl1; have u3 : w1.cell? ⟨g, 3, none⟩ = some (.int .i64 _) := (blk_cell GG.out 3).trans rfl; have f3 := frozen_of_row w1 g 3 _ _ GG.out)
    | ((with_reducible refine gate_store (t := 3) (p := 5) rfl ?_); refine put_event rfl (t := 3) (p := 5) (v := (.const (.int .i64 3))) rfl rfl (g := g) (i := 3) (cs := pcs plainP none 0 none 0 none 0) (cs' := pcs { plainP with kind := 3 } none 0 none 0 none 0) (x := .int .i64 3) ?hr GG.out ?hc ?_; (case hc => rfl); (case hr => go_simp); intro w2 hb8 hbut; have GG := Aside0.mk hb8; have HB := Aside0.mk (But.below HB.out HB.out.size gge hbut); clear hbut; clear hb8; have u7 : w2.cell? ⟨g, 7, none⟩ = some (.int .i64 _) := (blk_cell GG.out 7).trans rfl; have f7 := frozen_of_row w2 g 7 _ _ GG.out)
    | ((with_reducible refine gate_store (t := 2) (p := 6) rfl ?_); refine put_event rfl (t := 2) (p := 6) (v := (.const (.int .i64 0))) rfl rfl (g := g) (i := 7) (cs := pcs { plainP with kind := 3 } none 0 none 0 none 0) (cs' := pcs { plainP with kind := 3, rate := 0 } none 0 none 0 none 0) (x := .int .i64 0) ?hr GG.out ?hc ?_; (case hc => rfl); (case hr => go_simp); intro w3 hb8 hbut; have GG := Aside0.mk hb8; have HB := Aside0.mk (But.below HB.out HB.out.size gge hbut); clear hbut; clear hb8; have u5 : w3.cell? ⟨g, 5, none⟩ = some (.int .i64 _) := (blk_cell GG.out 5).trans rfl; have f5 := frozen_of_row w3 g 5 _ _ GG.out)
    | ((with_reducible refine gate_store (t := 3) (p := 7) rfl ?_); refine put_event rfl (t := 3) (p := 7) (v := (.const (.int .i64 2))) rfl rfl (g := g) (i := 5) (cs := pcs { plainP with kind := 3, rate := 0 } none 0 none 0 none 0) (cs' := pcs { plainP with kind := 3, rate := 0, times := 2 } none 0 none 0 none 0) (x := .int .i64 2) ?hr GG.out ?hc ?_; (case hc => rfl); (case hr => go_simp); intro w4 hb8 hbut; have GG := Aside0.mk hb8; have HB := Aside0.mk (But.below HB.out HB.out.size gge hbut); clear hbut; clear hb8; skip)
    | ((with_reducible refine gate_dst (N := 9) rfl ?_); refine wpList_load_row rfl 27 (.tmp 1) rfl g rfl 27 _ (0, 0) _ GG.out Try.underlying27 rfl info_prod ?_)
    | (go_at_call 11; (with_reducible refine (OF.out _ HB.out).mono ?_); rintro e w5 ⟨A, c, rfl, hR, hb⟩; have HB := Aside0.mk (below_step HB.out hb); obtain ⟨gn, cn, e1, _⟩ := Kd.R_form hR (by decide); injection e1 with e1 _ e3; subst e1 e3; obtain ⟨_, hc2, hC⟩ := Kd.R_reads' hR; obtain ⟨x0, x1, x2, x3⟩ := lines_cells hC rfl (i := 0) rfl; obtain ⟨y0, y1, y2, y3⟩ := lines_cells hC rfl (i := 1) rfl; clear hb hR hC))
  go_ret
  exact ⟨rfl, HB.out⟩
end Go.Proofs.Ytfmkdledofbhdaa.Sc
/- Plain law of schedule: equal parts and bullets are always there; more interest at a greater rate. -/
namespace Go.Proofs.Ytfmkdledofbhdaa.Sc
open Go.RowKit Go.Proofs.YtfmkdledofbhdaaW.PrintWords Go.Proofs.YtfmkdledofbhdaaW.PrintLast Go.Proofs.YtfmkdledofbhdaaW.PrintMore Go.Proofs.Ytfmkdledofbhdaa.HW
open Go.Proofs.Ytfmkdledofbhdaa.Math Go.Proofs.Ytfmkdledofbhdaa.H Go.Proofs.Ytfmkdledofbhdaa.Pd Go.Proofs.Ytfmkdledofbhdaa.Du Go.Proofs.Ytfmkdledofbhdaa.Lv Pm
set_option linter.unusedVariables false
set_option linter.unusedSimpArgs false
/-- What is not great is borne. -/
theorem bear_fits {W h rest bal rate n : Int} (G : H.Good W h rest) (b0 : 0 ≤ bal) (r0 : 0 ≤ rate) (n0 : 0 ≤ n) (n1 : n ≤ 53436000) (hb : bal ≤ 1000000000 ∧ rate ≤ 1000000000 ∨ bal ≤ 10000000000000 ∧ rate = 0) : (Gm.bear W h rest bal rate n).2.1 = 0 := by
  have w := G.w0
  have hx : bal * rate * n ≤ 1000000000000000 * W := by
    rcases hb with ⟨b1, r1⟩ | ⟨b1, rfl⟩
    · obtain ⟨_, g⟩ := Gm.mul3 b0 r0 n0 b1 r1 n1
      omega
    · rw [Int.mul_zero, Int.zero_mul]; omega
  rw [bear_eq, if_pos ⟨b0, by omega, r0, by omega, n0, n1⟩, if_pos (Gm.most (by omega) G.r1 hx)]
/-- Equal parts and bullets: there is nothing wrong. -/
theorem lines_there {p : Prod} {m inst W h : Int} (m0 : 0 ≤ m) (hm : m ≤ 1000000000 ∧ p.rate ≤ 1000000000 ∨ m ≤ 10000000000000 ∧ p.rate = 0) (hr : 0 ≤ p.rate) (hk : p.kind ≠ 1) (g0 : 0 ≤ p.grace) (gt : p.grace < p.times) :
    ∀ (l : List (Int × Int)) (k left rest : Int), H.Good W h rest → Mid p m k left → 0 ≤ k → k + l.length = p.times → (∀ y ∈ l, 0 ≤ y.2 ∧ y.2 ≤ 53436000) → (lines p W h m inst k l left rest).2 = 0
  | [], k, left, rest, G, M, k0, kl, hl => rfl
  | (d, n) :: r, k, left, rest, G, M, k0, kl, hl => by
    simp only [List.length_cons] at kl
    obtain ⟨n0, n1⟩ := hl (d, n) (List.mem_cons_self ..)
    have l0 := M.l0
    have l1 := M.l1
    have z0 : (Gm.bear W h rest left p.rate n).2.1 = 0 := bear_fits G l0 hr n0 n1 (by omega)
    obtain ⟨p1, p2, p3⟩ := prin_bd (inst := inst) (v := (Gm.bear W h rest left p.rate n).1) M m0 g0 gt k0 (by omega)
    have e : lerr p m inst k left (Gm.bear W h rest left p.rate n) = 0 := by
      unfold lerr
      rw [if_neg (by rw [z0]; decide), if_neg (by have := p2 hk; omega), if_neg (fun g => hk g.1)]
    have ih := lines_there (inst := inst) m0 hm hr hk g0 gt r (k + 1) _ (Gm.bear W h rest left p.rate n).2.2 (good_bear G) (p3 (p2 hk)) (by omega) (by omega) (fun y hy => hl y (List.mem_cons_of_mem _ hy))
    rw [lines, if_neg (by rw [e]; decide), if_pos ih]
/-- Interest, all in all. -/
def sumI : List Ln → Int
  | [] => 0
  | x :: t => x.2.2.1 + sumI t
/-- Two schedules, alike but for the rate: the same lines, and no less interest, all in all and at first. -/
theorem lines_more {p q : Prod} {m W h : Int} (hk : p.kind ≠ 1) (e1 : q.kind = p.kind) (e2 : q.times = p.times) (e3 : q.grace = p.grace) (hr : 0 ≤ p.rate) (hrr : p.rate ≤ q.rate) (w0 : 0 < W) :
    ∀ (l : List (Int × Int)) (k left r1 r2 s1 s2 : Int) (a b : List Ln), Chain p W h m 0 k left r1 l a → Chain q W h m 0 k left r2 l b → H.Good W h r1 → H.Good W h r2 → s1 * W + r1 ≤ s2 * W + r2 →
      a.map (fun x => (x.1, x.2.1, x.2.2.2)) = b.map (fun x => (x.1, x.2.1, x.2.2.2)) ∧ s1 + sumI a ≤ s2 + sumI b
  | [], k, left, r1, r2, s1, s2, [], [], ca, cb, G1, G2, hs => by
    refine ⟨rfl, ?_⟩
    simp only [sumI, Int.add_zero]
    rcases (by omega : s1 ≤ s2 ∨ s2 + 1 ≤ s1) with g | g
    · exact g
    · have := Int.mul_le_mul_of_nonneg_right g (show 0 ≤ W by omega)
      rw [Int.add_mul, Int.one_mul] at this
      have a1 := G1.r0
      have a2 := G2.r1
      omega
  | [], k, left, r1, r2, s1, s2, x :: t, b, ca, cb, G1, G2, hs => by simp [Chain] at ca
  | [], k, left, r1, r2, s1, s2, [], x :: t, ca, cb, G1, G2, hs => by simp [Chain] at cb
  | y :: r, k, left, r1, r2, s1, s2, [], b, ca, cb, G1, G2, hs => by simp [Chain] at ca
  | y :: r, k, left, r1, r2, s1, s2, x :: t, [], ca, cb, G1, G2, hs => by simp [Chain] at cb
  | (d, n) :: r, k, left, r1, r2, s1, s2, x :: t, y :: u, ca, cb, G1, G2, hs => by
    obtain ⟨c1, c2, c3, c4, c5, c6, c7, c8⟩ := ca
    obtain ⟨f1, f2, f3, f4, f5, f6, f7, f8⟩ := cb
    have hk2 : q.kind ≠ 1 := by rw [e1]; exact hk
    have ep : ∀ v v2, prin p m 0 k v left = prin q m 0 k v2 left := by
      intro v v2
      unfold prin
      rw [e1, e2, e3, if_neg hk, if_neg hk]
    have exy : x.2.1 = y.2.1 := by rw [c4, f4]; exact ep _ _
    have exl : x.2.2.2 = y.2.2.2 := by rw [c6, f6, exy]
    obtain ⟨hm1, hq1, he1⟩ := bear_ok c1
    obtain ⟨hm2, hq2, he2⟩ := bear_ok f1
    have x0 : 0 ≤ left * p.rate * n := Int.mul_nonneg (Int.mul_nonneg hm1.1 hm1.2.2.1) hm1.2.2.2.2.1
    have x0' : 0 ≤ left * q.rate * n := Int.mul_nonneg (Int.mul_nonneg hm2.1 hm2.2.2.1) hm2.2.2.2.2.1
    have xx : left * p.rate * n ≤ left * q.rate * n := Int.mul_le_mul_of_nonneg_right (Int.mul_le_mul_of_nonneg_left hrr hm1.1) hm1.2.2.2.2.1
    obtain ⟨_, _, _, a4⟩ := Gm.step (W := W) (h := h) (rest := r1) (x := left * p.rate * n) w0 x0 G1.r0
    obtain ⟨_, _, _, b4⟩ := Gm.step (W := W) (h := h) (rest := r2) (x := left * q.rate * n) w0 x0' G2.r0
    have ev1 : x.2.2.1 = Gm.q W h r1 (left * p.rate * n) := by rw [c5, he1]
    have ev2 : y.2.2.1 = Gm.q W h r2 (left * q.rate * n) := by rw [f5, he2]
    have er1 : (Gm.bear W h r1 left p.rate n).2.2 = Gm.r W h r1 (left * p.rate * n) := by rw [he1]
    have er2 : (Gm.bear W h r2 left q.rate n).2.2 = Gm.r W h r2 (left * q.rate * n) := by rw [he2]
    have hs2 : (s1 + x.2.2.1) * W + (Gm.bear W h r1 left p.rate n).2.2 ≤ (s2 + y.2.2.1) * W + (Gm.bear W h r2 left q.rate n).2.2 := by
      rw [er1, er2, ev1, ev2, Int.add_mul, Int.add_mul, a4, b4]
      omega
    rw [← exl] at f8
    obtain ⟨i1, i2⟩ := lines_more hk e1 e2 e3 hr hrr w0 r (k + 1) x.2.2.2 _ _ (s1 + x.2.2.1) (s2 + y.2.2.1) t u c8 f8 (good_bear G1) (good_bear G2) hs2
    refine ⟨?_, ?_⟩
    · rw [List.map_cons, List.map_cons, i1, c3, f3, exy, exl]
    · simp only [sumI]; omega
/-- The first line. -/
theorem first_more {p q : Prod} {m W h k left d n : Int} {r : List (Int × Int)} {x y : Ln} {t u : List Ln} (hrr : p.rate ≤ q.rate) (w0 : 0 < W) (ca : Chain p W h m 0 k left 0 ((d, n) :: r) (x :: t)) (cb : Chain q W h m 0 k left 0 ((d, n) :: r) (y :: u)) : x.2.2.1 ≤ y.2.2.1 := by
  obtain ⟨c1, c2, c3, c4, c5, c6, c7, c8⟩ := ca
  obtain ⟨f1, f2, f3, f4, f5, f6, f7, f8⟩ := cb
  obtain ⟨hm1, hq1, he1⟩ := bear_ok c1
  obtain ⟨hm2, hq2, he2⟩ := bear_ok f1
  have xx : left * p.rate * n ≤ left * q.rate * n := Int.mul_le_mul_of_nonneg_right (Int.mul_le_mul_of_nonneg_left hrr hm1.1) hm1.2.2.2.2.1
  have ev1 : x.2.2.1 = Gm.q W h 0 (left * p.rate * n) := by rw [c5, he1]
  have ev2 : y.2.2.1 = Gm.q W h 0 (left * q.rate * n) := by rw [f5, he2]
  rw [ev1, ev2]
  exact Gm.more w0 xx
end Go.Proofs.Ytfmkdledofbhdaa.Sc
/- Plain laws of schedule: what of a near product may be wrong; lines, one by one; equal parts. -/
namespace Go.Proofs.Ytfmkdledofbhdaa.Sc
open Go.RowKit Go.Proofs.YtfmkdledofbhdaaW.PrintWords Go.Proofs.YtfmkdledofbhdaaW.PrintLast Go.Proofs.YtfmkdledofbhdaaW.PrintMore Go.Proofs.Ytfmkdledofbhdaa.HW
open Go.Proofs.Ytfmkdledofbhdaa.Math Go.Proofs.Ytfmkdledofbhdaa.H Go.Proofs.Ytfmkdledofbhdaa.Pd Go.Proofs.Ytfmkdledofbhdaa.Du Go.Proofs.Ytfmkdledofbhdaa.Lv Pm
set_option linter.unusedVariables false
set_option linter.unusedSimpArgs false
theorem mid_start {p : Prod} {m : Int} (m0 : 0 ≤ m) (g0 : 0 ≤ p.grace) : Mid p m 0 m := ⟨m0, Int.le_refl m, fun _ _ => by rw [show max 0 (0 - p.grace) = 0 by omega]; omega⟩
theorem ok_grace {p : Prod} (h : ok p = true) : 0 ≤ p.grace ∧ p.grace < p.times ∧ (p.kind = 1 ∨ p.kind = 2 ∨ p.kind = 3) ∧ 0 ≤ p.rate ∧ p.rate ≤ 1000000000 := by
  obtain ⟨⟨⟨⟨⟨_, a2, a3, a4, a5, a6, a7, a8⟩, ⟨b1, b2, b3⟩, b4⟩, c⟩, d_⟩, e_⟩ := (ok_iff p).1 h
  omega
theorem zip_len {xs ys : List Int} {n : Int} (h1 : (xs.length : Int) = n) (h2 : ys.length = xs.length) : (0 : Int) + (xs.zip ys).length = n := by
  rw [List.length_zip]
  omega
/-- What is known of days and parts that are there. -/
theorem parts_known {p : Prod} {start : Int} {xs : List Int} (h : daysP p start = (xs, 0)) : ∃ ys, partsP p start = (ys, 0) ∧ ys.length = xs.length ∧ ∀ n ∈ ys, 0 ≤ n ∧ n ≤ 53436000 := by
  obtain ⟨ho, hs0, hds, hl, t1, t2, hr, -⟩ := days_known h
  refine ⟨rpartsL p.count start xs, ?_, rparts_len _ _ _, parts_may (count_known ho) _ _ hs0 hds hr⟩
  unfold partsP
  rw [h, if_pos rfl]
/-- The lines of a schedule are a chain. -/
theorem sched_chain {p : Prod} {start m : Int} {ls : List Ln} (h : schedP p start m = (ls, 0)) :
    ∃ xs ys inst, daysP p start = (xs, 0) ∧ partsP p start = (ys, 0) ∧ ys.length = xs.length ∧ (∀ n ∈ ys, 0 ≤ n ∧ n ≤ 53436000) ∧ 1 ≤ m ∧ m ≤ 10000000000000 ∧ Chain p (Gm.whole p.count) (Gm.half p.count p.round) m inst 0 m 0 (xs.zip ys) ls := by
  unfold schedP at h
  split at h
  · rename_i h1
    exact absurd (congrArg Prod.snd h) h1
  · rename_i h1
    have hd : (daysP p start).2 = 0 := by simpa using h1
    have hx : daysP p start = ((daysP p start).1, 0) := by rw [← hd]
    obtain ⟨ys, hy, hyl, hyb⟩ := parts_known hx
    split at h
    · exact absurd (show (16 : Int) = 0 from congrArg Prod.snd h) (by decide)
    · rename_i hm
      have hm : 1 ≤ m ∧ m ≤ 10000000000000 := by omega
      have hlin : ∀ inst, linesP p start m inst = (ls, 0) → ∃ xs ys inst, daysP p start = (xs, 0) ∧ partsP p start = (ys, 0) ∧ ys.length = xs.length ∧ (∀ n ∈ ys, 0 ≤ n ∧ n ≤ 53436000) ∧ 1 ≤ m ∧ m ≤ 10000000000000 ∧ Chain p (Gm.whole p.count) (Gm.half p.count p.round) m inst 0 m 0 (xs.zip ys) ls := by
        intro inst hi
        unfold linesP at hi
        rw [hy] at hi
        exact ⟨(daysP p start).1, ys, inst, hx, hy, hyl, hyb, hm.1, hm.2, lines_chain _ _ _ _ _ hi⟩
      split at h
      · split at h
        · rename_i he
          exact absurd (congrArg Prod.snd h) he
        · exact hlin _ h
      · exact hlin _ h
/-- The line ahead of line k. -/
def pl (x0 : Ln) (ls : List Ln) : Nat → Ln
  | 0 => x0
  | k + 1 => ls.getD k x0
theorem pl_tail (x0 x : Ln) (t : List Ln) (i : Nat) (h : i ≤ t.length) : (pl x0 (x :: t) (i + 1)).1 = (pl (x.1, 0, 0, x.2.2.2) t i).1 ∧ (pl x0 (x :: t) (i + 1)).2.2.2 = (pl (x.1, 0, 0, x.2.2.2) t i).2.2.2 := by
  cases i with
  | zero => exact ⟨rfl, rfl⟩
  | succ j =>
    have hj : j < t.length := by omega
    have e1 : (x :: t).getD (j + 1) x0 = t[j] := by rw [List.getD_eq_getElem?_getD, List.getElem?_cons_succ, List.getElem?_eq_getElem hj]; rfl
    have e2 : t.getD j (x.1, 0, 0, x.2.2.2) = t[j] := by rw [List.getD_eq_getElem?_getD, List.getElem?_eq_getElem hj]; rfl
    show ((x :: t).getD (j + 1) x0).1 = (t.getD j (x.1, 0, 0, x.2.2.2)).1 ∧ ((x :: t).getD (j + 1) x0).2.2.2 = (t.getD j (x.1, 0, 0, x.2.2.2)).2.2.2
    rw [e1, e2]
    exact ⟨rfl, rfl⟩
theorem looks_at {p : Prod} : ∀ (ls : List Ln) (k left day : Int), looks p k left day ls → ∀ (i : Nat) (x : Ln), ls[i]? = some x →
    x.2.2.2 = (pl (day, 0, 0, left) ls i).2.2.2 - x.2.1 ∧ 0 ≤ x.2.1 ∧ 0 ≤ x.2.2.1 ∧ 0 ≤ x.2.2.2 ∧ x.2.2.2 ≤ left ∧ (k + i < p.grace → x.2.1 = 0) ∧ (pl (day, 0, 0, left) ls i).1 < x.1
  | [], k, left, day, h, i, x, hx => by simp at hx
  | y :: t, k, left, day, h, 0, x, hx => by
    obtain ⟨h1, h2, h3, h4, h5, h6, h7⟩ := h
    obtain rfl : y = x := by simpa using hx
    exact ⟨h1, h2, h3, h4, by omega, fun g => h5 (by omega), h6⟩
  | y :: t, k, left, day, h, i + 1, x, hx => by
    obtain ⟨h1, h2, h3, h4, h5, h6, h7⟩ := h
    have hx' : t[i]? = some x := by simpa using hx
    have hi : i < t.length := (List.getElem?_eq_some_iff.1 hx').1
    obtain ⟨q1, q2, q3, q4, q5, q6, q7⟩ := looks_at t (k + 1) y.2.2.2 y.1 h7 i x hx'
    obtain ⟨e1, e2⟩ := pl_tail (day, 0, 0, left) y t i (by omega)
    rw [e1, e2]
    exact ⟨q1, q2, q3, q4, by omega, fun g => q6 (by omega), q7⟩
theorem chain_int {p : Prod} {m inst W h : Int} : ∀ (l : List (Int × Int)) (k left rest : Int) (ls : List Ln), Chain p W h m inst k left rest l ls → ∀ x ∈ ls, x.2.2.1 ≤ 1000000000000000
  | [], k, left, rest, [], c, x, hx => by simp at hx
  | [], k, left, rest, y :: t, c, x, hx => by simp [Chain] at c
  | y :: r, k, left, rest, [], c, x, hx => by simp [Chain] at c
  | (d, n) :: r, k, left, rest, y :: t, c, x, hx => by
    obtain ⟨c1, c2, c3, c4, c5, c6, c7, c8⟩ := c
    rcases List.mem_cons.1 hx with rfl | hx
    · obtain ⟨hm, hq, he⟩ := bear_ok c1
      rw [c5, he]
      exact hq
    · exact chain_int r _ _ _ t c8 x hx
/-- All that a law looks at, of a schedule that is there. -/
theorem sched_looks {p : Prod} {start m : Int} {ls : List Ln} (h : schedP p start m = (ls, 0)) : (ls.length : Int) = p.times ∧ looks p 0 m start ls ∧ (∀ x ∈ ls, x.2.2.1 ≤ 1000000000000000) := by
  obtain ⟨xs, ys, inst, hx, hy, hyl, hyb, m0, m1, c⟩ := sched_chain h
  obtain ⟨ho, hs0, hds, hl, t1, t2, hr, -⟩ := days_known hx
  obtain ⟨g0, gt, -⟩ := ok_grace ho
  have hz := zip_len hl hyl
  refine ⟨?_, ?_, chain_int _ _ _ _ _ c⟩
  · rw [chain_len _ _ _ _ _ c]; omega
  · refine chain_looks (by omega) m1 g0 gt _ 0 m 0 start ls (good_new _ _) c (mid_start (by omega) g0) (by omega) hz (.inl (by omega)) ?_
    rw [List.map_fst_zip (by omega)]
    exact hr
end Go.Proofs.Ytfmkdledofbhdaa.Sc
/- Plain laws of schedule: equal parts and bullets of a plain product, at any rate. -/
namespace Go.Proofs.Ytfmkdledofbhdaa.Sc
open Go.RowKit Go.Proofs.YtfmkdledofbhdaaW.PrintWords Go.Proofs.YtfmkdledofbhdaaW.PrintLast Go.Proofs.YtfmkdledofbhdaaW.PrintMore Go.Proofs.Ytfmkdledofbhdaa.HW
open Go.Proofs.Ytfmkdledofbhdaa.Math Go.Proofs.Ytfmkdledofbhdaa.H Go.Proofs.Ytfmkdledofbhdaa.Pd Go.Proofs.Ytfmkdledofbhdaa.Du Go.Proofs.Ytfmkdledofbhdaa.Lv Pm
set_option linter.unusedVariables false
set_option linter.unusedSimpArgs false
theorem ok_kind {k t g r : Int} (k1 : 1 ≤ k) (k3 : k ≤ 3) (t1 : 1 ≤ t) (t2 : t ≤ 600) (g0 : 0 ≤ g) (g1 : g ≤ t - 1) (hg : k = 3 → g = 0) (r0 : 0 ≤ r) (r1 : r ≤ 1000000000) : ok { plainP with kind := k, times := t, grace := g, rate := r } = true := by
  have h := (ok_iff plainP).1 (by decide +kernel)
  rw [ok_iff]
  obtain ⟨⟨⟨⟨⟨a1, a2, a3, a4, a5, a6, a7, a8⟩, ⟨b1, b2, b3⟩, b4⟩, c⟩, d⟩, e⟩ := h
  exact ⟨⟨⟨⟨⟨a1, a2, a3, ⟨k1, k3⟩, a5, ⟨t1, t2⟩, ⟨g0, g1⟩, hg⟩, ⟨⟨r0, r1⟩, b2, b3⟩, rfl⟩, c⟩, d⟩, e⟩
theorem days_alike {p q : Prod} {s : Int} (h1 : ok p = true) (h2 : ok q = true) (e1 : p.every = q.every) (e2 : p.times = q.times) (e3 : p.hol = q.hol) (e4 : p.roll = q.roll) : daysP p s = daysP q s := by
  unfold daysP
  rw [if_pos h1, if_pos h2, e1, e2, e3, e4]
theorem parts_alike {p q : Prod} {s : Int} (h : daysP p s = daysP q s) (e : p.count = q.count) : partsP p s = partsP q s := by
  unfold partsP
  rw [h, e]
theorem plain_all : (List.range 60).all (fun t => (daysP { plainP with kind := 2, times := (t : Int) + 1, grace := 0, rate := 0 } 19723).2 == 0) = true := by decide +kernel
/-- Days of a plain product with sixty instalments at most are there. -/
theorem plain_days {k g r : Int} {tn : Nat} (ho : ok { plainP with kind := k, times := (tn : Int), grace := g, rate := r } = true) (h1 : 1 ≤ tn) (h2 : tn ≤ 60) : (daysP { plainP with kind := k, times := (tn : Int), grace := g, rate := r } 19723).2 = 0 := by
  have h := List.all_eq_true.1 plain_all (tn - 1) (List.mem_range.2 (by omega))
  have e : (((tn - 1 : Nat) : Int) + 1) = (tn : Int) := by omega
  rw [e] at h
  have ho2 : ok { plainP with kind := 2, times := (tn : Int), grace := 0, rate := 0 } = true := ok_kind (by omega) (by omega) (by omega) (by omega) (by omega) (by omega) (fun h => by omega) (by omega) (by omega)
  rw [days_alike ho ho2 rfl rfl rfl rfl]
  exact eq_of_beq h
theorem there {p : Prod} {start m : Int} (hd : (daysP p start).2 = 0) (hk : p.kind ≠ 1) (m0 : 1 ≤ m) (hm : m ≤ 1000000000 ∧ p.rate ≤ 1000000000 ∨ m ≤ 10000000000000 ∧ p.rate = 0) : ∃ ls, schedP p start m = (ls, 0) := by
  have hx : daysP p start = ((daysP p start).1, 0) := by rw [← hd]
  obtain ⟨ho, hs0, hds, hl, t1, t2, hr, -⟩ := days_known hx
  obtain ⟨g0, gt, -, r0, r1⟩ := ok_grace ho
  obtain ⟨ys, hy, hyl, hyb⟩ := parts_known hx
  have h : (linesP p start m 0).2 = 0 := by
    unfold linesP
    rw [hy]
    refine lines_there (by omega) hm r0 hk g0 gt _ 0 m 0 (good_new _ _) (mid_start (by omega) g0) (by omega) (zip_len hl hyl) ?_
    intro y hz
    exact hyb _ (List.of_mem_zip (show (y.1, y.2) ∈ _ from hz)).2
  refine ⟨(linesP p start m 0).1, ?_⟩
  unfold schedP
  rw [if_neg (fun g => g hd), if_neg (fun g => g ⟨m0, by omega⟩), if_neg hk]
  exact Prod.ext rfl h
theorem sched_chain0 {p : Prod} {start m : Int} {ls : List Ln} (hk : p.kind ≠ 1) (h : schedP p start m = (ls, 0)) :
    Chain p (Gm.whole p.count) (Gm.half p.count p.round) m 0 0 m 0 ((daysP p start).1.zip (partsP p start).1) ls := by
  unfold schedP at h
  split at h
  · rename_i h1
    exact absurd (congrArg Prod.snd h) h1
  · split at h
    · exact absurd (show (16 : Int) = 0 from congrArg Prod.snd h) (by decide)
    · exact lines_chain _ _ _ _ _ h
theorem sumI_step : ∀ (ls : List Ln) (k : Nat) (x : Ln), ls[k]? = some x → sumI (ls.take (k + 1)) = sumI (ls.take k) + x.2.2.1
  | [], k, x, h => by simp at h
  | y :: t, 0, x, h => by
    obtain rfl : y = x := by simpa using h
    simp [sumI]
  | y :: t, k + 1, x, h => by
    have := sumI_step t k x (by simpa using h)
    simp only [List.take_succ_cons, sumI] at this ⊢
    omega
theorem sumI_bd : ∀ (ls : List Ln), (∀ x ∈ ls, 0 ≤ x.2.2.1 ∧ x.2.2.1 ≤ 1000000000000000) → 0 ≤ sumI ls ∧ sumI ls ≤ 1000000000000000 * ls.length
  | [], h => by simp [sumI]
  | y :: t, h => by
    have a := h y (List.mem_cons_self ..)
    have b := sumI_bd t (fun x hx => h x (List.mem_cons_of_mem _ hx))
    simp only [sumI, List.length_cons]
    omega
/-- Two schedules of a plain product, the second one at a greater rate. -/
theorem longer_there {k r r2 m : Int} (hk : k = 2 ∨ k = 3) (r0 : 0 ≤ r) (rr : r ≤ r2) (r1 : r2 ≤ 1000000000) (m0 : 1 ≤ m) (m1 : m ≤ 1000000000) :
    ∃ a b, schedP { plainP with kind := k, rate := r } 19723 m = (a, 0) ∧ schedP { plainP with kind := k, rate := r2 } 19723 m = (b, 0) ∧ a.length = 12 ∧ b.length = 12 ∧ sumI a ≤ sumI b ∧
      (∀ (i : Nat) (x y : Ln), a[i]? = some x → b[i]? = some y → x.1 = y.1 ∧ x.2.1 = y.2.1 ∧ x.2.2.2 = y.2.2.2 ∧ 0 ≤ x.2.2.1 ∧ x.2.2.1 ≤ 1000000000000000 ∧ 0 ≤ y.2.2.1 ∧ y.2.2.1 ≤ 1000000000000000) ∧ (∀ x y : Ln, a[0]? = some x → b[0]? = some y → x.2.2.1 ≤ y.2.2.1) ∧
      (∀ x ∈ a, 0 ≤ x.2.2.1 ∧ x.2.2.1 ≤ 1000000000000000) ∧ (∀ x ∈ b, 0 ≤ x.2.2.1 ∧ x.2.2.1 ≤ 1000000000000000) := by
  have o1 : ok { plainP with kind := k, rate := r } = true := ok_kind (k := k) (t := 12) (g := 0) (r := r) (by omega) (by omega) (by omega) (by omega) (by omega) (by omega) (fun _ => rfl) r0 (by omega)
  have o2 : ok { plainP with kind := k, rate := r2 } = true := ok_kind (k := k) (t := 12) (g := 0) (r := r2) (by omega) (by omega) (by omega) (by omega) (by omega) (by omega) (fun _ => rfl) (by omega) (by omega)
  have d1 : (daysP { plainP with kind := k, rate := r } 19723).2 = 0 := plain_days (tn := 12) o1 (by omega) (by omega)
  have d2 : (daysP { plainP with kind := k, rate := r2 } 19723).2 = 0 := plain_days (tn := 12) o2 (by omega) (by omega)
  have k1 : k ≠ 1 := by omega
  obtain ⟨a, ha⟩ := there (m := m) d1 k1 m0 (.inl ⟨m1, by show r ≤ 1000000000; omega⟩)
  obtain ⟨b, hb⟩ := there (m := m) d2 k1 m0 (.inl ⟨m1, r1⟩)
  have ca := sched_chain0 k1 ha
  have cb := sched_chain0 k1 hb
  obtain ⟨la, ka, ia⟩ := sched_looks ha
  obtain ⟨lb, kb, ib⟩ := sched_looks hb
  have la : (a.length : Int) = 12 := la
  have lb : (b.length : Int) = 12 := lb
  have ed : daysP { plainP with kind := k, rate := r2 } 19723 = daysP { plainP with kind := k, rate := r } 19723 := days_alike o2 o1 rfl rfl rfl rfl
  rw [ed, parts_alike ed rfl] at cb
  obtain ⟨xs, hxs⟩ : ∃ xs, daysP { plainP with kind := k, rate := r } 19723 = (xs, 0) := ⟨_, Prod.ext rfl d1⟩
  obtain ⟨ys, hys, hyl, hyb⟩ := parts_known hxs
  have hxl := (days_known hxs).2.2.2.1
  have hxl : (xs.length : Int) = 12 := hxl
  rw [hxs, hys] at ca cb
  have G0 := good_new 2 1
  have w0 : 0 < Gm.whole 2 := by have := G0.w0; omega
  obtain ⟨em, es⟩ := lines_more (p := { plainP with kind := k, rate := r }) (q := { plainP with kind := k, rate := r2 }) (m := m) k1 rfl rfl rfl r0 rr w0 _ 0 m 0 0 0 0 a b ca cb G0 G0 (Int.le_refl _)
  have nb : ∀ (ls : List Ln) (q : Prod), looks q 0 m 19723 ls → (∀ x ∈ ls, x.2.2.1 ≤ 1000000000000000) → ∀ x ∈ ls, 0 ≤ x.2.2.1 ∧ x.2.2.1 ≤ 1000000000000000 := by
    intro ls q hk hi x hx
    obtain ⟨i, hi2⟩ := List.getElem?_of_mem hx
    exact ⟨(looks_at ls 0 m 19723 hk i x hi2).2.2.1, hi x hx⟩
  have na := nb a _ ka ia
  have nbb := nb b _ kb ib
  refine ⟨a, b, ha, hb, by omega, by omega, by omega, ?_, ?_, na, nbb⟩
  · intro i x y hx hy
    have e := congrArg (fun l => l[i]?) em
    simp only [List.getElem?_map, hx, hy, Option.map_some, Option.some.injEq, Prod.mk.injEq] at e
    obtain ⟨e1, e2, e3⟩ := e
    have b1 := na x (List.mem_of_getElem? hx)
    have b2 := nbb y (List.mem_of_getElem? hy)
    exact ⟨e1, e2, e3, b1.1, b1.2, b2.1, b2.2⟩
  · intro x y hx hy
    cases a with
    | nil => simp at hx
    | cons a0 at_ =>
      cases b with
      | nil => simp at hy
      | cons b0 bt =>
        obtain rfl : a0 = x := by simpa using hx
        obtain rfl : b0 = y := by simpa using hy
        cases hz : xs.zip ys with
        | nil => rw [hz] at ca; simp [Chain] at ca
        | cons z zt =>
          rw [hz] at ca cb
          obtain ⟨d, n⟩ := z
          exact first_more (p := { plainP with kind := k, rate := r }) (q := { plainP with kind := k, rate := r2 }) rr w0 ca cb
end Go.Proofs.Ytfmkdledofbhdaa.Sc
/- The law ScheduleEqual, walked. -/
namespace Go.Proofs.Ytfmkdledofbhdaa.Sc
open Go.RowKit Go.Proofs.YtfmkdledofbhdaaW.PrintWords Go.Proofs.YtfmkdledofbhdaaW.PrintLast Go.Proofs.YtfmkdledofbhdaaW.PrintMore Go.Proofs.Ytfmkdledofbhdaa.HW
open Go.Proofs.Ytfmkdledofbhdaa.Math Go.Proofs.Ytfmkdledofbhdaa.H Go.Proofs.Ytfmkdledofbhdaa.Pd Go.Proofs.Ytfmkdledofbhdaa.Du Go.Proofs.Ytfmkdledofbhdaa.Lv Pm
set_option linter.unusedVariables false
set_option linter.unusedSimpArgs false
attribute [local go_sem] max2_int min2_int max_two min_two

theorem small_q {q : Prod} (h1 : q.name = plainP.name) (h2 : q.resets = []) (h3 : q.late = []) (h4 : q.hol = []) : Small q := ⟨by rw [h1]; decide, by rw [h2]; decide, by rw [h3]; decide, by rw [h4]; decide⟩
theorem Sched.one {ls : List Ln} {w w' : World} {e : Ending} (h : Sched (ls, 0) w e w') (hl : 0 < ls.length) : ∃ gn c, e = .returned (.tuple #[.slice (some ⟨gn, 0, none⟩) ls.length c, .int .i64 0]) ∧ ls.length ≤ c ∧ (Kd.pair (Kd.int .i64) (Kd.pair (Kd.int .i64) (Kd.pair (Kd.int .i64) (Kd.int .i64)))).C w' (some ⟨gn, 0, none⟩) ls.length ls ∧ Below w.heap.size w w' := by
  obtain ⟨A, c, he, hR, hb⟩ := h
  obtain ⟨gn, cn, e1, _⟩ := Kd.R_form hR hl
  injection e1 with e1 _ e3
  subst e1 e3
  obtain ⟨_, hc2, hC⟩ := Kd.R_reads' hR
  exact ⟨gn, _, he, hc2, hC, hb⟩
end Go.Proofs.Ytfmkdledofbhdaa.Sc
/- The law ScheduleLonger, walked. -/
namespace Go.Proofs.Ytfmkdledofbhdaa.Sc
open Go.RowKit Go.Proofs.YtfmkdledofbhdaaW.PrintWords Go.Proofs.YtfmkdledofbhdaaW.PrintLast Go.Proofs.YtfmkdledofbhdaaW.PrintMore Go.Proofs.Ytfmkdledofbhdaa.HW
open Go.Proofs.Ytfmkdledofbhdaa.Math Go.Proofs.Ytfmkdledofbhdaa.H Go.Proofs.Ytfmkdledofbhdaa.Pd Go.Proofs.Ytfmkdledofbhdaa.Du Go.Proofs.Ytfmkdledofbhdaa.Lv Pm
set_option linter.unusedVariables false
set_option linter.unusedSimpArgs false
attribute [local go_sem] max2_int min2_int max_two min_two
/-- Where lines lie. -/
def LinesAt (w : World) (g : Nat) (ls : List Ln) : Prop := g < w.heap.size ∧ ∀ (i : Nat) (x : Ln), ls[i]? = some x →
    w.cell? ⟨g, i * 4, none⟩ = some (.int .i64 x.1) ∧ w.cell? ⟨g, i * 4 + 1, none⟩ = some (.int .i64 x.2.1) ∧ w.cell? ⟨g, i * 4 + 2, none⟩ = some (.int .i64 x.2.2.1) ∧ w.cell? ⟨g, i * 4 + 3, none⟩ = some (.int .i64 x.2.2.2)
theorem LinesAt.same {w w1 : World} {g : Nat} {ls : List Ln} (h : LinesAt w g ls) (hb : w1.heap[g]? = w.heap[g]?) (hs : w.heap.size ≤ w1.heap.size) : LinesAt w1 g ls :=
  ⟨Nat.lt_of_lt_of_le h.1 hs, fun i x hx => ⟨(World.cell?_of_block (a := ⟨g, i * 4, none⟩) hb).trans (h.2 i x hx).1, (World.cell?_of_block (a := ⟨g, i * 4 + 1, none⟩) hb).trans (h.2 i x hx).2.1, (World.cell?_of_block (a := ⟨g, i * 4 + 2, none⟩) hb).trans (h.2 i x hx).2.2.1, (World.cell?_of_block (a := ⟨g, i * 4 + 3, none⟩) hb).trans (h.2 i x hx).2.2.2⟩⟩
theorem LinesAt.below {w w1 : World} {g : Nat} {ls : List Ln} (h : LinesAt w g ls) (hb : Below w.heap.size w w1) : LinesAt w1 g ls := h.same (hb.block g h.1) hb.size
theorem LinesAt.drewN {w : World} {g : Nat} {ls : List Ln} (h : LinesAt w g ls) (n : Nat) : LinesAt (w.drewN n) g ls := h.below (pw_below_drewN (Below.refl _ _) n)
theorem Sched.at {ls : List Ln} {w w' : World} {e : Ending} (h : Sched (ls, 0) w e w') (hl : 0 < ls.length) : ∃ gn c, e = .returned (.tuple #[.slice (some ⟨gn, 0, none⟩) ls.length c, .int .i64 0]) ∧ ls.length ≤ c ∧ w.heap.size ≤ gn ∧ LinesAt w' gn ls ∧ Below w.heap.size w w' := by
  obtain ⟨A, c, he, hR, hb⟩ := h
  obtain ⟨gn, cn, e1, hge, hlt, _⟩ := Kd.R_form hR hl
  injection e1 with e1 _ e3
  subst e1 e3
  obtain ⟨_, hc2, hC⟩ := Kd.R_reads' hR
  exact ⟨gn, _, he, hc2, hge, ⟨hlt, fun i x hx => lines_cells hC rfl hx⟩, hb⟩
set_option maxRecDepth 100000 in
set_option maxHeartbeats 20000000 in
theorem scheduleLonger_walk (a0 a1 a2 a3 : Int) (w : World) (w0 : (Lit.int .i64 a0).wf = true) (w1 : (Lit.int .i64 a1).wf = true) (w2 : (Lit.int .i64 a2).wf = true) (w3 : (Lit.int .i64 a3).wf = true) (hg : GV w) : Calls Try.prog 5 #[.int .i64 a0, .int .i64 a1, .int .i64 a2, .int .i64 a3] w fun e w' => e = .returned (.bool true) ∧ Below w.heap.size w w' := by
  have mk := U_is a3 (m := 2) (by omega) (by omega)
  obtain ⟨mka, mkb⟩ := U_bd a3 (m := 2) (by omega)
  obtain ⟨kk, hkk⟩ : ∃ x, 2 + U a3 2 = x := ⟨_, rfl⟩
  have sk : IntKind.i64.wrap (2 + U a3 2) = kk := by rw [hkk]; exact IntWalk.i64_in _ (by omega)
  have m1 := U_is a1 (m := 400000000) (by omega) (by omega)
  obtain ⟨m1a, m1b⟩ := U_bd a1 (m := 400000000) (by omega)
  obtain ⟨R, hR⟩ : ∃ x, U a1 400000000 = x := ⟨_, rfl⟩
  rw [hR] at m1 m1a m1b
  have m2 := U_is a2 (m := 400000000) (by omega) (by omega)
  obtain ⟨m2a, m2b⟩ := U_bd a2 (m := 400000000) (by omega)
  obtain ⟨R2, hR2⟩ : ∃ x, R + U a2 400000000 = x := ⟨_, rfl⟩
  have s2 : IntKind.i64.wrap (R + U a2 400000000) = R2 := by rw [hR2]; exact IntWalk.i64_in _ (by omega)
  have m0 := U_is a0 (m := 1000000000) (by omega) (by omega)
  obtain ⟨m0a, m0b⟩ := U_bd a0 (m := 1000000000) (by omega)
  obtain ⟨M, hM⟩ : ∃ M, 1 + U a0 1000000000 = M := ⟨_, rfl⟩
  have s0 : IntKind.i64.wrap (1 + U a0 1000000000) = M := by rw [hM]; exact IntWalk.i64_in _ (by omega)
  obtain ⟨a, b, hsa, hsb, la, lb, hsum, hat, hfst, hia, hib⟩ := longer_there (k := kk) (r := R) (r2 := R2) (m := M) (by omega) (by omega) (by omega) (by omega) (by omega) (by omega)
  have O1 := Aside0.mk (fun (W : World) (hb : Below w.heap.size w W) => show Calls Try.prog 11 #[pv { plainP with kind := kk, rate := R } none 0 none 0 none 0, .int .i64 19723, .int .i64 M] W (fun e w' => ∃ gn c, e = .returned (.tuple #[.slice (some ⟨gn, 0, none⟩) 12 c, .int .i64 0]) ∧ 12 ≤ c ∧ W.heap.size ≤ gn ∧ LinesAt w' gn a ∧ Below W.heap.size W w') from by
    have h := sched_any { plainP with kind := kk, rate := R } none 0 none 0 none 0 19723 M W (hg.below hb) (nilAt rfl rfl rfl) (small_q rfl rfl rfl rfl)
    rw [hsa] at h
    refine h.mono ?_
    rintro e w' h
    have h := Sched.at h (by omega)
    rw [la] at h
    exact h)
  have O2 := Aside0.mk (fun (W : World) (hb : Below w.heap.size w W) => show Calls Try.prog 11 #[pv { plainP with kind := kk, rate := R2 } none 0 none 0 none 0, .int .i64 19723, .int .i64 M] W (fun e w' => ∃ gn c, e = .returned (.tuple #[.slice (some ⟨gn, 0, none⟩) 12 c, .int .i64 0]) ∧ 12 ≤ c ∧ W.heap.size ≤ gn ∧ LinesAt w' gn b ∧ Below W.heap.size W w') from by
    have h := sched_any { plainP with kind := kk, rate := R2 } none 0 none 0 none 0 19723 M W (hg.below hb) (nilAt rfl rfl rfl) (small_q rfl rfl rfl rfl)
    rw [hsb] at h
    refine h.mono ?_
    rintro e w' h
    have h := Sched.at h (by omega)
    rw [lb] at h
    exact h)
  have AK := Aside0.mk (fun (W : World) (hb : Below w.heap.size w W) => sched_awake W (hg.below hb))
  have AT := Aside0.mk hat
  have LA_ := Aside0.mk la
  have LB_ := Aside0.mk lb
  have HS := Aside0.mk hsum
  have HF := Aside0.mk hfst
  have IA := Aside0.mk hia
  have IB := Aside0.mk hib
  clear hg hsa hsb la lb hsum hat hfst hia hib hM hR2 hR hkk mka mkb m1a m1b m2a m2b m0a m0b w0 w1 w2 w3
  go_enter Try.func5, Try.ntmps5
  go_wp2_with (first
    | (go_at_call 13; (with_reducible refine (plain_any _).mono ?_); rintro e w0 ⟨rfl, hb⟩; have HB := Aside0.mk hb; clear hb)
    | ((with_reducible refine gate_dst (N := 9) rfl ?_); refine copy_event rfl (N := 9) rfl rfl rfl (t := 27) (v := .tmp 17) rfl (cs := pcs plainP none 0 none 0 none 0) (zs := pzs) ?hr rfl rfl info_prod ?hz (pcs_one _ _ _ _ _ _ _) ?_; (case hr => first | (go_simp; done) | (go_simp; rfl)); (case hz => rfl); intro g hg w1 hb1 hbl1; have gge := (show w.heap.size ≤ g by rw [hg]; exact HB.out.size); have HB := Aside0.mk (below_step HB.out hbl1); have GG := Aside0.mk hb1; clear hg hb1 hbl1; have u3 : w1.cell? ⟨g, 3, none⟩ = some (.int .i64 _) := (blk_cell GG.out 3).trans rfl; have f3 := frozen_of_row w1 g 3 _ _ GG.out)
    | ((with_reducible refine gate_store (t := 3) (p := 23) rfl ?_); refine put_event rfl (t := 3) (p := 23) (v := .tmp 22) rfl rfl (g := g) (i := 3) (cs := pcs plainP none 0 none 0 none 0) (cs' := pcs { plainP with kind := kk } none 0 none 0 none 0) (x := .int .i64 kk) ?hr GG.out ?hc ?_; (case hc => rfl); (case hr => go_simp); intro w2 hb8 hbut; have GG := Aside0.mk hb8; have HB := Aside0.mk (But.below HB.out HB.out.size gge hbut); clear hbut; clear hb8; have u7 : w2.cell? ⟨g, 7, none⟩ = some (.int .i64 _) := (blk_cell GG.out 7).trans rfl; have f7 := frozen_of_row w2 g 7 _ _ GG.out)
    | ((with_reducible refine gate_store (t := 2) (p := 28) rfl ?_); refine put_event rfl (t := 2) (p := 28) (v := .tmp 27) rfl rfl (g := g) (i := 7) (cs := pcs { plainP with kind := kk } none 0 none 0 none 0) (cs' := pcs { plainP with kind := kk, rate := R } none 0 none 0 none 0) (x := .int .i64 R) ?hr GG.out ?hc ?_; (case hc => rfl); (case hr => go_simp); intro w3 hb8 hbut; have GG := Aside0.mk hb8; have HB := Aside0.mk (But.below HB.out HB.out.size gge hbut); clear hbut; clear hb8; skip)
    | ((with_reducible refine gate_dst (N := 35) rfl ?_); refine wpList_load_row rfl 27 (.tmp 9) rfl g rfl 27 _ (0, 0) _ GG.out Try.underlying27 rfl info_prod ?_)
    | ((with_reducible refine gate_dst (N := 49) rfl ?_); refine wpList_load_row rfl 27 (.tmp 9) rfl g rfl 27 _ (0, 0) _ GG.out Try.underlying27 rfl info_prod ?_)
    | (go_at_call 11; (with_reducible refine (O1.out _ HB.out).mono ?_); rintro e y1 ⟨gn, c, rfl, hle, hge, hC, hb⟩; have gnn := (show gn ≠ g by have := blk_lt GG.out; omega); have HB := Aside0.mk (below_step HB.out hb); have GG := Aside0.mk (Pd.blk_below GG.out hb); have HA := Aside0.mk hC; clear hb hC hge; have u7 : y1.cell? ⟨g, 7, none⟩ = some (.int .i64 R) := (blk_cell GG.out 7).trans rfl; have f7 := frozen_of_row y1 g 7 _ _ GG.out)
    | ((with_reducible refine gate_store (t := 2) (p := 47) rfl ?_); refine put_event rfl (t := 2) (p := 47) (v := .tmp 46) rfl rfl (g := g) (i := 7) (cs := pcs { plainP with kind := kk, rate := R } none 0 none 0 none 0) (cs' := pcs { plainP with kind := kk, rate := R2 } none 0 none 0 none 0) (x := .int .i64 R2) ?hr GG.out ?hc ?_; (case hc => rfl); (case hr => go_simp); intro w4 hb8 hbut; have GG := Aside0.mk hb8; have HB := Aside0.mk (But.below HB.out HB.out.size gge hbut); have HA := Aside0.mk (HA.out.same (hbut.block gn HA.out.1 gnn) hbut.size); clear hbut; clear hb8; skip)
    | (go_at_call 11; (with_reducible refine (O2.out _ HB.out).mono ?_); rintro e y2 ⟨gm, cm, rfl, hme, hge, hC, hb⟩; have HB := Aside0.mk (below_step HB.out hb); have HA := Aside0.mk (HA.out.below hb); have HD := Aside0.mk hC; clear hb hC hge)
    | (go_at_call 12; (with_reducible refine (AK.out _ HB.out).mono ?_); rintro e y3 ⟨rfl, hb⟩; have HB := Aside0.mk (below_step HB.out hb); have HA := Aside0.mk (HA.out.below hb); have HD := Aside0.mk (HD.out.below hb); clear hb))
  go_loopg [14, 15, 16] 13 (fun gq s1 s2 iv w' => ∃ (k : Nat), k ≤ 12 ∧ s1 = .int .i64 (sumI (a.take k)) ∧ s2 = .int .i64 (sumI (b.take k)) ∧ iv = .int .i64 (k : Int) ∧ Aside0 (gq = 13 - k) ∧ Aside0 (LinesAt w' gn a) ∧ Aside0 (LinesAt w' gm b) ∧ Aside0 (Below w.heap.size w w'))
  case atStart => exact ⟨0, by omega, rfl, rfl, rfl, ⟨rfl⟩, HA, HD, HB⟩
  case round =>
    obtain ⟨k, kn, rfl, rfl, rfl, hgq, HA, HD, HB⟩ := hrel
    obtain ⟨sA, hsA⟩ : ∃ x, sumI (a.take k) = x := ⟨_, rfl⟩
    obtain ⟨sB, hsB⟩ : ∃ x, sumI (b.take k) = x := ⟨_, rfl⟩
    rw [hsA, hsB]
    by_cases hlt : (k : Int) < 12
    · obtain ⟨⟨d, p, ia, l⟩, hx⟩ : ∃ x, a[k]? = some x := ⟨_, List.getElem?_eq_getElem (by have := LA_.out; omega)⟩
      obtain ⟨⟨d_, p_, ib, l_⟩, hy⟩ : ∃ x, b[k]? = some x := ⟨_, List.getElem?_eq_getElem (by have := LB_.out; omega)⟩
      obtain ⟨h1, h2, h3, h4, h5, h6, h7⟩ := AT.out k _ _ hx hy
      obtain rfl : d = d_ := h1
      obtain rfl : p = p_ := h2
      obtain rfl : l = l_ := h3
      obtain ⟨x0, x1, x2, x3⟩ := HA.out.2 k _ hx
      obtain ⟨y0, y1_, y2_, y3_⟩ := HD.out.2 k _ hy
      have ba := sumI_bd (a.take k) (fun x h => IA.out x (List.mem_of_mem_take h))
      have bb := sumI_bd (b.take k) (fun x h => IB.out x (List.mem_of_mem_take h))
      have la := List.length_take_le k a
      have lb := List.length_take_le k b
      rw [hsA] at ba
      rw [hsB] at bb
      have h4 : 0 ≤ ia := h4
      have h5 : ia ≤ 1000000000000000 := h5
      have h6 : 0 ≤ ib := h6
      have h7 : ib ≤ 1000000000000000 := h7
      obtain ⟨tA, htA⟩ : ∃ x, sA + ia = x := ⟨_, rfl⟩
      obtain ⟨tB, htB⟩ : ∃ x, sB + ib = x := ⟨_, rfl⟩
      have wA : IntKind.i64.wrap (sA + ia) = tA := by rw [htA]; exact IntWalk.i64_in _ (by omega)
      have wB : IntKind.i64.wrap (sB + ib) = tB := by rw [htB]; exact IntWalk.i64_in _ (by omega)
      have EA := Aside0.mk (show sumI (a.take (k + 1)) = tA by rw [sumI_step a k _ hx, hsA]; exact htA)
      have EB := Aside0.mk (show sumI (b.take (k + 1)) = tB by rw [sumI_step b k _ hy, hsB]; exact htB)
      clear ba bb la lb h4 h5 h6 h7 htA htB hsA hsB hx hy
      go_wp2_with fail
      go_quiet (fail)
      go_wp2_with fail
      go_quiet (fail)
      go_wp2_with fail
      go_roundg (13 - (k + 1))
      case measure => have := hgq.out; omega
      case rel => exact ⟨k + 1, by omega, by rw [EA.out], by rw [EB.out], by simp, ⟨rfl⟩, ⟨by first | exact HA.out | exact HA.out.drewN _ | exact (HA.out.drewN _).drewN _⟩, ⟨by first | exact HD.out | exact HD.out.drewN _ | exact (HD.out.drewN _).drewN _⟩, ⟨by first | exact HB.out | exact Below.drew HB.out | exact pw_below_drewN HB.out _ | exact pw_below_drewN (pw_below_drewN HB.out _) _ | exact Below.drew (Below.drew HB.out)⟩⟩
    · obtain rfl : k = 12 := by omega
      obtain ⟨⟨d, p, ia, l⟩, hx⟩ : ∃ x, a[0]? = some x := ⟨_, List.getElem?_eq_getElem (by have := LA_.out; omega)⟩
      obtain ⟨⟨d_, p_, ib, l_⟩, hy⟩ : ∃ x, b[0]? = some x := ⟨_, List.getElem?_eq_getElem (by have := LB_.out; omega)⟩
      have x2 : wr.cell? ⟨gn, 2, none⟩ = some (.int .i64 ia) := (HA.out.2 0 _ hx).2.2.1
      have y2_ : wr.cell? ⟨gm, 2, none⟩ = some (.int .i64 ib) := (HD.out.2 0 _ hy).2.2.1
      have o1 : decide (sA ≤ sB) = true := decide_eq_true (by rw [← hsA, ← hsB, List.take_of_length_le (by have := LA_.out; omega), List.take_of_length_le (by have := LB_.out; omega)]; exact HS.out)
      have o2 : decide (ia ≤ ib) = true := decide_eq_true (HF.out _ _ hx hy)
      clear hx hy hsA hsB
      go_wp2_with fail
      go_quiet (fail)
      go_wp2_with fail
      go_ret
      exact ⟨rfl, by first | exact HB.out | exact Below.drew HB.out | exact pw_below_drewN HB.out _ | exact pw_below_drewN (pw_below_drewN HB.out _) _ | exact Below.drew (Below.drew HB.out)⟩
end Go.Proofs.Ytfmkdledofbhdaa.Sc
