/- Texts of this claim, joined in build order. -/
import Derived.Below
import Derived.Deep.Draws
import Derived.Deep.AppendLies
import Derived.Maps.AppendAt
import Derived.OwnWalk
import Derived.Laws.BytesArg
import Derived.Laws.MakeOwn
import Derived.Laws.OwnMore
import Derived.Tactics
import Derived.Lib.ConvBytes
import Derived.Laws.Slices
import Derived.WalkKit
import Derived.KernelRfl
import Derived.RowKit3
import Derived.Deep.LoopGhost
import Derived.Deep.QuietTactic
import Derived.BigQuiet
import Derived.WideLaws
import Derived.Deep.DeepCutAuto
import Derived.Deep.CutBlock
import Derived.Deep.RegionHeld3
import Derived.Lib.AppendStr
import Derived.ArgAppend
import Derived.Laws.IdiomCopy
import Derived.RowKit
import Derived.OrdersHeld
import Derived.Laws.BitsLemmas
import Derived.Test.YtfmkdledofbhdaaProg
import Derived.Laws.StructEq
import Derived.WalkLawsBesides
import Derived.WalkSpells
import Derived.IntWalk
import Derived.Lib.IndexMore
import Derived.Deep.Slices
import Derived.Deep.Fields
import Derived.ChangeSame
import Derived.Lib.SmallJoins
import Derived.ProofKit
import Derived.Defers
import Derived.Laws.Tables
import Derived.Deep.WholeRow
import Derived.Recover
import Derived.StillTailTactics
import Derived.Shelf.Small.Bits
import Derived.Shelf.Strconv.Itoa0
import Derived.Shelf.Strings.Search1
import Derived.Shelf.Strings.Search2
import Derived.Shelf.Strings.Search3
import Derived.Shelf.LaysM
import Derived.Shelf.Strings.Shaped
import Derived.Shelf.Bits.Mul64
import Derived.Lib.SlBytesConst
import Derived.Deep.RegionWith
import Derived.Lib.Hide
import Derived.BigFrame
import Derived.Lib.BitFns
import Derived.Laws.BitsAllLaws
import Derived.Laws.Externs
import Derived.RegionTactic
import Derived.Deep.MidRow
import Derived.OpenShut
import Derived.ShutString
import Derived.ChangeOld
import Derived.Laws.IdiomArrays
import Derived.SizedLaws
import Derived.HandedShaped
import Derived.Shelf.Vars
import Derived.Test.YtfmkdledofbhdaaJE1
import Derived.Test.YtfmkdledofbhdaaJE2
import Derived.Test.YtfmkdledofbhdaaJE3
import Derived.Test.YtfmkdledofbhdaaJE4
import Derived.Test.YtfmkdledofbhdaaJE5
import Derived.Test.YtfmkdledofbhdaaJE6
set_option linter.unusedVariables false
set_option linter.unusedSimpArgs false
/- Contracts by hand: schedule.Of. -/
namespace Go.Proofs.Ytfmkdledofbhdaa.Sc
open Go.RowKit Go.Proofs.YtfmkdledofbhdaaW.PrintWords Go.Proofs.YtfmkdledofbhdaaW.PrintLast Go.Proofs.YtfmkdledofbhdaaW.PrintMore Go.Proofs.Ytfmkdledofbhdaa.HW
open Go.Proofs.Ytfmkdledofbhdaa.Math Go.Proofs.Ytfmkdledofbhdaa.H Go.Proofs.Ytfmkdledofbhdaa.Pd Go.Proofs.Ytfmkdledofbhdaa.Du Go.Proofs.Ytfmkdledofbhdaa.Lv Pm
set_option linter.unusedVariables false
set_option linter.unusedSimpArgs false
attribute [local go_sem] max2_int min2_int max_two min_two

theorem built_maker (p : Prod) (A1 : Option Addr) (c1 : Nat) (A2 : Option Addr) (c2 : Nat) (A3 : Option Addr) (c3 : Nat) (m : Int) : Try.prog.built 63 [(0, .agg (pcs p A1 c1 A2 c2 A3 c3)), (1, .int .i64 m), (3, .int .i64 m)] = some (mcs p A1 c1 A2 c2 A3 c3 m 0 m (.pointer none)) := by kernel_rfl
theorem Blk.readsL {w : World} {g : Nat} {e : TypeId} {l : List Int} {t : List Value} (h : H.Blk w g e (nums .i64 l ++ t)) (hm : l.length ≤ 1000000) : Kd.C (Kd.int .i64) w (some ⟨g, 0, none⟩) l.length l := Blk.reads h (by omega)
theorem info_lineb : (Try.prog.info? 36).map (fun i => (i.zero, i.size, i.bytes)) = some (some (.agg #[.int .i64 0, .int .i64 0, .int .i64 0, .int .i64 0]), 4, 32) := by kernel_rfl
theorem line_M {w : World} {base : Nat} {ok : Nat → Prop} (a b c d : Int) : (Kd.pair (Kd.int .i64) (Kd.pair (Kd.int .i64) (Kd.pair (Kd.int .i64) (Kd.int .i64)))).M w base ok (a, b, c, d) [.int .i64 a, .int .i64 b, .int .i64 c, .int .i64 d] :=
  ⟨[_], _, rfl, rfl, [_], _, rfl, rfl, [_], _, rfl, rfl, rfl⟩
theorem But2.toBelow {a b : Nat} {w w1 w2 : World} (h : Below w.heap.size w w1) (hb : But2 a b w1 w2) (ha : w.heap.size ≤ a) (hc : w.heap.size ≤ b) : Below w.heap.size w w2 :=
  ⟨hb.os.trans h.os, hb.tape.trans h.tape, hb.output.trans h.output, Nat.le_trans h.size hb.size, fun k hk => (hb.block k (Nat.lt_of_lt_of_le hk h.size) (by omega) (by omega)).trans (h.block k hk)⟩
theorem _root_.Go.Proofs.Ytfmkdledofbhdaa.H.BearAt.same {w w1 : World} {g : Nat} {W h rest : Int} (H : BearAt w g W h rest) (hb : w1.heap[g]? = w.heap[g]?) (hs : w.heap.size ≤ w1.heap.size) : BearAt w1 g W h rest :=
  ⟨(World.cell?_of_block (a := ⟨g, 0, none⟩) hb).trans H.c0, (World.cell?_of_block (a := ⟨g, 1, none⟩) hb).trans H.c1, (World.cell?_of_block (a := ⟨g, 2, none⟩) hb).trans H.c2, (World.frozen?_of_block (a := ⟨g, 2, none⟩) hb).trans H.f2, Nat.lt_of_lt_of_le H.lt hs⟩
theorem zip_drop {xs ys : List Int} {k : Nat} (h : k < xs.length) (h2 : ys.length = xs.length) : (xs.zip ys).drop k = (rd xs (k : Int), rd ys (k : Int)) :: (xs.zip ys).drop (k + 1) := by
  rw [List.drop_eq_getElem_cons (by rw [List.length_zip]; omega), List.getElem_zip]
  simp [rd, h, show k < ys.length by omega]
theorem inst_bd {p : Prod} {ys : List Int} {m inst : Int} (h : ofE p ys m = (inst, 0)) : 1 ≤ inst ∧ inst ≤ 1000000000000000 := by
  have ha : askE p ys m = 0 := by
    rcases Decidable.em (askE p ys m = 0) with e | e
    · exact e
    · unfold ofE at h
      rw [if_pos e] at h
      exact absurd (congrArg Prod.snd h) e
  obtain ⟨hm, hz⟩ := lf_mono ha
  have hn : ¬ askE p ys m ≠ 0 := by rw [ha]; decide
  unfold ofE at h
  rw [if_neg hn] at h
  by_cases h2 : 0 < lf p ys m 1000000000000000
  · rw [if_pos h2] at h
    exact absurd (congrArg Prod.snd h) (fun e => by simp at e)
  · rw [if_neg h2] at h
    have L := srch_least (lf p ys m) 50 0 1000000000000000 (by decide) (by decide) (by decide) (by decide) hz (by omega)
    have e := congrArg Prod.fst h
    simp only [] at e
    rw [e] at L
    exact ⟨L.v1, L.vm⟩
def ListedL1 (l : List Int) (w : World) (e : Ending) (w' : World) : Prop := ∃ g c t, e = .returned (.tuple #[.slice (some ⟨g, 0, none⟩) l.length c, .int .i64 0]) ∧ w.heap.size ≤ g ∧ l.length ≤ c ∧ H.Blk w' g 2 (nums .i64 l ++ t) ∧ Below w.heap.size w w'
theorem listed_one {l : List Int} {w w' : World} {e : Ending} (h : ListedL (l, 0) w e w') (hl : l ≠ []) : ListedL1 l w e w' := by
  obtain ⟨v, he, hr, hb⟩ := h
  rcases hr with ⟨-, h⟩ | ⟨g, c, t, rfl, hg, hc, hk⟩
  · exact absurd h hl
  · exact ⟨g, c, t, he, hg, hc, hk, hb⟩
/-- What Of gives. -/
def Sched (r : List Ln × Int) (w : World) (e : Ending) (w' : World) : Prop := ∃ A c, e = .returned (.tuple #[.slice A r.1.length c, .int .i64 r.2]) ∧ Kd.R (Kd.pair (Kd.int .i64) (Kd.pair (Kd.int .i64) (Kd.pair (Kd.int .i64) (Kd.int .i64)))) 36 w' w.heap.size (fun _ => True) (.slice A r.1.length c) r.1 ∧ Below w.heap.size w w'
set_option maxRecDepth 100000 in
set_option maxHeartbeats 20000000 in
theorem sched_one (p : Prod) (A1 : Option Addr) (c1 : Nat) (A2 : Option Addr) (c2 : Nat) (A3 : Option Addr) (c3 : Nat) (start m inst : Int) (w : World) (hg : GV w) (hp : ProdAt w p A1 c1 A2 c2 A3 c3) (hs : Small p) (xs ys : List Int) (hd : daysP p start = (xs, 0)) (hpx : partsP p start = (ys, 0)) (hxl : xs.length ≤ 600) (m0 : 1 ≤ m) (m1 : m ≤ 10000000000000) (hi : p.kind = 1 ∧ ofE p ys m = (inst, 0)) :
    Calls Try.prog 11 #[pv p A1 c1 A2 c2 A3 c3, .int .i64 start, .int .i64 m] w (Sched (linesP p start m inst) w) := by
  obtain ⟨ho, hs0, hds, hl, t1, t2, hr, -⟩ := days_known hd
  have hyl : ys.length = xs.length := by
    have := hpx
    unfold partsP at this
    rw [hd, if_pos rfl] at this
    obtain ⟨rfl, -⟩ := Prod.mk.inj this
    exact rparts_len _ _ _
  have hJ : linesP p start m inst = join [] (lines p (Gm.whole p.count) (Gm.half p.count p.round) m inst 0 (xs.zip ys) m 0) := by
    unfold linesP
    rw [hd, hpx]
    exact (join_nil _ (lines_err _ _ _ _ _ _ _ _ _)).symm
  obtain ⟨⟨⟨⟨⟨_, a2, a3, a4, a5, a6, a7, a8⟩, ⟨b1, b2, b3⟩, b4⟩, c⟩, d_⟩, e_⟩ := (ok_iff p).1 ho
  have hne : xs ≠ [] := fun e => by rw [e] at hl; simp at hl; omega
  have hne2 : ys ≠ [] := fun e => by rw [e] at hyl; simp at hyl; exact hne (List.eq_nil_of_length_eq_zero hyl.symm)
  have ib : 0 ≤ inst ∧ inst ≤ 1000000000000000 := by
    have := inst_bd hi.2; omega
  have MM := Aside0.mk (show Mid p m 0 m from ⟨by omega, by omega, fun _ _ => by rw [show max 0 (0 - p.grace) = 0 by omega]; omega⟩)
  have GN := good_new p.count p.round
  have NW := Aside0.mk (fun U => bnew_any (c := p.count) (r := p.round) (by omega) a3 U)
  have DA := Aside0.mk (fun W (hb : Below w.heap.size w W) => show Calls Try.prog 16 #[pv p A1 c1 A2 c2 A3 c3, .int .i64 start] W (Listed1 xs W) from (days_any p A1 c1 A2 c2 A3 c3 start W (hg.below hb) (hp.below hb) hs).mono fun e w' h => by rw [hd] at h; exact h.one hne)
  have PA := Aside0.mk (fun W (hb : Below w.heap.size w W) => show Calls Try.prog 18 #[pv p A1 c1 A2 c2 A3 c3, .int .i64 start] W (ListedL1 ys W) from (parts_any p A1 c1 A2 c2 A3 c3 start W (hg.below hb) (hp.below hb) hs).mono fun e w' h => by rw [hpx] at h; exact listed_one h hne2)
  have OF := Aside0.mk (fun (A : Option Addr) (c : Nat) (W : World) (hb : Below w.heap.size w W) (hc : Kd.C (Kd.int .i64) W A ys.length ys) => show Calls Try.prog 26 #[pv p A1 c1 A2 c2 A3 c3, .slice A ys.length c, .int .i64 m] W (Two (inst, 0) W) from by have := Of_any p A1 c1 A2 c2 A3 c3 A ys c m W (hg.below hb) (hp.below hb) hs hc (by omega); rw [hi.2] at this; exact this)
  obtain ⟨R, hR⟩ : ∃ R, linesP p start m inst = R := ⟨_, rfl⟩
  rw [hR] at hJ ⊢
  obtain ⟨Wh, hWh⟩ : ∃ y, Gm.whole p.count = y := ⟨_, rfl⟩
  obtain ⟨Hf, hHf⟩ : ∃ y, Gm.half p.count p.round = y := ⟨_, rfl⟩
  rw [hWh, hHf] at GN hJ
  have HWh := Aside0.mk hWh
  have HHf := Aside0.mk hHf
  have GN := Aside0.mk GN
  have HJ := Aside0.mk hJ
  have KD := Aside0.mk a4
  have kk : (p.kind == 1) = true := by simpa using hi.1
  have HYL := Aside0.mk hyl
  have T2 := Aside0.mk t2
  have HLT := Aside0.mk hl
  have G0 := Aside0.mk a7
  clear hg hp hs hd hpx hJ hR hWh hHf ho hs0 hds hr a2 a3 a4 a5 a6 a8 b1 b2 b3 b4 c d_ e_ hne hne2 hi hyl hl t2 a7
  go_enter Try.func11, Try.ntmps11
  go_wp2_with (first
    | ((with_reducible refine gate_dst (N := 3) rfl ?_); refine box_event ?hg (N := 3) ?hd (cs := pcs p A1 c1 A2 c2 A3 c3) (t := 27) ?hr ?_; (case hd => rfl); (case hg => rfl); (case hr => first | (go_simp; done) | (go_simp; rfl)); intro g hg w1 hb1 hbl1; have gge := (show w.heap.size ≤ g by rw [hg]; exact Nat.le_refl _); clear hg; have GG := Aside0.mk hb1; have HB := Aside0.mk hbl1; clear hb1 hbl1)
    | ((with_reducible refine gate_dst (N := 20) rfl ?_); refine wpList_load_row rfl 27 (.tmp 3) rfl g rfl 27 _ (0, 0) _ GG.out Try.underlying27 rfl info_prod ?_)
    | (go_at_call 16; (with_reducible refine (DA.out _ HB.out).mono ?_); rintro e w2 ⟨gl, cl, tl, rfl, gle, lc, hbk, hb⟩; have BL := Aside0.mk hbk; have glge := Nat.le_trans HB.out.size gle; have HB := Aside0.mk (below_step HB.out hb); have GG := Aside0.mk (Pd.blk_below GG.out hb); clear hb hbk)
    | ((with_reducible refine gate_dst (N := 35) rfl ?_); refine wpList_load_row rfl 27 (.tmp 3) rfl g rfl 27 _ (0, 0) _ GG.out Try.underlying27 rfl info_prod ?_)
    | (go_at_call 18; (with_reducible refine (PA.out _ HB.out).mono ?_); rintro e w3 ⟨gx, cx, tx, rfl, gxe, xc, hbk, hb⟩; have BX := Aside0.mk hbk; have gxge := Nat.le_trans HB.out.size gxe; have BL := Aside0.mk (Blk.below BL.out hb); have HB := Aside0.mk (below_step HB.out hb); have GG := Aside0.mk (Pd.blk_below GG.out hb); clear hb hbk)
    | ((with_reducible refine gate_dst (N := 40) rfl ?_); refine wpList_load_row rfl 27 (.tmp 3) rfl g rfl 27 _ (0, 0) _ GG.out Try.underlying27 rfl info_prod ?_)
    | ((with_reducible refine gate_dst (N := 43) rfl ?_); refine build_event rfl (t := 63) rfl (cs := mcs p A1 c1 A2 c2 A3 c3 m 0 m (.pointer none)) ?hb ?_; (case hb => simp only [List.map_toArray, List.map_cons, List.map_nil]; exact built_maker p A1 c1 A2 c2 A3 c3 m))
    | ((with_reducible refine gate_dst (N := 44) rfl ?_); refine box_event ?hg (N := 44) ?hd (cs := mcs p A1 c1 A2 c2 A3 c3 m 0 m (.pointer none)) (t := 63) ?hr ?_; (case hd => rfl); (case hg => rfl); (case hr => first | (go_simp; done) | (go_simp; rfl)); intro gm hgm w4 hb1 hb; have gmge := (show w.heap.size ≤ gm by rw [hgm]; exact HB.out.size); have gmx := (show gx ≠ gm by have := Blk.lt BX.out; omega); have gml := (show gl ≠ gm by have := Blk.lt BL.out; omega); have gmg := (show g ≠ gm by have := blk_lt GG.out; omega); clear hgm; have GM := Aside0.mk hb1; have BL := Aside0.mk (Blk.below BL.out hb); have BX := Aside0.mk (Blk.below BX.out hb); have HB := Aside0.mk (below_step HB.out hb); have GG := Aside0.mk (Pd.blk_below GG.out hb); clear hb1 hb; have v20 := (show w4.cell? ⟨gm, 20, none⟩ = some (.int .i64 0) from (blk_cell GM.out 20).trans rfl); have f20 := frozen_of_row w4 gm 20 _ _ GM.out; have v22 := (show w4.cell? ⟨gm, 22, none⟩ = some (.pointer none) from (blk_cell GM.out 22).trans rfl); have f22 := frozen_of_row w4 gm 22 _ _ GM.out; obtain ⟨-, u1, u2, u3, -⟩ := pc_cells GG.out)
    | ((with_reducible refine gate_dst (N := 50) rfl ?_); refine wpList_load_row rfl 27 (.tmp 3) rfl g rfl 27 _ (0, 0) _ GG.out Try.underlying27 rfl info_prod ?_)
    | (go_at_call 26; (with_reducible refine (OF.out _ _ _ HB.out (Blk.readsL BX.out (by have := HYL.out; omega))).mono ?_); rintro e w5 ⟨rfl, hb⟩; have BL := Aside0.mk (Blk.below BL.out hb); have BX := Aside0.mk (Blk.below BX.out hb); have GM := Aside0.mk (Pd.blk_below GM.out hb); have HB := Aside0.mk (below_step HB.out hb); have GG := Aside0.mk (Pd.blk_below GG.out hb); clear hb v20 f20 v22 f22 u1 u2 u3; have v20 := (show w5.cell? ⟨gm, 20, none⟩ = some (.int .i64 0) from (blk_cell GM.out 20).trans rfl); have f20 := frozen_of_row w5 gm 20 _ _ GM.out)
    | ((with_reducible refine gate_store (t := 2) (p := 57) rfl ?_); refine put_event rfl (t := 2) (p := 57) (v := .tmp 54) rfl rfl (g := gm) (i := 20) (cs := mcs p A1 c1 A2 c2 A3 c3 m 0 m (.pointer none)) (cs' := mcs p A1 c1 A2 c2 A3 c3 m inst m (.pointer none)) (x := .int .i64 inst) ?hr GM.out ?hc ?_; (case hc => rfl); (case hr => go_simp); intro w6 hb8 hbut; have GM := Aside0.mk hb8; have BL := Aside0.mk (Blk.but BL.out hbut gml); have BX := Aside0.mk (Blk.but BX.out hbut gmx); have GG := Aside0.mk ((hbut.block g (blk_lt GG.out) gmg).trans GG.out); have HB := Aside0.mk (But.below HB.out HB.out.size gmge hbut); clear hb8 hbut; have v22 := (show w6.cell? ⟨gm, 22, none⟩ = some (.pointer none) from (blk_cell GM.out 22).trans rfl); have f22 := frozen_of_row w6 gm 22 _ _ GM.out; obtain ⟨-, u1, u2, u3, -⟩ := pc_cells GG.out)
    | (go_at_call 30; (with_reducible refine (NW.out _).mono ?_); rintro e w7 ⟨hb, gb, hgb, rfl, hba⟩; rw [HWh.out, HHf.out] at hba; have gbge := Nat.le_trans HB.out.size hgb; have gbm := (show gm ≠ gb by have := blk_lt GM.out; omega); have gbl := (show gl ≠ gb by have := Blk.lt BL.out; omega); have gbx := (show gx ≠ gb by have := Blk.lt BX.out; omega); have gbg := (show g ≠ gb by have := blk_lt GG.out; omega); have BA := Aside0.mk hba; have BL := Aside0.mk (Blk.below BL.out hb); have BX := Aside0.mk (Blk.below BX.out hb); have GM := Aside0.mk (Pd.blk_below GM.out hb); have HB := Aside0.mk (below_step HB.out hb); have GG := Aside0.mk (Pd.blk_below GG.out hb); clear hb hba hgb v22 f22 u1 u2 u3; have v22 := (show w7.cell? ⟨gm, 22, none⟩ = some (.pointer none) from (blk_cell GM.out 22).trans rfl); have f22 := frozen_of_row w7 gm 22 _ _ GM.out)
    | ((with_reducible refine gate_store (t := 61) (p := 71) rfl ?_); refine put_event rfl (t := 61) (p := 71) (v := .tmp 68) rfl rfl (g := gm) (i := 22) (cs := mcs p A1 c1 A2 c2 A3 c3 m inst m (.pointer none)) (cs' := mcs p A1 c1 A2 c2 A3 c3 m inst m (.pointer (some ⟨gb, 0, none⟩))) (x := .pointer (some ⟨gb, 0, none⟩)) ?hr GM.out ?hc ?_; (case hc => rfl); (case hr => go_simp); intro w8 hb8 hbut; have GM := Aside0.mk hb8; have BA := Aside0.mk (BA.out.but hbut (Ne.symm gbm)); have BL := Aside0.mk (Blk.but BL.out hbut gml); have BX := Aside0.mk (Blk.but BX.out hbut gmx); have GG := Aside0.mk ((hbut.block g (blk_lt GG.out) gmg).trans GG.out); have HB := Aside0.mk (But.below HB.out HB.out.size gmge hbut); clear hb8 hbut v22 f22))
  clear kk
  have HGE := Aside0.mk (show 0 ≤ p.grace ∧ p.grace < p.times by have := G0.out; omega)
  have HZD := Aside0.mk (List.length_zip (l₁ := xs) (l₂ := ys))
  go_loopg [14, 76] (xs.length + 1) (fun gq ov iv w' => ∃ (k : Nat) (left rest : Int) (Ax : Option Addr) (cw : Nat) (ls : List Ln), k ≤ xs.length ∧ iv = .int .i64 (k : Int) ∧ ov = .slice Ax ls.length cw ∧ Aside0 (ls.length = k) ∧ Aside0 (gq = xs.length + 1 - k) ∧ Aside0 (R = join ls (lines p Wh Hf m inst (k : Int) ((xs.zip ys).drop k) left rest)) ∧ Aside0 (Mid p m (k : Int) left) ∧ Aside0 (H.Good Wh Hf rest) ∧ Aside0 (w'.heap[gm]? = some (.cells (mcs p A1 c1 A2 c2 A3 c3 m inst left (.pointer (some ⟨gb, 0, none⟩))) 63 (0, 0))) ∧ Aside0 (BearAt w' gb Wh Hf rest) ∧ Aside0 (Kd.R (Kd.pair (Kd.int .i64) (Kd.pair (Kd.int .i64) (Kd.pair (Kd.int .i64) (Kd.int .i64)))) 36 w' w.heap.size (fun b => b ≠ g ∧ b ≠ gl ∧ b ≠ gx ∧ b ≠ gm ∧ b ≠ gb) (.slice Ax ls.length cw) ls) ∧ Aside0 (H.Blk w' gl 3 (nums .i64 xs ++ tl)) ∧ Aside0 (H.Blk w' gx 2 (nums .i64 ys ++ tx)) ∧ Aside0 (w'.heap[g]? = some (.cells (pcs p A1 c1 A2 c2 A3 c3) 27 (0, 0))) ∧ Aside0 (Below w.heap.size w w'))
  case atStart => exact ⟨0, m, 0, none, 0, [], by omega, rfl, rfl, ⟨rfl⟩, ⟨rfl⟩, ⟨by rw [List.drop_zero]; exact HJ.out⟩, MM, GN, GM, BA, ⟨Kd.R_nil _ _ _ _ _⟩, BL, BX, GG, HB⟩
  case round =>
    obtain ⟨k, left, rest, Ax, cw, ls, hk, rfl, rfl, hlen, hgq, HJ, MM, GN, GM, BA, HO, BL, BX, GG, HB⟩ := hrel
    by_cases hlt : k < xs.length
    · obtain ⟨d, hdd⟩ : ∃ d, rd xs (k : Int) = d := ⟨_, rfl⟩
      obtain ⟨n, hnn⟩ : ∃ n, rd ys (k : Int) = n := ⟨_, rfl⟩
      have hcl : wr.cell? ⟨gl, k, none⟩ = some (.int .i64 d) := (BL.out.cell k).trans (by rw [List.getElem?_append_left (by simp [nums]; omega), ← hdd]; simp [nums, rd, hlt])
      have hkl : k < ys.length := by have := HYL.out; omega
      have hcx : wr.cell? ⟨gx, k, none⟩ = some (.int .i64 n) := (BX.out.cell k).trans (by rw [List.getElem?_append_left (by simp [nums]; omega), ← hnn]; simp [nums, rd, hkl])
      have hkx : (k : Int) < (xs.length : Int) := by omega
      have hky : (k : Int) < (ys.length : Int) := by omega
      obtain ⟨z, hz⟩ : ∃ z, Gm.bear Wh Hf rest left p.rate n = z := ⟨_, rfl⟩
      have hj := HJ.out
      rw [zip_drop hlt HYL.out, hdd, hnn, lines_cons hz] at hj
      have ge := HGE.out
      have kt : (k : Int) < p.times := by have := HLT.out; omega
      have LA := line_any p A1 c1 A2 c2 A3 c3 m inst left Wh Hf rest n (k : Int) d gm gb wr z hz BA.out GN.out GM.out gbm MM.out ge.1 ge.2 T2.out (by omega) kt (by omega) m1 ib.1 ib.2 (by have := KD.out; omega)
      obtain ⟨p1, p2, p3⟩ := prin_bd (inst := inst) (v := z.1) MM.out (by omega) ge.1 ge.2 (by omega) kt
      have G2 := good_bear (bal := left) (rate := p.rate) (n := n) GN.out
      rw [hz] at G2
      by_cases he : lerr p m inst (k : Int) left z = 0
      · rw [if_neg (by simpa using he)] at hj
        have pz := (lerr_zero he).2.1
        have M2 := p3 pz
        obtain ⟨z1, z2, z3⟩ := z
        obtain ⟨pr, hpr⟩ : ∃ x, prin p m inst (k : Int) z1 left = x := ⟨_, rfl⟩
        simp only [] at hj M2 G2
        rw [hpr] at hj M2
        have LN := Aside0.mk (show Calls Try.prog 31 #[.pointer (some ⟨gm, 0, none⟩), .int .i64 (k : Int), .int .i64 d, .int .i64 n] wr fun e w' => e = .returned (.tuple #[.agg #[.int .i64 d, .int .i64 pr, .int .i64 z1, .int .i64 (left - pr)], .int .i64 0]) ∧ But2 gm gb wr w' ∧ w'.heap[gm]? = some (.cells (mcs p A1 c1 A2 c2 A3 c3 m inst (left - pr) (.pointer (some ⟨gb, 0, none⟩))) 63 (0, 0)) ∧ BearAt w' gb Wh Hf z3 from LA.mono fun e w' h => by
          obtain ⟨hbt, v, rfl, h1, h2⟩ := h
          obtain ⟨rfl, h3, h4⟩ := h1 he
          simp only [] at h3
          rw [hpr] at h3
          rw [he]
          simp only []
          rw [hpr]
          exact ⟨rfl, hbt, h3, h4⟩)
        have HJ2 := Aside0.mk hj
        have MM2 := Aside0.mk M2
        have GN2 := Aside0.mk G2
        have HPR := Aside0.mk hpr
        clear hj LA p1 p2 p3 M2 G2 pz hz hpr he hdd hnn ge HJ MM kt
        go_wp2_with (first
          | (go_at_call 31; (with_reducible refine LN.out.mono ?_); rintro e w10 ⟨rfl, hbt, hgm, hba⟩; have GM := Aside0.mk hgm; have BA := Aside0.mk hba; have HO := Aside0.mk (Kd.R_step HO.out (fun b hb hlt => hbt.block b hlt hb.2.2.2.1 hb.2.2.2.2)); have BL := Aside0.mk (BL.out.same (hbt.block gl (Blk.lt BL.out) gml gbl)); have BX := Aside0.mk (BX.out.same (hbt.block gx (Blk.lt BX.out) gmx gbx)); have GG := Aside0.mk ((hbt.block g (blk_lt GG.out) gmg gbg).trans GG.out); have HB := Aside0.mk (But2.toBelow HB.out hbt gmge gbge); clear hbt hgm hba)
          | ((with_reducible refine gate_dst (N := 17) rfl ?_); refine copy_event rfl (N := 17) rfl rfl rfl (t := 36) (v := .tmp 90) rfl (cs := #[.int .i64 d, .int .i64 pr, .int .i64 z1, .int .i64 (left - pr)]) (zs := #[.int .i64 0, .int .i64 0, .int .i64 0, .int .i64 0]) ?hr rfl rfl info_line ?hz (line_one _ _ _ _) ?_; (case hr => first | (go_simp; done) | (go_simp; rfl)); (case hz => rfl); intro gt hgt w11 hb1 hb; have GT := Aside0.mk hb1; have HO := Aside0.mk (Kd.R_below HO.out hb); have BA := Aside0.mk (BA.out.below hb); have BL := Aside0.mk (Blk.below BL.out hb); have BX := Aside0.mk (Blk.below BX.out hb); have GM := Aside0.mk (Pd.blk_below GM.out hb); have HB := Aside0.mk (below_step HB.out hb); have GG := Aside0.mk (Pd.blk_below GG.out hb); clear hgt hb1 hb)
          | ((with_reducible refine gate_dst (N := 96) rfl ?_); refine wpList_load_row rfl 36 (.tmp 17) rfl gt rfl 36 _ (0, 0) _ GT.out Try.underlying36 rfl info_line ?_)
          | ((with_reducible refine gate_builtin (b := .append) (xs := #[.tmp 95, .tmp 97]) rfl ?_); at_builtin; refine Kd.R_append (Kd.pair (Kd.int .i64) (Kd.pair (Kd.int .i64) (Kd.pair (Kd.int .i64) (Kd.int .i64)))) (w0 := w) w.heap.size rfl (.tmp 95) (.tmp 97) 30 36 (.agg #[.int .i64 0, .int .i64 0, .int .i64 0, .int .i64 0]) 32 rfl Try.underlying30 info_lineb rfl (by decide) (by decide) (.slice Ax ls.length cw) ls (d, pr, z1, left - pr) [.int .i64 d, .int .i64 pr, .int .i64 z1, .int .i64 (left - pr)] (fun b => b ≠ g ∧ b ≠ gl ∧ b ≠ gx ∧ b ≠ gm ∧ b ≠ gb) (fun _ => False) rfl rfl ?aP (fun _ hk => hk.elim) ?aF ?aO ?aB ?aS ?aL ?_; (case aP => exact line_M d pr z1 (left - pr)); (case aF => exact fun b hb => ⟨(by have := blk_lt GG.out; omega), (by have := Blk.lt BL.out; omega), (by have := Blk.lt BX.out; omega), (by have := blk_lt GM.out; omega), (by have := BA.out.lt; omega)⟩); (case aO => exact HO.out); (case aB => exact HB.out); (case aS => exact HB.out.size); (case aL => have := hlen.out; omega); intro v1 w12 hr1 hb1 hg1 hat1; obtain ⟨l2, hl2⟩ : ∃ l2, l2 = ls ++ [(d, pr, z1, left - pr)] := ⟨_, rfl⟩; rw [← hl2] at hr1; obtain ⟨An, cn, rfl⟩ := Kd.R_slice hr1; have L2 := Aside0.mk hl2; have R1 := Aside0.mk hr1; have BL := Aside0.mk (BL.out.same (hg1.block gl (Blk.lt BL.out) (fun e => (HO.out.1 gl e.symm).2.1 rfl))); have BX := Aside0.mk (BX.out.same (hg1.block gx (Blk.lt BX.out) (fun e => (HO.out.1 gx e.symm).2.2.1 rfl))); have GM := Aside0.mk ((hg1.block gm (blk_lt GM.out) (fun e => (HO.out.1 gm e.symm).2.2.2.1 rfl)).trans GM.out); have BA := Aside0.mk (BA.out.same (hg1.block gb BA.out.lt (fun e => (HO.out.1 gb e.symm).2.2.2.2 rfl)) hg1.size); have GG := Aside0.mk ((hg1.block g (blk_lt GG.out) (fun e => (HO.out.1 g e.symm).1 rfl)).trans GG.out); have HB := Aside0.mk hb1; clear hl2 hr1 hb1 hg1 hat1))
        have L3 := Aside0.mk (show l2.length = k + 1 by rw [L2.out, List.length_append, hlen.out]; rfl)
        go_roundg (xs.length + 1 - (k + 1))
        case measure => have := hgq.out; omega
        case rel => exact ⟨k + 1, left - pr, z3, An, cn, l2, by omega, by simp, rfl, L3, ⟨rfl⟩, ⟨by rw [HJ2.out, L2.out]; rfl⟩, ⟨MM2.out⟩, GN2, GM, BA, R1, BL, BX, GG, HB⟩
      · obtain ⟨er, her⟩ : ∃ er, lerr p m inst (k : Int) left z = er := ⟨_, rfl⟩
        rw [if_pos he, her] at hj
        have LN := Aside0.mk (show Calls Try.prog 31 #[.pointer (some ⟨gm, 0, none⟩), .int .i64 (k : Int), .int .i64 d, .int .i64 n] wr fun e w' => e = .returned (.tuple #[.agg #[.int .i64 0, .int .i64 0, .int .i64 0, .int .i64 0], .int .i64 er]) ∧ But2 gm gb wr w' from LA.mono fun e w' h => by
          obtain ⟨hbt, v, rfl, h1, h2⟩ := h
          obtain rfl := h2 he
          rw [her]
          exact ⟨rfl, hbt⟩)
        rw [her] at he
        have hen : (er != 0) = true := by simpa using he
        have HJ2 := Aside0.mk hj
        clear hj LA p1 p2 p3 G2 hz he her hdd hnn ge HJ MM kt
        go_wp2_with (first
          | (go_at_call 31; (with_reducible refine LN.out.mono ?_); rintro e w10 ⟨rfl, hbt⟩; have HB := Aside0.mk (But2.toBelow HB.out hbt gmge gbge); clear hbt)
          | ((with_reducible refine gate_dst (N := 17) rfl ?_); refine copy_event rfl (N := 17) rfl rfl rfl (t := 36) (v := .tmp 90) rfl (cs := #[.int .i64 0, .int .i64 0, .int .i64 0, .int .i64 0]) (zs := #[.int .i64 0, .int .i64 0, .int .i64 0, .int .i64 0]) ?hr rfl rfl info_line ?hz (line_one _ _ _ _) ?_; (case hr => first | (go_simp; done) | (go_simp; rfl)); (case hz => rfl); intro gt hgt w11 hb1 hb; have HB := Aside0.mk (below_step HB.out hb); clear hgt hb1 hb))
        go_ret2
        obtain rfl := HJ2.out
        exact ⟨none, 0, rfl, Kd.R_nil _ _ _ _ _, HB.out⟩
    · have hj := HJ.out
      rw [List.drop_of_length_le (by rw [HZD.out]; omega), lines, join, if_pos rfl, List.append_nil] at hj
      have HJ2 := Aside0.mk hj
      clear hj HJ
      go_wp2_with fail
      go_ret2
      obtain rfl := HJ2.out
      exact ⟨Ax, cw, rfl, Kd.R_mono HO.out (fun _ _ => trivial), HB.out⟩
set_option maxRecDepth 100000 in
set_option maxHeartbeats 20000000 in
theorem sched_two (p : Prod) (A1 : Option Addr) (c1 : Nat) (A2 : Option Addr) (c2 : Nat) (A3 : Option Addr) (c3 : Nat) (start m inst : Int) (w : World) (hg : GV w) (hp : ProdAt w p A1 c1 A2 c2 A3 c3) (hs : Small p) (xs ys : List Int) (hd : daysP p start = (xs, 0)) (hpx : partsP p start = (ys, 0)) (hxl : xs.length ≤ 600) (m0 : 1 ≤ m) (m1 : m ≤ 10000000000000) (hi : p.kind ≠ 1 ∧ inst = 0) :
    Calls Try.prog 11 #[pv p A1 c1 A2 c2 A3 c3, .int .i64 start, .int .i64 m] w (Sched (linesP p start m inst) w) := by
  obtain ⟨ho, hs0, hds, hl, t1, t2, hr, -⟩ := days_known hd
  have hyl : ys.length = xs.length := by
    have := hpx
    unfold partsP at this
    rw [hd, if_pos rfl] at this
    obtain ⟨rfl, -⟩ := Prod.mk.inj this
    exact rparts_len _ _ _
  have hJ : linesP p start m inst = join [] (lines p (Gm.whole p.count) (Gm.half p.count p.round) m inst 0 (xs.zip ys) m 0) := by
    unfold linesP
    rw [hd, hpx]
    exact (join_nil _ (lines_err _ _ _ _ _ _ _ _ _)).symm
  obtain ⟨⟨⟨⟨⟨_, a2, a3, a4, a5, a6, a7, a8⟩, ⟨b1, b2, b3⟩, b4⟩, c⟩, d_⟩, e_⟩ := (ok_iff p).1 ho
  have hne : xs ≠ [] := fun e => by rw [e] at hl; simp at hl; omega
  have hne2 : ys ≠ [] := fun e => by rw [e] at hyl; simp at hyl; exact hne (List.eq_nil_of_length_eq_zero hyl.symm)
  have ib : 0 ≤ inst ∧ inst ≤ 1000000000000000 := by
    have := hi.2; omega
  have MM := Aside0.mk (show Mid p m 0 m from ⟨by omega, by omega, fun _ _ => by rw [show max 0 (0 - p.grace) = 0 by omega]; omega⟩)
  have GN := good_new p.count p.round
  have NW := Aside0.mk (fun U => bnew_any (c := p.count) (r := p.round) (by omega) a3 U)
  have DA := Aside0.mk (fun W (hb : Below w.heap.size w W) => show Calls Try.prog 16 #[pv p A1 c1 A2 c2 A3 c3, .int .i64 start] W (Listed1 xs W) from (days_any p A1 c1 A2 c2 A3 c3 start W (hg.below hb) (hp.below hb) hs).mono fun e w' h => by rw [hd] at h; exact h.one hne)
  have PA := Aside0.mk (fun W (hb : Below w.heap.size w W) => show Calls Try.prog 18 #[pv p A1 c1 A2 c2 A3 c3, .int .i64 start] W (ListedL1 ys W) from (parts_any p A1 c1 A2 c2 A3 c3 start W (hg.below hb) (hp.below hb) hs).mono fun e w' h => by rw [hpx] at h; exact listed_one h hne2)
  obtain ⟨R, hR⟩ : ∃ R, linesP p start m inst = R := ⟨_, rfl⟩
  rw [hR] at hJ ⊢
  obtain ⟨Wh, hWh⟩ : ∃ y, Gm.whole p.count = y := ⟨_, rfl⟩
  obtain ⟨Hf, hHf⟩ : ∃ y, Gm.half p.count p.round = y := ⟨_, rfl⟩
  rw [hWh, hHf] at GN hJ
  have HWh := Aside0.mk hWh
  have HHf := Aside0.mk hHf
  have GN := Aside0.mk GN
  have HJ := Aside0.mk hJ
  have KD := Aside0.mk a4
  have kk : (p.kind == 1) = false := by simpa using hi.1
  have HYL := Aside0.mk hyl
  have T2 := Aside0.mk t2
  have HLT := Aside0.mk hl
  have G0 := Aside0.mk a7
  obtain rfl := hi.2
  clear hg hp hs hd hpx hJ hR hWh hHf ho hs0 hds hr a2 a3 a4 a5 a6 a8 b1 b2 b3 b4 c d_ e_ hne hne2 hi hyl hl t2 a7
  go_enter Try.func11, Try.ntmps11
  go_wp2_with (first
    | ((with_reducible refine gate_dst (N := 3) rfl ?_); refine box_event ?hg (N := 3) ?hd (cs := pcs p A1 c1 A2 c2 A3 c3) (t := 27) ?hr ?_; (case hd => rfl); (case hg => rfl); (case hr => first | (go_simp; done) | (go_simp; rfl)); intro g hg w1 hb1 hbl1; have gge := (show w.heap.size ≤ g by rw [hg]; exact Nat.le_refl _); clear hg; have GG := Aside0.mk hb1; have HB := Aside0.mk hbl1; clear hb1 hbl1)
    | ((with_reducible refine gate_dst (N := 20) rfl ?_); refine wpList_load_row rfl 27 (.tmp 3) rfl g rfl 27 _ (0, 0) _ GG.out Try.underlying27 rfl info_prod ?_)
    | (go_at_call 16; (with_reducible refine (DA.out _ HB.out).mono ?_); rintro e w2 ⟨gl, cl, tl, rfl, gle, lc, hbk, hb⟩; have BL := Aside0.mk hbk; have glge := Nat.le_trans HB.out.size gle; have HB := Aside0.mk (below_step HB.out hb); have GG := Aside0.mk (Pd.blk_below GG.out hb); clear hb hbk)
    | ((with_reducible refine gate_dst (N := 35) rfl ?_); refine wpList_load_row rfl 27 (.tmp 3) rfl g rfl 27 _ (0, 0) _ GG.out Try.underlying27 rfl info_prod ?_)
    | (go_at_call 18; (with_reducible refine (PA.out _ HB.out).mono ?_); rintro e w3 ⟨gx, cx, tx, rfl, gxe, xc, hbk, hb⟩; have BX := Aside0.mk hbk; have gxge := Nat.le_trans HB.out.size gxe; have BL := Aside0.mk (Blk.below BL.out hb); have HB := Aside0.mk (below_step HB.out hb); have GG := Aside0.mk (Pd.blk_below GG.out hb); clear hb hbk)
    | ((with_reducible refine gate_dst (N := 40) rfl ?_); refine wpList_load_row rfl 27 (.tmp 3) rfl g rfl 27 _ (0, 0) _ GG.out Try.underlying27 rfl info_prod ?_)
    | ((with_reducible refine gate_dst (N := 43) rfl ?_); refine build_event rfl (t := 63) rfl (cs := mcs p A1 c1 A2 c2 A3 c3 m 0 m (.pointer none)) ?hb ?_; (case hb => simp only [List.map_toArray, List.map_cons, List.map_nil]; exact built_maker p A1 c1 A2 c2 A3 c3 m))
    | ((with_reducible refine gate_dst (N := 44) rfl ?_); refine box_event ?hg (N := 44) ?hd (cs := mcs p A1 c1 A2 c2 A3 c3 m 0 m (.pointer none)) (t := 63) ?hr ?_; (case hd => rfl); (case hg => rfl); (case hr => first | (go_simp; done) | (go_simp; rfl)); intro gm hgm w4 hb1 hb; have gmge := (show w.heap.size ≤ gm by rw [hgm]; exact HB.out.size); have gmx := (show gx ≠ gm by have := Blk.lt BX.out; omega); have gml := (show gl ≠ gm by have := Blk.lt BL.out; omega); have gmg := (show g ≠ gm by have := blk_lt GG.out; omega); clear hgm; have GM := Aside0.mk hb1; have BL := Aside0.mk (Blk.below BL.out hb); have BX := Aside0.mk (Blk.below BX.out hb); have HB := Aside0.mk (below_step HB.out hb); have GG := Aside0.mk (Pd.blk_below GG.out hb); clear hb1 hb; have v20 := (show w4.cell? ⟨gm, 20, none⟩ = some (.int .i64 0) from (blk_cell GM.out 20).trans rfl); have f20 := frozen_of_row w4 gm 20 _ _ GM.out; have v22 := (show w4.cell? ⟨gm, 22, none⟩ = some (.pointer none) from (blk_cell GM.out 22).trans rfl); have f22 := frozen_of_row w4 gm 22 _ _ GM.out; obtain ⟨-, u1, u2, u3, -⟩ := pc_cells GG.out)
    | ((with_reducible refine gate_dst (N := 50) rfl ?_); refine wpList_load_row rfl 27 (.tmp 3) rfl g rfl 27 _ (0, 0) _ GG.out Try.underlying27 rfl info_prod ?_)
    | (go_at_call 30; (with_reducible refine (NW.out _).mono ?_); rintro e w7 ⟨hb, gb, hgb, rfl, hba⟩; rw [HWh.out, HHf.out] at hba; have gbge := Nat.le_trans HB.out.size hgb; have gbm := (show gm ≠ gb by have := blk_lt GM.out; omega); have gbl := (show gl ≠ gb by have := Blk.lt BL.out; omega); have gbx := (show gx ≠ gb by have := Blk.lt BX.out; omega); have gbg := (show g ≠ gb by have := blk_lt GG.out; omega); have BA := Aside0.mk hba; have BL := Aside0.mk (Blk.below BL.out hb); have BX := Aside0.mk (Blk.below BX.out hb); have GM := Aside0.mk (Pd.blk_below GM.out hb); have HB := Aside0.mk (below_step HB.out hb); have GG := Aside0.mk (Pd.blk_below GG.out hb); clear hb hba hgb v22 f22 u1 u2 u3; have v22 := (show w7.cell? ⟨gm, 22, none⟩ = some (.pointer none) from (blk_cell GM.out 22).trans rfl); have f22 := frozen_of_row w7 gm 22 _ _ GM.out)
    | ((with_reducible refine gate_store (t := 61) (p := 71) rfl ?_); refine put_event rfl (t := 61) (p := 71) (v := .tmp 68) rfl rfl (g := gm) (i := 22) (cs := mcs p A1 c1 A2 c2 A3 c3 m 0 m (.pointer none)) (cs' := mcs p A1 c1 A2 c2 A3 c3 m 0 m (.pointer (some ⟨gb, 0, none⟩))) (x := .pointer (some ⟨gb, 0, none⟩)) ?hr GM.out ?hc ?_; (case hc => rfl); (case hr => go_simp); intro w8 hb8 hbut; have GM := Aside0.mk hb8; have BA := Aside0.mk (BA.out.but hbut (Ne.symm gbm)); have BL := Aside0.mk (Blk.but BL.out hbut gml); have BX := Aside0.mk (Blk.but BX.out hbut gmx); have GG := Aside0.mk ((hbut.block g (blk_lt GG.out) gmg).trans GG.out); have HB := Aside0.mk (But.below HB.out HB.out.size gmge hbut); clear hb8 hbut v22 f22))
  clear kk
  have HGE := Aside0.mk (show 0 ≤ p.grace ∧ p.grace < p.times by have := G0.out; omega)
  have HZD := Aside0.mk (List.length_zip (l₁ := xs) (l₂ := ys))
  go_loopg [14, 76] (xs.length + 1) (fun gq ov iv w' => ∃ (k : Nat) (left rest : Int) (Ax : Option Addr) (cw : Nat) (ls : List Ln), k ≤ xs.length ∧ iv = .int .i64 (k : Int) ∧ ov = .slice Ax ls.length cw ∧ Aside0 (ls.length = k) ∧ Aside0 (gq = xs.length + 1 - k) ∧ Aside0 (R = join ls (lines p Wh Hf m 0 (k : Int) ((xs.zip ys).drop k) left rest)) ∧ Aside0 (Mid p m (k : Int) left) ∧ Aside0 (H.Good Wh Hf rest) ∧ Aside0 (w'.heap[gm]? = some (.cells (mcs p A1 c1 A2 c2 A3 c3 m 0 left (.pointer (some ⟨gb, 0, none⟩))) 63 (0, 0))) ∧ Aside0 (BearAt w' gb Wh Hf rest) ∧ Aside0 (Kd.R (Kd.pair (Kd.int .i64) (Kd.pair (Kd.int .i64) (Kd.pair (Kd.int .i64) (Kd.int .i64)))) 36 w' w.heap.size (fun b => b ≠ g ∧ b ≠ gl ∧ b ≠ gx ∧ b ≠ gm ∧ b ≠ gb) (.slice Ax ls.length cw) ls) ∧ Aside0 (H.Blk w' gl 3 (nums .i64 xs ++ tl)) ∧ Aside0 (H.Blk w' gx 2 (nums .i64 ys ++ tx)) ∧ Aside0 (w'.heap[g]? = some (.cells (pcs p A1 c1 A2 c2 A3 c3) 27 (0, 0))) ∧ Aside0 (Below w.heap.size w w'))
  case atStart => exact ⟨0, m, 0, none, 0, [], by omega, rfl, rfl, ⟨rfl⟩, ⟨rfl⟩, ⟨by rw [List.drop_zero]; exact HJ.out⟩, MM, GN, GM, BA, ⟨Kd.R_nil _ _ _ _ _⟩, BL, BX, GG, HB⟩
  case round =>
    obtain ⟨k, left, rest, Ax, cw, ls, hk, rfl, rfl, hlen, hgq, HJ, MM, GN, GM, BA, HO, BL, BX, GG, HB⟩ := hrel
    by_cases hlt : k < xs.length
    · obtain ⟨d, hdd⟩ : ∃ d, rd xs (k : Int) = d := ⟨_, rfl⟩
      obtain ⟨n, hnn⟩ : ∃ n, rd ys (k : Int) = n := ⟨_, rfl⟩
      have hcl : wr.cell? ⟨gl, k, none⟩ = some (.int .i64 d) := (BL.out.cell k).trans (by rw [List.getElem?_append_left (by simp [nums]; omega), ← hdd]; simp [nums, rd, hlt])
      have hkl : k < ys.length := by have := HYL.out; omega
      have hcx : wr.cell? ⟨gx, k, none⟩ = some (.int .i64 n) := (BX.out.cell k).trans (by rw [List.getElem?_append_left (by simp [nums]; omega), ← hnn]; simp [nums, rd, hkl])
      have hkx : (k : Int) < (xs.length : Int) := by omega
      have hky : (k : Int) < (ys.length : Int) := by omega
      obtain ⟨z, hz⟩ : ∃ z, Gm.bear Wh Hf rest left p.rate n = z := ⟨_, rfl⟩
      have hj := HJ.out
      rw [zip_drop hlt HYL.out, hdd, hnn, lines_cons hz] at hj
      have ge := HGE.out
      have kt : (k : Int) < p.times := by have := HLT.out; omega
      have LA := line_any p A1 c1 A2 c2 A3 c3 m 0 left Wh Hf rest n (k : Int) d gm gb wr z hz BA.out GN.out GM.out gbm MM.out ge.1 ge.2 T2.out (by omega) kt (by omega) m1 ib.1 ib.2 (by have := KD.out; omega)
      obtain ⟨p1, p2, p3⟩ := prin_bd (inst := 0) (v := z.1) MM.out (by omega) ge.1 ge.2 (by omega) kt
      have G2 := good_bear (bal := left) (rate := p.rate) (n := n) GN.out
      rw [hz] at G2
      by_cases he : lerr p m 0 (k : Int) left z = 0
      · rw [if_neg (by simpa using he)] at hj
        have pz := (lerr_zero he).2.1
        have M2 := p3 pz
        obtain ⟨z1, z2, z3⟩ := z
        obtain ⟨pr, hpr⟩ : ∃ x, prin p m 0 (k : Int) z1 left = x := ⟨_, rfl⟩
        simp only [] at hj M2 G2
        rw [hpr] at hj M2
        have LN := Aside0.mk (show Calls Try.prog 31 #[.pointer (some ⟨gm, 0, none⟩), .int .i64 (k : Int), .int .i64 d, .int .i64 n] wr fun e w' => e = .returned (.tuple #[.agg #[.int .i64 d, .int .i64 pr, .int .i64 z1, .int .i64 (left - pr)], .int .i64 0]) ∧ But2 gm gb wr w' ∧ w'.heap[gm]? = some (.cells (mcs p A1 c1 A2 c2 A3 c3 m 0 (left - pr) (.pointer (some ⟨gb, 0, none⟩))) 63 (0, 0)) ∧ BearAt w' gb Wh Hf z3 from LA.mono fun e w' h => by
          obtain ⟨hbt, v, rfl, h1, h2⟩ := h
          obtain ⟨rfl, h3, h4⟩ := h1 he
          simp only [] at h3
          rw [hpr] at h3
          rw [he]
          simp only []
          rw [hpr]
          exact ⟨rfl, hbt, h3, h4⟩)
        have HJ2 := Aside0.mk hj
        have MM2 := Aside0.mk M2
        have GN2 := Aside0.mk G2
        have HPR := Aside0.mk hpr
        clear hj LA p1 p2 p3 M2 G2 pz hz hpr he hdd hnn ge HJ MM kt
        go_wp2_with (first
          | (go_at_call 31; (with_reducible refine LN.out.mono ?_); rintro e w10 ⟨rfl, hbt, hgm, hba⟩; have GM := Aside0.mk hgm; have BA := Aside0.mk hba; have HO := Aside0.mk (Kd.R_step HO.out (fun b hb hlt => hbt.block b hlt hb.2.2.2.1 hb.2.2.2.2)); have BL := Aside0.mk (BL.out.same (hbt.block gl (Blk.lt BL.out) gml gbl)); have BX := Aside0.mk (BX.out.same (hbt.block gx (Blk.lt BX.out) gmx gbx)); have GG := Aside0.mk ((hbt.block g (blk_lt GG.out) gmg gbg).trans GG.out); have HB := Aside0.mk (But2.toBelow HB.out hbt gmge gbge); clear hbt hgm hba)
          | ((with_reducible refine gate_dst (N := 17) rfl ?_); refine copy_event rfl (N := 17) rfl rfl rfl (t := 36) (v := .tmp 90) rfl (cs := #[.int .i64 d, .int .i64 pr, .int .i64 z1, .int .i64 (left - pr)]) (zs := #[.int .i64 0, .int .i64 0, .int .i64 0, .int .i64 0]) ?hr rfl rfl info_line ?hz (line_one _ _ _ _) ?_; (case hr => first | (go_simp; done) | (go_simp; rfl)); (case hz => rfl); intro gt hgt w11 hb1 hb; have GT := Aside0.mk hb1; have HO := Aside0.mk (Kd.R_below HO.out hb); have BA := Aside0.mk (BA.out.below hb); have BL := Aside0.mk (Blk.below BL.out hb); have BX := Aside0.mk (Blk.below BX.out hb); have GM := Aside0.mk (Pd.blk_below GM.out hb); have HB := Aside0.mk (below_step HB.out hb); have GG := Aside0.mk (Pd.blk_below GG.out hb); clear hgt hb1 hb)
          | ((with_reducible refine gate_dst (N := 96) rfl ?_); refine wpList_load_row rfl 36 (.tmp 17) rfl gt rfl 36 _ (0, 0) _ GT.out Try.underlying36 rfl info_line ?_)
          | ((with_reducible refine gate_builtin (b := .append) (xs := #[.tmp 95, .tmp 97]) rfl ?_); at_builtin; refine Kd.R_append (Kd.pair (Kd.int .i64) (Kd.pair (Kd.int .i64) (Kd.pair (Kd.int .i64) (Kd.int .i64)))) (w0 := w) w.heap.size rfl (.tmp 95) (.tmp 97) 30 36 (.agg #[.int .i64 0, .int .i64 0, .int .i64 0, .int .i64 0]) 32 rfl Try.underlying30 info_lineb rfl (by decide) (by decide) (.slice Ax ls.length cw) ls (d, pr, z1, left - pr) [.int .i64 d, .int .i64 pr, .int .i64 z1, .int .i64 (left - pr)] (fun b => b ≠ g ∧ b ≠ gl ∧ b ≠ gx ∧ b ≠ gm ∧ b ≠ gb) (fun _ => False) rfl rfl ?aP (fun _ hk => hk.elim) ?aF ?aO ?aB ?aS ?aL ?_; (case aP => exact line_M d pr z1 (left - pr)); (case aF => exact fun b hb => ⟨(by have := blk_lt GG.out; omega), (by have := Blk.lt BL.out; omega), (by have := Blk.lt BX.out; omega), (by have := blk_lt GM.out; omega), (by have := BA.out.lt; omega)⟩); (case aO => exact HO.out); (case aB => exact HB.out); (case aS => exact HB.out.size); (case aL => have := hlen.out; omega); intro v1 w12 hr1 hb1 hg1 hat1; obtain ⟨l2, hl2⟩ : ∃ l2, l2 = ls ++ [(d, pr, z1, left - pr)] := ⟨_, rfl⟩; rw [← hl2] at hr1; obtain ⟨An, cn, rfl⟩ := Kd.R_slice hr1; have L2 := Aside0.mk hl2; have R1 := Aside0.mk hr1; have BL := Aside0.mk (BL.out.same (hg1.block gl (Blk.lt BL.out) (fun e => (HO.out.1 gl e.symm).2.1 rfl))); have BX := Aside0.mk (BX.out.same (hg1.block gx (Blk.lt BX.out) (fun e => (HO.out.1 gx e.symm).2.2.1 rfl))); have GM := Aside0.mk ((hg1.block gm (blk_lt GM.out) (fun e => (HO.out.1 gm e.symm).2.2.2.1 rfl)).trans GM.out); have BA := Aside0.mk (BA.out.same (hg1.block gb BA.out.lt (fun e => (HO.out.1 gb e.symm).2.2.2.2 rfl)) hg1.size); have GG := Aside0.mk ((hg1.block g (blk_lt GG.out) (fun e => (HO.out.1 g e.symm).1 rfl)).trans GG.out); have HB := Aside0.mk hb1; clear hl2 hr1 hb1 hg1 hat1))
        have L3 := Aside0.mk (show l2.length = k + 1 by rw [L2.out, List.length_append, hlen.out]; rfl)
        go_roundg (xs.length + 1 - (k + 1))
        case measure => have := hgq.out; omega
        case rel => exact ⟨k + 1, left - pr, z3, An, cn, l2, by omega, by simp, rfl, L3, ⟨rfl⟩, ⟨by rw [HJ2.out, L2.out]; rfl⟩, ⟨MM2.out⟩, GN2, GM, BA, R1, BL, BX, GG, HB⟩
      · obtain ⟨er, her⟩ : ∃ er, lerr p m 0 (k : Int) left z = er := ⟨_, rfl⟩
        rw [if_pos he, her] at hj
        have LN := Aside0.mk (show Calls Try.prog 31 #[.pointer (some ⟨gm, 0, none⟩), .int .i64 (k : Int), .int .i64 d, .int .i64 n] wr fun e w' => e = .returned (.tuple #[.agg #[.int .i64 0, .int .i64 0, .int .i64 0, .int .i64 0], .int .i64 er]) ∧ But2 gm gb wr w' from LA.mono fun e w' h => by
          obtain ⟨hbt, v, rfl, h1, h2⟩ := h
          obtain rfl := h2 he
          rw [her]
          exact ⟨rfl, hbt⟩)
        rw [her] at he
        have hen : (er != 0) = true := by simpa using he
        have HJ2 := Aside0.mk hj
        clear hj LA p1 p2 p3 G2 hz he her hdd hnn ge HJ MM kt
        go_wp2_with (first
          | (go_at_call 31; (with_reducible refine LN.out.mono ?_); rintro e w10 ⟨rfl, hbt⟩; have HB := Aside0.mk (But2.toBelow HB.out hbt gmge gbge); clear hbt)
          | ((with_reducible refine gate_dst (N := 17) rfl ?_); refine copy_event rfl (N := 17) rfl rfl rfl (t := 36) (v := .tmp 90) rfl (cs := #[.int .i64 0, .int .i64 0, .int .i64 0, .int .i64 0]) (zs := #[.int .i64 0, .int .i64 0, .int .i64 0, .int .i64 0]) ?hr rfl rfl info_line ?hz (line_one _ _ _ _) ?_; (case hr => first | (go_simp; done) | (go_simp; rfl)); (case hz => rfl); intro gt hgt w11 hb1 hb; have HB := Aside0.mk (below_step HB.out hb); clear hgt hb1 hb))
        go_ret2
        obtain rfl := HJ2.out
        exact ⟨none, 0, rfl, Kd.R_nil _ _ _ _ _, HB.out⟩
    · have hj := HJ.out
      rw [List.drop_of_length_le (by rw [HZD.out]; omega), lines, join, if_pos rfl, List.append_nil] at hj
      have HJ2 := Aside0.mk hj
      clear hj HJ
      go_wp2_with fail
      go_ret2
      obtain rfl := HJ2.out
      exact ⟨Ax, cw, rfl, Kd.R_mono HO.out (fun _ _ => trivial), HB.out⟩
end Go.Proofs.Ytfmkdledofbhdaa.Sc
/- Contracts by hand: schedule.Of, all of it. -/
namespace Go.Proofs.Ytfmkdledofbhdaa.Sc
open Go.RowKit Go.Proofs.YtfmkdledofbhdaaW.PrintWords Go.Proofs.YtfmkdledofbhdaaW.PrintLast Go.Proofs.YtfmkdledofbhdaaW.PrintMore Go.Proofs.Ytfmkdledofbhdaa.HW
open Go.Proofs.Ytfmkdledofbhdaa.Math Go.Proofs.Ytfmkdledofbhdaa.H Go.Proofs.Ytfmkdledofbhdaa.Pd Go.Proofs.Ytfmkdledofbhdaa.Du Go.Proofs.Ytfmkdledofbhdaa.Lv Pm
set_option linter.unusedVariables false
set_option linter.unusedSimpArgs false
attribute [local go_sem] max2_int min2_int max_two min_two

theorem sched_days (p : Prod) (A1 : Option Addr) (c1 : Nat) (A2 : Option Addr) (c2 : Nat) (A3 : Option Addr) (c3 : Nat) (start m : Int) (w : World) (hg : GV w) (hp : ProdAt w p A1 c1 A2 c2 A3 c3) (hs : Small p) (er : Int) (he : (daysP p start).2 = er) (hn : er ≠ 0) : Calls Try.prog 11 #[pv p A1 c1 A2 c2 A3 c3, .int .i64 start, .int .i64 m] w (Sched ([], er) w) := by
  have DA := Aside0.mk (fun W (hb : Below w.heap.size w W) => show Calls Try.prog 16 #[pv p A1 c1 A2 c2 A3 c3, .int .i64 start] W (fun e w' => ∃ v, e = .returned (.tuple #[v, .int .i64 er]) ∧ Below W.heap.size W w') from (days_any p A1 c1 A2 c2 A3 c3 start W (hg.below hb) (hp.below hb) hs).mono fun e w' h => by obtain ⟨v, h1, _, h3⟩ := h; exact ⟨v, by rw [h1, he], h3⟩)
  have hen : (er != 0) = true := by simpa using hn
  clear hg hp hs he hn
  go_enter Try.func11, Try.ntmps11
  go_wp2_with (first
    | ((with_reducible refine gate_dst (N := 3) rfl ?_); refine box_event ?hg (N := 3) ?hd (cs := pcs p A1 c1 A2 c2 A3 c3) (t := 27) ?hr ?_; (case hd => rfl); (case hg => rfl); (case hr => first | (go_simp; done) | (go_simp; rfl)); intro g hg w1 hb1 hbl1; have gge := (show w.heap.size ≤ g by rw [hg]; exact Nat.le_refl _); clear hg; have GG := Aside0.mk hb1; have HB := Aside0.mk hbl1; clear hb1 hbl1)
    | ((with_reducible refine gate_dst (N := 20) rfl ?_); refine wpList_load_row rfl 27 (.tmp 3) rfl g rfl 27 _ (0, 0) _ GG.out Try.underlying27 rfl info_prod ?_)
    | (go_at_call 16; (with_reducible refine (DA.out _ HB.out).mono ?_); rintro e w2 ⟨v, rfl, hb⟩; have HB := Aside0.mk (below_step HB.out hb); clear hb))
  go_ret2
  exact ⟨none, 0, rfl, Kd.R_nil _ _ _ _ _, HB.out⟩
theorem sched_amt (p : Prod) (A1 : Option Addr) (c1 : Nat) (A2 : Option Addr) (c2 : Nat) (A3 : Option Addr) (c3 : Nat) (start m : Int) (w : World) (hg : GV w) (hp : ProdAt w p A1 c1 A2 c2 A3 c3) (hs : Small p) (xs : List Int) (hd : daysP p start = (xs, 0)) (hm : m < 1 ∨ (1 ≤ m ∧ 10000000000000 < m)) : Calls Try.prog 11 #[pv p A1 c1 A2 c2 A3 c3, .int .i64 start, .int .i64 m] w (Sched ([], 16) w) := by
  obtain ⟨ho, hs0, hds, hl, t1, t2, hr, -⟩ := days_known hd
  have hne : xs ≠ [] := fun e => by rw [e] at hl; simp at hl; omega
  have DA := Aside0.mk (fun W (hb : Below w.heap.size w W) => show Calls Try.prog 16 #[pv p A1 c1 A2 c2 A3 c3, .int .i64 start] W (Listed1 xs W) from (days_any p A1 c1 A2 c2 A3 c3 start W (hg.below hb) (hp.below hb) hs).mono fun e w' h => by rw [hd] at h; exact h.one hne)
  clear hg hp hs hd ho hs0 hds hl t1 t2 hr hne
  rcases hm with h | ⟨h, h2⟩
  all_goals
    go_enter Try.func11, Try.ntmps11
    go_wp2_with (first
      | ((with_reducible refine gate_dst (N := 3) rfl ?_); refine box_event ?hg (N := 3) ?hd (cs := pcs p A1 c1 A2 c2 A3 c3) (t := 27) ?hr ?_; (case hd => rfl); (case hg => rfl); (case hr => first | (go_simp; done) | (go_simp; rfl)); intro g hg w1 hb1 hbl1; have gge := (show w.heap.size ≤ g by rw [hg]; exact Nat.le_refl _); clear hg; have GG := Aside0.mk hb1; have HB := Aside0.mk hbl1; clear hb1 hbl1)
      | ((with_reducible refine gate_dst (N := 20) rfl ?_); refine wpList_load_row rfl 27 (.tmp 3) rfl g rfl 27 _ (0, 0) _ GG.out Try.underlying27 rfl info_prod ?_)
      | (go_at_call 16; (with_reducible refine (DA.out _ HB.out).mono ?_); rintro e w2 ⟨gl, cl, tl, rfl, gle, lc, hbk, hb⟩; have BL := Aside0.mk hbk; have glge := Nat.le_trans HB.out.size gle; have HB := Aside0.mk (below_step HB.out hb); have GG := Aside0.mk (Pd.blk_below GG.out hb); clear hb hbk))
    go_ret2
    exact ⟨none, 0, rfl, Kd.R_nil _ _ _ _ _, HB.out⟩
set_option maxRecDepth 100000 in
set_option maxHeartbeats 8000000 in
theorem sched_steep (p : Prod) (A1 : Option Addr) (c1 : Nat) (A2 : Option Addr) (c2 : Nat) (A3 : Option Addr) (c3 : Nat) (start m : Int) (w : World) (hg : GV w) (hp : ProdAt w p A1 c1 A2 c2 A3 c3) (hs : Small p) (xs ys : List Int) (hd : daysP p start = (xs, 0)) (hpx : partsP p start = (ys, 0)) (m0 : 1 ≤ m) (m1 : m ≤ 10000000000000) (hk : p.kind = 1) (ov er : Int) (ho1 : ofE p ys m = (ov, er)) (hn : er ≠ 0) : Calls Try.prog 11 #[pv p A1 c1 A2 c2 A3 c3, .int .i64 start, .int .i64 m] w (Sched ([], er) w) := by
  obtain ⟨ho, hs0, hds, hl, t1, t2, hr, -⟩ := days_known hd
  have hne : xs ≠ [] := fun e => by rw [e] at hl; simp at hl; omega
  have DA := Aside0.mk (fun W (hb : Below w.heap.size w W) => show Calls Try.prog 16 #[pv p A1 c1 A2 c2 A3 c3, .int .i64 start] W (Listed1 xs W) from (days_any p A1 c1 A2 c2 A3 c3 start W (hg.below hb) (hp.below hb) hs).mono fun e w' h => by rw [hd] at h; exact h.one hne)
  have hyl : ys.length = xs.length := by
    have := hpx
    unfold partsP at this
    rw [hd, if_pos rfl] at this
    obtain ⟨rfl, -⟩ := Prod.mk.inj this
    exact rparts_len _ _ _
  have hne2 : ys ≠ [] := fun e => by rw [e] at hyl; simp at hyl; exact hne (List.eq_nil_of_length_eq_zero hyl.symm)
  have PA := Aside0.mk (fun W (hb : Below w.heap.size w W) => show Calls Try.prog 18 #[pv p A1 c1 A2 c2 A3 c3, .int .i64 start] W (ListedL1 ys W) from (parts_any p A1 c1 A2 c2 A3 c3 start W (hg.below hb) (hp.below hb) hs).mono fun e w' h => by rw [hpx] at h; exact listed_one h hne2)
  have OF := Aside0.mk (fun (A : Option Addr) (c : Nat) (W : World) (hb : Below w.heap.size w W) (hc : Kd.C (Kd.int .i64) W A ys.length ys) => show Calls Try.prog 26 #[pv p A1 c1 A2 c2 A3 c3, .slice A ys.length c, .int .i64 m] W (Two (ov, er) W) from by have := Of_any p A1 c1 A2 c2 A3 c3 A ys c m W (hg.below hb) (hp.below hb) hs hc (by omega); rw [ho1] at this; exact this)
  have hen : (er != 0) = true := by simpa using hn
  have kk : (p.kind == 1) = true := by simpa using hk
  have HYL := Aside0.mk (show ys.length ≤ 600 by omega)
  clear hg hp hs hd hpx ho hs0 hds hl t1 t2 hr hne hne2 hyl ho1 hn hk
  go_enter Try.func11, Try.ntmps11
  go_wp2_with (first
    | ((with_reducible refine gate_dst (N := 3) rfl ?_); refine box_event ?hg (N := 3) ?hd (cs := pcs p A1 c1 A2 c2 A3 c3) (t := 27) ?hr ?_; (case hd => rfl); (case hg => rfl); (case hr => first | (go_simp; done) | (go_simp; rfl)); intro g hg w1 hb1 hbl1; have gge := (show w.heap.size ≤ g by rw [hg]; exact Nat.le_refl _); clear hg; have GG := Aside0.mk hb1; have HB := Aside0.mk hbl1; clear hb1 hbl1)
    | ((with_reducible refine gate_dst (N := 20) rfl ?_); refine wpList_load_row rfl 27 (.tmp 3) rfl g rfl 27 _ (0, 0) _ GG.out Try.underlying27 rfl info_prod ?_)
    | (go_at_call 16; (with_reducible refine (DA.out _ HB.out).mono ?_); rintro e w2 ⟨gl, cl, tl, rfl, gle, lc, hbk, hb⟩; have BL := Aside0.mk hbk; have glge := Nat.le_trans HB.out.size gle; have HB := Aside0.mk (below_step HB.out hb); have GG := Aside0.mk (Pd.blk_below GG.out hb); clear hb hbk)
    | ((with_reducible refine gate_dst (N := 35) rfl ?_); refine wpList_load_row rfl 27 (.tmp 3) rfl g rfl 27 _ (0, 0) _ GG.out Try.underlying27 rfl info_prod ?_)
    | (go_at_call 18; (with_reducible refine (PA.out _ HB.out).mono ?_); rintro e w3 ⟨gx, cx, tx, rfl, gxe, xc, hbk, hb⟩; have BX := Aside0.mk hbk; have gxge := Nat.le_trans HB.out.size gxe; have BL := Aside0.mk (Blk.below BL.out hb); have HB := Aside0.mk (below_step HB.out hb); have GG := Aside0.mk (Pd.blk_below GG.out hb); clear hb hbk)
    | ((with_reducible refine gate_dst (N := 40) rfl ?_); refine wpList_load_row rfl 27 (.tmp 3) rfl g rfl 27 _ (0, 0) _ GG.out Try.underlying27 rfl info_prod ?_)
    | ((with_reducible refine gate_dst (N := 43) rfl ?_); refine build_event rfl (t := 63) rfl (cs := mcs p A1 c1 A2 c2 A3 c3 m 0 m (.pointer none)) ?hb ?_; (case hb => simp only [List.map_toArray, List.map_cons, List.map_nil]; exact built_maker p A1 c1 A2 c2 A3 c3 m))
    | ((with_reducible refine gate_dst (N := 44) rfl ?_); refine box_event ?hg (N := 44) ?hd (cs := mcs p A1 c1 A2 c2 A3 c3 m 0 m (.pointer none)) (t := 63) ?hr ?_; (case hd => rfl); (case hg => rfl); (case hr => first | (go_simp; done) | (go_simp; rfl)); intro gm hgm w4 hb1 hb; have gmge := (show w.heap.size ≤ gm by rw [hgm]; exact HB.out.size); have gmx := (show gx ≠ gm by have := Blk.lt BX.out; omega); have gml := (show gl ≠ gm by have := Blk.lt BL.out; omega); have gmg := (show g ≠ gm by have := blk_lt GG.out; omega); clear hgm; have GM := Aside0.mk hb1; have BL := Aside0.mk (Blk.below BL.out hb); have BX := Aside0.mk (Blk.below BX.out hb); have HB := Aside0.mk (below_step HB.out hb); have GG := Aside0.mk (Pd.blk_below GG.out hb); clear hb1 hb; have v20 := (show w4.cell? ⟨gm, 20, none⟩ = some (.int .i64 0) from (blk_cell GM.out 20).trans rfl); have f20 := frozen_of_row w4 gm 20 _ _ GM.out; have v22 := (show w4.cell? ⟨gm, 22, none⟩ = some (.pointer none) from (blk_cell GM.out 22).trans rfl); have f22 := frozen_of_row w4 gm 22 _ _ GM.out; obtain ⟨-, u1, u2, u3, -⟩ := pc_cells GG.out)
    | ((with_reducible refine gate_dst (N := 50) rfl ?_); refine wpList_load_row rfl 27 (.tmp 3) rfl g rfl 27 _ (0, 0) _ GG.out Try.underlying27 rfl info_prod ?_)
    | (go_at_call 26; (with_reducible refine (OF.out _ _ _ HB.out (Blk.readsL BX.out (by have := HYL.out; omega))).mono ?_); rintro e w5 ⟨rfl, hb⟩; have BL := Aside0.mk (Blk.below BL.out hb); have BX := Aside0.mk (Blk.below BX.out hb); have GM := Aside0.mk (Pd.blk_below GM.out hb); have HB := Aside0.mk (below_step HB.out hb); have GG := Aside0.mk (Pd.blk_below GG.out hb); clear hb v20 f20 v22 f22 u1 u2 u3; have v20 := (show w5.cell? ⟨gm, 20, none⟩ = some (.int .i64 0) from (blk_cell GM.out 20).trans rfl); have f20 := frozen_of_row w5 gm 20 _ _ GM.out)
    | ((with_reducible refine gate_store (t := 2) (p := 57) rfl ?_); refine put_event rfl (t := 2) (p := 57) (v := .tmp 54) rfl rfl (g := gm) (i := 20) (cs := mcs p A1 c1 A2 c2 A3 c3 m 0 m (.pointer none)) (cs' := mcs p A1 c1 A2 c2 A3 c3 m ov m (.pointer none)) (x := .int .i64 ov) ?hr GM.out ?hc ?_; (case hc => rfl); (case hr => go_simp); intro w6 hb8 hbut; have GM := Aside0.mk hb8; have BL := Aside0.mk (Blk.but BL.out hbut gml); have BX := Aside0.mk (Blk.but BX.out hbut gmx); have GG := Aside0.mk ((hbut.block g (blk_lt GG.out) gmg).trans GG.out); have HB := Aside0.mk (But.below HB.out HB.out.size gmge hbut); clear hb8 hbut; have v22 := (show w6.cell? ⟨gm, 22, none⟩ = some (.pointer none) from (blk_cell GM.out 22).trans rfl); have f22 := frozen_of_row w6 gm 22 _ _ GM.out; obtain ⟨-, u1, u2, u3, -⟩ := pc_cells GG.out))
  go_ret2
  exact ⟨none, 0, rfl, Kd.R_nil _ _ _ _ _, HB.out⟩
theorem sched_any (p : Prod) (A1 : Option Addr) (c1 : Nat) (A2 : Option Addr) (c2 : Nat) (A3 : Option Addr) (c3 : Nat) (start m : Int) (w : World) (hg : GV w) (hp : ProdAt w p A1 c1 A2 c2 A3 c3) (hs : Small p) : Calls Try.prog 11 #[pv p A1 c1 A2 c2 A3 c3, .int .i64 start, .int .i64 m] w (Sched (schedP p start m) w) := by
  by_cases h1 : (daysP p start).2 = 0
  · have hd : daysP p start = ((daysP p start).1, 0) := Prod.ext rfl h1
    have hpx : partsP p start = ((partsP p start).1, 0) := by unfold partsP; rw [if_pos h1]
    have hxl : (daysP p start).1.length ≤ 600 := by
      obtain ⟨_, _, _, hl, t1, t2, _⟩ := days_known hd
      omega
    have n1 : ¬ (daysP p start).2 ≠ 0 := by rw [h1]; decide
    by_cases h2 : 1 ≤ m ∧ m ≤ 10000000000000
    · have n2 : ¬ ¬ (1 ≤ m ∧ m ≤ 10000000000000) := fun h => h h2
      by_cases h3 : p.kind = 1
      · by_cases h4 : (ofE p (partsP p start).1 m).2 = 0
        · have e : schedP p start m = linesP p start m (ofE p (partsP p start).1 m).1 := by
            unfold schedP
            rw [if_neg n1, if_neg n2, if_pos h3, if_neg (by rw [h4]; decide)]
          rw [e]
          exact sched_one p A1 c1 A2 c2 A3 c3 start m _ w hg hp hs _ _ hd hpx hxl h2.1 h2.2 ⟨h3, Prod.ext rfl h4⟩
        · have e : schedP p start m = ([], (ofE p (partsP p start).1 m).2) := by
            unfold schedP
            rw [if_neg n1, if_neg n2, if_pos h3, if_pos h4]
          rw [e]
          exact sched_steep p A1 c1 A2 c2 A3 c3 start m w hg hp hs _ _ hd hpx h2.1 h2.2 h3 _ _ rfl h4
      · have e : schedP p start m = linesP p start m 0 := by
          unfold schedP
          rw [if_neg n1, if_neg n2, if_neg h3]
        rw [e]
        exact sched_two p A1 c1 A2 c2 A3 c3 start m 0 w hg hp hs _ _ hd hpx hxl h2.1 h2.2 ⟨h3, rfl⟩
    · have e : schedP p start m = ([], 16) := by unfold schedP; rw [if_neg n1, if_pos h2]
      rw [e]
      exact sched_amt p A1 c1 A2 c2 A3 c3 start m w hg hp hs _ hd (by omega)
  · have e : schedP p start m = ([], (daysP p start).2) := by unfold schedP; rw [if_pos h1]
    rw [e]
    exact sched_days p A1 c1 A2 c2 A3 c3 start m w hg hp hs _ rfl h1
end Go.Proofs.Ytfmkdledofbhdaa.Sc
/- Schedule: lines by their cells; the law's awake. -/
namespace Go.Proofs.Ytfmkdledofbhdaa.Sc
open Go.RowKit Go.Proofs.YtfmkdledofbhdaaW.PrintWords Go.Proofs.YtfmkdledofbhdaaW.PrintLast Go.Proofs.YtfmkdledofbhdaaW.PrintMore Go.Proofs.Ytfmkdledofbhdaa.HW
open Go.Proofs.Ytfmkdledofbhdaa.Math Go.Proofs.Ytfmkdledofbhdaa.H Go.Proofs.Ytfmkdledofbhdaa.Pd Go.Proofs.Ytfmkdledofbhdaa.Du Go.Proofs.Ytfmkdledofbhdaa.Lv Pm
set_option linter.unusedVariables false
set_option linter.unusedSimpArgs false
attribute [local go_sem] max2_int min2_int max_two min_two

theorem line_K {w : World} {x : Ln} {cs : List Value} (h : (Kd.pair (Kd.int .i64) (Kd.pair (Kd.int .i64) (Kd.pair (Kd.int .i64) (Kd.int .i64)))).K w x cs) : cs = [.int .i64 x.1, .int .i64 x.2.1, .int .i64 x.2.2.1, .int .i64 x.2.2.2] := by
  obtain ⟨c0, c1, rfl, h0, d0, d1, rfl, h1, e0, e1, rfl, h2, h3⟩ := h
  obtain rfl : c0 = [.int .i64 x.1] := h0
  obtain rfl : d0 = [.int .i64 x.2.1] := h1
  obtain rfl : e0 = [.int .i64 x.2.2.1] := h2
  obtain rfl : e1 = [.int .i64 x.2.2.2] := h3
  rfl
/-- A row of lines, by its cells. -/
theorem lines_cells {w : World} {g n : Nat} {ls : List Ln} (h : (Kd.pair (Kd.int .i64) (Kd.pair (Kd.int .i64) (Kd.pair (Kd.int .i64) (Kd.int .i64)))).C w (some ⟨g, 0, none⟩) n ls) (hn : n = ls.length) {i : Nat} {x : Ln} (hi : ls[i]? = some x) :
    w.cell? ⟨g, i * 4, none⟩ = some (.int .i64 x.1) ∧ w.cell? ⟨g, i * 4 + 1, none⟩ = some (.int .i64 x.2.1) ∧ w.cell? ⟨g, i * 4 + 2, none⟩ = some (.int .i64 x.2.2.1) ∧ w.cell? ⟨g, i * 4 + 3, none⟩ = some (.int .i64 x.2.2.2) := by
  have hlt : i < ls.length := (List.getElem?_eq_some_iff.1 hi).1
  obtain ⟨_, _, h3⟩ := h
  obtain ⟨ad, e, hc⟩ := h3 (by omega)
  cases e
  obtain ⟨cs, hl, hK, hcell⟩ := hc i x hi
  obtain rfl := line_K hK
  have a0 := hcell 0 _ rfl
  have a1 := hcell 1 _ rfl
  have a2 := hcell 2 _ rfl
  have a3 := hcell 3 _ rfl
  have hs : (Kd.pair (Kd.int .i64) (Kd.pair (Kd.int .i64) (Kd.pair (Kd.int .i64) (Kd.int .i64)))).sz = 4 := rfl
  simp only [hs, Addr.add_mid, Nat.zero_add, Nat.add_zero] at a0 a1 a2 a3
  exact ⟨a0, a1, a2, a3⟩
abbrev awP : Prod := { plainP with kind := 3, rate := 0, times := 2 }
theorem aw_sched : schedP awP 19723 100 = ([(19754, 0, 0, 100), (19783, 100, 0, 0)], 0) := by decide +kernel
theorem sched_awake (w : World) (hg : GV w) : Calls Try.prog 12 #[] w fun e w' => e = .returned (.bool true) ∧ Below w.heap.size w w' := by
  have OF := Aside0.mk (fun (W : World) (hb : Below w.heap.size w W) => show Calls Try.prog 11 #[pv awP none 0 none 0 none 0, .int .i64 19723, .int .i64 100] W (Sched ([(19754, 0, 0, 100), (19783, 100, 0, 0)], 0) W) from by have := sched_any awP none 0 none 0 none 0 19723 100 W (hg.below hb) (nilAt rfl rfl rfl) ⟨by decide, by decide, by decide, by decide⟩; rw [aw_sched] at this; exact this)
  clear hg
  go_enter Try.func12, Try.ntmps12
  go_wp2_with (first
    | (go_at_call 13; (with_reducible refine (plain_any _).mono ?_); rintro e w0 ⟨rfl, hb⟩; have HB := Aside0.mk hb; clear hb)
    | ((with_reducible refine gate_dst (N := 1) rfl ?_); refine copy_event rfl (N := 1) rfl rfl rfl (t := 27) (v := .tmp 4) rfl (cs := pcs plainP none 0 none 0 none 0) (zs := pzs) ?hr rfl rfl info_prod ?hz (pcs_one _ _ _ _ _ _ _) ?_; (case hr => first | (go_simp; done) | (go_simp; rfl)); (case hz => rfl); intro g hg w1 hb1 hbl1; have gge := (show w.heap.size ≤ g by rw [hg]; exact HB.out.size); have HB := Aside0.mk (below_step HB.out hbl1); have GG := Aside0.mk hb1; clear hg hb1 hbl1; have u3 : w1.cell? ⟨g, 3, none⟩ = some (.int .i64 _) := (blk_cell GG.out 3).trans rfl; have f3 := frozen_of_row w1 g 3 _ _ GG.out)
    | ((with_reducible refine gate_store (t := 3) (p := 5) rfl ?_); refine put_event rfl (t := 3) (p := 5) (v := (.const (.int .i64 3))) rfl rfl (g := g) (i := 3) (cs := pcs plainP none 0 none 0 none 0) (cs' := pcs { plainP with kind := 3 } none 0 none 0 none 0) (x := .int .i64 3) ?hr GG.out ?hc ?_; (case hc => rfl); (case hr => go_simp); intro w2 hb8 hbut; have GG := Aside0.mk hb8; have HB := Aside0.mk (But.below HB.out HB.out.size gge hbut); clear hbut; clear hb8; have u7 : w2.cell? ⟨g, 7, none⟩ = some (.int .i64 _) := (blk_cell GG.out 7).trans rfl; have f7 := frozen_of_row w2 g 7 _ _ GG.out)
    | ((with_reducible refine gate_store (t := 2) (p := 6) rfl ?_); refine put_event rfl (t := 2) (p := 6) (v := (.const (.int .i64 0))) rfl rfl (g := g) (i := 7) (cs := pcs { plainP with kind := 3 } none 0 none 0 none 0) (cs' := pcs { plainP with kind := 3, rate := 0 } none 0 none 0 none 0) (x := .int .i64 0) ?hr GG.out ?hc ?_; (case hc => rfl); (case hr => go_simp); intro w3 hb8 hbut; have GG := Aside0.mk hb8; have HB := Aside0.mk (But.below HB.out HB.out.size gge hbut); clear hbut; clear hb8; have u5 : w3.cell? ⟨g, 5, none⟩ = some (.int .i64 _) := (blk_cell GG.out 5).trans rfl; have f5 := frozen_of_row w3 g 5 _ _ GG.out)
    | ((with_reducible refine gate_store (t := 3) (p := 7) rfl ?_); refine put_event rfl (t := 3) (p := 7) (v := (.const (.int .i64 2))) rfl rfl (g := g) (i := 5) (cs := pcs { plainP with kind := 3, rate := 0 } none 0 none 0 none 0) (cs' := pcs { plainP with kind := 3, rate := 0, times := 2 } none 0 none 0 none 0) (x := .int .i64 2) ?hr GG.out ?hc ?_; (case hc => rfl); (case hr => go_simp); intro w4 hb8 hbut; have GG := Aside0.mk hb8; have HB := Aside0.mk (But.below HB.out HB.out.size gge hbut); clear hbut; clear hb8; skip)
    | ((with_reducible refine gate_dst (N := 9) rfl ?_); refine wpList_load_row rfl 27 (.tmp 1) rfl g rfl 27 _ (0, 0) _ GG.out Try.underlying27 rfl info_prod ?_)
    | (go_at_call 11; (with_reducible refine (OF.out _ HB.out).mono ?_); rintro e w5 ⟨A, c, rfl, hR, hb⟩; have HB := Aside0.mk (below_step HB.out hb); obtain ⟨gn, cn, e1, _⟩ := Kd.R_form hR (by decide); injection e1 with e1 _ e3; subst e1 e3; obtain ⟨_, hc2, hC⟩ := Kd.R_reads' hR; obtain ⟨x0, x1, x2, x3⟩ := lines_cells hC rfl (i := 0) rfl; obtain ⟨y0, y1, y2, y3⟩ := lines_cells hC rfl (i := 1) rfl; clear hb hR hC))
  go_ret
  exact ⟨rfl, HB.out⟩
end Go.Proofs.Ytfmkdledofbhdaa.Sc
/- Plain law of schedule: equal parts and bullets are always there; more interest at a greater rate. -/
namespace Go.Proofs.Ytfmkdledofbhdaa.Sc
open Go.RowKit Go.Proofs.YtfmkdledofbhdaaW.PrintWords Go.Proofs.YtfmkdledofbhdaaW.PrintLast Go.Proofs.YtfmkdledofbhdaaW.PrintMore Go.Proofs.Ytfmkdledofbhdaa.HW
open Go.Proofs.Ytfmkdledofbhdaa.Math Go.Proofs.Ytfmkdledofbhdaa.H Go.Proofs.Ytfmkdledofbhdaa.Pd Go.Proofs.Ytfmkdledofbhdaa.Du Go.Proofs.Ytfmkdledofbhdaa.Lv Pm
set_option linter.unusedVariables false
set_option linter.unusedSimpArgs false
/-- What is not great is borne. -/
theorem bear_fits {W h rest bal rate n : Int} (G : H.Good W h rest) (b0 : 0 ≤ bal) (r0 : 0 ≤ rate) (n0 : 0 ≤ n) (n1 : n ≤ 53436000) (hb : bal ≤ 1000000000 ∧ rate ≤ 1000000000 ∨ bal ≤ 10000000000000 ∧ rate = 0) : (Gm.bear W h rest bal rate n).2.1 = 0 := by
  have w := G.w0
  have hx : bal * rate * n ≤ 1000000000000000 * W := by
    rcases hb with ⟨b1, r1⟩ | ⟨b1, rfl⟩
    · obtain ⟨_, g⟩ := Gm.mul3 b0 r0 n0 b1 r1 n1
      omega
    · rw [Int.mul_zero, Int.zero_mul]; omega
  rw [bear_eq, if_pos ⟨b0, by omega, r0, by omega, n0, n1⟩, if_pos (Gm.most (by omega) G.r1 hx)]
/-- Equal parts and bullets: there is nothing wrong. -/
theorem lines_there {p : Prod} {m inst W h : Int} (m0 : 0 ≤ m) (hm : m ≤ 1000000000 ∧ p.rate ≤ 1000000000 ∨ m ≤ 10000000000000 ∧ p.rate = 0) (hr : 0 ≤ p.rate) (hk : p.kind ≠ 1) (g0 : 0 ≤ p.grace) (gt : p.grace < p.times) :
    ∀ (l : List (Int × Int)) (k left rest : Int), H.Good W h rest → Mid p m k left → 0 ≤ k → k + l.length = p.times → (∀ y ∈ l, 0 ≤ y.2 ∧ y.2 ≤ 53436000) → (lines p W h m inst k l left rest).2 = 0
  | [], k, left, rest, G, M, k0, kl, hl => rfl
  | (d, n) :: r, k, left, rest, G, M, k0, kl, hl => by
    simp only [List.length_cons] at kl
    obtain ⟨n0, n1⟩ := hl (d, n) (List.mem_cons_self ..)
    have l0 := M.l0
    have l1 := M.l1
    have z0 : (Gm.bear W h rest left p.rate n).2.1 = 0 := bear_fits G l0 hr n0 n1 (by omega)
    obtain ⟨p1, p2, p3⟩ := prin_bd (inst := inst) (v := (Gm.bear W h rest left p.rate n).1) M m0 g0 gt k0 (by omega)
    have e : lerr p m inst k left (Gm.bear W h rest left p.rate n) = 0 := by
      unfold lerr
      rw [if_neg (by rw [z0]; decide), if_neg (by have := p2 hk; omega), if_neg (fun g => hk g.1)]
    have ih := lines_there (inst := inst) m0 hm hr hk g0 gt r (k + 1) _ (Gm.bear W h rest left p.rate n).2.2 (good_bear G) (p3 (p2 hk)) (by omega) (by omega) (fun y hy => hl y (List.mem_cons_of_mem _ hy))
    rw [lines, if_neg (by rw [e]; decide), if_pos ih]
end Go.Proofs.Ytfmkdledofbhdaa.Sc
/- Plain laws of schedule: what of a near product may be wrong; lines, one by one; equal parts. -/
namespace Go.Proofs.Ytfmkdledofbhdaa.Sc
open Go.RowKit Go.Proofs.YtfmkdledofbhdaaW.PrintWords Go.Proofs.YtfmkdledofbhdaaW.PrintLast Go.Proofs.YtfmkdledofbhdaaW.PrintMore Go.Proofs.Ytfmkdledofbhdaa.HW
open Go.Proofs.Ytfmkdledofbhdaa.Math Go.Proofs.Ytfmkdledofbhdaa.H Go.Proofs.Ytfmkdledofbhdaa.Pd Go.Proofs.Ytfmkdledofbhdaa.Du Go.Proofs.Ytfmkdledofbhdaa.Lv Pm
set_option linter.unusedVariables false
set_option linter.unusedSimpArgs false
theorem mid_start {p : Prod} {m : Int} (m0 : 0 ≤ m) (g0 : 0 ≤ p.grace) : Mid p m 0 m := ⟨m0, Int.le_refl m, fun _ _ => by rw [show max 0 (0 - p.grace) = 0 by omega]; omega⟩
theorem ok_grace {p : Prod} (h : ok p = true) : 0 ≤ p.grace ∧ p.grace < p.times ∧ (p.kind = 1 ∨ p.kind = 2 ∨ p.kind = 3) ∧ 0 ≤ p.rate ∧ p.rate ≤ 1000000000 := by
  obtain ⟨⟨⟨⟨⟨_, a2, a3, a4, a5, a6, a7, a8⟩, ⟨b1, b2, b3⟩, b4⟩, c⟩, d_⟩, e_⟩ := (ok_iff p).1 h
  omega
theorem zip_len {xs ys : List Int} {n : Int} (h1 : (xs.length : Int) = n) (h2 : ys.length = xs.length) : (0 : Int) + (xs.zip ys).length = n := by
  rw [List.length_zip]
  omega
/-- What is known of days and parts that are there. -/
theorem parts_known {p : Prod} {start : Int} {xs : List Int} (h : daysP p start = (xs, 0)) : ∃ ys, partsP p start = (ys, 0) ∧ ys.length = xs.length ∧ ∀ n ∈ ys, 0 ≤ n ∧ n ≤ 53436000 := by
  obtain ⟨ho, hs0, hds, hl, t1, t2, hr, -⟩ := days_known h
  refine ⟨rpartsL p.count start xs, ?_, rparts_len _ _ _, parts_may (count_known ho) _ _ hs0 hds hr⟩
  unfold partsP
  rw [h, if_pos rfl]
/-- The lines of a schedule are a chain. -/
theorem sched_chain {p : Prod} {start m : Int} {ls : List Ln} (h : schedP p start m = (ls, 0)) :
    ∃ xs ys inst, daysP p start = (xs, 0) ∧ partsP p start = (ys, 0) ∧ ys.length = xs.length ∧ (∀ n ∈ ys, 0 ≤ n ∧ n ≤ 53436000) ∧ 1 ≤ m ∧ m ≤ 10000000000000 ∧ Chain p (Gm.whole p.count) (Gm.half p.count p.round) m inst 0 m 0 (xs.zip ys) ls := by
  unfold schedP at h
  split at h
  · rename_i h1
    exact absurd (congrArg Prod.snd h) h1
  · rename_i h1
    have hd : (daysP p start).2 = 0 := by simpa using h1
    have hx : daysP p start = ((daysP p start).1, 0) := by rw [← hd]
    obtain ⟨ys, hy, hyl, hyb⟩ := parts_known hx
    split at h
    · exact absurd (show (16 : Int) = 0 from congrArg Prod.snd h) (by decide)
    · rename_i hm
      have hm : 1 ≤ m ∧ m ≤ 10000000000000 := by omega
      have hlin : ∀ inst, linesP p start m inst = (ls, 0) → ∃ xs ys inst, daysP p start = (xs, 0) ∧ partsP p start = (ys, 0) ∧ ys.length = xs.length ∧ (∀ n ∈ ys, 0 ≤ n ∧ n ≤ 53436000) ∧ 1 ≤ m ∧ m ≤ 10000000000000 ∧ Chain p (Gm.whole p.count) (Gm.half p.count p.round) m inst 0 m 0 (xs.zip ys) ls := by
        intro inst hi
        unfold linesP at hi
        rw [hy] at hi
        exact ⟨(daysP p start).1, ys, inst, hx, hy, hyl, hyb, hm.1, hm.2, lines_chain _ _ _ _ _ hi⟩
      split at h
      · split at h
        · rename_i he
          exact absurd (congrArg Prod.snd h) he
        · exact hlin _ h
      · exact hlin _ h
/-- The line ahead of line k. -/
def pl (x0 : Ln) (ls : List Ln) : Nat → Ln
  | 0 => x0
  | k + 1 => ls.getD k x0
theorem chain_int {p : Prod} {m inst W h : Int} : ∀ (l : List (Int × Int)) (k left rest : Int) (ls : List Ln), Chain p W h m inst k left rest l ls → ∀ x ∈ ls, x.2.2.1 ≤ 1000000000000000
  | [], k, left, rest, [], c, x, hx => by simp at hx
  | [], k, left, rest, y :: t, c, x, hx => by simp [Chain] at c
  | y :: r, k, left, rest, [], c, x, hx => by simp [Chain] at c
  | (d, n) :: r, k, left, rest, y :: t, c, x, hx => by
    obtain ⟨c1, c2, c3, c4, c5, c6, c7, c8⟩ := c
    rcases List.mem_cons.1 hx with rfl | hx
    · obtain ⟨hm, hq, he⟩ := bear_ok c1
      rw [c5, he]
      exact hq
    · exact chain_int r _ _ _ t c8 x hx
/-- All that a law looks at, of a schedule that is there. -/
theorem sched_looks {p : Prod} {start m : Int} {ls : List Ln} (h : schedP p start m = (ls, 0)) : (ls.length : Int) = p.times ∧ looks p 0 m start ls ∧ (∀ x ∈ ls, x.2.2.1 ≤ 1000000000000000) := by
  obtain ⟨xs, ys, inst, hx, hy, hyl, hyb, m0, m1, c⟩ := sched_chain h
  obtain ⟨ho, hs0, hds, hl, t1, t2, hr, -⟩ := days_known hx
  obtain ⟨g0, gt, -⟩ := ok_grace ho
  have hz := zip_len hl hyl
  refine ⟨?_, ?_, chain_int _ _ _ _ _ c⟩
  · rw [chain_len _ _ _ _ _ c]; omega
  · refine chain_looks (by omega) m1 g0 gt _ 0 m 0 start ls (good_new _ _) c (mid_start (by omega) g0) (by omega) hz (.inl (by omega)) ?_
    rw [List.map_fst_zip (by omega)]
    exact hr
/-- At a rate of 0, without an annuity: what each line is. -/
def evens (p : Prod) (m part : Int) : Int → List Ln → Prop
  | _, [] => True
  | k, x :: t => x.2.2.1 = 0 ∧ (k < p.grace → x.2.1 = 0) ∧ (p.grace ≤ k → k < p.times - 1 → x.2.1 = part) ∧ (k = p.times - 1 → x.2.1 = m - part * (p.times - 1 - p.grace)) ∧ evens p m part (k + 1) t
theorem bear_free {W h rest bal n : Int} (G : H.Good W h rest) : (Gm.bear W h rest bal 0 n).1 = 0 := by
  have e : bal * (0 : Int) * n = 0 := by rw [Int.mul_zero, Int.zero_mul]
  have w := G.w0
  have q0 : Gm.q W h rest 0 = 0 := by
    unfold Gm.q
    exact Int.ediv_eq_zero_of_lt (by have := G.r0; omega) (by have := G.r1; omega)
  rw [bear_eq, e, q0]
  split
  · split <;> rfl
  · rfl
theorem chain_even {p : Prod} {m inst W h part : Int} (hr : p.rate = 0) (hk : p.kind = 2 ∧ part = m / (p.times - p.grace) ∨ p.kind = 3 ∧ part = 0) (g0 : 0 ≤ p.grace) (gt : p.grace < p.times) :
    ∀ (l : List (Int × Int)) (k left rest : Int) (ls : List Ln), H.Good W h rest → Chain p W h m inst k left rest l ls → left = m - max 0 (k - p.grace) * part → 0 ≤ k → k + l.length = p.times → evens p m part k ls
  | [], k, left, rest, [], G, c, M, k0, kl => trivial
  | [], k, left, rest, x :: t, G, c, M, k0, kl => by simp [Chain] at c
  | y :: r, k, left, rest, [], G, c, M, k0, kl => by simp [Chain] at c
  | (d, n) :: r, k, left, rest, x :: t, G, c, M, k0, kl => by
    obtain ⟨c1, c2, c3, c4, c5, c6, c7, c8⟩ := c
    simp only [List.length_cons] at kl
    have v0 : (Gm.bear W h rest left p.rate n).1 = 0 := by rw [hr]; exact bear_free G
    have pr1 : k < p.grace → x.2.1 = 0 := fun g => by rw [c4]; unfold prin; rw [if_pos g]
    have pr2 : p.grace ≤ k → k < p.times - 1 → x.2.1 = part := fun g g2 => by
      rw [c4]; unfold prin
      rw [if_neg (by omega), if_neg (by omega), if_neg (by omega)]
      rcases hk with ⟨a, b⟩ | ⟨a, b⟩
      · rw [if_pos a, b]
      · rw [if_neg (by omega), b]
    have pr3 : k = p.times - 1 → x.2.1 = left := fun g => by rw [c4]; unfold prin; rw [if_neg (by omega), if_pos g]
    refine ⟨by rw [c5, v0], pr1, pr2, fun g => ?_, ?_⟩
    · rw [pr3 g, M, g, show max 0 (p.times - 1 - p.grace) = p.times - 1 - p.grace by omega, Int.mul_comm]
    · rcases (by omega : k = p.times - 1 ∨ k < p.times - 1) with g | g
      · have hr0 : r = [] := List.eq_nil_of_length_eq_zero (by omega)
        subst hr0
        cases t with
        | nil => trivial
        | cons a b => simp [Chain] at c8
      · refine chain_even hr hk g0 gt r (k + 1) x.2.2.2 _ t (good_bear G) c8 ?_ (by omega) (by omega)
        rw [c6, M]
        rcases (by omega : k < p.grace ∨ p.grace ≤ k) with g2 | g2
        · rw [pr1 g2, show max 0 (k - p.grace) = 0 by omega, show max 0 (k + 1 - p.grace) = 0 by omega]; omega
        · rw [pr2 g2 g, show max 0 (k - p.grace) = k - p.grace by omega, show max 0 (k + 1 - p.grace) = k - p.grace + 1 by omega, Int.add_mul]; omega
theorem evens_at {p : Prod} {m part : Int} : ∀ (ls : List Ln) (k : Int), evens p m part k ls → ∀ (i : Nat) (x : Ln), ls[i]? = some x → x.2.2.1 = 0 ∧ (k + i < p.grace → x.2.1 = 0) ∧ (p.grace ≤ k + i → k + i < p.times - 1 → x.2.1 = part) ∧ (k + i = p.times - 1 → x.2.1 = m - part * (p.times - 1 - p.grace))
  | [], k, h, i, x, hx => by simp at hx
  | y :: t, k, h, 0, x, hx => by
    obtain ⟨h1, h2, h3, h4, h5⟩ := h
    obtain rfl : y = x := by simpa using hx
    exact ⟨h1, fun g => h2 (by omega), fun g g2 => h3 (by omega) (by omega), fun g => h4 (by omega)⟩
  | y :: t, k, h, i + 1, x, hx => by
    obtain ⟨h1, h2, h3, h4, h5⟩ := h
    obtain ⟨q1, q2, q3, q4⟩ := evens_at t (k + 1) h5 i x (by simpa using hx)
    exact ⟨q1, fun g => q2 (by omega), fun g g2 => q3 (by omega) (by omega), fun g => q4 (by omega)⟩
end Go.Proofs.Ytfmkdledofbhdaa.Sc
/- Plain laws of schedule: equal parts and bullets of a plain product, at any rate. -/
namespace Go.Proofs.Ytfmkdledofbhdaa.Sc
open Go.RowKit Go.Proofs.YtfmkdledofbhdaaW.PrintWords Go.Proofs.YtfmkdledofbhdaaW.PrintLast Go.Proofs.YtfmkdledofbhdaaW.PrintMore Go.Proofs.Ytfmkdledofbhdaa.HW
open Go.Proofs.Ytfmkdledofbhdaa.Math Go.Proofs.Ytfmkdledofbhdaa.H Go.Proofs.Ytfmkdledofbhdaa.Pd Go.Proofs.Ytfmkdledofbhdaa.Du Go.Proofs.Ytfmkdledofbhdaa.Lv Pm
set_option linter.unusedVariables false
set_option linter.unusedSimpArgs false
theorem ok_kind {k t g r : Int} (k1 : 1 ≤ k) (k3 : k ≤ 3) (t1 : 1 ≤ t) (t2 : t ≤ 600) (g0 : 0 ≤ g) (g1 : g ≤ t - 1) (hg : k = 3 → g = 0) (r0 : 0 ≤ r) (r1 : r ≤ 1000000000) : ok { plainP with kind := k, times := t, grace := g, rate := r } = true := by
  have h := (ok_iff plainP).1 (by decide +kernel)
  rw [ok_iff]
  obtain ⟨⟨⟨⟨⟨a1, a2, a3, a4, a5, a6, a7, a8⟩, ⟨b1, b2, b3⟩, b4⟩, c⟩, d⟩, e⟩ := h
  exact ⟨⟨⟨⟨⟨a1, a2, a3, ⟨k1, k3⟩, a5, ⟨t1, t2⟩, ⟨g0, g1⟩, hg⟩, ⟨⟨r0, r1⟩, b2, b3⟩, rfl⟩, c⟩, d⟩, e⟩
theorem days_alike {p q : Prod} {s : Int} (h1 : ok p = true) (h2 : ok q = true) (e1 : p.every = q.every) (e2 : p.times = q.times) (e3 : p.hol = q.hol) (e4 : p.roll = q.roll) : daysP p s = daysP q s := by
  unfold daysP
  rw [if_pos h1, if_pos h2, e1, e2, e3, e4]
theorem plain_all : (List.range 60).all (fun t => (daysP { plainP with kind := 2, times := (t : Int) + 1, grace := 0, rate := 0 } 19723).2 == 0) = true := by decide +kernel
/-- Days of a plain product with sixty instalments at most are there. -/
theorem plain_days {k g r : Int} {tn : Nat} (ho : ok { plainP with kind := k, times := (tn : Int), grace := g, rate := r } = true) (h1 : 1 ≤ tn) (h2 : tn ≤ 60) : (daysP { plainP with kind := k, times := (tn : Int), grace := g, rate := r } 19723).2 = 0 := by
  have h := List.all_eq_true.1 plain_all (tn - 1) (List.mem_range.2 (by omega))
  have e : (((tn - 1 : Nat) : Int) + 1) = (tn : Int) := by omega
  rw [e] at h
  have ho2 : ok { plainP with kind := 2, times := (tn : Int), grace := 0, rate := 0 } = true := ok_kind (by omega) (by omega) (by omega) (by omega) (by omega) (by omega) (fun h => by omega) (by omega) (by omega)
  rw [days_alike ho ho2 rfl rfl rfl rfl]
  exact eq_of_beq h
theorem there {p : Prod} {start m : Int} (hd : (daysP p start).2 = 0) (hk : p.kind ≠ 1) (m0 : 1 ≤ m) (hm : m ≤ 1000000000 ∧ p.rate ≤ 1000000000 ∨ m ≤ 10000000000000 ∧ p.rate = 0) : ∃ ls, schedP p start m = (ls, 0) := by
  have hx : daysP p start = ((daysP p start).1, 0) := by rw [← hd]
  obtain ⟨ho, hs0, hds, hl, t1, t2, hr, -⟩ := days_known hx
  obtain ⟨g0, gt, -, r0, r1⟩ := ok_grace ho
  obtain ⟨ys, hy, hyl, hyb⟩ := parts_known hx
  have h : (linesP p start m 0).2 = 0 := by
    unfold linesP
    rw [hy]
    refine lines_there (by omega) hm r0 hk g0 gt _ 0 m 0 (good_new _ _) (mid_start (by omega) g0) (by omega) (zip_len hl hyl) ?_
    intro y hz
    exact hyb _ (List.of_mem_zip (show (y.1, y.2) ∈ _ from hz)).2
  refine ⟨(linesP p start m 0).1, ?_⟩
  unfold schedP
  rw [if_neg (fun g => g hd), if_neg (fun g => g ⟨m0, by omega⟩), if_neg hk]
  exact Prod.ext rfl h
/-- Equal parts, or a bullet, at a rate of 0. -/
theorem equal_there {k g m part : Int} {tn : Nat} (hk : k = 2 ∧ part = m / ((tn : Int) - g) ∨ k = 3 ∧ g = 0 ∧ part = 0) (h1 : 1 ≤ tn) (h2 : tn ≤ 60) (g0 : 0 ≤ g) (g1 : g ≤ (tn : Int) - 1) (m0 : 1 ≤ m) (m1 : m ≤ 10000000000000) :
    ∃ ls, schedP { plainP with kind := k, times := (tn : Int), grace := g, rate := 0 } 19723 m = (ls, 0) ∧ ls.length = tn ∧ ∀ (i : Nat) (x : Ln), ls[i]? = some x → x.2.2.1 = 0 ∧ ((i : Int) < g → x.2.1 = 0) ∧ (g ≤ (i : Int) → (i : Int) < tn - 1 → x.2.1 = part) ∧ ((i : Int) = tn - 1 → x.2.1 = m - part * ((tn : Int) - 1 - g)) := by
  have ho : ok { plainP with kind := k, times := (tn : Int), grace := g, rate := 0 } = true := ok_kind (by omega) (by omega) (by omega) (by omega) g0 g1 (fun h => by omega) (by omega) (by omega)
  have hd := plain_days ho h1 h2
  obtain ⟨ls, hs⟩ := there (m := m) hd (show k ≠ 1 by omega) m0 (.inr ⟨m1, rfl⟩)
  obtain ⟨hl, -, -⟩ := sched_looks hs
  have hl : (ls.length : Int) = tn := hl
  refine ⟨ls, hs, by omega, ?_⟩
  obtain ⟨xs, ys, inst, hx, hy, hyl, hyb, -, -, c⟩ := sched_chain hs
  have hxl := (days_known hx).2.2.2.1
  have ev := chain_even (part := part) rfl (by rcases hk with ⟨a, b⟩ | ⟨a, b, c⟩; exact .inl ⟨a, b⟩; exact .inr ⟨a, c⟩) g0 (show g < (tn : Int) by omega) _ 0 m 0 ls (good_new _ _) c (by show m = m - max 0 (0 - g) * part; rw [show max 0 (0 - g) = 0 by omega]; omega) (by omega) (zip_len hxl hyl)
  intro i x hx
  obtain ⟨q1, q2, q3, q4⟩ := evens_at ls 0 ev i x hx
  exact ⟨q1, fun a => q2 (by show (0 : Int) + i < g; omega), fun a b => q3 (by show g ≤ (0 : Int) + i; omega) (by show (0 : Int) + i < (tn : Int) - 1; omega), fun a => q4 (by show (0 : Int) + i = (tn : Int) - 1; omega)⟩
end Go.Proofs.Ytfmkdledofbhdaa.Sc
/- The law ScheduleEqual, walked. -/
namespace Go.Proofs.Ytfmkdledofbhdaa.Sc
open Go.RowKit Go.Proofs.YtfmkdledofbhdaaW.PrintWords Go.Proofs.YtfmkdledofbhdaaW.PrintLast Go.Proofs.YtfmkdledofbhdaaW.PrintMore Go.Proofs.Ytfmkdledofbhdaa.HW
open Go.Proofs.Ytfmkdledofbhdaa.Math Go.Proofs.Ytfmkdledofbhdaa.H Go.Proofs.Ytfmkdledofbhdaa.Pd Go.Proofs.Ytfmkdledofbhdaa.Du Go.Proofs.Ytfmkdledofbhdaa.Lv Pm
set_option linter.unusedVariables false
set_option linter.unusedSimpArgs false
attribute [local go_sem] max2_int min2_int max_two min_two

theorem U_isC (x : Int) {m : Int} (h : 0 < m) (h2 : m ≤ 9000000000000000000) : IntKind.i64.wrap (Int.tmod (IntKind.u64.wrap x) m) = U x m := by
  have e : IntKind.u64.wrap x = x % 18446744073709551616 := rfl
  have hn := Int.emod_nonneg x (show (18446744073709551616 : Int) ≠ 0 by omega)
  have hb := U_bd x h
  rw [e, Int.tmod_eq_emod_of_nonneg hn]
  show IntKind.i64.wrap (U x m) = U x m
  exact IntWalk.i64_in _ (by omega)
theorem small_q {q : Prod} (h1 : q.name = plainP.name) (h2 : q.resets = []) (h3 : q.late = []) (h4 : q.hol = []) : Small q := ⟨by rw [h1]; decide, by rw [h2]; decide, by rw [h3]; decide, by rw [h4]; decide⟩
theorem Sched.one {ls : List Ln} {w w' : World} {e : Ending} (h : Sched (ls, 0) w e w') (hl : 0 < ls.length) : ∃ gn c, e = .returned (.tuple #[.slice (some ⟨gn, 0, none⟩) ls.length c, .int .i64 0]) ∧ ls.length ≤ c ∧ (Kd.pair (Kd.int .i64) (Kd.pair (Kd.int .i64) (Kd.pair (Kd.int .i64) (Kd.int .i64)))).C w' (some ⟨gn, 0, none⟩) ls.length ls ∧ Below w.heap.size w w' := by
  obtain ⟨A, c, he, hR, hb⟩ := h
  obtain ⟨gn, cn, e1, _⟩ := Kd.R_form hR hl
  injection e1 with e1 _ e3
  subst e1 e3
  obtain ⟨_, hc2, hC⟩ := Kd.R_reads' hR
  exact ⟨gn, _, he, hc2, hC, hb⟩
set_option maxRecDepth 100000 in
set_option maxHeartbeats 8000000 in
theorem sequal_2 (a0 a1 a2 a3 : Int) (w : World) (hg : GV w) (hk : U a3 2 = 0) : Calls Try.prog 4 #[.int .i64 a0, .int .i64 a1, .int .i64 a2, .int .i64 a3] w fun e w' => e = .returned (.bool true) ∧ Below w.heap.size w w' := by
  have mk := U_is a3 (m := 2) (by omega) (by omega)
  obtain ⟨uk, huk⟩ : ∃ x, U a3 2 = x := ⟨_, rfl⟩
  rw [huk] at mk hk
  have sk : IntKind.i64.wrap (2 + uk) = 2 := by rw [hk]; rfl
  have m1 := U_is a1 (m := 60) (by omega) (by omega)
  obtain ⟨m1a, m1b⟩ := U_bd a1 (m := 60) (by omega)
  obtain ⟨tn, htn⟩ : ∃ tn : Nat, 1 + U a1 60 = (tn : Int) := ⟨(1 + U a1 60).toNat, by omega⟩
  obtain ⟨tm, htm⟩ : ∃ tm : Nat, (tn : Int) - 1 = (tm : Int) := ⟨tn - 1, by omega⟩
  have tn1 : 1 ≤ tn := by omega
  have tn2 : tn ≤ 60 := by omega
  have m2 := U_is a2 (m := (tn : Int)) (by omega) (by omega)
  obtain ⟨m2a, m2b⟩ := U_bd a2 (m := (tn : Int)) (by omega)
  obtain ⟨G, hG⟩ : ∃ G, U a2 (tn : Int) = G := ⟨_, rfl⟩
  rw [hG] at m2 m2a m2b
  have m0 := U_isC a0 (m := 10000000000000) (by omega) (by omega)
  obtain ⟨m0a, m0b⟩ := U_bd a0 (m := 10000000000000) (by omega)
  obtain ⟨M, hM⟩ : ∃ M, 1 + U a0 10000000000000 = M := ⟨_, rfl⟩
  have s1 : IntKind.i64.wrap (1 + U a1 60) = (tn : Int) := by rw [htn]; exact IntWalk.i64_in _ (by omega)
  have s0 : IntKind.i64.wrap (1 + U a0 10000000000000) = M := by rw [hM]; exact IntWalk.i64_in _ (by omega)
  have hM0 : 1 ≤ M := by omega
  have hM1 : M ≤ 10000000000000 := by omega
  have uT : IntKind.u64.wrap (tn : Int) = (tn : Int) := IntWalk.u64_in _ (by omega)
  have tz : ((tn : Int) == 0) = false := by simp; omega
  obtain ⟨N, hN⟩ : ∃ N, (tn : Int) - G = N := ⟨_, rfl⟩
  have sN : IntKind.i64.wrap ((tn : Int) - G) = N := by rw [hN]; exact IntWalk.i64_in _ (by omega)
  obtain ⟨V, hV⟩ : ∃ V, M / N = V := ⟨_, rfl⟩
  have N0 : 1 ≤ N := by omega
  have N1 : N ≤ 60 := by omega
  have V0 : 0 ≤ V := by rw [← hV]; exact Int.ediv_nonneg (by omega) (by omega)
  have V1 : V ≤ M := by rw [← hV]; exact Int.ediv_le_self _ (by omega)
  have t3 : IntKind.i64.wrap (Int.tdiv M N) = V := by rw [Int.tdiv_eq_ediv_of_nonneg (by omega), hV]; exact IntWalk.i64_in _ (by omega)
  have nz : (N == 0) = false := by simp; omega
  have nm : (N == -1) = false := by simp; omega
  obtain ⟨ls, hls, hll, hat⟩ := equal_there (k := 2) (g := G) (m := M) (part := V) (tn := tn) (.inl ⟨rfl, by rw [hN, hV]⟩) tn1 tn2 m2a (by omega) hM0 hM1
  have OF := Aside0.mk (fun (W : World) (hb : Below w.heap.size w W) => show Calls Try.prog 11 #[pv { plainP with kind := 2, times := (tn : Int), grace := G, rate := 0 } none 0 none 0 none 0, .int .i64 19723, .int .i64 M] W (fun e w' => ∃ gn c, e = .returned (.tuple #[.slice (some ⟨gn, 0, none⟩) tn c, .int .i64 0]) ∧ tn ≤ c ∧ (Kd.pair (Kd.int .i64) (Kd.pair (Kd.int .i64) (Kd.pair (Kd.int .i64) (Kd.int .i64)))).C w' (some ⟨gn, 0, none⟩) tn ls ∧ Below W.heap.size W w') from by
    have h := sched_any { plainP with kind := 2, times := (tn : Int), grace := G, rate := 0 } none 0 none 0 none 0 19723 M W (hg.below hb) (nilAt rfl rfl rfl) (small_q rfl rfl rfl rfl)
    rw [hls] at h
    refine h.mono ?_
    rintro e w' h
    have h := Sched.one h (by omega)
    rw [hll] at h
    exact h)
  have AK := Aside0.mk (fun (W : World) (hb : Below w.heap.size w W) => sched_awake W (hg.below hb))
  have AT := Aside0.mk hat
  have LL := Aside0.mk hll
  have sT : IntKind.i64.wrap ((tn : Int) - 1) = (tm : Int) := by rw [htm]; exact IntWalk.i64_in _ (by omega)
  have hmt : (tm : Int) < (tn : Int) := by omega
  obtain ⟨Lv, hLv⟩ : ∃ Lv, (tm : Int) - G = Lv := ⟨_, rfl⟩
  have sL : IntKind.i64.wrap ((tm : Int) - G) = Lv := by rw [hLv]; exact IntWalk.i64_in _ (by omega)
  have vl : 0 ≤ V * Lv ∧ V * Lv ≤ M := by
    refine ⟨Int.mul_nonneg V0 (by omega), ?_⟩
    have a := Int.mul_le_mul_of_nonneg_left (show Lv ≤ N by omega) V0
    have b := Int.mul_ediv_self_le (x := M) (k := N) (by omega)
    rw [hV, Int.mul_comm] at b
    omega
  obtain ⟨VL, hVL⟩ : ∃ x, V * Lv = x := ⟨_, rfl⟩
  rw [hVL] at vl
  have sV : IntKind.i64.wrap (V * Lv) = VL := by rw [hVL]; exact IntWalk.i64_in _ (by omega)
  obtain ⟨Z, hZ⟩ : ∃ x, M - VL = x := ⟨_, rfl⟩
  have sZ : IntKind.i64.wrap (M - VL) = Z := by rw [hZ]; exact IntWalk.i64_in _ (by omega)
  have hfin : M - V * ((tn : Int) - 1 - G) = Z := by rw [htm, hLv, hVL, hZ]
  have HF := Aside0.mk hfin
  have HTM := Aside0.mk htm
  have HM2 := Aside0.mk (And.intro m2a m2b)
  clear hg htn hM hN hV hls hll hat hfin htm m1a m1b m0a m0b V0 V1 hLv m2a m2b huk hk hVL hZ vl hG
  go_enter Try.func4, Try.ntmps4
  go_wp2_with (first
    | (go_at_call 13; (with_reducible refine (plain_any _).mono ?_); rintro e w0 ⟨rfl, hb⟩; have HB := Aside0.mk hb; clear hb)
    | ((with_reducible refine gate_dst (N := 9) rfl ?_); refine copy_event rfl (N := 9) rfl rfl rfl (t := 27) (v := .tmp 15) rfl (cs := pcs plainP none 0 none 0 none 0) (zs := pzs) ?hr rfl rfl info_prod ?hz (pcs_one _ _ _ _ _ _ _) ?_; (case hr => first | (go_simp; done) | (go_simp; rfl)); (case hz => rfl); intro g hg w1 hb1 hbl1; have gge := (show w.heap.size ≤ g by rw [hg]; exact HB.out.size); have HB := Aside0.mk (below_step HB.out hbl1); have GG := Aside0.mk hb1; clear hg hb1 hbl1; have u3 : w1.cell? ⟨g, 3, none⟩ = some (.int .i64 _) := (blk_cell GG.out 3).trans rfl; have f3 := frozen_of_row w1 g 3 _ _ GG.out)
    | ((with_reducible refine gate_store (t := 3) (p := 21) rfl ?_); refine put_event rfl (t := 3) (p := 21) (v := .tmp 20) rfl rfl (g := g) (i := 3) (cs := pcs plainP none 0 none 0 none 0) (cs' := pcs { plainP with kind := 2 } none 0 none 0 none 0) (x := .int .i64 2) ?hr GG.out ?hc ?_; (case hc => rfl); (case hr => go_simp); intro w2 hb8 hbut; have GG := Aside0.mk hb8; have HB := Aside0.mk (But.below HB.out HB.out.size gge hbut); clear hbut; clear hb8; have u5 : w2.cell? ⟨g, 5, none⟩ = some (.int .i64 _) := (blk_cell GG.out 5).trans rfl; have f5 := frozen_of_row w2 g 5 _ _ GG.out)
    | ((with_reducible refine gate_store (t := 3) (p := 27) rfl ?_); refine put_event rfl (t := 3) (p := 27) (v := .tmp 26) rfl rfl (g := g) (i := 5) (cs := pcs { plainP with kind := 2 } none 0 none 0 none 0) (cs' := pcs { plainP with kind := 2, times := (tn : Int) } none 0 none 0 none 0) (x := .int .i64 (tn : Int)) ?hr GG.out ?hc ?_; (case hc => rfl); (case hr => go_simp); intro w3 hb8 hbut; have GG := Aside0.mk hb8; have HB := Aside0.mk (But.below HB.out HB.out.size gge hbut); clear hbut; clear hb8; have u3 : w3.cell? ⟨g, 3, none⟩ = some (.int .i64 2) := (blk_cell GG.out 3).trans rfl; have f3 := frozen_of_row w3 g 3 _ _ GG.out; have u5 : w3.cell? ⟨g, 5, none⟩ = some (.int .i64 (tn : Int)) := (blk_cell GG.out 5).trans rfl; have f5 := frozen_of_row w3 g 5 _ _ GG.out; have u6 : w3.cell? ⟨g, 6, none⟩ = some (.int .i64 _) := (blk_cell GG.out 6).trans rfl; have f6 := frozen_of_row w3 g 6 _ _ GG.out; have u7 : w3.cell? ⟨g, 7, none⟩ = some (.int .i64 _) := (blk_cell GG.out 7).trans rfl; have f7 := frozen_of_row w3 g 7 _ _ GG.out)
    | ((with_reducible refine gate_store (t := 3) (p := 38) rfl ?_); refine put_event rfl (t := 3) (p := 38) (v := .tmp 37) rfl rfl (g := g) (i := 6) (cs := pcs { plainP with kind := 2, times := (tn : Int) } none 0 none 0 none 0) (cs' := pcs { plainP with kind := 2, times := (tn : Int), grace := G } none 0 none 0 none 0) (x := .int .i64 G) ?hr GG.out ?hc ?_; (case hc => rfl); (case hr => go_simp); intro w4 hb8 hbut; have GG := Aside0.mk hb8; have HB := Aside0.mk (But.below HB.out HB.out.size gge hbut); clear hbut; clear hb8; have u7 : w4.cell? ⟨g, 7, none⟩ = some (.int .i64 _) := (blk_cell GG.out 7).trans rfl; have f7 := frozen_of_row w4 g 7 _ _ GG.out)
    | ((with_reducible refine gate_store (t := 2) (p := 39) rfl ?_); refine put_event rfl (t := 2) (p := 39) (v := (.const (.int .i64 0))) rfl rfl (g := g) (i := 7) (cs := pcs { plainP with kind := 2, times := (tn : Int), grace := G } none 0 none 0 none 0) (cs' := pcs { plainP with kind := 2, times := (tn : Int), grace := G, rate := 0 } none 0 none 0 none 0) (x := .int .i64 0) ?hr GG.out ?hc ?_; (case hc => rfl); (case hr => go_simp); intro w5 hb8 hbut; have GG := Aside0.mk hb8; have HB := Aside0.mk (But.below HB.out HB.out.size gge hbut); clear hbut; clear hb8; have u3 : w5.cell? ⟨g, 3, none⟩ = some (.int .i64 2) := (blk_cell GG.out 3).trans rfl; have f3 := frozen_of_row w5 g 3 _ _ GG.out; have u5 : w5.cell? ⟨g, 5, none⟩ = some (.int .i64 (tn : Int)) := (blk_cell GG.out 5).trans rfl; have f5 := frozen_of_row w5 g 5 _ _ GG.out; have u6 : w5.cell? ⟨g, 6, none⟩ = some (.int .i64 G) := (blk_cell GG.out 6).trans rfl; have f6 := frozen_of_row w5 g 6 _ _ GG.out)
    | ((with_reducible refine gate_dst (N := 46) rfl ?_); refine wpList_load_row rfl 27 (.tmp 9) rfl g rfl 27 _ (0, 0) _ GG.out Try.underlying27 rfl info_prod ?_)
    | (go_at_call 11; (with_reducible refine (OF.out _ HB.out).mono ?_); rintro e y1 ⟨gn, c, rfl, hle, hC, hb⟩; have HB := Aside0.mk (below_step HB.out hb); have GG := Aside0.mk (Pd.blk_below GG.out hb); have HC := Aside0.mk hC; clear u3 f3 u5 f5 u6 f6 hb hC; have u5 : y1.cell? ⟨g, 5, none⟩ = some (.int .i64 (tn : Int)) := (blk_cell GG.out 5).trans rfl; have f5 := frozen_of_row y1 g 5 _ _ GG.out)
    | (go_at_call 12; (with_reducible refine (AK.out _ HB.out).mono ?_); rintro e y2 ⟨rfl, hb⟩; have HB := Aside0.mk (below_step HB.out hb); have GG := Aside0.mk (Pd.blk_below GG.out hb); have HC := Aside0.mk (Kd.C_below HC.out hb); clear u5 f5 hb; have u3 : y2.cell? ⟨g, 3, none⟩ = some (.int .i64 2) := (blk_cell GG.out 3).trans rfl; have f3 := frozen_of_row y2 g 3 _ _ GG.out; have u5 : y2.cell? ⟨g, 5, none⟩ = some (.int .i64 (tn : Int)) := (blk_cell GG.out 5).trans rfl; have f5 := frozen_of_row y2 g 5 _ _ GG.out; have u6 : y2.cell? ⟨g, 6, none⟩ = some (.int .i64 G) := (blk_cell GG.out 6).trans rfl; have f6 := frozen_of_row y2 g 6 _ _ GG.out))
  go_loopg [13] (tm + 1) (fun gq iv w' => ∃ (k : Nat), k ≤ tm ∧ iv = .int .i64 (k : Int) ∧ Aside0 (gq = tm + 1 - k) ∧ Aside0 ((Kd.pair (Kd.int .i64) (Kd.pair (Kd.int .i64) (Kd.pair (Kd.int .i64) (Kd.int .i64)))).C w' (some ⟨gn, 0, none⟩) tn ls) ∧ Aside0 (w'.heap[g]? = some (.cells (pcs { plainP with kind := 2, times := (tn : Int), grace := G, rate := 0 } none 0 none 0 none 0) 27 (0, 0))) ∧ Aside0 (Below w.heap.size w w'))
  case atStart => exact ⟨0, by omega, rfl, ⟨rfl⟩, HC, GG, HB⟩
  case round =>
    obtain ⟨k, kn, rfl, hgq, HC, GG, HB⟩ := hrel
    have u5 : wr.cell? ⟨g, 5, none⟩ = some (.int .i64 (tn : Int)) := (blk_cell GG.out 5).trans rfl
    have f5 := frozen_of_row wr g 5 _ _ GG.out
    have u6 : wr.cell? ⟨g, 6, none⟩ = some (.int .i64 G) := (blk_cell GG.out 6).trans rfl
    have f6 := frozen_of_row wr g 6 _ _ GG.out
    have hkl : k < ls.length := by have := LL.out; have := HTM.out; omega
    obtain ⟨x, hx⟩ : ∃ x, ls[k]? = some x := ⟨_, List.getElem?_eq_getElem hkl⟩
    obtain ⟨-, x1, x2, -⟩ := lines_cells HC.out LL.out.symm hx
    obtain ⟨y1_, y2_, y3_, y4_⟩ := AT.out k x hx
    rw [y1_] at x2
    have hkt : (k : Int) < (tn : Int) := by have := HTM.out; omega
    by_cases hlt : (k : Int) < (tm : Int)
    · by_cases hlg : (k : Int) < G
      · rw [y2_ hlg] at x1
        clear y1_ y2_ y3_ y4_ hx hkl
        go_wp2_with fail
        go_roundg (tm + 1 - (k + 1))
        case measure => have := hgq.out; omega
        case rel => exact ⟨k + 1, by omega, by simp, ⟨rfl⟩, ⟨HC.out⟩, ⟨GG.out⟩, ⟨by first | exact HB.out | exact Below.drew HB.out | exact pw_below_drewN HB.out _⟩⟩
      · rw [y3_ (by omega) (by have := HTM.out; omega)] at x1
        clear y1_ y2_ y3_ y4_ hx hkl
        go_wp2_with fail
        go_roundg (tm + 1 - (k + 1))
        case measure => have := hgq.out; omega
        case rel => exact ⟨k + 1, by omega, by simp, ⟨rfl⟩, ⟨HC.out⟩, ⟨GG.out⟩, ⟨by first | exact HB.out | exact Below.drew HB.out | exact pw_below_drewN HB.out _⟩⟩
    · obtain rfl : k = tm := by omega
      rw [y4_ (by have := HTM.out; omega), HF.out] at x1
      clear y1_ y2_ y3_ y4_ hx hkl
      go_wp2_with fail
      go_quiet (fail)
      go_wp2_with fail
      go_ret
      exact ⟨rfl, by first | exact HB.out | exact Below.drew HB.out | exact pw_below_drewN HB.out _⟩
set_option maxRecDepth 100000 in
set_option maxHeartbeats 8000000 in
theorem sequal_3 (a0 a1 a2 a3 : Int) (w : World) (hg : GV w) (hk : U a3 2 = 1) : Calls Try.prog 4 #[.int .i64 a0, .int .i64 a1, .int .i64 a2, .int .i64 a3] w fun e w' => e = .returned (.bool true) ∧ Below w.heap.size w w' := by
  have mk := U_is a3 (m := 2) (by omega) (by omega)
  obtain ⟨uk, huk⟩ : ∃ x, U a3 2 = x := ⟨_, rfl⟩
  rw [huk] at mk hk
  have sk : IntKind.i64.wrap (2 + uk) = 3 := by rw [hk]; rfl
  have m1 := U_is a1 (m := 60) (by omega) (by omega)
  obtain ⟨m1a, m1b⟩ := U_bd a1 (m := 60) (by omega)
  obtain ⟨tn, htn⟩ : ∃ tn : Nat, 1 + U a1 60 = (tn : Int) := ⟨(1 + U a1 60).toNat, by omega⟩
  obtain ⟨tm, htm⟩ : ∃ tm : Nat, (tn : Int) - 1 = (tm : Int) := ⟨tn - 1, by omega⟩
  have tn1 : 1 ≤ tn := by omega
  have tn2 : tn ≤ 60 := by omega
  obtain ⟨G, HG0⟩ : ∃ G : Int, (0 : Int) = G := ⟨_, rfl⟩
  have HGZ := Aside0.mk HG0
  have m2a : 0 ≤ G := by omega
  have m2b : G < (tn : Int) := by omega
  have m0 := U_isC a0 (m := 10000000000000) (by omega) (by omega)
  obtain ⟨m0a, m0b⟩ := U_bd a0 (m := 10000000000000) (by omega)
  obtain ⟨M, hM⟩ : ∃ M, 1 + U a0 10000000000000 = M := ⟨_, rfl⟩
  have s1 : IntKind.i64.wrap (1 + U a1 60) = (tn : Int) := by rw [htn]; exact IntWalk.i64_in _ (by omega)
  have s0 : IntKind.i64.wrap (1 + U a0 10000000000000) = M := by rw [hM]; exact IntWalk.i64_in _ (by omega)
  have hM0 : 1 ≤ M := by omega
  have hM1 : M ≤ 10000000000000 := by omega
  have uT : IntKind.u64.wrap (tn : Int) = (tn : Int) := IntWalk.u64_in _ (by omega)
  have tz : ((tn : Int) == 0) = false := by simp; omega
  obtain ⟨N, hN⟩ : ∃ N, (tn : Int) - G = N := ⟨_, rfl⟩
  have sN : IntKind.i64.wrap ((tn : Int) - G) = N := by rw [hN]; exact IntWalk.i64_in _ (by omega)
  obtain ⟨V, hV⟩ : ∃ V, M / N = V := ⟨_, rfl⟩
  have N0 : 1 ≤ N := by omega
  have N1 : N ≤ 60 := by omega
  have V0 : 0 ≤ V := by rw [← hV]; exact Int.ediv_nonneg (by omega) (by omega)
  have V1 : V ≤ M := by rw [← hV]; exact Int.ediv_le_self _ (by omega)
  have t3 : IntKind.i64.wrap (Int.tdiv M N) = V := by rw [Int.tdiv_eq_ediv_of_nonneg (by omega), hV]; exact IntWalk.i64_in _ (by omega)
  have nz : (N == 0) = false := by simp; omega
  have nm : (N == -1) = false := by simp; omega
  obtain ⟨ls, hls, hll, hat⟩ := equal_there (k := 3) (g := G) (m := M) (part := 0) (tn := tn) (.inr ⟨rfl, HG0.symm, rfl⟩) tn1 tn2 m2a (by omega) hM0 hM1
  have hls : schedP { plainP with kind := 3, times := (tn : Int), grace := 0, rate := 0 } 19723 M = (ls, 0) := by have h := hls; rw [← HG0] at h; exact h
  have OF := Aside0.mk (fun (W : World) (hb : Below w.heap.size w W) => show Calls Try.prog 11 #[pv { plainP with kind := 3, times := (tn : Int), grace := 0, rate := 0 } none 0 none 0 none 0, .int .i64 19723, .int .i64 M] W (fun e w' => ∃ gn c, e = .returned (.tuple #[.slice (some ⟨gn, 0, none⟩) tn c, .int .i64 0]) ∧ tn ≤ c ∧ (Kd.pair (Kd.int .i64) (Kd.pair (Kd.int .i64) (Kd.pair (Kd.int .i64) (Kd.int .i64)))).C w' (some ⟨gn, 0, none⟩) tn ls ∧ Below W.heap.size W w') from by
    have h := sched_any { plainP with kind := 3, times := (tn : Int), grace := 0, rate := 0 } none 0 none 0 none 0 19723 M W (hg.below hb) (nilAt rfl rfl rfl) (small_q rfl rfl rfl rfl)
    rw [hls] at h
    refine h.mono ?_
    rintro e w' h
    have h := Sched.one h (by omega)
    rw [hll] at h
    exact h)
  have AK := Aside0.mk (fun (W : World) (hb : Below w.heap.size w W) => sched_awake W (hg.below hb))
  have AT := Aside0.mk hat
  have LL := Aside0.mk hll
  have sT : IntKind.i64.wrap ((tn : Int) - 1) = (tm : Int) := by rw [htm]; exact IntWalk.i64_in _ (by omega)
  have hmt : (tm : Int) < (tn : Int) := by omega
  obtain ⟨Lv, hLv⟩ : ∃ Lv, (tm : Int) - G = Lv := ⟨_, rfl⟩
  have sL : IntKind.i64.wrap ((tm : Int) - G) = Lv := by rw [hLv]; exact IntWalk.i64_in _ (by omega)
  have sM : IntKind.i64.wrap M = M := IntWalk.i64_in _ (by omega)
  have hfin : M - 0 * ((tn : Int) - 1 - G) = M := by omega
  have HF := Aside0.mk hfin
  have HTM := Aside0.mk htm
  have HM2 := Aside0.mk (And.intro m2a m2b)
  clear hg htn hM hN hV hls hll hat hfin htm m1a m1b m0a m0b V0 V1 hLv m2a m2b huk hk HG0
  go_enter Try.func4, Try.ntmps4
  go_wp2_with (first
    | (go_at_call 13; (with_reducible refine (plain_any _).mono ?_); rintro e w0 ⟨rfl, hb⟩; have HB := Aside0.mk hb; clear hb)
    | ((with_reducible refine gate_dst (N := 9) rfl ?_); refine copy_event rfl (N := 9) rfl rfl rfl (t := 27) (v := .tmp 15) rfl (cs := pcs plainP none 0 none 0 none 0) (zs := pzs) ?hr rfl rfl info_prod ?hz (pcs_one _ _ _ _ _ _ _) ?_; (case hr => first | (go_simp; done) | (go_simp; rfl)); (case hz => rfl); intro g hg w1 hb1 hbl1; have gge := (show w.heap.size ≤ g by rw [hg]; exact HB.out.size); have HB := Aside0.mk (below_step HB.out hbl1); have GG := Aside0.mk hb1; clear hg hb1 hbl1; have u3 : w1.cell? ⟨g, 3, none⟩ = some (.int .i64 _) := (blk_cell GG.out 3).trans rfl; have f3 := frozen_of_row w1 g 3 _ _ GG.out)
    | ((with_reducible refine gate_store (t := 3) (p := 21) rfl ?_); refine put_event rfl (t := 3) (p := 21) (v := .tmp 20) rfl rfl (g := g) (i := 3) (cs := pcs plainP none 0 none 0 none 0) (cs' := pcs { plainP with kind := 3 } none 0 none 0 none 0) (x := .int .i64 3) ?hr GG.out ?hc ?_; (case hc => rfl); (case hr => go_simp); intro w2 hb8 hbut; have GG := Aside0.mk hb8; have HB := Aside0.mk (But.below HB.out HB.out.size gge hbut); clear hbut; clear hb8; have u5 : w2.cell? ⟨g, 5, none⟩ = some (.int .i64 _) := (blk_cell GG.out 5).trans rfl; have f5 := frozen_of_row w2 g 5 _ _ GG.out)
    | ((with_reducible refine gate_store (t := 3) (p := 27) rfl ?_); refine put_event rfl (t := 3) (p := 27) (v := .tmp 26) rfl rfl (g := g) (i := 5) (cs := pcs { plainP with kind := 3 } none 0 none 0 none 0) (cs' := pcs { plainP with kind := 3, times := (tn : Int) } none 0 none 0 none 0) (x := .int .i64 (tn : Int)) ?hr GG.out ?hc ?_; (case hc => rfl); (case hr => go_simp); intro w3 hb8 hbut; have GG := Aside0.mk hb8; have HB := Aside0.mk (But.below HB.out HB.out.size gge hbut); clear hbut; clear hb8; have u3 : w3.cell? ⟨g, 3, none⟩ = some (.int .i64 3) := (blk_cell GG.out 3).trans rfl; have f3 := frozen_of_row w3 g 3 _ _ GG.out; have u5 : w3.cell? ⟨g, 5, none⟩ = some (.int .i64 (tn : Int)) := (blk_cell GG.out 5).trans rfl; have f5 := frozen_of_row w3 g 5 _ _ GG.out; have u6 : w3.cell? ⟨g, 6, none⟩ = some (.int .i64 _) := (blk_cell GG.out 6).trans rfl; have f6 := frozen_of_row w3 g 6 _ _ GG.out; have u7 : w3.cell? ⟨g, 7, none⟩ = some (.int .i64 _) := (blk_cell GG.out 7).trans rfl; have f7 := frozen_of_row w3 g 7 _ _ GG.out)
    | ((with_reducible refine gate_store (t := 2) (p := 39) rfl ?_); refine put_event rfl (t := 2) (p := 39) (v := (.const (.int .i64 0))) rfl rfl (g := g) (i := 7) (cs := pcs { plainP with kind := 3, times := (tn : Int) } none 0 none 0 none 0) (cs' := pcs { plainP with kind := 3, times := (tn : Int), grace := 0, rate := 0 } none 0 none 0 none 0) (x := .int .i64 0) ?hr GG.out ?hc ?_; (case hc => rfl); (case hr => go_simp); intro w5 hb8 hbut; have GG := Aside0.mk hb8; have HB := Aside0.mk (But.below HB.out HB.out.size gge hbut); clear hbut; clear hb8; have u3 : w5.cell? ⟨g, 3, none⟩ = some (.int .i64 3) := (blk_cell GG.out 3).trans rfl; have f3 := frozen_of_row w5 g 3 _ _ GG.out; have u5 : w5.cell? ⟨g, 5, none⟩ = some (.int .i64 (tn : Int)) := (blk_cell GG.out 5).trans rfl; have f5 := frozen_of_row w5 g 5 _ _ GG.out; have u6 : w5.cell? ⟨g, 6, none⟩ = some (.int .i64 G) := (blk_cell GG.out 6).trans (congrArg (fun z => some (Value.int .i64 z)) HGZ.out); have f6 := frozen_of_row w5 g 6 _ _ GG.out)
    | ((with_reducible refine gate_dst (N := 46) rfl ?_); refine wpList_load_row rfl 27 (.tmp 9) rfl g rfl 27 _ (0, 0) _ GG.out Try.underlying27 rfl info_prod ?_)
    | (go_at_call 11; (with_reducible refine (OF.out _ HB.out).mono ?_); rintro e y1 ⟨gn, c, rfl, hle, hC, hb⟩; have HB := Aside0.mk (below_step HB.out hb); have GG := Aside0.mk (Pd.blk_below GG.out hb); have HC := Aside0.mk hC; clear u3 f3 u5 f5 u6 f6 hb hC; have u5 : y1.cell? ⟨g, 5, none⟩ = some (.int .i64 (tn : Int)) := (blk_cell GG.out 5).trans rfl; have f5 := frozen_of_row y1 g 5 _ _ GG.out)
    | (go_at_call 12; (with_reducible refine (AK.out _ HB.out).mono ?_); rintro e y2 ⟨rfl, hb⟩; have HB := Aside0.mk (below_step HB.out hb); have GG := Aside0.mk (Pd.blk_below GG.out hb); have HC := Aside0.mk (Kd.C_below HC.out hb); clear u5 f5 hb; have u3 : y2.cell? ⟨g, 3, none⟩ = some (.int .i64 3) := (blk_cell GG.out 3).trans rfl; have f3 := frozen_of_row y2 g 3 _ _ GG.out; have u5 : y2.cell? ⟨g, 5, none⟩ = some (.int .i64 (tn : Int)) := (blk_cell GG.out 5).trans rfl; have f5 := frozen_of_row y2 g 5 _ _ GG.out; have u6 : y2.cell? ⟨g, 6, none⟩ = some (.int .i64 G) := (blk_cell GG.out 6).trans (congrArg (fun z => some (Value.int .i64 z)) HGZ.out); have f6 := frozen_of_row y2 g 6 _ _ GG.out))
  go_loopg [13] (tm + 1) (fun gq iv w' => ∃ (k : Nat), k ≤ tm ∧ iv = .int .i64 (k : Int) ∧ Aside0 (gq = tm + 1 - k) ∧ Aside0 ((Kd.pair (Kd.int .i64) (Kd.pair (Kd.int .i64) (Kd.pair (Kd.int .i64) (Kd.int .i64)))).C w' (some ⟨gn, 0, none⟩) tn ls) ∧ Aside0 (w'.heap[g]? = some (.cells (pcs { plainP with kind := 3, times := (tn : Int), grace := 0, rate := 0 } none 0 none 0 none 0) 27 (0, 0))) ∧ Aside0 (Below w.heap.size w w'))
  case atStart => exact ⟨0, by omega, rfl, ⟨rfl⟩, HC, GG, HB⟩
  case round =>
    obtain ⟨k, kn, rfl, hgq, HC, GG, HB⟩ := hrel
    have u5 : wr.cell? ⟨g, 5, none⟩ = some (.int .i64 (tn : Int)) := (blk_cell GG.out 5).trans rfl
    have f5 := frozen_of_row wr g 5 _ _ GG.out
    have u6 : wr.cell? ⟨g, 6, none⟩ = some (.int .i64 G) := (blk_cell GG.out 6).trans (congrArg (fun z => some (Value.int .i64 z)) HGZ.out)
    have f6 := frozen_of_row wr g 6 _ _ GG.out
    have hkl : k < ls.length := by have := LL.out; have := HTM.out; omega
    obtain ⟨x, hx⟩ : ∃ x, ls[k]? = some x := ⟨_, List.getElem?_eq_getElem hkl⟩
    obtain ⟨-, x1, x2, -⟩ := lines_cells HC.out LL.out.symm hx
    obtain ⟨y1_, y2_, y3_, y4_⟩ := AT.out k x hx
    rw [y1_] at x2
    have hkt : (k : Int) < (tn : Int) := by have := HTM.out; omega
    by_cases hlt : (k : Int) < (tm : Int)
    · by_cases hlg : (k : Int) < G
      · rw [y2_ hlg] at x1
        clear y1_ y2_ y3_ y4_ hx hkl
        go_wp2_with fail
        go_roundg (tm + 1 - (k + 1))
        case measure => have := hgq.out; omega
        case rel => exact ⟨k + 1, by omega, by simp, ⟨rfl⟩, ⟨HC.out⟩, ⟨GG.out⟩, ⟨by first | exact HB.out | exact Below.drew HB.out | exact pw_below_drewN HB.out _⟩⟩
      · rw [y3_ (by omega) (by have := HTM.out; omega)] at x1
        clear y1_ y2_ y3_ y4_ hx hkl
        go_wp2_with fail
        go_roundg (tm + 1 - (k + 1))
        case measure => have := hgq.out; omega
        case rel => exact ⟨k + 1, by omega, by simp, ⟨rfl⟩, ⟨HC.out⟩, ⟨GG.out⟩, ⟨by first | exact HB.out | exact Below.drew HB.out | exact pw_below_drewN HB.out _⟩⟩
    · obtain rfl : k = tm := by omega
      rw [y4_ (by have := HTM.out; omega), HF.out] at x1
      clear y1_ y2_ y3_ y4_ hx hkl
      go_wp2_with fail
      go_quiet (fail)
      go_wp2_with fail
      go_ret
      exact ⟨rfl, by first | exact HB.out | exact Below.drew HB.out | exact pw_below_drewN HB.out _⟩
theorem scheduleEqual_walk (a0 a1 a2 a3 : Int) (w : World) (w0 : (Lit.int .i64 a0).wf = true) (w1 : (Lit.int .i64 a1).wf = true) (w2 : (Lit.int .i64 a2).wf = true) (w3 : (Lit.int .i64 a3).wf = true) (hg : GV w) : Calls Try.prog 4 #[.int .i64 a0, .int .i64 a1, .int .i64 a2, .int .i64 a3] w fun e w' => e = .returned (.bool true) ∧ Below w.heap.size w w' := by
  have h := U_bd a3 (m := 2) (by omega)
  rcases (by omega : U a3 2 = 0 ∨ U a3 2 = 1) with h | h
  · exact sequal_2 a0 a1 a2 a3 w hg h
  · exact sequal_3 a0 a1 a2 a3 w hg h
end Go.Proofs.Ytfmkdledofbhdaa.Sc
