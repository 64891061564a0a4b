/- Texts of this claim, joined in build order. -/
import Derived.Below
import Derived.Deep.Draws
import Derived.Deep.AppendLies
import Derived.Maps.AppendAt
import Derived.OwnWalk
import Derived.Laws.BytesArg
import Derived.Laws.MakeOwn
import Derived.Laws.OwnMore
import Derived.Tactics
import Derived.Lib.ConvBytes
import Derived.Laws.Slices
import Derived.WalkKit
import Derived.KernelRfl
import Derived.RowKit3
import Derived.Deep.LoopGhost
import Derived.Deep.QuietTactic
import Derived.BigQuiet
import Derived.WideLaws
import Derived.Deep.DeepCutAuto
import Derived.Deep.CutBlock
import Derived.Deep.RegionHeld3
import Derived.Lib.AppendStr
import Derived.ArgAppend
import Derived.Laws.IdiomCopy
import Derived.RowKit
import Derived.OrdersHeld
import Derived.Laws.BitsLemmas
import Derived.Test.YtfmkdledofbhdaaProg
import Derived.Laws.StructEq
import Derived.WalkLawsBesides
import Derived.WalkSpells
import Derived.IntWalk
import Derived.Lib.IndexMore
import Derived.Deep.Slices
import Derived.Deep.Fields
import Derived.ChangeSame
import Derived.Lib.SmallJoins
import Derived.ProofKit
import Derived.Defers
import Derived.Laws.Tables
import Derived.Deep.WholeRow
import Derived.Recover
import Derived.StillTailTactics
import Derived.Shelf.Small.Bits
import Derived.Shelf.Strconv.Itoa0
import Derived.Shelf.Strings.Search1
import Derived.Shelf.Strings.Search2
import Derived.Shelf.Strings.Search3
import Derived.Shelf.LaysM
import Derived.Shelf.Strings.Shaped
import Derived.Shelf.Bits.Mul64
import Derived.Lib.SlBytesConst
import Derived.Deep.RegionWith
import Derived.Lib.Hide
import Derived.BigFrame
import Derived.Lib.BitFns
import Derived.Laws.BitsAllLaws
import Derived.Laws.Externs
import Derived.RegionTactic
import Derived.Deep.MidRow
import Derived.OpenShut
import Derived.ShutString
import Derived.ChangeOld
import Derived.Laws.IdiomArrays
import Derived.SizedLaws
import Derived.HandedShaped
import Derived.Shelf.Vars
import Derived.Test.YtfmkdledofbhdaaJR1
import Derived.Test.YtfmkdledofbhdaaJR2
import Derived.Test.YtfmkdledofbhdaaJR3
import Derived.Test.YtfmkdledofbhdaaJR4
import Derived.Test.YtfmkdledofbhdaaJR5
import Derived.Test.YtfmkdledofbhdaaJR6
set_option linter.unusedVariables false
set_option linter.unusedSimpArgs false
/- Contracts by hand: schedule.Of. -/
namespace Go.Proofs.Ytfmkdledofbhdaa.Sc
open Go.RowKit Go.Proofs.YtfmkdledofbhdaaW.PrintWords Go.Proofs.YtfmkdledofbhdaaW.PrintLast Go.Proofs.YtfmkdledofbhdaaW.PrintMore Go.Proofs.Ytfmkdledofbhdaa.HW
open Go.Proofs.Ytfmkdledofbhdaa.Math Go.Proofs.Ytfmkdledofbhdaa.H Go.Proofs.Ytfmkdledofbhdaa.Pd Go.Proofs.Ytfmkdledofbhdaa.Du Go.Proofs.Ytfmkdledofbhdaa.Lv Pm
set_option linter.unusedVariables false
set_option linter.unusedSimpArgs false
attribute [local go_sem] max2_int min2_int max_two min_two

theorem built_maker (p : Prod) (A1 : Option Addr) (c1 : Nat) (A2 : Option Addr) (c2 : Nat) (A3 : Option Addr) (c3 : Nat) (m : Int) : Try.prog.built 63 [(0, .agg (pcs p A1 c1 A2 c2 A3 c3)), (1, .int .i64 m), (3, .int .i64 m)] = some (mcs p A1 c1 A2 c2 A3 c3 m 0 m (.pointer none)) := by kernel_rfl
theorem Blk.readsL {w : World} {g : Nat} {e : TypeId} {l : List Int} {t : List Value} (h : H.Blk w g e (nums .i64 l ++ t)) (hm : l.length ≤ 1000000) : Kd.C (Kd.int .i64) w (some ⟨g, 0, none⟩) l.length l := Blk.reads h (by omega)
theorem info_lineb : (Try.prog.info? 36).map (fun i => (i.zero, i.size, i.bytes)) = some (some (.agg #[.int .i64 0, .int .i64 0, .int .i64 0, .int .i64 0]), 4, 32) := by kernel_rfl
theorem line_M {w : World} {base : Nat} {ok : Nat → Prop} (a b c d : Int) : (Kd.pair (Kd.int .i64) (Kd.pair (Kd.int .i64) (Kd.pair (Kd.int .i64) (Kd.int .i64)))).M w base ok (a, b, c, d) [.int .i64 a, .int .i64 b, .int .i64 c, .int .i64 d] :=
  ⟨[_], _, rfl, rfl, [_], _, rfl, rfl, [_], _, rfl, rfl, rfl⟩
theorem But2.toBelow {a b : Nat} {w w1 w2 : World} (h : Below w.heap.size w w1) (hb : But2 a b w1 w2) (ha : w.heap.size ≤ a) (hc : w.heap.size ≤ b) : Below w.heap.size w w2 :=
  ⟨hb.os.trans h.os, hb.tape.trans h.tape, hb.output.trans h.output, Nat.le_trans h.size hb.size, fun k hk => (hb.block k (Nat.lt_of_lt_of_le hk h.size) (by omega) (by omega)).trans (h.block k hk)⟩
theorem _root_.Go.Proofs.Ytfmkdledofbhdaa.H.BearAt.same {w w1 : World} {g : Nat} {W h rest : Int} (H : BearAt w g W h rest) (hb : w1.heap[g]? = w.heap[g]?) (hs : w.heap.size ≤ w1.heap.size) : BearAt w1 g W h rest :=
  ⟨(World.cell?_of_block (a := ⟨g, 0, none⟩) hb).trans H.c0, (World.cell?_of_block (a := ⟨g, 1, none⟩) hb).trans H.c1, (World.cell?_of_block (a := ⟨g, 2, none⟩) hb).trans H.c2, (World.frozen?_of_block (a := ⟨g, 2, none⟩) hb).trans H.f2, Nat.lt_of_lt_of_le H.lt hs⟩
theorem zip_drop {xs ys : List Int} {k : Nat} (h : k < xs.length) (h2 : ys.length = xs.length) : (xs.zip ys).drop k = (rd xs (k : Int), rd ys (k : Int)) :: (xs.zip ys).drop (k + 1) := by
  rw [List.drop_eq_getElem_cons (by rw [List.length_zip]; omega), List.getElem_zip]
  simp [rd, h, show k < ys.length by omega]
theorem inst_bd {p : Prod} {ys : List Int} {m inst : Int} (h : ofE p ys m = (inst, 0)) : 1 ≤ inst ∧ inst ≤ 1000000000000000 := by
  have ha : askE p ys m = 0 := by
    rcases Decidable.em (askE p ys m = 0) with e | e
    · exact e
    · unfold ofE at h
      rw [if_pos e] at h
      exact absurd (congrArg Prod.snd h) e
  obtain ⟨hm, hz⟩ := lf_mono ha
  have hn : ¬ askE p ys m ≠ 0 := by rw [ha]; decide
  unfold ofE at h
  rw [if_neg hn] at h
  by_cases h2 : 0 < lf p ys m 1000000000000000
  · rw [if_pos h2] at h
    exact absurd (congrArg Prod.snd h) (fun e => by simp at e)
  · rw [if_neg h2] at h
    have L := srch_least (lf p ys m) 50 0 1000000000000000 (by decide) (by decide) (by decide) (by decide) hz (by omega)
    have e := congrArg Prod.fst h
    simp only [] at e
    rw [e] at L
    exact ⟨L.v1, L.vm⟩
def ListedL1 (l : List Int) (w : World) (e : Ending) (w' : World) : Prop := ∃ g c t, e = .returned (.tuple #[.slice (some ⟨g, 0, none⟩) l.length c, .int .i64 0]) ∧ w.heap.size ≤ g ∧ l.length ≤ c ∧ H.Blk w' g 2 (nums .i64 l ++ t) ∧ Below w.heap.size w w'
theorem listed_one {l : List Int} {w w' : World} {e : Ending} (h : ListedL (l, 0) w e w') (hl : l ≠ []) : ListedL1 l w e w' := by
  obtain ⟨v, he, hr, hb⟩ := h
  rcases hr with ⟨-, h⟩ | ⟨g, c, t, rfl, hg, hc, hk⟩
  · exact absurd h hl
  · exact ⟨g, c, t, he, hg, hc, hk, hb⟩
/-- What Of gives. -/
def Sched (r : List Ln × Int) (w : World) (e : Ending) (w' : World) : Prop := ∃ A c, e = .returned (.tuple #[.slice A r.1.length c, .int .i64 r.2]) ∧ Kd.R (Kd.pair (Kd.int .i64) (Kd.pair (Kd.int .i64) (Kd.pair (Kd.int .i64) (Kd.int .i64)))) 36 w' w.heap.size (fun _ => True) (.slice A r.1.length c) r.1 ∧ Below w.heap.size w w'
set_option maxRecDepth 100000 in
set_option maxHeartbeats 20000000 in
theorem sched_one (p : Prod) (A1 : Option Addr) (c1 : Nat) (A2 : Option Addr) (c2 : Nat) (A3 : Option Addr) (c3 : Nat) (start m inst : Int) (w : World) (hg : GV w) (hp : ProdAt w p A1 c1 A2 c2 A3 c3) (hs : Small p) (xs ys : List Int) (hd : daysP p start = (xs, 0)) (hpx : partsP p start = (ys, 0)) (hxl : xs.length ≤ 600) (m0 : 1 ≤ m) (m1 : m ≤ 10000000000000) (hi : p.kind = 1 ∧ ofE p ys m = (inst, 0)) :
    Calls Try.prog 11 #[pv p A1 c1 A2 c2 A3 c3, .int .i64 start, .int .i64 m] w (Sched (linesP p start m inst) w) := by
  obtain ⟨ho, hs0, hds, hl, t1, t2, hr, -⟩ := days_known hd
  have hyl : ys.length = xs.length := by
    have := hpx
    unfold partsP at this
    rw [hd, if_pos rfl] at this
    obtain ⟨rfl, -⟩ := Prod.mk.inj this
    exact rparts_len _ _ _
  have hJ : linesP p start m inst = join [] (lines p (Gm.whole p.count) (Gm.half p.count p.round) m inst 0 (xs.zip ys) m 0) := by
    unfold linesP
    rw [hd, hpx]
    exact (join_nil _ (lines_err _ _ _ _ _ _ _ _ _)).symm
  obtain ⟨⟨⟨⟨⟨_, a2, a3, a4, a5, a6, a7, a8⟩, ⟨b1, b2, b3⟩, b4⟩, c⟩, d_⟩, e_⟩ := (ok_iff p).1 ho
  have hne : xs ≠ [] := fun e => by rw [e] at hl; simp at hl; omega
  have hne2 : ys ≠ [] := fun e => by rw [e] at hyl; simp at hyl; exact hne (List.eq_nil_of_length_eq_zero hyl.symm)
  have ib : 0 ≤ inst ∧ inst ≤ 1000000000000000 := by
    have := inst_bd hi.2; omega
  have MM := Aside0.mk (show Mid p m 0 m from ⟨by omega, by omega, fun _ _ => by rw [show max 0 (0 - p.grace) = 0 by omega]; omega⟩)
  have GN := good_new p.count p.round
  have NW := Aside0.mk (fun U => bnew_any (c := p.count) (r := p.round) (by omega) a3 U)
  have DA := Aside0.mk (fun W (hb : Below w.heap.size w W) => show Calls Try.prog 16 #[pv p A1 c1 A2 c2 A3 c3, .int .i64 start] W (Listed1 xs W) from (days_any p A1 c1 A2 c2 A3 c3 start W (hg.below hb) (hp.below hb) hs).mono fun e w' h => by rw [hd] at h; exact h.one hne)
  have PA := Aside0.mk (fun W (hb : Below w.heap.size w W) => show Calls Try.prog 18 #[pv p A1 c1 A2 c2 A3 c3, .int .i64 start] W (ListedL1 ys W) from (parts_any p A1 c1 A2 c2 A3 c3 start W (hg.below hb) (hp.below hb) hs).mono fun e w' h => by rw [hpx] at h; exact listed_one h hne2)
  have OF := Aside0.mk (fun (A : Option Addr) (c : Nat) (W : World) (hb : Below w.heap.size w W) (hc : Kd.C (Kd.int .i64) W A ys.length ys) => show Calls Try.prog 26 #[pv p A1 c1 A2 c2 A3 c3, .slice A ys.length c, .int .i64 m] W (Two (inst, 0) W) from by have := Of_any p A1 c1 A2 c2 A3 c3 A ys c m W (hg.below hb) (hp.below hb) hs hc (by omega); rw [hi.2] at this; exact this)
  obtain ⟨R, hR⟩ : ∃ R, linesP p start m inst = R := ⟨_, rfl⟩
  rw [hR] at hJ ⊢
  obtain ⟨Wh, hWh⟩ : ∃ y, Gm.whole p.count = y := ⟨_, rfl⟩
  obtain ⟨Hf, hHf⟩ : ∃ y, Gm.half p.count p.round = y := ⟨_, rfl⟩
  rw [hWh, hHf] at GN hJ
  have HWh := Aside0.mk hWh
  have HHf := Aside0.mk hHf
  have GN := Aside0.mk GN
  have HJ := Aside0.mk hJ
  have KD := Aside0.mk a4
  have kk : (p.kind == 1) = true := by simpa using hi.1
  have HYL := Aside0.mk hyl
  have T2 := Aside0.mk t2
  have HLT := Aside0.mk hl
  have G0 := Aside0.mk a7
  clear hg hp hs hd hpx hJ hR hWh hHf ho hs0 hds hr a2 a3 a4 a5 a6 a8 b1 b2 b3 b4 c d_ e_ hne hne2 hi hyl hl t2 a7
  go_enter Try.func11, Try.ntmps11
  go_wp2_with (first
    | ((with_reducible refine gate_dst (N := 3) rfl ?_); refine box_event ?hg (N := 3) ?hd (cs := pcs p A1 c1 A2 c2 A3 c3) (t := 27) ?hr ?_; (case hd => rfl); (case hg => rfl); (case hr => first | (go_simp; done) | (go_simp; rfl)); intro g hg w1 hb1 hbl1; have gge := (show w.heap.size ≤ g by rw [hg]; exact Nat.le_refl _); clear hg; have GG := Aside0.mk hb1; have HB := Aside0.mk hbl1; clear hb1 hbl1)
    | ((with_reducible refine gate_dst (N := 20) rfl ?_); refine wpList_load_row rfl 27 (.tmp 3) rfl g rfl 27 _ (0, 0) _ GG.out Try.underlying27 rfl info_prod ?_)
    | (go_at_call 16; (with_reducible refine (DA.out _ HB.out).mono ?_); rintro e w2 ⟨gl, cl, tl, rfl, gle, lc, hbk, hb⟩; have BL := Aside0.mk hbk; have glge := Nat.le_trans HB.out.size gle; have HB := Aside0.mk (below_step HB.out hb); have GG := Aside0.mk (Pd.blk_below GG.out hb); clear hb hbk)
    | ((with_reducible refine gate_dst (N := 35) rfl ?_); refine wpList_load_row rfl 27 (.tmp 3) rfl g rfl 27 _ (0, 0) _ GG.out Try.underlying27 rfl info_prod ?_)
    | (go_at_call 18; (with_reducible refine (PA.out _ HB.out).mono ?_); rintro e w3 ⟨gx, cx, tx, rfl, gxe, xc, hbk, hb⟩; have BX := Aside0.mk hbk; have gxge := Nat.le_trans HB.out.size gxe; have BL := Aside0.mk (Blk.below BL.out hb); have HB := Aside0.mk (below_step HB.out hb); have GG := Aside0.mk (Pd.blk_below GG.out hb); clear hb hbk)
    | ((with_reducible refine gate_dst (N := 40) rfl ?_); refine wpList_load_row rfl 27 (.tmp 3) rfl g rfl 27 _ (0, 0) _ GG.out Try.underlying27 rfl info_prod ?_)
    | ((with_reducible refine gate_dst (N := 43) rfl ?_); refine build_event rfl (t := 63) rfl (cs := mcs p A1 c1 A2 c2 A3 c3 m 0 m (.pointer none)) ?hb ?_; (case hb => simp only [List.map_toArray, List.map_cons, List.map_nil]; exact built_maker p A1 c1 A2 c2 A3 c3 m))
    | ((with_reducible refine gate_dst (N := 44) rfl ?_); refine box_event ?hg (N := 44) ?hd (cs := mcs p A1 c1 A2 c2 A3 c3 m 0 m (.pointer none)) (t := 63) ?hr ?_; (case hd => rfl); (case hg => rfl); (case hr => first | (go_simp; done) | (go_simp; rfl)); intro gm hgm w4 hb1 hb; have gmge := (show w.heap.size ≤ gm by rw [hgm]; exact HB.out.size); have gmx := (show gx ≠ gm by have := Blk.lt BX.out; omega); have gml := (show gl ≠ gm by have := Blk.lt BL.out; omega); have gmg := (show g ≠ gm by have := blk_lt GG.out; omega); clear hgm; have GM := Aside0.mk hb1; have BL := Aside0.mk (Blk.below BL.out hb); have BX := Aside0.mk (Blk.below BX.out hb); have HB := Aside0.mk (below_step HB.out hb); have GG := Aside0.mk (Pd.blk_below GG.out hb); clear hb1 hb; have v20 := (show w4.cell? ⟨gm, 20, none⟩ = some (.int .i64 0) from (blk_cell GM.out 20).trans rfl); have f20 := frozen_of_row w4 gm 20 _ _ GM.out; have v22 := (show w4.cell? ⟨gm, 22, none⟩ = some (.pointer none) from (blk_cell GM.out 22).trans rfl); have f22 := frozen_of_row w4 gm 22 _ _ GM.out; obtain ⟨-, u1, u2, u3, -⟩ := pc_cells GG.out)
    | ((with_reducible refine gate_dst (N := 50) rfl ?_); refine wpList_load_row rfl 27 (.tmp 3) rfl g rfl 27 _ (0, 0) _ GG.out Try.underlying27 rfl info_prod ?_)
    | (go_at_call 26; (with_reducible refine (OF.out _ _ _ HB.out (Blk.readsL BX.out (by have := HYL.out; omega))).mono ?_); rintro e w5 ⟨rfl, hb⟩; have BL := Aside0.mk (Blk.below BL.out hb); have BX := Aside0.mk (Blk.below BX.out hb); have GM := Aside0.mk (Pd.blk_below GM.out hb); have HB := Aside0.mk (below_step HB.out hb); have GG := Aside0.mk (Pd.blk_below GG.out hb); clear hb v20 f20 v22 f22 u1 u2 u3; have v20 := (show w5.cell? ⟨gm, 20, none⟩ = some (.int .i64 0) from (blk_cell GM.out 20).trans rfl); have f20 := frozen_of_row w5 gm 20 _ _ GM.out)
    | ((with_reducible refine gate_store (t := 2) (p := 57) rfl ?_); refine put_event rfl (t := 2) (p := 57) (v := .tmp 54) rfl rfl (g := gm) (i := 20) (cs := mcs p A1 c1 A2 c2 A3 c3 m 0 m (.pointer none)) (cs' := mcs p A1 c1 A2 c2 A3 c3 m inst m (.pointer none)) (x := .int .i64 inst) ?hr GM.out ?hc ?_; (case hc => rfl); (case hr => go_simp); intro w6 hb8 hbut; have GM := Aside0.mk hb8; have BL := Aside0.mk (Blk.but BL.out hbut gml); have BX := Aside0.mk (Blk.but BX.out hbut gmx); have GG := Aside0.mk ((hbut.block g (blk_lt GG.out) gmg).trans GG.out); have HB := Aside0.mk (But.below HB.out HB.out.size gmge hbut); clear hb8 hbut; have v22 := (show w6.cell? ⟨gm, 22, none⟩ = some (.pointer none) from (blk_cell GM.out 22).trans rfl); have f22 := frozen_of_row w6 gm 22 _ _ GM.out; obtain ⟨-, u1, u2, u3, -⟩ := pc_cells GG.out)
    | (go_at_call 30; (with_reducible refine (NW.out _).mono ?_); rintro e w7 ⟨hb, gb, hgb, rfl, hba⟩; rw [HWh.out, HHf.out] at hba; have gbge := Nat.le_trans HB.out.size hgb; have gbm := (show gm ≠ gb by have := blk_lt GM.out; omega); have gbl := (show gl ≠ gb by have := Blk.lt BL.out; omega); have gbx := (show gx ≠ gb by have := Blk.lt BX.out; omega); have gbg := (show g ≠ gb by have := blk_lt GG.out; omega); have BA := Aside0.mk hba; have BL := Aside0.mk (Blk.below BL.out hb); have BX := Aside0.mk (Blk.below BX.out hb); have GM := Aside0.mk (Pd.blk_below GM.out hb); have HB := Aside0.mk (below_step HB.out hb); have GG := Aside0.mk (Pd.blk_below GG.out hb); clear hb hba hgb v22 f22 u1 u2 u3; have v22 := (show w7.cell? ⟨gm, 22, none⟩ = some (.pointer none) from (blk_cell GM.out 22).trans rfl); have f22 := frozen_of_row w7 gm 22 _ _ GM.out)
    | ((with_reducible refine gate_store (t := 61) (p := 71) rfl ?_); refine put_event rfl (t := 61) (p := 71) (v := .tmp 68) rfl rfl (g := gm) (i := 22) (cs := mcs p A1 c1 A2 c2 A3 c3 m inst m (.pointer none)) (cs' := mcs p A1 c1 A2 c2 A3 c3 m inst m (.pointer (some ⟨gb, 0, none⟩))) (x := .pointer (some ⟨gb, 0, none⟩)) ?hr GM.out ?hc ?_; (case hc => rfl); (case hr => go_simp); intro w8 hb8 hbut; have GM := Aside0.mk hb8; have BA := Aside0.mk (BA.out.but hbut (Ne.symm gbm)); have BL := Aside0.mk (Blk.but BL.out hbut gml); have BX := Aside0.mk (Blk.but BX.out hbut gmx); have GG := Aside0.mk ((hbut.block g (blk_lt GG.out) gmg).trans GG.out); have HB := Aside0.mk (But.below HB.out HB.out.size gmge hbut); clear hb8 hbut v22 f22))
  clear kk
  have HGE := Aside0.mk (show 0 ≤ p.grace ∧ p.grace < p.times by have := G0.out; omega)
  have HZD := Aside0.mk (List.length_zip (l₁ := xs) (l₂ := ys))
  go_loopg [14, 76] (xs.length + 1) (fun gq ov iv w' => ∃ (k : Nat) (left rest : Int) (Ax : Option Addr) (cw : Nat) (ls : List Ln), k ≤ xs.length ∧ iv = .int .i64 (k : Int) ∧ ov = .slice Ax ls.length cw ∧ Aside0 (ls.length = k) ∧ Aside0 (gq = xs.length + 1 - k) ∧ Aside0 (R = join ls (lines p Wh Hf m inst (k : Int) ((xs.zip ys).drop k) left rest)) ∧ Aside0 (Mid p m (k : Int) left) ∧ Aside0 (H.Good Wh Hf rest) ∧ Aside0 (w'.heap[gm]? = some (.cells (mcs p A1 c1 A2 c2 A3 c3 m inst left (.pointer (some ⟨gb, 0, none⟩))) 63 (0, 0))) ∧ Aside0 (BearAt w' gb Wh Hf rest) ∧ Aside0 (Kd.R (Kd.pair (Kd.int .i64) (Kd.pair (Kd.int .i64) (Kd.pair (Kd.int .i64) (Kd.int .i64)))) 36 w' w.heap.size (fun b => b ≠ g ∧ b ≠ gl ∧ b ≠ gx ∧ b ≠ gm ∧ b ≠ gb) (.slice Ax ls.length cw) ls) ∧ Aside0 (H.Blk w' gl 3 (nums .i64 xs ++ tl)) ∧ Aside0 (H.Blk w' gx 2 (nums .i64 ys ++ tx)) ∧ Aside0 (w'.heap[g]? = some (.cells (pcs p A1 c1 A2 c2 A3 c3) 27 (0, 0))) ∧ Aside0 (Below w.heap.size w w'))
  case atStart => exact ⟨0, m, 0, none, 0, [], by omega, rfl, rfl, ⟨rfl⟩, ⟨rfl⟩, ⟨by rw [List.drop_zero]; exact HJ.out⟩, MM, GN, GM, BA, ⟨Kd.R_nil _ _ _ _ _⟩, BL, BX, GG, HB⟩
  case round =>
    obtain ⟨k, left, rest, Ax, cw, ls, hk, rfl, rfl, hlen, hgq, HJ, MM, GN, GM, BA, HO, BL, BX, GG, HB⟩ := hrel
    by_cases hlt : k < xs.length
    · obtain ⟨d, hdd⟩ : ∃ d, rd xs (k : Int) = d := ⟨_, rfl⟩
      obtain ⟨n, hnn⟩ : ∃ n, rd ys (k : Int) = n := ⟨_, rfl⟩
      have hcl : wr.cell? ⟨gl, k, none⟩ = some (.int .i64 d) := (BL.out.cell k).trans (by rw [List.getElem?_append_left (by simp [nums]; omega), ← hdd]; simp [nums, rd, hlt])
      have hkl : k < ys.length := by have := HYL.out; omega
      have hcx : wr.cell? ⟨gx, k, none⟩ = some (.int .i64 n) := (BX.out.cell k).trans (by rw [List.getElem?_append_left (by simp [nums]; omega), ← hnn]; simp [nums, rd, hkl])
      have hkx : (k : Int) < (xs.length : Int) := by omega
      have hky : (k : Int) < (ys.length : Int) := by omega
      obtain ⟨z, hz⟩ : ∃ z, Gm.bear Wh Hf rest left p.rate n = z := ⟨_, rfl⟩
      have hj := HJ.out
      rw [zip_drop hlt HYL.out, hdd, hnn, lines_cons hz] at hj
      have ge := HGE.out
      have kt : (k : Int) < p.times := by have := HLT.out; omega
      have LA := line_any p A1 c1 A2 c2 A3 c3 m inst left Wh Hf rest n (k : Int) d gm gb wr z hz BA.out GN.out GM.out gbm MM.out ge.1 ge.2 T2.out (by omega) kt (by omega) m1 ib.1 ib.2 (by have := KD.out; omega)
      obtain ⟨p1, p2, p3⟩ := prin_bd (inst := inst) (v := z.1) MM.out (by omega) ge.1 ge.2 (by omega) kt
      have G2 := good_bear (bal := left) (rate := p.rate) (n := n) GN.out
      rw [hz] at G2
      by_cases he : lerr p m inst (k : Int) left z = 0
      · rw [if_neg (by simpa using he)] at hj
        have pz := (lerr_zero he).2.1
        have M2 := p3 pz
        obtain ⟨z1, z2, z3⟩ := z
        obtain ⟨pr, hpr⟩ : ∃ x, prin p m inst (k : Int) z1 left = x := ⟨_, rfl⟩
        simp only [] at hj M2 G2
        rw [hpr] at hj M2
        have LN := Aside0.mk (show Calls Try.prog 31 #[.pointer (some ⟨gm, 0, none⟩), .int .i64 (k : Int), .int .i64 d, .int .i64 n] wr fun e w' => e = .returned (.tuple #[.agg #[.int .i64 d, .int .i64 pr, .int .i64 z1, .int .i64 (left - pr)], .int .i64 0]) ∧ But2 gm gb wr w' ∧ w'.heap[gm]? = some (.cells (mcs p A1 c1 A2 c2 A3 c3 m inst (left - pr) (.pointer (some ⟨gb, 0, none⟩))) 63 (0, 0)) ∧ BearAt w' gb Wh Hf z3 from LA.mono fun e w' h => by
          obtain ⟨hbt, v, rfl, h1, h2⟩ := h
          obtain ⟨rfl, h3, h4⟩ := h1 he
          simp only [] at h3
          rw [hpr] at h3
          rw [he]
          simp only []
          rw [hpr]
          exact ⟨rfl, hbt, h3, h4⟩)
        have HJ2 := Aside0.mk hj
        have MM2 := Aside0.mk M2
        have GN2 := Aside0.mk G2
        have HPR := Aside0.mk hpr
        clear hj LA p1 p2 p3 M2 G2 pz hz hpr he hdd hnn ge HJ MM kt
        go_wp2_with (first
          | (go_at_call 31; (with_reducible refine LN.out.mono ?_); rintro e w10 ⟨rfl, hbt, hgm, hba⟩; have GM := Aside0.mk hgm; have BA := Aside0.mk hba; have HO := Aside0.mk (Kd.R_step HO.out (fun b hb hlt => hbt.block b hlt hb.2.2.2.1 hb.2.2.2.2)); have BL := Aside0.mk (BL.out.same (hbt.block gl (Blk.lt BL.out) gml gbl)); have BX := Aside0.mk (BX.out.same (hbt.block gx (Blk.lt BX.out) gmx gbx)); have GG := Aside0.mk ((hbt.block g (blk_lt GG.out) gmg gbg).trans GG.out); have HB := Aside0.mk (But2.toBelow HB.out hbt gmge gbge); clear hbt hgm hba)
          | ((with_reducible refine gate_dst (N := 17) rfl ?_); refine copy_event rfl (N := 17) rfl rfl rfl (t := 36) (v := .tmp 90) rfl (cs := #[.int .i64 d, .int .i64 pr, .int .i64 z1, .int .i64 (left - pr)]) (zs := #[.int .i64 0, .int .i64 0, .int .i64 0, .int .i64 0]) ?hr rfl rfl info_line ?hz (line_one _ _ _ _) ?_; (case hr => first | (go_simp; done) | (go_simp; rfl)); (case hz => rfl); intro gt hgt w11 hb1 hb; have GT := Aside0.mk hb1; have HO := Aside0.mk (Kd.R_below HO.out hb); have BA := Aside0.mk (BA.out.below hb); have BL := Aside0.mk (Blk.below BL.out hb); have BX := Aside0.mk (Blk.below BX.out hb); have GM := Aside0.mk (Pd.blk_below GM.out hb); have HB := Aside0.mk (below_step HB.out hb); have GG := Aside0.mk (Pd.blk_below GG.out hb); clear hgt hb1 hb)
          | ((with_reducible refine gate_dst (N := 96) rfl ?_); refine wpList_load_row rfl 36 (.tmp 17) rfl gt rfl 36 _ (0, 0) _ GT.out Try.underlying36 rfl info_line ?_)
          | ((with_reducible refine gate_builtin (b := .append) (xs := #[.tmp 95, .tmp 97]) rfl ?_); at_builtin; refine Kd.R_append (Kd.pair (Kd.int .i64) (Kd.pair (Kd.int .i64) (Kd.pair (Kd.int .i64) (Kd.int .i64)))) (w0 := w) w.heap.size rfl (.tmp 95) (.tmp 97) 30 36 (.agg #[.int .i64 0, .int .i64 0, .int .i64 0, .int .i64 0]) 32 rfl Try.underlying30 info_lineb rfl (by decide) (by decide) (.slice Ax ls.length cw) ls (d, pr, z1, left - pr) [.int .i64 d, .int .i64 pr, .int .i64 z1, .int .i64 (left - pr)] (fun b => b ≠ g ∧ b ≠ gl ∧ b ≠ gx ∧ b ≠ gm ∧ b ≠ gb) (fun _ => False) rfl rfl ?aP (fun _ hk => hk.elim) ?aF ?aO ?aB ?aS ?aL ?_; (case aP => exact line_M d pr z1 (left - pr)); (case aF => exact fun b hb => ⟨(by have := blk_lt GG.out; omega), (by have := Blk.lt BL.out; omega), (by have := Blk.lt BX.out; omega), (by have := blk_lt GM.out; omega), (by have := BA.out.lt; omega)⟩); (case aO => exact HO.out); (case aB => exact HB.out); (case aS => exact HB.out.size); (case aL => have := hlen.out; omega); intro v1 w12 hr1 hb1 hg1 hat1; obtain ⟨l2, hl2⟩ : ∃ l2, l2 = ls ++ [(d, pr, z1, left - pr)] := ⟨_, rfl⟩; rw [← hl2] at hr1; obtain ⟨An, cn, rfl⟩ := Kd.R_slice hr1; have L2 := Aside0.mk hl2; have R1 := Aside0.mk hr1; have BL := Aside0.mk (BL.out.same (hg1.block gl (Blk.lt BL.out) (fun e => (HO.out.1 gl e.symm).2.1 rfl))); have BX := Aside0.mk (BX.out.same (hg1.block gx (Blk.lt BX.out) (fun e => (HO.out.1 gx e.symm).2.2.1 rfl))); have GM := Aside0.mk ((hg1.block gm (blk_lt GM.out) (fun e => (HO.out.1 gm e.symm).2.2.2.1 rfl)).trans GM.out); have BA := Aside0.mk (BA.out.same (hg1.block gb BA.out.lt (fun e => (HO.out.1 gb e.symm).2.2.2.2 rfl)) hg1.size); have GG := Aside0.mk ((hg1.block g (blk_lt GG.out) (fun e => (HO.out.1 g e.symm).1 rfl)).trans GG.out); have HB := Aside0.mk hb1; clear hl2 hr1 hb1 hg1 hat1))
        have L3 := Aside0.mk (show l2.length = k + 1 by rw [L2.out, List.length_append, hlen.out]; rfl)
        go_roundg (xs.length + 1 - (k + 1))
        case measure => have := hgq.out; omega
        case rel => exact ⟨k + 1, left - pr, z3, An, cn, l2, by omega, by simp, rfl, L3, ⟨rfl⟩, ⟨by rw [HJ2.out, L2.out]; rfl⟩, ⟨MM2.out⟩, GN2, GM, BA, R1, BL, BX, GG, HB⟩
      · obtain ⟨er, her⟩ : ∃ er, lerr p m inst (k : Int) left z = er := ⟨_, rfl⟩
        rw [if_pos he, her] at hj
        have LN := Aside0.mk (show Calls Try.prog 31 #[.pointer (some ⟨gm, 0, none⟩), .int .i64 (k : Int), .int .i64 d, .int .i64 n] wr fun e w' => e = .returned (.tuple #[.agg #[.int .i64 0, .int .i64 0, .int .i64 0, .int .i64 0], .int .i64 er]) ∧ But2 gm gb wr w' from LA.mono fun e w' h => by
          obtain ⟨hbt, v, rfl, h1, h2⟩ := h
          obtain rfl := h2 he
          rw [her]
          exact ⟨rfl, hbt⟩)
        rw [her] at he
        have hen : (er != 0) = true := by simpa using he
        have HJ2 := Aside0.mk hj
        clear hj LA p1 p2 p3 G2 hz he her hdd hnn ge HJ MM kt
        go_wp2_with (first
          | (go_at_call 31; (with_reducible refine LN.out.mono ?_); rintro e w10 ⟨rfl, hbt⟩; have HB := Aside0.mk (But2.toBelow HB.out hbt gmge gbge); clear hbt)
          | ((with_reducible refine gate_dst (N := 17) rfl ?_); refine copy_event rfl (N := 17) rfl rfl rfl (t := 36) (v := .tmp 90) rfl (cs := #[.int .i64 0, .int .i64 0, .int .i64 0, .int .i64 0]) (zs := #[.int .i64 0, .int .i64 0, .int .i64 0, .int .i64 0]) ?hr rfl rfl info_line ?hz (line_one _ _ _ _) ?_; (case hr => first | (go_simp; done) | (go_simp; rfl)); (case hz => rfl); intro gt hgt w11 hb1 hb; have HB := Aside0.mk (below_step HB.out hb); clear hgt hb1 hb))
        go_ret2
        obtain rfl := HJ2.out
        exact ⟨none, 0, rfl, Kd.R_nil _ _ _ _ _, HB.out⟩
    · have hj := HJ.out
      rw [List.drop_of_length_le (by rw [HZD.out]; omega), lines, join, if_pos rfl, List.append_nil] at hj
      have HJ2 := Aside0.mk hj
      clear hj HJ
      go_wp2_with fail
      go_ret2
      obtain rfl := HJ2.out
      exact ⟨Ax, cw, rfl, Kd.R_mono HO.out (fun _ _ => trivial), HB.out⟩
set_option maxRecDepth 100000 in
set_option maxHeartbeats 20000000 in
theorem sched_two (p : Prod) (A1 : Option Addr) (c1 : Nat) (A2 : Option Addr) (c2 : Nat) (A3 : Option Addr) (c3 : Nat) (start m inst : Int) (w : World) (hg : GV w) (hp : ProdAt w p A1 c1 A2 c2 A3 c3) (hs : Small p) (xs ys : List Int) (hd : daysP p start = (xs, 0)) (hpx : partsP p start = (ys, 0)) (hxl : xs.length ≤ 600) (m0 : 1 ≤ m) (m1 : m ≤ 10000000000000) (hi : p.kind ≠ 1 ∧ inst = 0) :
    Calls Try.prog 11 #[pv p A1 c1 A2 c2 A3 c3, .int .i64 start, .int .i64 m] w (Sched (linesP p start m inst) w) := by
  obtain ⟨ho, hs0, hds, hl, t1, t2, hr, -⟩ := days_known hd
  have hyl : ys.length = xs.length := by
    have := hpx
    unfold partsP at this
    rw [hd, if_pos rfl] at this
    obtain ⟨rfl, -⟩ := Prod.mk.inj this
    exact rparts_len _ _ _
  have hJ : linesP p start m inst = join [] (lines p (Gm.whole p.count) (Gm.half p.count p.round) m inst 0 (xs.zip ys) m 0) := by
    unfold linesP
    rw [hd, hpx]
    exact (join_nil _ (lines_err _ _ _ _ _ _ _ _ _)).symm
  obtain ⟨⟨⟨⟨⟨_, a2, a3, a4, a5, a6, a7, a8⟩, ⟨b1, b2, b3⟩, b4⟩, c⟩, d_⟩, e_⟩ := (ok_iff p).1 ho
  have hne : xs ≠ [] := fun e => by rw [e] at hl; simp at hl; omega
  have hne2 : ys ≠ [] := fun e => by rw [e] at hyl; simp at hyl; exact hne (List.eq_nil_of_length_eq_zero hyl.symm)
  have ib : 0 ≤ inst ∧ inst ≤ 1000000000000000 := by
    have := hi.2; omega
  have MM := Aside0.mk (show Mid p m 0 m from ⟨by omega, by omega, fun _ _ => by rw [show max 0 (0 - p.grace) = 0 by omega]; omega⟩)
  have GN := good_new p.count p.round
  have NW := Aside0.mk (fun U => bnew_any (c := p.count) (r := p.round) (by omega) a3 U)
  have DA := Aside0.mk (fun W (hb : Below w.heap.size w W) => show Calls Try.prog 16 #[pv p A1 c1 A2 c2 A3 c3, .int .i64 start] W (Listed1 xs W) from (days_any p A1 c1 A2 c2 A3 c3 start W (hg.below hb) (hp.below hb) hs).mono fun e w' h => by rw [hd] at h; exact h.one hne)
  have PA := Aside0.mk (fun W (hb : Below w.heap.size w W) => show Calls Try.prog 18 #[pv p A1 c1 A2 c2 A3 c3, .int .i64 start] W (ListedL1 ys W) from (parts_any p A1 c1 A2 c2 A3 c3 start W (hg.below hb) (hp.below hb) hs).mono fun e w' h => by rw [hpx] at h; exact listed_one h hne2)
  obtain ⟨R, hR⟩ : ∃ R, linesP p start m inst = R := ⟨_, rfl⟩
  rw [hR] at hJ ⊢
  obtain ⟨Wh, hWh⟩ : ∃ y, Gm.whole p.count = y := ⟨_, rfl⟩
  obtain ⟨Hf, hHf⟩ : ∃ y, Gm.half p.count p.round = y := ⟨_, rfl⟩
  rw [hWh, hHf] at GN hJ
  have HWh := Aside0.mk hWh
  have HHf := Aside0.mk hHf
  have GN := Aside0.mk GN
  have HJ := Aside0.mk hJ
  have KD := Aside0.mk a4
  have kk : (p.kind == 1) = false := by simpa using hi.1
  have HYL := Aside0.mk hyl
  have T2 := Aside0.mk t2
  have HLT := Aside0.mk hl
  have G0 := Aside0.mk a7
  obtain rfl := hi.2
  clear hg hp hs hd hpx hJ hR hWh hHf ho hs0 hds hr a2 a3 a4 a5 a6 a8 b1 b2 b3 b4 c d_ e_ hne hne2 hi hyl hl t2 a7
  go_enter Try.func11, Try.ntmps11
  go_wp2_with (first
    | ((with_reducible refine gate_dst (N := 3) rfl ?_); refine box_event ?hg (N := 3) ?hd (cs := pcs p A1 c1 A2 c2 A3 c3) (t := 27) ?hr ?_; (case hd => rfl); (case hg => rfl); (case hr => first | (go_simp; done) | (go_simp; rfl)); intro g hg w1 hb1 hbl1; have gge := (show w.heap.size ≤ g by rw [hg]; exact Nat.le_refl _); clear hg; have GG := Aside0.mk hb1; have HB := Aside0.mk hbl1; clear hb1 hbl1)
    | ((with_reducible refine gate_dst (N := 20) rfl ?_); refine wpList_load_row rfl 27 (.tmp 3) rfl g rfl 27 _ (0, 0) _ GG.out Try.underlying27 rfl info_prod ?_)
    | (go_at_call 16; (with_reducible refine (DA.out _ HB.out).mono ?_); rintro e w2 ⟨gl, cl, tl, rfl, gle, lc, hbk, hb⟩; have BL := Aside0.mk hbk; have glge := Nat.le_trans HB.out.size gle; have HB := Aside0.mk (below_step HB.out hb); have GG := Aside0.mk (Pd.blk_below GG.out hb); clear hb hbk)
    | ((with_reducible refine gate_dst (N := 35) rfl ?_); refine wpList_load_row rfl 27 (.tmp 3) rfl g rfl 27 _ (0, 0) _ GG.out Try.underlying27 rfl info_prod ?_)
    | (go_at_call 18; (with_reducible refine (PA.out _ HB.out).mono ?_); rintro e w3 ⟨gx, cx, tx, rfl, gxe, xc, hbk, hb⟩; have BX := Aside0.mk hbk; have gxge := Nat.le_trans HB.out.size gxe; have BL := Aside0.mk (Blk.below BL.out hb); have HB := Aside0.mk (below_step HB.out hb); have GG := Aside0.mk (Pd.blk_below GG.out hb); clear hb hbk)
    | ((with_reducible refine gate_dst (N := 40) rfl ?_); refine wpList_load_row rfl 27 (.tmp 3) rfl g rfl 27 _ (0, 0) _ GG.out Try.underlying27 rfl info_prod ?_)
    | ((with_reducible refine gate_dst (N := 43) rfl ?_); refine build_event rfl (t := 63) rfl (cs := mcs p A1 c1 A2 c2 A3 c3 m 0 m (.pointer none)) ?hb ?_; (case hb => simp only [List.map_toArray, List.map_cons, List.map_nil]; exact built_maker p A1 c1 A2 c2 A3 c3 m))
    | ((with_reducible refine gate_dst (N := 44) rfl ?_); refine box_event ?hg (N := 44) ?hd (cs := mcs p A1 c1 A2 c2 A3 c3 m 0 m (.pointer none)) (t := 63) ?hr ?_; (case hd => rfl); (case hg => rfl); (case hr => first | (go_simp; done) | (go_simp; rfl)); intro gm hgm w4 hb1 hb; have gmge := (show w.heap.size ≤ gm by rw [hgm]; exact HB.out.size); have gmx := (show gx ≠ gm by have := Blk.lt BX.out; omega); have gml := (show gl ≠ gm by have := Blk.lt BL.out; omega); have gmg := (show g ≠ gm by have := blk_lt GG.out; omega); clear hgm; have GM := Aside0.mk hb1; have BL := Aside0.mk (Blk.below BL.out hb); have BX := Aside0.mk (Blk.below BX.out hb); have HB := Aside0.mk (below_step HB.out hb); have GG := Aside0.mk (Pd.blk_below GG.out hb); clear hb1 hb; have v20 := (show w4.cell? ⟨gm, 20, none⟩ = some (.int .i64 0) from (blk_cell GM.out 20).trans rfl); have f20 := frozen_of_row w4 gm 20 _ _ GM.out; have v22 := (show w4.cell? ⟨gm, 22, none⟩ = some (.pointer none) from (blk_cell GM.out 22).trans rfl); have f22 := frozen_of_row w4 gm 22 _ _ GM.out; obtain ⟨-, u1, u2, u3, -⟩ := pc_cells GG.out)
    | ((with_reducible refine gate_dst (N := 50) rfl ?_); refine wpList_load_row rfl 27 (.tmp 3) rfl g rfl 27 _ (0, 0) _ GG.out Try.underlying27 rfl info_prod ?_)
    | (go_at_call 30; (with_reducible refine (NW.out _).mono ?_); rintro e w7 ⟨hb, gb, hgb, rfl, hba⟩; rw [HWh.out, HHf.out] at hba; have gbge := Nat.le_trans HB.out.size hgb; have gbm := (show gm ≠ gb by have := blk_lt GM.out; omega); have gbl := (show gl ≠ gb by have := Blk.lt BL.out; omega); have gbx := (show gx ≠ gb by have := Blk.lt BX.out; omega); have gbg := (show g ≠ gb by have := blk_lt GG.out; omega); have BA := Aside0.mk hba; have BL := Aside0.mk (Blk.below BL.out hb); have BX := Aside0.mk (Blk.below BX.out hb); have GM := Aside0.mk (Pd.blk_below GM.out hb); have HB := Aside0.mk (below_step HB.out hb); have GG := Aside0.mk (Pd.blk_below GG.out hb); clear hb hba hgb v22 f22 u1 u2 u3; have v22 := (show w7.cell? ⟨gm, 22, none⟩ = some (.pointer none) from (blk_cell GM.out 22).trans rfl); have f22 := frozen_of_row w7 gm 22 _ _ GM.out)
    | ((with_reducible refine gate_store (t := 61) (p := 71) rfl ?_); refine put_event rfl (t := 61) (p := 71) (v := .tmp 68) rfl rfl (g := gm) (i := 22) (cs := mcs p A1 c1 A2 c2 A3 c3 m 0 m (.pointer none)) (cs' := mcs p A1 c1 A2 c2 A3 c3 m 0 m (.pointer (some ⟨gb, 0, none⟩))) (x := .pointer (some ⟨gb, 0, none⟩)) ?hr GM.out ?hc ?_; (case hc => rfl); (case hr => go_simp); intro w8 hb8 hbut; have GM := Aside0.mk hb8; have BA := Aside0.mk (BA.out.but hbut (Ne.symm gbm)); have BL := Aside0.mk (Blk.but BL.out hbut gml); have BX := Aside0.mk (Blk.but BX.out hbut gmx); have GG := Aside0.mk ((hbut.block g (blk_lt GG.out) gmg).trans GG.out); have HB := Aside0.mk (But.below HB.out HB.out.size gmge hbut); clear hb8 hbut v22 f22))
  clear kk
  have HGE := Aside0.mk (show 0 ≤ p.grace ∧ p.grace < p.times by have := G0.out; omega)
  have HZD := Aside0.mk (List.length_zip (l₁ := xs) (l₂ := ys))
  go_loopg [14, 76] (xs.length + 1) (fun gq ov iv w' => ∃ (k : Nat) (left rest : Int) (Ax : Option Addr) (cw : Nat) (ls : List Ln), k ≤ xs.length ∧ iv = .int .i64 (k : Int) ∧ ov = .slice Ax ls.length cw ∧ Aside0 (ls.length = k) ∧ Aside0 (gq = xs.length + 1 - k) ∧ Aside0 (R = join ls (lines p Wh Hf m 0 (k : Int) ((xs.zip ys).drop k) left rest)) ∧ Aside0 (Mid p m (k : Int) left) ∧ Aside0 (H.Good Wh Hf rest) ∧ Aside0 (w'.heap[gm]? = some (.cells (mcs p A1 c1 A2 c2 A3 c3 m 0 left (.pointer (some ⟨gb, 0, none⟩))) 63 (0, 0))) ∧ Aside0 (BearAt w' gb Wh Hf rest) ∧ Aside0 (Kd.R (Kd.pair (Kd.int .i64) (Kd.pair (Kd.int .i64) (Kd.pair (Kd.int .i64) (Kd.int .i64)))) 36 w' w.heap.size (fun b => b ≠ g ∧ b ≠ gl ∧ b ≠ gx ∧ b ≠ gm ∧ b ≠ gb) (.slice Ax ls.length cw) ls) ∧ Aside0 (H.Blk w' gl 3 (nums .i64 xs ++ tl)) ∧ Aside0 (H.Blk w' gx 2 (nums .i64 ys ++ tx)) ∧ Aside0 (w'.heap[g]? = some (.cells (pcs p A1 c1 A2 c2 A3 c3) 27 (0, 0))) ∧ Aside0 (Below w.heap.size w w'))
  case atStart => exact ⟨0, m, 0, none, 0, [], by omega, rfl, rfl, ⟨rfl⟩, ⟨rfl⟩, ⟨by rw [List.drop_zero]; exact HJ.out⟩, MM, GN, GM, BA, ⟨Kd.R_nil _ _ _ _ _⟩, BL, BX, GG, HB⟩
  case round =>
    obtain ⟨k, left, rest, Ax, cw, ls, hk, rfl, rfl, hlen, hgq, HJ, MM, GN, GM, BA, HO, BL, BX, GG, HB⟩ := hrel
    by_cases hlt : k < xs.length
    · obtain ⟨d, hdd⟩ : ∃ d, rd xs (k : Int) = d := ⟨_, rfl⟩
      obtain ⟨n, hnn⟩ : ∃ n, rd ys (k : Int) = n := ⟨_, rfl⟩
      have hcl : wr.cell? ⟨gl, k, none⟩ = some (.int .i64 d) := (BL.out.cell k).trans (by rw [List.getElem?_append_left (by simp [nums]; omega), ← hdd]; simp [nums, rd, hlt])
      have hkl : k < ys.length := by have := HYL.out; omega
      have hcx : wr.cell? ⟨gx, k, none⟩ = some (.int .i64 n) := (BX.out.cell k).trans (by rw [List.getElem?_append_left (by simp [nums]; omega), ← hnn]; simp [nums, rd, hkl])
      have hkx : (k : Int) < (xs.length : Int) := by omega
      have hky : (k : Int) < (ys.length : Int) := by omega
      obtain ⟨z, hz⟩ : ∃ z, Gm.bear Wh Hf rest left p.rate n = z := ⟨_, rfl⟩
      have hj := HJ.out
      rw [zip_drop hlt HYL.out, hdd, hnn, lines_cons hz] at hj
      have ge := HGE.out
      have kt : (k : Int) < p.times := by have := HLT.out; omega
      have LA := line_any p A1 c1 A2 c2 A3 c3 m 0 left Wh Hf rest n (k : Int) d gm gb wr z hz BA.out GN.out GM.out gbm MM.out ge.1 ge.2 T2.out (by omega) kt (by omega) m1 ib.1 ib.2 (by have := KD.out; omega)
      obtain ⟨p1, p2, p3⟩ := prin_bd (inst := 0) (v := z.1) MM.out (by omega) ge.1 ge.2 (by omega) kt
      have G2 := good_bear (bal := left) (rate := p.rate) (n := n) GN.out
      rw [hz] at G2
      by_cases he : lerr p m 0 (k : Int) left z = 0
      · rw [if_neg (by simpa using he)] at hj
        have pz := (lerr_zero he).2.1
        have M2 := p3 pz
        obtain ⟨z1, z2, z3⟩ := z
        obtain ⟨pr, hpr⟩ : ∃ x, prin p m 0 (k : Int) z1 left = x := ⟨_, rfl⟩
        simp only [] at hj M2 G2
        rw [hpr] at hj M2
        have LN := Aside0.mk (show Calls Try.prog 31 #[.pointer (some ⟨gm, 0, none⟩), .int .i64 (k : Int), .int .i64 d, .int .i64 n] wr fun e w' => e = .returned (.tuple #[.agg #[.int .i64 d, .int .i64 pr, .int .i64 z1, .int .i64 (left - pr)], .int .i64 0]) ∧ But2 gm gb wr w' ∧ w'.heap[gm]? = some (.cells (mcs p A1 c1 A2 c2 A3 c3 m 0 (left - pr) (.pointer (some ⟨gb, 0, none⟩))) 63 (0, 0)) ∧ BearAt w' gb Wh Hf z3 from LA.mono fun e w' h => by
          obtain ⟨hbt, v, rfl, h1, h2⟩ := h
          obtain ⟨rfl, h3, h4⟩ := h1 he
          simp only [] at h3
          rw [hpr] at h3
          rw [he]
          simp only []
          rw [hpr]
          exact ⟨rfl, hbt, h3, h4⟩)
        have HJ2 := Aside0.mk hj
        have MM2 := Aside0.mk M2
        have GN2 := Aside0.mk G2
        have HPR := Aside0.mk hpr
        clear hj LA p1 p2 p3 M2 G2 pz hz hpr he hdd hnn ge HJ MM kt
        go_wp2_with (first
          | (go_at_call 31; (with_reducible refine LN.out.mono ?_); rintro e w10 ⟨rfl, hbt, hgm, hba⟩; have GM := Aside0.mk hgm; have BA := Aside0.mk hba; have HO := Aside0.mk (Kd.R_step HO.out (fun b hb hlt => hbt.block b hlt hb.2.2.2.1 hb.2.2.2.2)); have BL := Aside0.mk (BL.out.same (hbt.block gl (Blk.lt BL.out) gml gbl)); have BX := Aside0.mk (BX.out.same (hbt.block gx (Blk.lt BX.out) gmx gbx)); have GG := Aside0.mk ((hbt.block g (blk_lt GG.out) gmg gbg).trans GG.out); have HB := Aside0.mk (But2.toBelow HB.out hbt gmge gbge); clear hbt hgm hba)
          | ((with_reducible refine gate_dst (N := 17) rfl ?_); refine copy_event rfl (N := 17) rfl rfl rfl (t := 36) (v := .tmp 90) rfl (cs := #[.int .i64 d, .int .i64 pr, .int .i64 z1, .int .i64 (left - pr)]) (zs := #[.int .i64 0, .int .i64 0, .int .i64 0, .int .i64 0]) ?hr rfl rfl info_line ?hz (line_one _ _ _ _) ?_; (case hr => first | (go_simp; done) | (go_simp; rfl)); (case hz => rfl); intro gt hgt w11 hb1 hb; have GT := Aside0.mk hb1; have HO := Aside0.mk (Kd.R_below HO.out hb); have BA := Aside0.mk (BA.out.below hb); have BL := Aside0.mk (Blk.below BL.out hb); have BX := Aside0.mk (Blk.below BX.out hb); have GM := Aside0.mk (Pd.blk_below GM.out hb); have HB := Aside0.mk (below_step HB.out hb); have GG := Aside0.mk (Pd.blk_below GG.out hb); clear hgt hb1 hb)
          | ((with_reducible refine gate_dst (N := 96) rfl ?_); refine wpList_load_row rfl 36 (.tmp 17) rfl gt rfl 36 _ (0, 0) _ GT.out Try.underlying36 rfl info_line ?_)
          | ((with_reducible refine gate_builtin (b := .append) (xs := #[.tmp 95, .tmp 97]) rfl ?_); at_builtin; refine Kd.R_append (Kd.pair (Kd.int .i64) (Kd.pair (Kd.int .i64) (Kd.pair (Kd.int .i64) (Kd.int .i64)))) (w0 := w) w.heap.size rfl (.tmp 95) (.tmp 97) 30 36 (.agg #[.int .i64 0, .int .i64 0, .int .i64 0, .int .i64 0]) 32 rfl Try.underlying30 info_lineb rfl (by decide) (by decide) (.slice Ax ls.length cw) ls (d, pr, z1, left - pr) [.int .i64 d, .int .i64 pr, .int .i64 z1, .int .i64 (left - pr)] (fun b => b ≠ g ∧ b ≠ gl ∧ b ≠ gx ∧ b ≠ gm ∧ b ≠ gb) (fun _ => False) rfl rfl ?aP (fun _ hk => hk.elim) ?aF ?aO ?aB ?aS ?aL ?_; (case aP => exact line_M d pr z1 (left - pr)); (case aF => exact fun b hb => ⟨(by have := blk_lt GG.out; omega), (by have := Blk.lt BL.out; omega), (by have := Blk.lt BX.out; omega), (by have := blk_lt GM.out; omega), (by have := BA.out.lt; omega)⟩); (case aO => exact HO.out); (case aB => exact HB.out); (case aS => exact HB.out.size); (case aL => have := hlen.out; omega); intro v1 w12 hr1 hb1 hg1 hat1; obtain ⟨l2, hl2⟩ : ∃ l2, l2 = ls ++ [(d, pr, z1, left - pr)] := ⟨_, rfl⟩; rw [← hl2] at hr1; obtain ⟨An, cn, rfl⟩ := Kd.R_slice hr1; have L2 := Aside0.mk hl2; have R1 := Aside0.mk hr1; have BL := Aside0.mk (BL.out.same (hg1.block gl (Blk.lt BL.out) (fun e => (HO.out.1 gl e.symm).2.1 rfl))); have BX := Aside0.mk (BX.out.same (hg1.block gx (Blk.lt BX.out) (fun e => (HO.out.1 gx e.symm).2.2.1 rfl))); have GM := Aside0.mk ((hg1.block gm (blk_lt GM.out) (fun e => (HO.out.1 gm e.symm).2.2.2.1 rfl)).trans GM.out); have BA := Aside0.mk (BA.out.same (hg1.block gb BA.out.lt (fun e => (HO.out.1 gb e.symm).2.2.2.2 rfl)) hg1.size); have GG := Aside0.mk ((hg1.block g (blk_lt GG.out) (fun e => (HO.out.1 g e.symm).1 rfl)).trans GG.out); have HB := Aside0.mk hb1; clear hl2 hr1 hb1 hg1 hat1))
        have L3 := Aside0.mk (show l2.length = k + 1 by rw [L2.out, List.length_append, hlen.out]; rfl)
        go_roundg (xs.length + 1 - (k + 1))
        case measure => have := hgq.out; omega
        case rel => exact ⟨k + 1, left - pr, z3, An, cn, l2, by omega, by simp, rfl, L3, ⟨rfl⟩, ⟨by rw [HJ2.out, L2.out]; rfl⟩, ⟨MM2.out⟩, GN2, GM, BA, R1, BL, BX, GG, HB⟩
      · obtain ⟨er, her⟩ : ∃ er, lerr p m 0 (k : Int) left z = er := ⟨_, rfl⟩
        rw [if_pos he, her] at hj
        have LN := Aside0.mk (show Calls Try.prog 31 #[.pointer (some ⟨gm, 0, none⟩), .int .i64 (k : Int), .int .i64 d, .int .i64 n] wr fun e w' => e = .returned (.tuple #[.agg #[.int .i64 0, .int .i64 0, .int .i64 0, .int .i64 0], .int .i64 er]) ∧ But2 gm gb wr w' from LA.mono fun e w' h => by
          obtain ⟨hbt, v, rfl, h1, h2⟩ := h
          obtain rfl := h2 he
          rw [her]
          exact ⟨rfl, hbt⟩)
        rw [her] at he
        have hen : (er != 0) = true := by simpa using he
        have HJ2 := Aside0.mk hj
        clear hj LA p1 p2 p3 G2 hz he her hdd hnn ge HJ MM kt
        go_wp2_with (first
          | (go_at_call 31; (with_reducible refine LN.out.mono ?_); rintro e w10 ⟨rfl, hbt⟩; have HB := Aside0.mk (But2.toBelow HB.out hbt gmge gbge); clear hbt)
          | ((with_reducible refine gate_dst (N := 17) rfl ?_); refine copy_event rfl (N := 17) rfl rfl rfl (t := 36) (v := .tmp 90) rfl (cs := #[.int .i64 0, .int .i64 0, .int .i64 0, .int .i64 0]) (zs := #[.int .i64 0, .int .i64 0, .int .i64 0, .int .i64 0]) ?hr rfl rfl info_line ?hz (line_one _ _ _ _) ?_; (case hr => first | (go_simp; done) | (go_simp; rfl)); (case hz => rfl); intro gt hgt w11 hb1 hb; have HB := Aside0.mk (below_step HB.out hb); clear hgt hb1 hb))
        go_ret2
        obtain rfl := HJ2.out
        exact ⟨none, 0, rfl, Kd.R_nil _ _ _ _ _, HB.out⟩
    · have hj := HJ.out
      rw [List.drop_of_length_le (by rw [HZD.out]; omega), lines, join, if_pos rfl, List.append_nil] at hj
      have HJ2 := Aside0.mk hj
      clear hj HJ
      go_wp2_with fail
      go_ret2
      obtain rfl := HJ2.out
      exact ⟨Ax, cw, rfl, Kd.R_mono HO.out (fun _ _ => trivial), HB.out⟩
end Go.Proofs.Ytfmkdledofbhdaa.Sc
/- Contracts by hand: schedule.Of, all of it. -/
namespace Go.Proofs.Ytfmkdledofbhdaa.Sc
open Go.RowKit Go.Proofs.YtfmkdledofbhdaaW.PrintWords Go.Proofs.YtfmkdledofbhdaaW.PrintLast Go.Proofs.YtfmkdledofbhdaaW.PrintMore Go.Proofs.Ytfmkdledofbhdaa.HW
open Go.Proofs.Ytfmkdledofbhdaa.Math Go.Proofs.Ytfmkdledofbhdaa.H Go.Proofs.Ytfmkdledofbhdaa.Pd Go.Proofs.Ytfmkdledofbhdaa.Du Go.Proofs.Ytfmkdledofbhdaa.Lv Pm
set_option linter.unusedVariables false
set_option linter.unusedSimpArgs false
attribute [local go_sem] max2_int min2_int max_two min_two

theorem sched_days (p : Prod) (A1 : Option Addr) (c1 : Nat) (A2 : Option Addr) (c2 : Nat) (A3 : Option Addr) (c3 : Nat) (start m : Int) (w : World) (hg : GV w) (hp : ProdAt w p A1 c1 A2 c2 A3 c3) (hs : Small p) (er : Int) (he : (daysP p start).2 = er) (hn : er ≠ 0) : Calls Try.prog 11 #[pv p A1 c1 A2 c2 A3 c3, .int .i64 start, .int .i64 m] w (Sched ([], er) w) := by
  have DA := Aside0.mk (fun W (hb : Below w.heap.size w W) => show Calls Try.prog 16 #[pv p A1 c1 A2 c2 A3 c3, .int .i64 start] W (fun e w' => ∃ v, e = .returned (.tuple #[v, .int .i64 er]) ∧ Below W.heap.size W w') from (days_any p A1 c1 A2 c2 A3 c3 start W (hg.below hb) (hp.below hb) hs).mono fun e w' h => by obtain ⟨v, h1, _, h3⟩ := h; exact ⟨v, by rw [h1, he], h3⟩)
  have hen : (er != 0) = true := by simpa using hn
  clear hg hp hs he hn
  go_enter Try.func11, Try.ntmps11
  go_wp2_with (first
    | ((with_reducible refine gate_dst (N := 3) rfl ?_); refine box_event ?hg (N := 3) ?hd (cs := pcs p A1 c1 A2 c2 A3 c3) (t := 27) ?hr ?_; (case hd => rfl); (case hg => rfl); (case hr => first | (go_simp; done) | (go_simp; rfl)); intro g hg w1 hb1 hbl1; have gge := (show w.heap.size ≤ g by rw [hg]; exact Nat.le_refl _); clear hg; have GG := Aside0.mk hb1; have HB := Aside0.mk hbl1; clear hb1 hbl1)
    | ((with_reducible refine gate_dst (N := 20) rfl ?_); refine wpList_load_row rfl 27 (.tmp 3) rfl g rfl 27 _ (0, 0) _ GG.out Try.underlying27 rfl info_prod ?_)
    | (go_at_call 16; (with_reducible refine (DA.out _ HB.out).mono ?_); rintro e w2 ⟨v, rfl, hb⟩; have HB := Aside0.mk (below_step HB.out hb); clear hb))
  go_ret2
  exact ⟨none, 0, rfl, Kd.R_nil _ _ _ _ _, HB.out⟩
theorem sched_amt (p : Prod) (A1 : Option Addr) (c1 : Nat) (A2 : Option Addr) (c2 : Nat) (A3 : Option Addr) (c3 : Nat) (start m : Int) (w : World) (hg : GV w) (hp : ProdAt w p A1 c1 A2 c2 A3 c3) (hs : Small p) (xs : List Int) (hd : daysP p start = (xs, 0)) (hm : m < 1 ∨ (1 ≤ m ∧ 10000000000000 < m)) : Calls Try.prog 11 #[pv p A1 c1 A2 c2 A3 c3, .int .i64 start, .int .i64 m] w (Sched ([], 16) w) := by
  obtain ⟨ho, hs0, hds, hl, t1, t2, hr, -⟩ := days_known hd
  have hne : xs ≠ [] := fun e => by rw [e] at hl; simp at hl; omega
  have DA := Aside0.mk (fun W (hb : Below w.heap.size w W) => show Calls Try.prog 16 #[pv p A1 c1 A2 c2 A3 c3, .int .i64 start] W (Listed1 xs W) from (days_any p A1 c1 A2 c2 A3 c3 start W (hg.below hb) (hp.below hb) hs).mono fun e w' h => by rw [hd] at h; exact h.one hne)
  clear hg hp hs hd ho hs0 hds hl t1 t2 hr hne
  rcases hm with h | ⟨h, h2⟩
  all_goals
    go_enter Try.func11, Try.ntmps11
    go_wp2_with (first
      | ((with_reducible refine gate_dst (N := 3) rfl ?_); refine box_event ?hg (N := 3) ?hd (cs := pcs p A1 c1 A2 c2 A3 c3) (t := 27) ?hr ?_; (case hd => rfl); (case hg => rfl); (case hr => first | (go_simp; done) | (go_simp; rfl)); intro g hg w1 hb1 hbl1; have gge := (show w.heap.size ≤ g by rw [hg]; exact Nat.le_refl _); clear hg; have GG := Aside0.mk hb1; have HB := Aside0.mk hbl1; clear hb1 hbl1)
      | ((with_reducible refine gate_dst (N := 20) rfl ?_); refine wpList_load_row rfl 27 (.tmp 3) rfl g rfl 27 _ (0, 0) _ GG.out Try.underlying27 rfl info_prod ?_)
      | (go_at_call 16; (with_reducible refine (DA.out _ HB.out).mono ?_); rintro e w2 ⟨gl, cl, tl, rfl, gle, lc, hbk, hb⟩; have BL := Aside0.mk hbk; have glge := Nat.le_trans HB.out.size gle; have HB := Aside0.mk (below_step HB.out hb); have GG := Aside0.mk (Pd.blk_below GG.out hb); clear hb hbk))
    go_ret2
    exact ⟨none, 0, rfl, Kd.R_nil _ _ _ _ _, HB.out⟩
set_option maxRecDepth 100000 in
set_option maxHeartbeats 8000000 in
theorem sched_steep (p : Prod) (A1 : Option Addr) (c1 : Nat) (A2 : Option Addr) (c2 : Nat) (A3 : Option Addr) (c3 : Nat) (start m : Int) (w : World) (hg : GV w) (hp : ProdAt w p A1 c1 A2 c2 A3 c3) (hs : Small p) (xs ys : List Int) (hd : daysP p start = (xs, 0)) (hpx : partsP p start = (ys, 0)) (m0 : 1 ≤ m) (m1 : m ≤ 10000000000000) (hk : p.kind = 1) (ov er : Int) (ho1 : ofE p ys m = (ov, er)) (hn : er ≠ 0) : Calls Try.prog 11 #[pv p A1 c1 A2 c2 A3 c3, .int .i64 start, .int .i64 m] w (Sched ([], er) w) := by
  obtain ⟨ho, hs0, hds, hl, t1, t2, hr, -⟩ := days_known hd
  have hne : xs ≠ [] := fun e => by rw [e] at hl; simp at hl; omega
  have DA := Aside0.mk (fun W (hb : Below w.heap.size w W) => show Calls Try.prog 16 #[pv p A1 c1 A2 c2 A3 c3, .int .i64 start] W (Listed1 xs W) from (days_any p A1 c1 A2 c2 A3 c3 start W (hg.below hb) (hp.below hb) hs).mono fun e w' h => by rw [hd] at h; exact h.one hne)
  have hyl : ys.length = xs.length := by
    have := hpx
    unfold partsP at this
    rw [hd, if_pos rfl] at this
    obtain ⟨rfl, -⟩ := Prod.mk.inj this
    exact rparts_len _ _ _
  have hne2 : ys ≠ [] := fun e => by rw [e] at hyl; simp at hyl; exact hne (List.eq_nil_of_length_eq_zero hyl.symm)
  have PA := Aside0.mk (fun W (hb : Below w.heap.size w W) => show Calls Try.prog 18 #[pv p A1 c1 A2 c2 A3 c3, .int .i64 start] W (ListedL1 ys W) from (parts_any p A1 c1 A2 c2 A3 c3 start W (hg.below hb) (hp.below hb) hs).mono fun e w' h => by rw [hpx] at h; exact listed_one h hne2)
  have OF := Aside0.mk (fun (A : Option Addr) (c : Nat) (W : World) (hb : Below w.heap.size w W) (hc : Kd.C (Kd.int .i64) W A ys.length ys) => show Calls Try.prog 26 #[pv p A1 c1 A2 c2 A3 c3, .slice A ys.length c, .int .i64 m] W (Two (ov, er) W) from by have := Of_any p A1 c1 A2 c2 A3 c3 A ys c m W (hg.below hb) (hp.below hb) hs hc (by omega); rw [ho1] at this; exact this)
  have hen : (er != 0) = true := by simpa using hn
  have kk : (p.kind == 1) = true := by simpa using hk
  have HYL := Aside0.mk (show ys.length ≤ 600 by omega)
  clear hg hp hs hd hpx ho hs0 hds hl t1 t2 hr hne hne2 hyl ho1 hn hk
  go_enter Try.func11, Try.ntmps11
  go_wp2_with (first
    | ((with_reducible refine gate_dst (N := 3) rfl ?_); refine box_event ?hg (N := 3) ?hd (cs := pcs p A1 c1 A2 c2 A3 c3) (t := 27) ?hr ?_; (case hd => rfl); (case hg => rfl); (case hr => first | (go_simp; done) | (go_simp; rfl)); intro g hg w1 hb1 hbl1; have gge := (show w.heap.size ≤ g by rw [hg]; exact Nat.le_refl _); clear hg; have GG := Aside0.mk hb1; have HB := Aside0.mk hbl1; clear hb1 hbl1)
    | ((with_reducible refine gate_dst (N := 20) rfl ?_); refine wpList_load_row rfl 27 (.tmp 3) rfl g rfl 27 _ (0, 0) _ GG.out Try.underlying27 rfl info_prod ?_)
    | (go_at_call 16; (with_reducible refine (DA.out _ HB.out).mono ?_); rintro e w2 ⟨gl, cl, tl, rfl, gle, lc, hbk, hb⟩; have BL := Aside0.mk hbk; have glge := Nat.le_trans HB.out.size gle; have HB := Aside0.mk (below_step HB.out hb); have GG := Aside0.mk (Pd.blk_below GG.out hb); clear hb hbk)
    | ((with_reducible refine gate_dst (N := 35) rfl ?_); refine wpList_load_row rfl 27 (.tmp 3) rfl g rfl 27 _ (0, 0) _ GG.out Try.underlying27 rfl info_prod ?_)
    | (go_at_call 18; (with_reducible refine (PA.out _ HB.out).mono ?_); rintro e w3 ⟨gx, cx, tx, rfl, gxe, xc, hbk, hb⟩; have BX := Aside0.mk hbk; have gxge := Nat.le_trans HB.out.size gxe; have BL := Aside0.mk (Blk.below BL.out hb); have HB := Aside0.mk (below_step HB.out hb); have GG := Aside0.mk (Pd.blk_below GG.out hb); clear hb hbk)
    | ((with_reducible refine gate_dst (N := 40) rfl ?_); refine wpList_load_row rfl 27 (.tmp 3) rfl g rfl 27 _ (0, 0) _ GG.out Try.underlying27 rfl info_prod ?_)
    | ((with_reducible refine gate_dst (N := 43) rfl ?_); refine build_event rfl (t := 63) rfl (cs := mcs p A1 c1 A2 c2 A3 c3 m 0 m (.pointer none)) ?hb ?_; (case hb => simp only [List.map_toArray, List.map_cons, List.map_nil]; exact built_maker p A1 c1 A2 c2 A3 c3 m))
    | ((with_reducible refine gate_dst (N := 44) rfl ?_); refine box_event ?hg (N := 44) ?hd (cs := mcs p A1 c1 A2 c2 A3 c3 m 0 m (.pointer none)) (t := 63) ?hr ?_; (case hd => rfl); (case hg => rfl); (case hr => first | (go_simp; done) | (go_simp; rfl)); intro gm hgm w4 hb1 hb; have gmge := (show w.heap.size ≤ gm by rw [hgm]; exact HB.out.size); have gmx := (show gx ≠ gm by have := Blk.lt BX.out; omega); have gml := (show gl ≠ gm by have := Blk.lt BL.out; omega); have gmg := (show g ≠ gm by have := blk_lt GG.out; omega); clear hgm; have GM := Aside0.mk hb1; have BL := Aside0.mk (Blk.below BL.out hb); have BX := Aside0.mk (Blk.below BX.out hb); have HB := Aside0.mk (below_step HB.out hb); have GG := Aside0.mk (Pd.blk_below GG.out hb); clear hb1 hb; have v20 := (show w4.cell? ⟨gm, 20, none⟩ = some (.int .i64 0) from (blk_cell GM.out 20).trans rfl); have f20 := frozen_of_row w4 gm 20 _ _ GM.out; have v22 := (show w4.cell? ⟨gm, 22, none⟩ = some (.pointer none) from (blk_cell GM.out 22).trans rfl); have f22 := frozen_of_row w4 gm 22 _ _ GM.out; obtain ⟨-, u1, u2, u3, -⟩ := pc_cells GG.out)
    | ((with_reducible refine gate_dst (N := 50) rfl ?_); refine wpList_load_row rfl 27 (.tmp 3) rfl g rfl 27 _ (0, 0) _ GG.out Try.underlying27 rfl info_prod ?_)
    | (go_at_call 26; (with_reducible refine (OF.out _ _ _ HB.out (Blk.readsL BX.out (by have := HYL.out; omega))).mono ?_); rintro e w5 ⟨rfl, hb⟩; have BL := Aside0.mk (Blk.below BL.out hb); have BX := Aside0.mk (Blk.below BX.out hb); have GM := Aside0.mk (Pd.blk_below GM.out hb); have HB := Aside0.mk (below_step HB.out hb); have GG := Aside0.mk (Pd.blk_below GG.out hb); clear hb v20 f20 v22 f22 u1 u2 u3; have v20 := (show w5.cell? ⟨gm, 20, none⟩ = some (.int .i64 0) from (blk_cell GM.out 20).trans rfl); have f20 := frozen_of_row w5 gm 20 _ _ GM.out)
    | ((with_reducible refine gate_store (t := 2) (p := 57) rfl ?_); refine put_event rfl (t := 2) (p := 57) (v := .tmp 54) rfl rfl (g := gm) (i := 20) (cs := mcs p A1 c1 A2 c2 A3 c3 m 0 m (.pointer none)) (cs' := mcs p A1 c1 A2 c2 A3 c3 m ov m (.pointer none)) (x := .int .i64 ov) ?hr GM.out ?hc ?_; (case hc => rfl); (case hr => go_simp); intro w6 hb8 hbut; have GM := Aside0.mk hb8; have BL := Aside0.mk (Blk.but BL.out hbut gml); have BX := Aside0.mk (Blk.but BX.out hbut gmx); have GG := Aside0.mk ((hbut.block g (blk_lt GG.out) gmg).trans GG.out); have HB := Aside0.mk (But.below HB.out HB.out.size gmge hbut); clear hb8 hbut; have v22 := (show w6.cell? ⟨gm, 22, none⟩ = some (.pointer none) from (blk_cell GM.out 22).trans rfl); have f22 := frozen_of_row w6 gm 22 _ _ GM.out; obtain ⟨-, u1, u2, u3, -⟩ := pc_cells GG.out))
  go_ret2
  exact ⟨none, 0, rfl, Kd.R_nil _ _ _ _ _, HB.out⟩
theorem sched_any (p : Prod) (A1 : Option Addr) (c1 : Nat) (A2 : Option Addr) (c2 : Nat) (A3 : Option Addr) (c3 : Nat) (start m : Int) (w : World) (hg : GV w) (hp : ProdAt w p A1 c1 A2 c2 A3 c3) (hs : Small p) : Calls Try.prog 11 #[pv p A1 c1 A2 c2 A3 c3, .int .i64 start, .int .i64 m] w (Sched (schedP p start m) w) := by
  by_cases h1 : (daysP p start).2 = 0
  · have hd : daysP p start = ((daysP p start).1, 0) := Prod.ext rfl h1
    have hpx : partsP p start = ((partsP p start).1, 0) := by unfold partsP; rw [if_pos h1]
    have hxl : (daysP p start).1.length ≤ 600 := by
      obtain ⟨_, _, _, hl, t1, t2, _⟩ := days_known hd
      omega
    have n1 : ¬ (daysP p start).2 ≠ 0 := by rw [h1]; decide
    by_cases h2 : 1 ≤ m ∧ m ≤ 10000000000000
    · have n2 : ¬ ¬ (1 ≤ m ∧ m ≤ 10000000000000) := fun h => h h2
      by_cases h3 : p.kind = 1
      · by_cases h4 : (ofE p (partsP p start).1 m).2 = 0
        · have e : schedP p start m = linesP p start m (ofE p (partsP p start).1 m).1 := by
            unfold schedP
            rw [if_neg n1, if_neg n2, if_pos h3, if_neg (by rw [h4]; decide)]
          rw [e]
          exact sched_one p A1 c1 A2 c2 A3 c3 start m _ w hg hp hs _ _ hd hpx hxl h2.1 h2.2 ⟨h3, Prod.ext rfl h4⟩
        · have e : schedP p start m = ([], (ofE p (partsP p start).1 m).2) := by
            unfold schedP
            rw [if_neg n1, if_neg n2, if_pos h3, if_pos h4]
          rw [e]
          exact sched_steep p A1 c1 A2 c2 A3 c3 start m w hg hp hs _ _ hd hpx h2.1 h2.2 h3 _ _ rfl h4
      · have e : schedP p start m = linesP p start m 0 := by
          unfold schedP
          rw [if_neg n1, if_neg n2, if_neg h3]
        rw [e]
        exact sched_two p A1 c1 A2 c2 A3 c3 start m 0 w hg hp hs _ _ hd hpx hxl h2.1 h2.2 ⟨h3, rfl⟩
    · have e : schedP p start m = ([], 16) := by unfold schedP; rw [if_neg n1, if_pos h2]
      rw [e]
      exact sched_amt p A1 c1 A2 c2 A3 c3 start m w hg hp hs _ hd (by omega)
  · have e : schedP p start m = ([], (daysP p start).2) := by unfold schedP; rw [if_pos h1]
    rw [e]
    exact sched_days p A1 c1 A2 c2 A3 c3 start m w hg hp hs _ rfl h1
end Go.Proofs.Ytfmkdledofbhdaa.Sc
/- Schedule: lines by their cells; the law's awake. -/
namespace Go.Proofs.Ytfmkdledofbhdaa.Sc
open Go.RowKit Go.Proofs.YtfmkdledofbhdaaW.PrintWords Go.Proofs.YtfmkdledofbhdaaW.PrintLast Go.Proofs.YtfmkdledofbhdaaW.PrintMore Go.Proofs.Ytfmkdledofbhdaa.HW
open Go.Proofs.Ytfmkdledofbhdaa.Math Go.Proofs.Ytfmkdledofbhdaa.H Go.Proofs.Ytfmkdledofbhdaa.Pd Go.Proofs.Ytfmkdledofbhdaa.Du Go.Proofs.Ytfmkdledofbhdaa.Lv Pm
set_option linter.unusedVariables false
set_option linter.unusedSimpArgs false
attribute [local go_sem] max2_int min2_int max_two min_two

theorem line_K {w : World} {x : Ln} {cs : List Value} (h : (Kd.pair (Kd.int .i64) (Kd.pair (Kd.int .i64) (Kd.pair (Kd.int .i64) (Kd.int .i64)))).K w x cs) : cs = [.int .i64 x.1, .int .i64 x.2.1, .int .i64 x.2.2.1, .int .i64 x.2.2.2] := by
  obtain ⟨c0, c1, rfl, h0, d0, d1, rfl, h1, e0, e1, rfl, h2, h3⟩ := h
  obtain rfl : c0 = [.int .i64 x.1] := h0
  obtain rfl : d0 = [.int .i64 x.2.1] := h1
  obtain rfl : e0 = [.int .i64 x.2.2.1] := h2
  obtain rfl : e1 = [.int .i64 x.2.2.2] := h3
  rfl
/-- A row of lines, by its cells. -/
theorem lines_cells {w : World} {g n : Nat} {ls : List Ln} (h : (Kd.pair (Kd.int .i64) (Kd.pair (Kd.int .i64) (Kd.pair (Kd.int .i64) (Kd.int .i64)))).C w (some ⟨g, 0, none⟩) n ls) (hn : n = ls.length) {i : Nat} {x : Ln} (hi : ls[i]? = some x) :
    w.cell? ⟨g, i * 4, none⟩ = some (.int .i64 x.1) ∧ w.cell? ⟨g, i * 4 + 1, none⟩ = some (.int .i64 x.2.1) ∧ w.cell? ⟨g, i * 4 + 2, none⟩ = some (.int .i64 x.2.2.1) ∧ w.cell? ⟨g, i * 4 + 3, none⟩ = some (.int .i64 x.2.2.2) := by
  have hlt : i < ls.length := (List.getElem?_eq_some_iff.1 hi).1
  obtain ⟨_, _, h3⟩ := h
  obtain ⟨ad, e, hc⟩ := h3 (by omega)
  cases e
  obtain ⟨cs, hl, hK, hcell⟩ := hc i x hi
  obtain rfl := line_K hK
  have a0 := hcell 0 _ rfl
  have a1 := hcell 1 _ rfl
  have a2 := hcell 2 _ rfl
  have a3 := hcell 3 _ rfl
  have hs : (Kd.pair (Kd.int .i64) (Kd.pair (Kd.int .i64) (Kd.pair (Kd.int .i64) (Kd.int .i64)))).sz = 4 := rfl
  simp only [hs, Addr.add_mid, Nat.zero_add, Nat.add_zero] at a0 a1 a2 a3
  exact ⟨a0, a1, a2, a3⟩
abbrev awP : Prod := { plainP with kind := 3, rate := 0, times := 2 }
theorem aw_sched : schedP awP 19723 100 = ([(19754, 0, 0, 100), (19783, 100, 0, 0)], 0) := by decide +kernel
theorem sched_awake (w : World) (hg : GV w) : Calls Try.prog 12 #[] w fun e w' => e = .returned (.bool true) ∧ Below w.heap.size w w' := by
  have OF := Aside0.mk (fun (W : World) (hb : Below w.heap.size w W) => show Calls Try.prog 11 #[pv awP none 0 none 0 none 0, .int .i64 19723, .int .i64 100] W (Sched ([(19754, 0, 0, 100), (19783, 100, 0, 0)], 0) W) from by have := sched_any awP none 0 none 0 none 0 19723 100 W (hg.below hb) (nilAt rfl rfl rfl) ⟨by decide, by decide, by decide, by decide⟩; rw [aw_sched] at this; exact this)
  clear hg
  go_enter Try.func12, Try.ntmps12
  go_wp2_with (first
    | (go_at_call 13; (with_reducible refine (plain_any _).mono ?_); rintro e w0 ⟨rfl, hb⟩; have HB := Aside0.mk hb; clear hb)
    | ((with_reducible refine gate_dst (N := 1) rfl ?_); refine copy_event rfl (N := 1) rfl rfl rfl (t := 27) (v := .tmp 4) rfl (cs := pcs plainP none 0 none 0 none 0) (zs := pzs) ?hr rfl rfl info_prod ?hz (pcs_one _ _ _ _ _ _ _) ?_; (case hr => first | (go_simp; done) | (go_simp; rfl)); (case hz => rfl); intro g hg w1 hb1 hbl1; have gge := (show w.heap.size ≤ g by rw [hg]; exact HB.out.size); have HB := Aside0.mk (below_step HB.out hbl1); have GG := Aside0.mk hb1; clear hg hb1 hbl1; have u3 : w1.cell? ⟨g, 3, none⟩ = some (.int .i64 _) := (blk_cell GG.out 3).trans rfl; have f3 := frozen_of_row w1 g 3 _ _ GG.out)
    | ((with_reducible refine gate_store (t := 3) (p := 5) rfl ?_); refine put_event rfl (t := 3) (p := 5) (v := (.const (.int .i64 3))) rfl rfl (g := g) (i := 3) (cs := pcs plainP none 0 none 0 none 0) (cs' := pcs { plainP with kind := 3 } none 0 none 0 none 0) (x := .int .i64 3) ?hr GG.out ?hc ?_; (case hc => rfl); (case hr => go_simp); intro w2 hb8 hbut; have GG := Aside0.mk hb8; have HB := Aside0.mk (But.below HB.out HB.out.size gge hbut); clear hbut; clear hb8; have u7 : w2.cell? ⟨g, 7, none⟩ = some (.int .i64 _) := (blk_cell GG.out 7).trans rfl; have f7 := frozen_of_row w2 g 7 _ _ GG.out)
    | ((with_reducible refine gate_store (t := 2) (p := 6) rfl ?_); refine put_event rfl (t := 2) (p := 6) (v := (.const (.int .i64 0))) rfl rfl (g := g) (i := 7) (cs := pcs { plainP with kind := 3 } none 0 none 0 none 0) (cs' := pcs { plainP with kind := 3, rate := 0 } none 0 none 0 none 0) (x := .int .i64 0) ?hr GG.out ?hc ?_; (case hc => rfl); (case hr => go_simp); intro w3 hb8 hbut; have GG := Aside0.mk hb8; have HB := Aside0.mk (But.below HB.out HB.out.size gge hbut); clear hbut; clear hb8; have u5 : w3.cell? ⟨g, 5, none⟩ = some (.int .i64 _) := (blk_cell GG.out 5).trans rfl; have f5 := frozen_of_row w3 g 5 _ _ GG.out)
    | ((with_reducible refine gate_store (t := 3) (p := 7) rfl ?_); refine put_event rfl (t := 3) (p := 7) (v := (.const (.int .i64 2))) rfl rfl (g := g) (i := 5) (cs := pcs { plainP with kind := 3, rate := 0 } none 0 none 0 none 0) (cs' := pcs { plainP with kind := 3, rate := 0, times := 2 } none 0 none 0 none 0) (x := .int .i64 2) ?hr GG.out ?hc ?_; (case hc => rfl); (case hr => go_simp); intro w4 hb8 hbut; have GG := Aside0.mk hb8; have HB := Aside0.mk (But.below HB.out HB.out.size gge hbut); clear hbut; clear hb8; skip)
    | ((with_reducible refine gate_dst (N := 9) rfl ?_); refine wpList_load_row rfl 27 (.tmp 1) rfl g rfl 27 _ (0, 0) _ GG.out Try.underlying27 rfl info_prod ?_)
    | (go_at_call 11; (with_reducible refine (OF.out _ HB.out).mono ?_); rintro e w5 ⟨A, c, rfl, hR, hb⟩; have HB := Aside0.mk (below_step HB.out hb); obtain ⟨gn, cn, e1, _⟩ := Kd.R_form hR (by decide); injection e1 with e1 _ e3; subst e1 e3; obtain ⟨_, hc2, hC⟩ := Kd.R_reads' hR; obtain ⟨x0, x1, x2, x3⟩ := lines_cells hC rfl (i := 0) rfl; obtain ⟨y0, y1, y2, y3⟩ := lines_cells hC rfl (i := 1) rfl; clear hb hR hC))
  go_ret
  exact ⟨rfl, HB.out⟩
end Go.Proofs.Ytfmkdledofbhdaa.Sc
/- The law ScheduleRefuses, walked. -/
namespace Go.Proofs.Ytfmkdledofbhdaa.Sc
open Go.RowKit Go.Proofs.YtfmkdledofbhdaaW.PrintWords Go.Proofs.YtfmkdledofbhdaaW.PrintLast Go.Proofs.YtfmkdledofbhdaaW.PrintMore Go.Proofs.Ytfmkdledofbhdaa.HW
open Go.Proofs.Ytfmkdledofbhdaa.Math Go.Proofs.Ytfmkdledofbhdaa.H Go.Proofs.Ytfmkdledofbhdaa.Pd Go.Proofs.Ytfmkdledofbhdaa.Du Go.Proofs.Ytfmkdledofbhdaa.Lv Pm
set_option linter.unusedVariables false
set_option linter.unusedSimpArgs false
attribute [local go_sem] max2_int min2_int max_two min_two
theorem ref_s0 : schedP plainP 19723 0 = ([], 16) := by decide +kernel
set_option maxRecDepth 100000 in
set_option maxHeartbeats 8000000 in
theorem srefuses_0 (a0 : Int) (w : World) (hg : GV w) (hr : Int.tmod (IntKind.u64.wrap a0) 5 = 0) : Calls Try.prog 6 #[.int .i64 a0] w fun e w' => e = .returned (.bool true) ∧ Below w.heap.size w w' := by
  have OF := Aside0.mk (fun (W : World) (hb : Below w.heap.size w W) => show Calls Try.prog 11 #[pv plainP none 0 none 0 none 0, .int .i64 19723, .int .i64 0] W (Sched ([], 16) W) from by have := sched_any plainP none 0 none 0 none 0 19723 0 W (hg.below hb) (nilAt rfl rfl rfl) small_plain; rw [ref_s0] at this; exact this)
  have AK := Aside0.mk (fun (W : World) (hb : Below w.heap.size w W) => sched_awake W (hg.below hb))
  clear hg
  go_enter Try.func6, Try.ntmps6
  go_wp2_with (first
    | (go_at_call 13; (with_reducible refine (plain_any _).mono ?_); rintro e w0 ⟨rfl, hb⟩; have HB := Aside0.mk hb; clear hb)
    | ((with_reducible refine gate_dst (N := 3) rfl ?_); refine copy_event rfl (N := 3) rfl rfl rfl (t := 27) (v := .tmp 9) rfl (cs := pcs plainP none 0 none 0 none 0) (zs := pzs) ?hr rfl rfl info_prod ?hz (pcs_one _ _ _ _ _ _ _) ?_; (case hr => first | (go_simp; done) | (go_simp; rfl)); (case hz => rfl); intro g hg w1 hb1 hbl1; have gge := (show w.heap.size ≤ g by rw [hg]; exact HB.out.size); have HB := Aside0.mk (below_step HB.out hbl1); have GG := Aside0.mk hb1; clear hg hb1 hbl1; skip)
    | ((with_reducible refine gate_dst (N := 23) rfl ?_); refine wpList_load_row rfl 27 (.tmp 3) rfl g rfl 27 _ (0, 0) _ GG.out Try.underlying27 rfl info_prod ?_)
    | (go_at_call 11; (with_reducible refine (OF.out _ HB.out).mono ?_); rintro e w5 ⟨A, c, rfl, -, hb⟩; have HB := Aside0.mk (below_step HB.out hb); clear hb)
    | (go_at_call 12; (with_reducible refine (AK.out _ HB.out).mono ?_); rintro e w7 ⟨rfl, hb⟩; have HB := Aside0.mk (below_step HB.out hb); clear hb))
  go_ret
  exact ⟨rfl, HB.out⟩
theorem ref_s1 : schedP plainP 19723 10000000000001 = ([], 16) := by decide +kernel
set_option maxRecDepth 100000 in
set_option maxHeartbeats 8000000 in
theorem srefuses_1 (a0 : Int) (w : World) (hg : GV w) (hr : Int.tmod (IntKind.u64.wrap a0) 5 = 1) : Calls Try.prog 6 #[.int .i64 a0] w fun e w' => e = .returned (.bool true) ∧ Below w.heap.size w w' := by
  have OF := Aside0.mk (fun (W : World) (hb : Below w.heap.size w W) => show Calls Try.prog 11 #[pv plainP none 0 none 0 none 0, .int .i64 19723, .int .i64 10000000000001] W (Sched ([], 16) W) from by have := sched_any plainP none 0 none 0 none 0 19723 10000000000001 W (hg.below hb) (nilAt rfl rfl rfl) small_plain; rw [ref_s1] at this; exact this)
  have AK := Aside0.mk (fun (W : World) (hb : Below w.heap.size w W) => sched_awake W (hg.below hb))
  clear hg
  go_enter Try.func6, Try.ntmps6
  go_wp2_with (first
    | (go_at_call 13; (with_reducible refine (plain_any _).mono ?_); rintro e w0 ⟨rfl, hb⟩; have HB := Aside0.mk hb; clear hb)
    | ((with_reducible refine gate_dst (N := 3) rfl ?_); refine copy_event rfl (N := 3) rfl rfl rfl (t := 27) (v := .tmp 9) rfl (cs := pcs plainP none 0 none 0 none 0) (zs := pzs) ?hr rfl rfl info_prod ?hz (pcs_one _ _ _ _ _ _ _) ?_; (case hr => first | (go_simp; done) | (go_simp; rfl)); (case hz => rfl); intro g hg w1 hb1 hbl1; have gge := (show w.heap.size ≤ g by rw [hg]; exact HB.out.size); have HB := Aside0.mk (below_step HB.out hbl1); have GG := Aside0.mk hb1; clear hg hb1 hbl1; skip)
    | ((with_reducible refine gate_dst (N := 23) rfl ?_); refine wpList_load_row rfl 27 (.tmp 3) rfl g rfl 27 _ (0, 0) _ GG.out Try.underlying27 rfl info_prod ?_)
    | (go_at_call 11; (with_reducible refine (OF.out _ HB.out).mono ?_); rintro e w5 ⟨A, c, rfl, -, hb⟩; have HB := Aside0.mk (below_step HB.out hb); clear hb)
    | (go_at_call 12; (with_reducible refine (AK.out _ HB.out).mono ?_); rintro e w7 ⟨rfl, hb⟩; have HB := Aside0.mk (below_step HB.out hb); clear hb))
  go_ret
  exact ⟨rfl, HB.out⟩
theorem ref_s2 : schedP plainP 84370 1000 = ([], 5) := by decide +kernel
set_option maxRecDepth 100000 in
set_option maxHeartbeats 8000000 in
theorem srefuses_2 (a0 : Int) (w : World) (hg : GV w) (hr : Int.tmod (IntKind.u64.wrap a0) 5 = 2) : Calls Try.prog 6 #[.int .i64 a0] w fun e w' => e = .returned (.bool true) ∧ Below w.heap.size w w' := by
  have OF := Aside0.mk (fun (W : World) (hb : Below w.heap.size w W) => show Calls Try.prog 11 #[pv plainP none 0 none 0 none 0, .int .i64 84370, .int .i64 1000] W (Sched ([], 5) W) from by have := sched_any plainP none 0 none 0 none 0 84370 1000 W (hg.below hb) (nilAt rfl rfl rfl) small_plain; rw [ref_s2] at this; exact this)
  have AK := Aside0.mk (fun (W : World) (hb : Below w.heap.size w W) => sched_awake W (hg.below hb))
  clear hg
  go_enter Try.func6, Try.ntmps6
  go_wp2_with (first
    | (go_at_call 13; (with_reducible refine (plain_any _).mono ?_); rintro e w0 ⟨rfl, hb⟩; have HB := Aside0.mk hb; clear hb)
    | ((with_reducible refine gate_dst (N := 3) rfl ?_); refine copy_event rfl (N := 3) rfl rfl rfl (t := 27) (v := .tmp 9) rfl (cs := pcs plainP none 0 none 0 none 0) (zs := pzs) ?hr rfl rfl info_prod ?hz (pcs_one _ _ _ _ _ _ _) ?_; (case hr => first | (go_simp; done) | (go_simp; rfl)); (case hz => rfl); intro g hg w1 hb1 hbl1; have gge := (show w.heap.size ≤ g by rw [hg]; exact HB.out.size); have HB := Aside0.mk (below_step HB.out hbl1); have GG := Aside0.mk hb1; clear hg hb1 hbl1; skip)
    | ((with_reducible refine gate_dst (N := 23) rfl ?_); refine wpList_load_row rfl 27 (.tmp 3) rfl g rfl 27 _ (0, 0) _ GG.out Try.underlying27 rfl info_prod ?_)
    | (go_at_call 11; (with_reducible refine (OF.out _ HB.out).mono ?_); rintro e w5 ⟨A, c, rfl, -, hb⟩; have HB := Aside0.mk (below_step HB.out hb); clear hb)
    | (go_at_call 12; (with_reducible refine (AK.out _ HB.out).mono ?_); rintro e w7 ⟨rfl, hb⟩; have HB := Aside0.mk (below_step HB.out hb); clear hb))
  go_ret
  exact ⟨rfl, HB.out⟩
abbrev badP : Prod := { plainP with rate := -1 }
theorem ref_s3 : schedP badP 19723 1000 = ([], 9) := by decide +kernel
set_option maxRecDepth 100000 in
set_option maxHeartbeats 8000000 in
theorem srefuses_3 (a0 : Int) (w : World) (hg : GV w) (hr : Int.tmod (IntKind.u64.wrap a0) 5 = 3) : Calls Try.prog 6 #[.int .i64 a0] w fun e w' => e = .returned (.bool true) ∧ Below w.heap.size w w' := by
  have OF := Aside0.mk (fun (W : World) (hb : Below w.heap.size w W) => show Calls Try.prog 11 #[pv badP none 0 none 0 none 0, .int .i64 19723, .int .i64 1000] W (Sched ([], 9) W) from by have := sched_any badP none 0 none 0 none 0 19723 1000 W (hg.below hb) (nilAt rfl rfl rfl) ⟨by decide, by decide, by decide, by decide⟩; rw [ref_s3] at this; exact this)
  have AK := Aside0.mk (fun (W : World) (hb : Below w.heap.size w W) => sched_awake W (hg.below hb))
  clear hg
  go_enter Try.func6, Try.ntmps6
  go_wp2_with (first
    | (go_at_call 13; (with_reducible refine (plain_any _).mono ?_); rintro e w0 ⟨rfl, hb⟩; have HB := Aside0.mk hb; clear hb)
    | ((with_reducible refine gate_dst (N := 3) rfl ?_); refine copy_event rfl (N := 3) rfl rfl rfl (t := 27) (v := .tmp 9) rfl (cs := pcs plainP none 0 none 0 none 0) (zs := pzs) ?hr rfl rfl info_prod ?hz (pcs_one _ _ _ _ _ _ _) ?_; (case hr => first | (go_simp; done) | (go_simp; rfl)); (case hz => rfl); intro g hg w1 hb1 hbl1; have gge := (show w.heap.size ≤ g by rw [hg]; exact HB.out.size); have HB := Aside0.mk (below_step HB.out hbl1); have GG := Aside0.mk hb1; clear hg hb1 hbl1; have u7 : w1.cell? ⟨g, 7, none⟩ = some (.int .i64 _) := (blk_cell GG.out 7).trans rfl; have f7 := frozen_of_row w1 g 7 _ _ GG.out)
    | ((with_reducible refine gate_store (t := 2) (p := 21) rfl ?_); refine put_event rfl (t := 2) (p := 21) (v := (.const (.int .i64 (-1)))) rfl rfl (g := g) (i := 7) (cs := pcs plainP none 0 none 0 none 0) (cs' := pcs { plainP with rate := -1 } none 0 none 0 none 0) (x := .int .i64 (-1)) ?hr GG.out ?hc ?_; (case hc => rfl); (case hr => go_simp); intro w2 hb8 hbut; have GG := Aside0.mk hb8; have HB := Aside0.mk (But.below HB.out HB.out.size gge hbut); clear hbut; clear hb8; skip)
    | ((with_reducible refine gate_dst (N := 23) rfl ?_); refine wpList_load_row rfl 27 (.tmp 3) rfl g rfl 27 _ (0, 0) _ GG.out Try.underlying27 rfl info_prod ?_)
    | (go_at_call 11; (with_reducible refine (OF.out _ HB.out).mono ?_); rintro e w5 ⟨A, c, rfl, -, hb⟩; have HB := Aside0.mk (below_step HB.out hb); clear hb)
    | (go_at_call 12; (with_reducible refine (AK.out _ HB.out).mono ?_); rintro e w7 ⟨rfl, hb⟩; have HB := Aside0.mk (below_step HB.out hb); clear hb))
  go_ret
  exact ⟨rfl, HB.out⟩
theorem ref_s4 : schedP plainP (-25568) 1000 = ([], 5) := by decide +kernel
set_option maxRecDepth 100000 in
set_option maxHeartbeats 8000000 in
theorem srefuses_4 (a0 : Int) (w : World) (hg : GV w) (hr : Int.tmod (IntKind.u64.wrap a0) 5 = 4) : Calls Try.prog 6 #[.int .i64 a0] w fun e w' => e = .returned (.bool true) ∧ Below w.heap.size w w' := by
  have OF := Aside0.mk (fun (W : World) (hb : Below w.heap.size w W) => show Calls Try.prog 11 #[pv plainP none 0 none 0 none 0, .int .i64 (-25568), .int .i64 1000] W (Sched ([], 5) W) from by have := sched_any plainP none 0 none 0 none 0 (-25568) 1000 W (hg.below hb) (nilAt rfl rfl rfl) small_plain; rw [ref_s4] at this; exact this)
  have AK := Aside0.mk (fun (W : World) (hb : Below w.heap.size w W) => sched_awake W (hg.below hb))
  clear hg
  go_enter Try.func6, Try.ntmps6
  go_wp2_with (first
    | (go_at_call 13; (with_reducible refine (plain_any _).mono ?_); rintro e w0 ⟨rfl, hb⟩; have HB := Aside0.mk hb; clear hb)
    | ((with_reducible refine gate_dst (N := 3) rfl ?_); refine copy_event rfl (N := 3) rfl rfl rfl (t := 27) (v := .tmp 9) rfl (cs := pcs plainP none 0 none 0 none 0) (zs := pzs) ?hr rfl rfl info_prod ?hz (pcs_one _ _ _ _ _ _ _) ?_; (case hr => first | (go_simp; done) | (go_simp; rfl)); (case hz => rfl); intro g hg w1 hb1 hbl1; have gge := (show w.heap.size ≤ g by rw [hg]; exact HB.out.size); have HB := Aside0.mk (below_step HB.out hbl1); have GG := Aside0.mk hb1; clear hg hb1 hbl1; skip)
    | ((with_reducible refine gate_dst (N := 23) rfl ?_); refine wpList_load_row rfl 27 (.tmp 3) rfl g rfl 27 _ (0, 0) _ GG.out Try.underlying27 rfl info_prod ?_)
    | (go_at_call 11; (with_reducible refine (OF.out _ HB.out).mono ?_); rintro e w5 ⟨A, c, rfl, -, hb⟩; have HB := Aside0.mk (below_step HB.out hb); clear hb)
    | (go_at_call 12; (with_reducible refine (AK.out _ HB.out).mono ?_); rintro e w7 ⟨rfl, hb⟩; have HB := Aside0.mk (below_step HB.out hb); clear hb))
  go_ret
  exact ⟨rfl, HB.out⟩
theorem scheduleRefuses_walk (a0 : Int) (w : World) (w0 : (Lit.int .i64 a0).wf = true) (hg : GV w) : Calls Try.prog 6 #[.int .i64 a0] w fun e w' => e = .returned (.bool true) ∧ Below w.heap.size w w' := by
  have hb : 0 ≤ Int.tmod (IntKind.u64.wrap a0) 5 ∧ Int.tmod (IntKind.u64.wrap a0) 5 < 5 := by
    have e : IntKind.u64.wrap a0 = a0 % 18446744073709551616 := rfl
    have hn := Int.emod_nonneg a0 (show (18446744073709551616 : Int) ≠ 0 by omega)
    rw [e, Int.tmod_eq_emod_of_nonneg hn]
    omega
  rcases (by omega : Int.tmod (IntKind.u64.wrap a0) 5 = 0 ∨ Int.tmod (IntKind.u64.wrap a0) 5 = 1 ∨ Int.tmod (IntKind.u64.wrap a0) 5 = 2 ∨ Int.tmod (IntKind.u64.wrap a0) 5 = 3 ∨ Int.tmod (IntKind.u64.wrap a0) 5 = 4) with h | h | h | h | h
  · exact srefuses_0 a0 w hg h
  · exact srefuses_1 a0 w hg h
  · exact srefuses_2 a0 w hg h
  · exact srefuses_3 a0 w hg h
  · exact srefuses_4 a0 w hg h
end Go.Proofs.Ytfmkdledofbhdaa.Sc
