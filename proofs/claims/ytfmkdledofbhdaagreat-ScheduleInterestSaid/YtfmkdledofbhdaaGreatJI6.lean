/- Texts of this claim, joined in build order. -/
import Derived.Test.YtfmkdledofbhdaaGreatProg
import Derived.Below
import Derived.Deep.Draws
import Derived.Deep.AppendLies
import Derived.Maps.AppendAt
import Derived.OwnWalk
import Derived.Laws.BytesArg
import Derived.Laws.MakeOwn
import Derived.Laws.OwnMore
import Derived.Tactics
import Derived.Lib.ConvBytes
import Derived.Laws.Slices
import Derived.WalkKit
import Derived.KernelRfl
import Derived.RowKit3
import Derived.Deep.LoopGhost
import Derived.Deep.QuietTactic
import Derived.BigQuiet
import Derived.WideLaws
import Derived.Deep.DeepCutAuto
import Derived.Deep.CutBlock
import Derived.Deep.RegionHeld3
import Derived.Lib.AppendStr
import Derived.ArgAppend
import Derived.Laws.IdiomCopy
import Derived.OrdersHeld
import Derived.Laws.BitsLemmas
import Derived.RowKit
import Derived.Laws.StructEq
import Derived.WalkLawsBesides
import Derived.WalkSpells
import Derived.Lib.IndexMore
import Derived.Deep.Slices
import Derived.Deep.Fields
import Derived.ChangeSame
import Derived.Lib.SmallJoins
import Derived.ProofKit
import Derived.Defers
import Derived.Laws.Tables
import Derived.Deep.WholeRow
import Derived.Recover
import Derived.StillTailTactics
import Derived.IntWalk
import Derived.Shelf.Small.Bits
import Derived.Shelf.Strconv.Itoa0
import Derived.Shelf.Strings.Search1
import Derived.Shelf.Strings.Search2
import Derived.Shelf.Strings.Search3
import Derived.Shelf.LaysM
import Derived.Shelf.Strings.Shaped
import Derived.Shelf.Bits.Mul64
import Derived.Lib.SlBytesConst
import Derived.Deep.RegionWith
import Derived.Lib.Hide
import Derived.BigFrame
import Derived.Lib.BitFns
import Derived.Laws.BitsAllLaws
import Derived.Laws.Externs
import Derived.RegionTactic
import Derived.Deep.MidRow
import Derived.OpenShut
import Derived.ShutString
import Derived.ChangeOld
import Derived.Laws.IdiomArrays
import Derived.SizedLaws
import Derived.HandedShaped
import Derived.Shelf.Vars
import Derived.Test.YtfmkdledofbhdaaGreatJI1
import Derived.Test.YtfmkdledofbhdaaGreatJI2
import Derived.Test.YtfmkdledofbhdaaGreatJI3
import Derived.Test.YtfmkdledofbhdaaGreatJI4
import Derived.Test.YtfmkdledofbhdaaGreatJI5
set_option linter.unusedVariables false
set_option linter.unusedSimpArgs false
/- quittanceplay.Product: this product, or one near it. -/
namespace Go.Proofs.YtfmkdledofbhdaaGreat.Du
open Go.RowKit Go.Proofs.YtfmkdledofbhdaaGreatW.PrintWords Go.Proofs.YtfmkdledofbhdaaGreatW.PrintLast Go.Proofs.YtfmkdledofbhdaaGreatW.PrintMore Go.Proofs.YtfmkdledofbhdaaGreat.HW
open Go.Proofs.YtfmkdledofbhdaaGreat.Math Go.Proofs.YtfmkdledofbhdaaGreat.H Go.Proofs.YtfmkdledofbhdaaGreat.Pd Pm
set_option linter.unusedVariables false
set_option linter.unusedSimpArgs false
section
variable {P : Program} {ops : Array Oper} {rest : List Oper} {a : Act} {Q : Exit → Act → World → Prop}
theorem But.setRow (g : Nat) (w : World) (cs : Array Value) : H.But g w (w.setRow g cs) := ⟨rfl, rfl, rfl, by rw [size_setRow]; exact Nat.le_refl _, fun k _ hk => setRow_other w g k cs hk⟩
theorem row_event {W : World} {o : Oper} (hgd : o.guard = none) {t : TypeId} {p : Tmp} {v : Operand} (ho : o.op = .store t (.tmp p) v) (hd : o.dst = none) {g : Nat} {cs zs : Array Value}
  (hp : a.eval (.tmp p) = .pointer (some ⟨g, 0, none⟩)) (hv : a.eval v = .agg cs) (hb : W.heap[g]? = some (.cells zs t (0, 0))) (hi : (P.info? t).map (·.size) = some cs.size) (hz : zs.size = cs.size) (h1 : cs.all (·.oneCell') = true)
  (h : ∀ w1, w1.heap[g]? = some (.cells cs t (0, 0)) → H.But g W w1 → wpList P ops Q rest a w1) : wpList P ops Q (o :: rest) a W := by
 refine wpList_store_row hgd t (.tmp p) v ho g cs hp hv t zs hb hi hz h1 ?_
 rw [hd]
 exact h _ (setRow_heap W g zs cs t (0, 0) hb) (But.setRow g W cs)
end
def U (x : Int) (m : Int) : Int := x % 18446744073709551616 % m
theorem U_bd (x : Int) {m : Int} (h : 0 < m) : 0 ≤ U x m ∧ U x m < m := ⟨Int.emod_nonneg _ (by omega), Int.emod_lt_of_pos _ h⟩
theorem U_is (x : Int) {m : Int} (h : 0 < m) (h2 : m ≤ 1000000000) : IntKind.i64.wrap (Int.tmod (IntKind.u64.wrap x) m) = U x m := by
 have e : IntKind.u64.wrap x = x % 18446744073709551616 := rfl
 have hn := Int.emod_nonneg x (show (18446744073709551616 : Int) ≠ 0 by omega)
 have hb := U_bd x h
 rw [e, Int.tmod_eq_emod_of_nonneg hn]
 show IntKind.i64.wrap (U x m) = U x m
 generalize U x m = j at *
 rw [i64_w]
 exact w64 (x := j) (by omega) (by omega)
def nearB (p : Prod) (n : Int) : Prod :=
 { plainP with count := 1 + U p.count 3, round := if U p.round 2 = 0 then 1 else 3, kind := 1 + U p.kind 3, every := if U p.every 6 = 0 then 1 else if U p.every 6 = 1 then 2 else if U p.every 6 = 2 then 3 else if U p.every 6 = 3 then 4 else if U p.every 6 = 4 then 6 else 12, times := 1 + U p.times n, rate := U p.rate 300000000, penalty := U p.penalty 500000000, over := 1 + U p.over 3 }
def nearD (q : Prod) : Prod := if q.times ≤ q.grace ∨ q.kind = 3 then { q with grace := 0 } else q
def nearP (p : Prod) (n : Int) : Prod := if ok p = true then nearD (if n < p.times then { p with times := n, resets := [] } else p) else nearD (nearB p n)
def NearE (p : Prod) (A1 : Option Addr) (c1 : Nat) (A2 : Option Addr) (c2 : Nat) (A3 : Option Addr) (c3 : Nat) (q : Prod) (w : World) (e : Ending) (w' : World) : Prop := ∃ B1 d1 B2 d2 B3 d3, e = .returned (pv q B1 d1 B2 d2 B3 d3) ∧ (∀ w0, ProdAt w0 p A1 c1 A2 c2 A3 c3 → ProdAt w0 q B1 d1 B2 d2 B3 d3) ∧ Below w.heap.size w w'
set_option maxRecDepth 100000 in
set_option maxHeartbeats 8000000 in
theorem near_ok (p : Prod) (A1 : Option Addr) (c1 : Nat) (A2 : Option Addr) (c2 : Nat) (A3 : Option Addr) (c3 : Nat) (n : Int) (w : World) (hp : ProdAt w p A1 c1 A2 c2 A3 c3) (hs : Held p) (ho : ok p = true) :
  Calls Tryz.prog 6 #[pv p A1 c1 A2 c2 A3 c3, .int .i64 n] w (NearE p A1 c1 A2 c2 A3 c3 (nearP p n) w) := by
 have er : err p = 0 := by unfold err; rw [ho]; rfl
 have en : nearP p n = nearD (if n < p.times then { p with times := n, resets := [] } else p) := by unfold nearP; rw [if_pos ho]
 have HP := Aside0.mk hp
 have CK := Aside0.mk (fun w1 (hb : Below w.heap.size w w1) => rcheck_any p A1 c1 A2 c2 A3 c3 w1 (HP.out.below hb) hs)
 rw [er] at CK
 rw [en]
 have EN : True := trivial
 clear hp er en ho hs
 by_cases hn : n < p.times
 ·have k1 : decide (n < p.times) = true := decide_eq_true hn
  rw [if_pos hn]
  unfold nearD
  dsimp only
  by_cases hg : n ≤ p.grace
  ·rw [if_pos (Or.inl hg)]
   have k2 : decide (n ≤ p.grace) = true := decide_eq_true hg
   clear hn hg
   go_enter Tryz.func6, Tryz.ntmps6
   go_wp2_with ((with_reducible refine gate_dst (N := 2) rfl ?_); refine box_event ?hg (N := 2) ?hd (cs := pcs p A1 c1 A2 c2 A3 c3) (t := 27) ?hr ?_; (case hd => rfl); (case hg => rfl); (case hr => first | (go_simp; done) | (go_simp; rfl)); intro g2 hg v0 hb1 hbl1; clear hg; have G2 := Aside0.mk hb1; have HB := Aside0.mk hbl1; clear hb1 hbl1; refine Hid.out ?_)
   refine Lib.hid ?_
   go_wp2_with (first
    | ((with_reducible refine gate_dst (N := 4) rfl ?_); refine box_event ?hg (N := 4) ?hd (cs := pzs) (t := 27) ?hr ?_; (case hd => rfl); (case hg => rfl); (case hr => first | (go_simp; done) | (go_simp; rfl)); intro g4 hg w4 hb1 hbl1; have ge4 := (show w.heap.size ≤ g4 by rw [hg]; exact HB.out.size); have ne42 := (show g4 ≠ g2 by have := blk_lt G2.out; omega); clear hg; have G2 := Aside0.mk (Pd.blk_below G2.out hbl1); have G4 := Aside0.mk hb1; have HB := Aside0.mk (below_step HB.out hbl1); clear hb1 hbl1)
    | (go_at_call 13; (with_reducible refine (plain_any _).mono ?_); rintro e w5 ⟨rfl, hb⟩; have G2 := Aside0.mk (Pd.blk_below G2.out hb); have G4 := Aside0.mk (Pd.blk_below G4.out hb); have HB := Aside0.mk (below_step HB.out hb); clear hb)
    | ((with_reducible refine gate_dst (N := 5) rfl ?_); refine copy_event rfl (N := 5) rfl rfl rfl (t := 27) (v := .tmp 6) rfl (cs := plainC) (zs := pzs) ?hr rfl rfl info_prod ?hz plainC_one ?_; (case hr => first | (go_simp; done) | (go_simp; rfl)); (case hz => rfl); intro g5 hg w6 hb0 hb; have ge5 := (show w.heap.size ≤ g5 by rw [hg]; exact HB.out.size); have ne52 := (show g5 ≠ g2 by have := blk_lt G2.out; omega); have ne54 := (show g5 ≠ g4 by have := blk_lt G4.out; omega); clear hg; have G2 := Aside0.mk (Pd.blk_below G2.out hb); have G4 := Aside0.mk (Pd.blk_below G4.out hb); have G5 := Aside0.mk hb0; have HB := Aside0.mk (below_step HB.out hb); clear hb0 hb)
    | ((with_reducible refine gate_dst (N := 7) rfl ?_); refine wpList_load_row rfl 27 (.tmp 2) rfl g2 rfl 27 _ (0, 0) _ G2.out Tryz.underlying27 rfl info_prod ?_)
    | (go_at_call 14; (with_reducible refine (CK.out _ HB.out).mono ?_); rintro e w7 ⟨rfl, hb⟩; have G2 := Aside0.mk (Pd.blk_below G2.out hb); have G4 := Aside0.mk (Pd.blk_below G4.out hb); have G5 := Aside0.mk (Pd.blk_below G5.out hb); have HB := Aside0.mk (below_step HB.out hb); clear hb)
    | ((with_reducible refine gate_dst (N := 10) rfl ?_); refine wpList_load_row rfl 27 (.tmp 2) rfl g2 rfl 27 _ (0, 0) _ G2.out Tryz.underlying27 rfl info_prod ?_)
    | ((with_reducible refine gate_store (t := 27) (p := 5) rfl ?_); refine row_event rfl (t := 27) (p := 5) (v := .tmp 10) rfl rfl (g := g5) (cs := pcs p A1 c1 A2 c2 A3 c3) (zs := plainC) rfl rfl G5.out info_prod rfl (pcs_one _ _ _ _ _ _ _) ?_; intro w8 hb8 hbut; have G5 := Aside0.mk hb8; have G2 := Aside0.mk ((hbut.block g2 (blk_lt G2.out) (Ne.symm ne52)).trans G2.out); have G4 := Aside0.mk ((hbut.block g4 (blk_lt G4.out) (Ne.symm ne54)).trans G4.out); have HB := Aside0.mk (But.below HB.out HB.out.size ge5 hbut); clear hb8 hbut; refine Hid.out ?_))
   refine Lib.hid ?_
   try go_frame
   obtain ⟨-, -, -, u3, -, u5, u6, -, u8, -, -, -, -, -, -, -, -, -, -⟩ := pc_cells G5.out
   have f5 := frozen_of_row w8 g5 5 _ _ G5.out
   have f6 := frozen_of_row w8 g5 6 _ _ G5.out
   have f8 := frozen_of_row w8 g5 8 _ _ G5.out
   have bfin : (((w8.setCell ⟨g5, 5, none⟩ (.int .i64 n)).setCell ⟨g5, 8, none⟩ (.slice none 0 0)).setCell ⟨g5, 6, none⟩ (.int .i64 0)).heap[g5]? = some (.cells (pcs { p with times := n, resets := [], grace := 0 } none 0 A2 c2 A3 c3) 27 (0, 0)) := (heap_setCell_same _ g5 6 _ _ _ (heap_setCell_same _ g5 8 _ _ _ (heap_setCell_same _ g5 5 _ _ _ G5.out))).trans rfl
   have hbut : H.But g5 w8 (((w8.setCell ⟨g5, 5, none⟩ (.int .i64 n)).setCell ⟨g5, 8, none⟩ (.slice none 0 0)).setCell ⟨g5, 6, none⟩ (.int .i64 0)) := ((((H.But.of (Below.refl w8.heap.size w8)).setCell (p := ⟨g5, 5, none⟩) (Or.inl rfl) (.int .i64 n)).setCell (p := ⟨g5, 8, none⟩) (Or.inl rfl) (.slice none 0 0)).setCell (p := ⟨g5, 6, none⟩) (Or.inl rfl) (.int .i64 0))
   have g4fin : (((w8.setCell ⟨g5, 5, none⟩ (.int .i64 n)).setCell ⟨g5, 8, none⟩ (.slice none 0 0)).setCell ⟨g5, 6, none⟩ (.int .i64 0)).heap[g4]? = some (.cells pzs 27 (0, 0)) := (hbut.block g4 (blk_lt G4.out) (Ne.symm ne54)).trans G4.out
   have hbfin : Below w.heap.size w (((w8.setCell ⟨g5, 5, none⟩ (.int .i64 n)).setCell ⟨g5, 8, none⟩ (.slice none 0 0)).setCell ⟨g5, 6, none⟩ (.int .i64 0)) := But.below HB.out HB.out.size ge5 hbut
   have F5 := Aside0.mk bfin
   have F4 := Aside0.mk g4fin
   have FB := Aside0.mk hbfin
   clear bfin hbut g4fin hbfin
   go_wp2_with (first
    | ((with_reducible refine gate_dst (N := 89) rfl ?_); refine wpList_load_row rfl 27 (.tmp 5) rfl g5 rfl 27 _ (0, 0) _ F5.out Tryz.underlying27 rfl info_prod ?_)
    | ((with_reducible refine gate_store (t := 27) (p := 4) rfl ?_); refine Hid.out ?_))
   refine Lib.hid ?_
   refine row_event rfl (t := 27) (p := 4) (v := .tmp 89) rfl rfl (g := g4) (cs := pcs { p with times := n, resets := [], grace := 0 } none 0 A2 c2 A3 c3) (zs := pzs) rfl rfl F4.out info_prod rfl (pcs_one _ _ _ _ _ _ _) ?_
   intro w20 hb20 hbut20
   have H20 := Aside0.mk hb20
   have HB20 := Aside0.mk (But.below FB.out FB.out.size ge4 hbut20)
   clear hb20 hbut20
   try go_frame
   go_wp2_with fail
   exact bodyPost_ret (v := pv { p with times := n, resets := [], grace := 0 } none 0 A2 c2 A3 c3) (results_cell_row (g := g4) Tryz.results6 _ _ _ _ _ _ rfl H20.out Tryz.underlying27 rfl info_prod) rfl ⟨none, 0, A2, c2, A3, c3, rfl, (fun w0 h => ⟨nilRows _, Nat.le_refl _, fun _ => rfl, h.r2, h.l2, h.n2, h.r3, h.l3, h.n3⟩), HB20.out⟩
  ·have k2 : decide (n ≤ p.grace) = false := decide_eq_false hg
   by_cases h3 : p.kind = 3
   ·rw [if_pos (Or.inr h3)]
    have k3 : (p.kind == 3) = true := by simpa using h3
    clear hn hg h3
    go_enter Tryz.func6, Tryz.ntmps6
    go_wp2_with ((with_reducible refine gate_dst (N := 2) rfl ?_); refine box_event ?hg (N := 2) ?hd (cs := pcs p A1 c1 A2 c2 A3 c3) (t := 27) ?hr ?_; (case hd => rfl); (case hg => rfl); (case hr => first | (go_simp; done) | (go_simp; rfl)); intro g2 hg v0 hb1 hbl1; clear hg; have G2 := Aside0.mk hb1; have HB := Aside0.mk hbl1; clear hb1 hbl1; refine Hid.out ?_)
    refine Lib.hid ?_
    go_wp2_with (first
     | ((with_reducible refine gate_dst (N := 4) rfl ?_); refine box_event ?hg (N := 4) ?hd (cs := pzs) (t := 27) ?hr ?_; (case hd => rfl); (case hg => rfl); (case hr => first | (go_simp; done) | (go_simp; rfl)); intro g4 hg w4 hb1 hbl1; have ge4 := (show w.heap.size ≤ g4 by rw [hg]; exact HB.out.size); have ne42 := (show g4 ≠ g2 by have := blk_lt G2.out; omega); clear hg; have G2 := Aside0.mk (Pd.blk_below G2.out hbl1); have G4 := Aside0.mk hb1; have HB := Aside0.mk (below_step HB.out hbl1); clear hb1 hbl1)
     | (go_at_call 13; (with_reducible refine (plain_any _).mono ?_); rintro e w5 ⟨rfl, hb⟩; have G2 := Aside0.mk (Pd.blk_below G2.out hb); have G4 := Aside0.mk (Pd.blk_below G4.out hb); have HB := Aside0.mk (below_step HB.out hb); clear hb)
     | ((with_reducible refine gate_dst (N := 5) rfl ?_); refine copy_event rfl (N := 5) rfl rfl rfl (t := 27) (v := .tmp 6) rfl (cs := plainC) (zs := pzs) ?hr rfl rfl info_prod ?hz plainC_one ?_; (case hr => first | (go_simp; done) | (go_simp; rfl)); (case hz => rfl); intro g5 hg w6 hb0 hb; have ge5 := (show w.heap.size ≤ g5 by rw [hg]; exact HB.out.size); have ne52 := (show g5 ≠ g2 by have := blk_lt G2.out; omega); have ne54 := (show g5 ≠ g4 by have := blk_lt G4.out; omega); clear hg; have G2 := Aside0.mk (Pd.blk_below G2.out hb); have G4 := Aside0.mk (Pd.blk_below G4.out hb); have G5 := Aside0.mk hb0; have HB := Aside0.mk (below_step HB.out hb); clear hb0 hb)
     | ((with_reducible refine gate_dst (N := 7) rfl ?_); refine wpList_load_row rfl 27 (.tmp 2) rfl g2 rfl 27 _ (0, 0) _ G2.out Tryz.underlying27 rfl info_prod ?_)
     | (go_at_call 14; (with_reducible refine (CK.out _ HB.out).mono ?_); rintro e w7 ⟨rfl, hb⟩; have G2 := Aside0.mk (Pd.blk_below G2.out hb); have G4 := Aside0.mk (Pd.blk_below G4.out hb); have G5 := Aside0.mk (Pd.blk_below G5.out hb); have HB := Aside0.mk (below_step HB.out hb); clear hb)
     | ((with_reducible refine gate_dst (N := 10) rfl ?_); refine wpList_load_row rfl 27 (.tmp 2) rfl g2 rfl 27 _ (0, 0) _ G2.out Tryz.underlying27 rfl info_prod ?_)
     | ((with_reducible refine gate_store (t := 27) (p := 5) rfl ?_); refine row_event rfl (t := 27) (p := 5) (v := .tmp 10) rfl rfl (g := g5) (cs := pcs p A1 c1 A2 c2 A3 c3) (zs := plainC) rfl rfl G5.out info_prod rfl (pcs_one _ _ _ _ _ _ _) ?_; intro w8 hb8 hbut; have G5 := Aside0.mk hb8; have G2 := Aside0.mk ((hbut.block g2 (blk_lt G2.out) (Ne.symm ne52)).trans G2.out); have G4 := Aside0.mk ((hbut.block g4 (blk_lt G4.out) (Ne.symm ne54)).trans G4.out); have HB := Aside0.mk (But.below HB.out HB.out.size ge5 hbut); clear hb8 hbut; refine Hid.out ?_))
    refine Lib.hid ?_
    try go_frame
    obtain ⟨-, -, -, u3, -, u5, u6, -, u8, -, -, -, -, -, -, -, -, -, -⟩ := pc_cells G5.out
    have f5 := frozen_of_row w8 g5 5 _ _ G5.out
    have f6 := frozen_of_row w8 g5 6 _ _ G5.out
    have f8 := frozen_of_row w8 g5 8 _ _ G5.out
    have bfin : (((w8.setCell ⟨g5, 5, none⟩ (.int .i64 n)).setCell ⟨g5, 8, none⟩ (.slice none 0 0)).setCell ⟨g5, 6, none⟩ (.int .i64 0)).heap[g5]? = some (.cells (pcs { p with times := n, resets := [], grace := 0 } none 0 A2 c2 A3 c3) 27 (0, 0)) := (heap_setCell_same _ g5 6 _ _ _ (heap_setCell_same _ g5 8 _ _ _ (heap_setCell_same _ g5 5 _ _ _ G5.out))).trans rfl
    have hbut : H.But g5 w8 (((w8.setCell ⟨g5, 5, none⟩ (.int .i64 n)).setCell ⟨g5, 8, none⟩ (.slice none 0 0)).setCell ⟨g5, 6, none⟩ (.int .i64 0)) := ((((H.But.of (Below.refl w8.heap.size w8)).setCell (p := ⟨g5, 5, none⟩) (Or.inl rfl) (.int .i64 n)).setCell (p := ⟨g5, 8, none⟩) (Or.inl rfl) (.slice none 0 0)).setCell (p := ⟨g5, 6, none⟩) (Or.inl rfl) (.int .i64 0))
    have g4fin : (((w8.setCell ⟨g5, 5, none⟩ (.int .i64 n)).setCell ⟨g5, 8, none⟩ (.slice none 0 0)).setCell ⟨g5, 6, none⟩ (.int .i64 0)).heap[g4]? = some (.cells pzs 27 (0, 0)) := (hbut.block g4 (blk_lt G4.out) (Ne.symm ne54)).trans G4.out
    have hbfin : Below w.heap.size w (((w8.setCell ⟨g5, 5, none⟩ (.int .i64 n)).setCell ⟨g5, 8, none⟩ (.slice none 0 0)).setCell ⟨g5, 6, none⟩ (.int .i64 0)) := But.below HB.out HB.out.size ge5 hbut
    have F5 := Aside0.mk bfin
    have F4 := Aside0.mk g4fin
    have FB := Aside0.mk hbfin
    clear bfin hbut g4fin hbfin
    go_wp2_with (first
     | ((with_reducible refine gate_dst (N := 89) rfl ?_); refine wpList_load_row rfl 27 (.tmp 5) rfl g5 rfl 27 _ (0, 0) _ F5.out Tryz.underlying27 rfl info_prod ?_)
     | ((with_reducible refine gate_store (t := 27) (p := 4) rfl ?_); refine Hid.out ?_))
    refine Lib.hid ?_
    refine row_event rfl (t := 27) (p := 4) (v := .tmp 89) rfl rfl (g := g4) (cs := pcs { p with times := n, resets := [], grace := 0 } none 0 A2 c2 A3 c3) (zs := pzs) rfl rfl F4.out info_prod rfl (pcs_one _ _ _ _ _ _ _) ?_
    intro w20 hb20 hbut20
    have H20 := Aside0.mk hb20
    have HB20 := Aside0.mk (But.below FB.out FB.out.size ge4 hbut20)
    clear hb20 hbut20
    try go_frame
    go_wp2_with fail
    exact bodyPost_ret (v := pv { p with times := n, resets := [], grace := 0 } none 0 A2 c2 A3 c3) (results_cell_row (g := g4) Tryz.results6 _ _ _ _ _ _ rfl H20.out Tryz.underlying27 rfl info_prod) rfl ⟨none, 0, A2, c2, A3, c3, rfl, (fun w0 h => ⟨nilRows _, Nat.le_refl _, fun _ => rfl, h.r2, h.l2, h.n2, h.r3, h.l3, h.n3⟩), HB20.out⟩
   ·rw [if_neg (fun h => h.elim hg h3)]
    have k3 : (p.kind == 3) = false := by simpa using h3
    clear hn hg h3
    go_enter Tryz.func6, Tryz.ntmps6
    go_wp2_with ((with_reducible refine gate_dst (N := 2) rfl ?_); refine box_event ?hg (N := 2) ?hd (cs := pcs p A1 c1 A2 c2 A3 c3) (t := 27) ?hr ?_; (case hd => rfl); (case hg => rfl); (case hr => first | (go_simp; done) | (go_simp; rfl)); intro g2 hg v0 hb1 hbl1; clear hg; have G2 := Aside0.mk hb1; have HB := Aside0.mk hbl1; clear hb1 hbl1; refine Hid.out ?_)
    refine Lib.hid ?_
    go_wp2_with (first
     | ((with_reducible refine gate_dst (N := 4) rfl ?_); refine box_event ?hg (N := 4) ?hd (cs := pzs) (t := 27) ?hr ?_; (case hd => rfl); (case hg => rfl); (case hr => first | (go_simp; done) | (go_simp; rfl)); intro g4 hg w4 hb1 hbl1; have ge4 := (show w.heap.size ≤ g4 by rw [hg]; exact HB.out.size); have ne42 := (show g4 ≠ g2 by have := blk_lt G2.out; omega); clear hg; have G2 := Aside0.mk (Pd.blk_below G2.out hbl1); have G4 := Aside0.mk hb1; have HB := Aside0.mk (below_step HB.out hbl1); clear hb1 hbl1)
     | (go_at_call 13; (with_reducible refine (plain_any _).mono ?_); rintro e w5 ⟨rfl, hb⟩; have G2 := Aside0.mk (Pd.blk_below G2.out hb); have G4 := Aside0.mk (Pd.blk_below G4.out hb); have HB := Aside0.mk (below_step HB.out hb); clear hb)
     | ((with_reducible refine gate_dst (N := 5) rfl ?_); refine copy_event rfl (N := 5) rfl rfl rfl (t := 27) (v := .tmp 6) rfl (cs := plainC) (zs := pzs) ?hr rfl rfl info_prod ?hz plainC_one ?_; (case hr => first | (go_simp; done) | (go_simp; rfl)); (case hz => rfl); intro g5 hg w6 hb0 hb; have ge5 := (show w.heap.size ≤ g5 by rw [hg]; exact HB.out.size); have ne52 := (show g5 ≠ g2 by have := blk_lt G2.out; omega); have ne54 := (show g5 ≠ g4 by have := blk_lt G4.out; omega); clear hg; have G2 := Aside0.mk (Pd.blk_below G2.out hb); have G4 := Aside0.mk (Pd.blk_below G4.out hb); have G5 := Aside0.mk hb0; have HB := Aside0.mk (below_step HB.out hb); clear hb0 hb)
     | ((with_reducible refine gate_dst (N := 7) rfl ?_); refine wpList_load_row rfl 27 (.tmp 2) rfl g2 rfl 27 _ (0, 0) _ G2.out Tryz.underlying27 rfl info_prod ?_)
     | (go_at_call 14; (with_reducible refine (CK.out _ HB.out).mono ?_); rintro e w7 ⟨rfl, hb⟩; have G2 := Aside0.mk (Pd.blk_below G2.out hb); have G4 := Aside0.mk (Pd.blk_below G4.out hb); have G5 := Aside0.mk (Pd.blk_below G5.out hb); have HB := Aside0.mk (below_step HB.out hb); clear hb)
     | ((with_reducible refine gate_dst (N := 10) rfl ?_); refine wpList_load_row rfl 27 (.tmp 2) rfl g2 rfl 27 _ (0, 0) _ G2.out Tryz.underlying27 rfl info_prod ?_)
     | ((with_reducible refine gate_store (t := 27) (p := 5) rfl ?_); refine row_event rfl (t := 27) (p := 5) (v := .tmp 10) rfl rfl (g := g5) (cs := pcs p A1 c1 A2 c2 A3 c3) (zs := plainC) rfl rfl G5.out info_prod rfl (pcs_one _ _ _ _ _ _ _) ?_; intro w8 hb8 hbut; have G5 := Aside0.mk hb8; have G2 := Aside0.mk ((hbut.block g2 (blk_lt G2.out) (Ne.symm ne52)).trans G2.out); have G4 := Aside0.mk ((hbut.block g4 (blk_lt G4.out) (Ne.symm ne54)).trans G4.out); have HB := Aside0.mk (But.below HB.out HB.out.size ge5 hbut); clear hb8 hbut; refine Hid.out ?_))
    refine Lib.hid ?_
    try go_frame
    obtain ⟨-, -, -, u3, -, u5, u6, -, u8, -, -, -, -, -, -, -, -, -, -⟩ := pc_cells G5.out
    have f5 := frozen_of_row w8 g5 5 _ _ G5.out
    have f6 := frozen_of_row w8 g5 6 _ _ G5.out
    have f8 := frozen_of_row w8 g5 8 _ _ G5.out
    have bfin : ((w8.setCell ⟨g5, 5, none⟩ (.int .i64 n)).setCell ⟨g5, 8, none⟩ (.slice none 0 0)).heap[g5]? = some (.cells (pcs { p with times := n, resets := [] } none 0 A2 c2 A3 c3) 27 (0, 0)) := (heap_setCell_same _ g5 8 _ _ _ (heap_setCell_same _ g5 5 _ _ _ G5.out)).trans rfl
    have hbut : H.But g5 w8 ((w8.setCell ⟨g5, 5, none⟩ (.int .i64 n)).setCell ⟨g5, 8, none⟩ (.slice none 0 0)) := (((H.But.of (Below.refl w8.heap.size w8)).setCell (p := ⟨g5, 5, none⟩) (Or.inl rfl) (.int .i64 n)).setCell (p := ⟨g5, 8, none⟩) (Or.inl rfl) (.slice none 0 0))
    have g4fin : ((w8.setCell ⟨g5, 5, none⟩ (.int .i64 n)).setCell ⟨g5, 8, none⟩ (.slice none 0 0)).heap[g4]? = some (.cells pzs 27 (0, 0)) := (hbut.block g4 (blk_lt G4.out) (Ne.symm ne54)).trans G4.out
    have hbfin : Below w.heap.size w ((w8.setCell ⟨g5, 5, none⟩ (.int .i64 n)).setCell ⟨g5, 8, none⟩ (.slice none 0 0)) := But.below HB.out HB.out.size ge5 hbut
    have F5 := Aside0.mk bfin
    have F4 := Aside0.mk g4fin
    have FB := Aside0.mk hbfin
    clear bfin hbut g4fin hbfin
    go_wp2_with (first
     | ((with_reducible refine gate_dst (N := 89) rfl ?_); refine wpList_load_row rfl 27 (.tmp 5) rfl g5 rfl 27 _ (0, 0) _ F5.out Tryz.underlying27 rfl info_prod ?_)
     | ((with_reducible refine gate_store (t := 27) (p := 4) rfl ?_); refine Hid.out ?_))
    refine Lib.hid ?_
    refine row_event rfl (t := 27) (p := 4) (v := .tmp 89) rfl rfl (g := g4) (cs := pcs { p with times := n, resets := [] } none 0 A2 c2 A3 c3) (zs := pzs) rfl rfl F4.out info_prod rfl (pcs_one _ _ _ _ _ _ _) ?_
    intro w20 hb20 hbut20
    have H20 := Aside0.mk hb20
    have HB20 := Aside0.mk (But.below FB.out FB.out.size ge4 hbut20)
    clear hb20 hbut20
    try go_frame
    go_wp2_with fail
    exact bodyPost_ret (v := pv { p with times := n, resets := [] } none 0 A2 c2 A3 c3) (results_cell_row (g := g4) Tryz.results6 _ _ _ _ _ _ rfl H20.out Tryz.underlying27 rfl info_prod) rfl ⟨none, 0, A2, c2, A3, c3, rfl, (fun w0 h => ⟨nilRows _, Nat.le_refl _, fun _ => rfl, h.r2, h.l2, h.n2, h.r3, h.l3, h.n3⟩), HB20.out⟩
 ·have k1 : decide (n < p.times) = false := decide_eq_false hn
  rw [if_neg hn]
  unfold nearD
  by_cases hg : p.times ≤ p.grace
  ·rw [if_pos (Or.inl hg)]
   have k2 : decide (p.times ≤ p.grace) = true := decide_eq_true hg
   clear hn hg
   go_enter Tryz.func6, Tryz.ntmps6
   go_wp2_with ((with_reducible refine gate_dst (N := 2) rfl ?_); refine box_event ?hg (N := 2) ?hd (cs := pcs p A1 c1 A2 c2 A3 c3) (t := 27) ?hr ?_; (case hd => rfl); (case hg => rfl); (case hr => first | (go_simp; done) | (go_simp; rfl)); intro g2 hg v0 hb1 hbl1; clear hg; have G2 := Aside0.mk hb1; have HB := Aside0.mk hbl1; clear hb1 hbl1; refine Hid.out ?_)
   refine Lib.hid ?_
   go_wp2_with (first
    | ((with_reducible refine gate_dst (N := 4) rfl ?_); refine box_event ?hg (N := 4) ?hd (cs := pzs) (t := 27) ?hr ?_; (case hd => rfl); (case hg => rfl); (case hr => first | (go_simp; done) | (go_simp; rfl)); intro g4 hg w4 hb1 hbl1; have ge4 := (show w.heap.size ≤ g4 by rw [hg]; exact HB.out.size); have ne42 := (show g4 ≠ g2 by have := blk_lt G2.out; omega); clear hg; have G2 := Aside0.mk (Pd.blk_below G2.out hbl1); have G4 := Aside0.mk hb1; have HB := Aside0.mk (below_step HB.out hbl1); clear hb1 hbl1)
    | (go_at_call 13; (with_reducible refine (plain_any _).mono ?_); rintro e w5 ⟨rfl, hb⟩; have G2 := Aside0.mk (Pd.blk_below G2.out hb); have G4 := Aside0.mk (Pd.blk_below G4.out hb); have HB := Aside0.mk (below_step HB.out hb); clear hb)
    | ((with_reducible refine gate_dst (N := 5) rfl ?_); refine copy_event rfl (N := 5) rfl rfl rfl (t := 27) (v := .tmp 6) rfl (cs := plainC) (zs := pzs) ?hr rfl rfl info_prod ?hz plainC_one ?_; (case hr => first | (go_simp; done) | (go_simp; rfl)); (case hz => rfl); intro g5 hg w6 hb0 hb; have ge5 := (show w.heap.size ≤ g5 by rw [hg]; exact HB.out.size); have ne52 := (show g5 ≠ g2 by have := blk_lt G2.out; omega); have ne54 := (show g5 ≠ g4 by have := blk_lt G4.out; omega); clear hg; have G2 := Aside0.mk (Pd.blk_below G2.out hb); have G4 := Aside0.mk (Pd.blk_below G4.out hb); have G5 := Aside0.mk hb0; have HB := Aside0.mk (below_step HB.out hb); clear hb0 hb)
    | ((with_reducible refine gate_dst (N := 7) rfl ?_); refine wpList_load_row rfl 27 (.tmp 2) rfl g2 rfl 27 _ (0, 0) _ G2.out Tryz.underlying27 rfl info_prod ?_)
    | (go_at_call 14; (with_reducible refine (CK.out _ HB.out).mono ?_); rintro e w7 ⟨rfl, hb⟩; have G2 := Aside0.mk (Pd.blk_below G2.out hb); have G4 := Aside0.mk (Pd.blk_below G4.out hb); have G5 := Aside0.mk (Pd.blk_below G5.out hb); have HB := Aside0.mk (below_step HB.out hb); clear hb)
    | ((with_reducible refine gate_dst (N := 10) rfl ?_); refine wpList_load_row rfl 27 (.tmp 2) rfl g2 rfl 27 _ (0, 0) _ G2.out Tryz.underlying27 rfl info_prod ?_)
    | ((with_reducible refine gate_store (t := 27) (p := 5) rfl ?_); refine row_event rfl (t := 27) (p := 5) (v := .tmp 10) rfl rfl (g := g5) (cs := pcs p A1 c1 A2 c2 A3 c3) (zs := plainC) rfl rfl G5.out info_prod rfl (pcs_one _ _ _ _ _ _ _) ?_; intro w8 hb8 hbut; have G5 := Aside0.mk hb8; have G2 := Aside0.mk ((hbut.block g2 (blk_lt G2.out) (Ne.symm ne52)).trans G2.out); have G4 := Aside0.mk ((hbut.block g4 (blk_lt G4.out) (Ne.symm ne54)).trans G4.out); have HB := Aside0.mk (But.below HB.out HB.out.size ge5 hbut); clear hb8 hbut; refine Hid.out ?_))
   refine Lib.hid ?_
   try go_frame
   obtain ⟨-, -, -, u3, -, u5, u6, -, u8, -, -, -, -, -, -, -, -, -, -⟩ := pc_cells G5.out
   have f5 := frozen_of_row w8 g5 5 _ _ G5.out
   have f6 := frozen_of_row w8 g5 6 _ _ G5.out
   have f8 := frozen_of_row w8 g5 8 _ _ G5.out
   have bfin : (w8.setCell ⟨g5, 6, none⟩ (.int .i64 0)).heap[g5]? = some (.cells (pcs { p with grace := 0 } A1 c1 A2 c2 A3 c3) 27 (0, 0)) := (heap_setCell_same _ g5 6 _ _ _ G5.out).trans rfl
   have hbut : H.But g5 w8 (w8.setCell ⟨g5, 6, none⟩ (.int .i64 0)) := ((H.But.of (Below.refl w8.heap.size w8)).setCell (p := ⟨g5, 6, none⟩) (Or.inl rfl) (.int .i64 0))
   have g4fin : (w8.setCell ⟨g5, 6, none⟩ (.int .i64 0)).heap[g4]? = some (.cells pzs 27 (0, 0)) := (hbut.block g4 (blk_lt G4.out) (Ne.symm ne54)).trans G4.out
   have hbfin : Below w.heap.size w (w8.setCell ⟨g5, 6, none⟩ (.int .i64 0)) := But.below HB.out HB.out.size ge5 hbut
   have F5 := Aside0.mk bfin
   have F4 := Aside0.mk g4fin
   have FB := Aside0.mk hbfin
   clear bfin hbut g4fin hbfin
   go_wp2_with (first
    | ((with_reducible refine gate_dst (N := 89) rfl ?_); refine wpList_load_row rfl 27 (.tmp 5) rfl g5 rfl 27 _ (0, 0) _ F5.out Tryz.underlying27 rfl info_prod ?_)
    | ((with_reducible refine gate_store (t := 27) (p := 4) rfl ?_); refine Hid.out ?_))
   refine Lib.hid ?_
   refine row_event rfl (t := 27) (p := 4) (v := .tmp 89) rfl rfl (g := g4) (cs := pcs { p with grace := 0 } A1 c1 A2 c2 A3 c3) (zs := pzs) rfl rfl F4.out info_prod rfl (pcs_one _ _ _ _ _ _ _) ?_
   intro w20 hb20 hbut20
   have H20 := Aside0.mk hb20
   have HB20 := Aside0.mk (But.below FB.out FB.out.size ge4 hbut20)
   clear hb20 hbut20
   try go_frame
   go_wp2_with fail
   exact bodyPost_ret (v := pv { p with grace := 0 } A1 c1 A2 c2 A3 c3) (results_cell_row (g := g4) Tryz.results6 _ _ _ _ _ _ rfl H20.out Tryz.underlying27 rfl info_prod) rfl ⟨A1, c1, A2, c2, A3, c3, rfl, (fun w0 h => ⟨h.r1, h.l1, h.n1, h.r2, h.l2, h.n2, h.r3, h.l3, h.n3⟩), HB20.out⟩
  ·have k2 : decide (p.times ≤ p.grace) = false := decide_eq_false hg
   by_cases h3 : p.kind = 3
   ·rw [if_pos (Or.inr h3)]
    have k3 : (p.kind == 3) = true := by simpa using h3
    clear hn hg h3
    go_enter Tryz.func6, Tryz.ntmps6
    go_wp2_with ((with_reducible refine gate_dst (N := 2) rfl ?_); refine box_event ?hg (N := 2) ?hd (cs := pcs p A1 c1 A2 c2 A3 c3) (t := 27) ?hr ?_; (case hd => rfl); (case hg => rfl); (case hr => first | (go_simp; done) | (go_simp; rfl)); intro g2 hg v0 hb1 hbl1; clear hg; have G2 := Aside0.mk hb1; have HB := Aside0.mk hbl1; clear hb1 hbl1; refine Hid.out ?_)
    refine Lib.hid ?_
    go_wp2_with (first
     | ((with_reducible refine gate_dst (N := 4) rfl ?_); refine box_event ?hg (N := 4) ?hd (cs := pzs) (t := 27) ?hr ?_; (case hd => rfl); (case hg => rfl); (case hr => first | (go_simp; done) | (go_simp; rfl)); intro g4 hg w4 hb1 hbl1; have ge4 := (show w.heap.size ≤ g4 by rw [hg]; exact HB.out.size); have ne42 := (show g4 ≠ g2 by have := blk_lt G2.out; omega); clear hg; have G2 := Aside0.mk (Pd.blk_below G2.out hbl1); have G4 := Aside0.mk hb1; have HB := Aside0.mk (below_step HB.out hbl1); clear hb1 hbl1)
     | (go_at_call 13; (with_reducible refine (plain_any _).mono ?_); rintro e w5 ⟨rfl, hb⟩; have G2 := Aside0.mk (Pd.blk_below G2.out hb); have G4 := Aside0.mk (Pd.blk_below G4.out hb); have HB := Aside0.mk (below_step HB.out hb); clear hb)
     | ((with_reducible refine gate_dst (N := 5) rfl ?_); refine copy_event rfl (N := 5) rfl rfl rfl (t := 27) (v := .tmp 6) rfl (cs := plainC) (zs := pzs) ?hr rfl rfl info_prod ?hz plainC_one ?_; (case hr => first | (go_simp; done) | (go_simp; rfl)); (case hz => rfl); intro g5 hg w6 hb0 hb; have ge5 := (show w.heap.size ≤ g5 by rw [hg]; exact HB.out.size); have ne52 := (show g5 ≠ g2 by have := blk_lt G2.out; omega); have ne54 := (show g5 ≠ g4 by have := blk_lt G4.out; omega); clear hg; have G2 := Aside0.mk (Pd.blk_below G2.out hb); have G4 := Aside0.mk (Pd.blk_below G4.out hb); have G5 := Aside0.mk hb0; have HB := Aside0.mk (below_step HB.out hb); clear hb0 hb)
     | ((with_reducible refine gate_dst (N := 7) rfl ?_); refine wpList_load_row rfl 27 (.tmp 2) rfl g2 rfl 27 _ (0, 0) _ G2.out Tryz.underlying27 rfl info_prod ?_)
     | (go_at_call 14; (with_reducible refine (CK.out _ HB.out).mono ?_); rintro e w7 ⟨rfl, hb⟩; have G2 := Aside0.mk (Pd.blk_below G2.out hb); have G4 := Aside0.mk (Pd.blk_below G4.out hb); have G5 := Aside0.mk (Pd.blk_below G5.out hb); have HB := Aside0.mk (below_step HB.out hb); clear hb)
     | ((with_reducible refine gate_dst (N := 10) rfl ?_); refine wpList_load_row rfl 27 (.tmp 2) rfl g2 rfl 27 _ (0, 0) _ G2.out Tryz.underlying27 rfl info_prod ?_)
     | ((with_reducible refine gate_store (t := 27) (p := 5) rfl ?_); refine row_event rfl (t := 27) (p := 5) (v := .tmp 10) rfl rfl (g := g5) (cs := pcs p A1 c1 A2 c2 A3 c3) (zs := plainC) rfl rfl G5.out info_prod rfl (pcs_one _ _ _ _ _ _ _) ?_; intro w8 hb8 hbut; have G5 := Aside0.mk hb8; have G2 := Aside0.mk ((hbut.block g2 (blk_lt G2.out) (Ne.symm ne52)).trans G2.out); have G4 := Aside0.mk ((hbut.block g4 (blk_lt G4.out) (Ne.symm ne54)).trans G4.out); have HB := Aside0.mk (But.below HB.out HB.out.size ge5 hbut); clear hb8 hbut; refine Hid.out ?_))
    refine Lib.hid ?_
    try go_frame
    obtain ⟨-, -, -, u3, -, u5, u6, -, u8, -, -, -, -, -, -, -, -, -, -⟩ := pc_cells G5.out
    have f5 := frozen_of_row w8 g5 5 _ _ G5.out
    have f6 := frozen_of_row w8 g5 6 _ _ G5.out
    have f8 := frozen_of_row w8 g5 8 _ _ G5.out
    have bfin : (w8.setCell ⟨g5, 6, none⟩ (.int .i64 0)).heap[g5]? = some (.cells (pcs { p with grace := 0 } A1 c1 A2 c2 A3 c3) 27 (0, 0)) := (heap_setCell_same _ g5 6 _ _ _ G5.out).trans rfl
    have hbut : H.But g5 w8 (w8.setCell ⟨g5, 6, none⟩ (.int .i64 0)) := ((H.But.of (Below.refl w8.heap.size w8)).setCell (p := ⟨g5, 6, none⟩) (Or.inl rfl) (.int .i64 0))
    have g4fin : (w8.setCell ⟨g5, 6, none⟩ (.int .i64 0)).heap[g4]? = some (.cells pzs 27 (0, 0)) := (hbut.block g4 (blk_lt G4.out) (Ne.symm ne54)).trans G4.out
    have hbfin : Below w.heap.size w (w8.setCell ⟨g5, 6, none⟩ (.int .i64 0)) := But.below HB.out HB.out.size ge5 hbut
    have F5 := Aside0.mk bfin
    have F4 := Aside0.mk g4fin
    have FB := Aside0.mk hbfin
    clear bfin hbut g4fin hbfin
    go_wp2_with (first
     | ((with_reducible refine gate_dst (N := 89) rfl ?_); refine wpList_load_row rfl 27 (.tmp 5) rfl g5 rfl 27 _ (0, 0) _ F5.out Tryz.underlying27 rfl info_prod ?_)
     | ((with_reducible refine gate_store (t := 27) (p := 4) rfl ?_); refine Hid.out ?_))
    refine Lib.hid ?_
    refine row_event rfl (t := 27) (p := 4) (v := .tmp 89) rfl rfl (g := g4) (cs := pcs { p with grace := 0 } A1 c1 A2 c2 A3 c3) (zs := pzs) rfl rfl F4.out info_prod rfl (pcs_one _ _ _ _ _ _ _) ?_
    intro w20 hb20 hbut20
    have H20 := Aside0.mk hb20
    have HB20 := Aside0.mk (But.below FB.out FB.out.size ge4 hbut20)
    clear hb20 hbut20
    try go_frame
    go_wp2_with fail
    exact bodyPost_ret (v := pv { p with grace := 0 } A1 c1 A2 c2 A3 c3) (results_cell_row (g := g4) Tryz.results6 _ _ _ _ _ _ rfl H20.out Tryz.underlying27 rfl info_prod) rfl ⟨A1, c1, A2, c2, A3, c3, rfl, (fun w0 h => ⟨h.r1, h.l1, h.n1, h.r2, h.l2, h.n2, h.r3, h.l3, h.n3⟩), HB20.out⟩
   ·rw [if_neg (fun h => h.elim hg h3)]
    have k3 : (p.kind == 3) = false := by simpa using h3
    clear hn hg h3
    go_enter Tryz.func6, Tryz.ntmps6
    go_wp2_with ((with_reducible refine gate_dst (N := 2) rfl ?_); refine box_event ?hg (N := 2) ?hd (cs := pcs p A1 c1 A2 c2 A3 c3) (t := 27) ?hr ?_; (case hd => rfl); (case hg => rfl); (case hr => first | (go_simp; done) | (go_simp; rfl)); intro g2 hg v0 hb1 hbl1; clear hg; have G2 := Aside0.mk hb1; have HB := Aside0.mk hbl1; clear hb1 hbl1; refine Hid.out ?_)
    refine Lib.hid ?_
    go_wp2_with (first
     | ((with_reducible refine gate_dst (N := 4) rfl ?_); refine box_event ?hg (N := 4) ?hd (cs := pzs) (t := 27) ?hr ?_; (case hd => rfl); (case hg => rfl); (case hr => first | (go_simp; done) | (go_simp; rfl)); intro g4 hg w4 hb1 hbl1; have ge4 := (show w.heap.size ≤ g4 by rw [hg]; exact HB.out.size); have ne42 := (show g4 ≠ g2 by have := blk_lt G2.out; omega); clear hg; have G2 := Aside0.mk (Pd.blk_below G2.out hbl1); have G4 := Aside0.mk hb1; have HB := Aside0.mk (below_step HB.out hbl1); clear hb1 hbl1)
     | (go_at_call 13; (with_reducible refine (plain_any _).mono ?_); rintro e w5 ⟨rfl, hb⟩; have G2 := Aside0.mk (Pd.blk_below G2.out hb); have G4 := Aside0.mk (Pd.blk_below G4.out hb); have HB := Aside0.mk (below_step HB.out hb); clear hb)
     | ((with_reducible refine gate_dst (N := 5) rfl ?_); refine copy_event rfl (N := 5) rfl rfl rfl (t := 27) (v := .tmp 6) rfl (cs := plainC) (zs := pzs) ?hr rfl rfl info_prod ?hz plainC_one ?_; (case hr => first | (go_simp; done) | (go_simp; rfl)); (case hz => rfl); intro g5 hg w6 hb0 hb; have ge5 := (show w.heap.size ≤ g5 by rw [hg]; exact HB.out.size); have ne52 := (show g5 ≠ g2 by have := blk_lt G2.out; omega); have ne54 := (show g5 ≠ g4 by have := blk_lt G4.out; omega); clear hg; have G2 := Aside0.mk (Pd.blk_below G2.out hb); have G4 := Aside0.mk (Pd.blk_below G4.out hb); have G5 := Aside0.mk hb0; have HB := Aside0.mk (below_step HB.out hb); clear hb0 hb)
     | ((with_reducible refine gate_dst (N := 7) rfl ?_); refine wpList_load_row rfl 27 (.tmp 2) rfl g2 rfl 27 _ (0, 0) _ G2.out Tryz.underlying27 rfl info_prod ?_)
     | (go_at_call 14; (with_reducible refine (CK.out _ HB.out).mono ?_); rintro e w7 ⟨rfl, hb⟩; have G2 := Aside0.mk (Pd.blk_below G2.out hb); have G4 := Aside0.mk (Pd.blk_below G4.out hb); have G5 := Aside0.mk (Pd.blk_below G5.out hb); have HB := Aside0.mk (below_step HB.out hb); clear hb)
     | ((with_reducible refine gate_dst (N := 10) rfl ?_); refine wpList_load_row rfl 27 (.tmp 2) rfl g2 rfl 27 _ (0, 0) _ G2.out Tryz.underlying27 rfl info_prod ?_)
     | ((with_reducible refine gate_store (t := 27) (p := 5) rfl ?_); refine row_event rfl (t := 27) (p := 5) (v := .tmp 10) rfl rfl (g := g5) (cs := pcs p A1 c1 A2 c2 A3 c3) (zs := plainC) rfl rfl G5.out info_prod rfl (pcs_one _ _ _ _ _ _ _) ?_; intro w8 hb8 hbut; have G5 := Aside0.mk hb8; have G2 := Aside0.mk ((hbut.block g2 (blk_lt G2.out) (Ne.symm ne52)).trans G2.out); have G4 := Aside0.mk ((hbut.block g4 (blk_lt G4.out) (Ne.symm ne54)).trans G4.out); have HB := Aside0.mk (But.below HB.out HB.out.size ge5 hbut); clear hb8 hbut; refine Hid.out ?_))
    refine Lib.hid ?_
    try go_frame
    obtain ⟨-, -, -, u3, -, u5, u6, -, u8, -, -, -, -, -, -, -, -, -, -⟩ := pc_cells G5.out
    have f5 := frozen_of_row w8 g5 5 _ _ G5.out
    have f6 := frozen_of_row w8 g5 6 _ _ G5.out
    have f8 := frozen_of_row w8 g5 8 _ _ G5.out
    have bfin : w8.heap[g5]? = some (.cells (pcs p A1 c1 A2 c2 A3 c3) 27 (0, 0)) := G5.out
    have hbut : H.But g5 w8 w8 := (H.But.of (Below.refl w8.heap.size w8))
    have g4fin : w8.heap[g4]? = some (.cells pzs 27 (0, 0)) := (hbut.block g4 (blk_lt G4.out) (Ne.symm ne54)).trans G4.out
    have hbfin : Below w.heap.size w w8 := But.below HB.out HB.out.size ge5 hbut
    have F5 := Aside0.mk bfin
    have F4 := Aside0.mk g4fin
    have FB := Aside0.mk hbfin
    clear bfin hbut g4fin hbfin
    go_wp2_with (first
     | ((with_reducible refine gate_dst (N := 89) rfl ?_); refine wpList_load_row rfl 27 (.tmp 5) rfl g5 rfl 27 _ (0, 0) _ F5.out Tryz.underlying27 rfl info_prod ?_)
     | ((with_reducible refine gate_store (t := 27) (p := 4) rfl ?_); refine Hid.out ?_))
    refine Lib.hid ?_
    refine row_event rfl (t := 27) (p := 4) (v := .tmp 89) rfl rfl (g := g4) (cs := pcs p A1 c1 A2 c2 A3 c3) (zs := pzs) rfl rfl F4.out info_prod rfl (pcs_one _ _ _ _ _ _ _) ?_
    intro w20 hb20 hbut20
    have H20 := Aside0.mk hb20
    have HB20 := Aside0.mk (But.below FB.out FB.out.size ge4 hbut20)
    clear hb20 hbut20
    try go_frame
    go_wp2_with fail
    exact bodyPost_ret (v := pv p A1 c1 A2 c2 A3 c3) (results_cell_row (g := g4) Tryz.results6 _ _ _ _ _ _ rfl H20.out Tryz.underlying27 rfl info_prod) rfl ⟨A1, c1, A2, c2, A3, c3, rfl, (fun w0 h => ⟨h.r1, h.l1, h.n1, h.r2, h.l2, h.n2, h.r3, h.l3, h.n3⟩), HB20.out⟩
end Go.Proofs.YtfmkdledofbhdaaGreat.Du
/- quittanceplay.Product, where the product may not be: one that is near. -/
namespace Go.Proofs.YtfmkdledofbhdaaGreat.Du
open Go.RowKit Go.Proofs.YtfmkdledofbhdaaGreatW.PrintWords Go.Proofs.YtfmkdledofbhdaaGreatW.PrintLast Go.Proofs.YtfmkdledofbhdaaGreatW.PrintMore Go.Proofs.YtfmkdledofbhdaaGreat.HW
open Go.Proofs.YtfmkdledofbhdaaGreat.Math Go.Proofs.YtfmkdledofbhdaaGreat.H Go.Proofs.YtfmkdledofbhdaaGreat.Pd Pm
set_option linter.unusedVariables false
set_option linter.unusedSimpArgs false
section
variable {P : Program} {ops : Array Oper} {rest : List Oper} {a : Act} {Q : Exit → Act → World → Prop}
theorem But.one (g i : Nat) (W : World) (x : Value) : H.But g W (W.setCell ⟨g, i, none⟩ x) := (H.But.of (Below.refl W.heap.size W)).setCell (p := ⟨g, i, none⟩) (Or.inl rfl) x
theorem put_event {W : World} {o : Oper} (hgd : o.guard = none) {t : TypeId} {p : Tmp} {v : Operand} (_ho : o.op = .store t (.tmp p) v) (hd : o.dst = none) {g i : Nat} {cs cs' : Array Value} {T : TypeId} {x : Value}
  (hrun : (execOp a.eval o).run P W = .ok .skip (W.setCell ⟨g, i, none⟩ x)) (hb : W.heap[g]? = some (.cells cs T (0, 0))) (hc : cs.setIfInBounds i x = cs')
  (h : ∀ w1, w1.heap[g]? = some (.cells cs' T (0, 0)) → H.But g W w1 → wpList P ops Q rest a w1) : wpList P ops Q (o :: rest) a W := by
 refine store_event hgd _ho hd hrun ?_
 rintro w' rfl
 exact h _ (by rw [heap_setCell_same W g i cs T x hb, hc]) (But.one g i W x)
theorem lit_event {W : World} {o : Oper} (hgd : o.guard = none) {N : Tmp} (_hd : o.dst = some N) {cs : Array Value} {t : TypeId} {n : Nat}
  (hrun : (execOp a.eval o).run P W = .ok (.value (.slice (some ⟨W.heap.size, 0, none⟩) n n)) (W.alloc (.cells cs t (0, 0))))
  (h : ∀ g, g = W.heap.size → ∀ w1, w1.heap[g]? = some (.cells cs t (0, 0)) → Below W.heap.size W w1 → wpList P ops Q rest (a.put o.dst (.slice (some ⟨g, 0, none⟩) n n)) w1) : wpList P ops Q (o :: rest) a W :=
 Kd.event_run hgd hrun (h _ rfl _ (blk_new W _) (below_alloc (Below.refl _ _) _))
end
theorem U_nat (x : Int) (m : Nat) (h : 0 < m) (h2 : m ≤ 1000000000) : ∃ r : Nat, r < m ∧ U x m = (r : Int) := by
 have b := U_bd x (m := (m : Int)) (by omega)
 exact ⟨(U x m).toNat, by omega, by omega⟩
theorem pick2 (x : Int) : ∃ r : Nat, (r : Int) < 2 ∧ IntKind.i64.wrap (Int.tmod (IntKind.u64.wrap x) 2) = (r : Int) ∧ (#[Value.int .i64 1, .int .i64 3] : Array Value)[r]? = some (.int .i64 (if U x 2 = 0 then (1 : Int) else 3)) := by
 obtain ⟨r, hr, e⟩ := U_nat x 2 (by omega) (by omega)
 have e2 : U x 2 = (r : Int) := e
 refine ⟨r, by omega, (U_is x (m := 2) (by omega) (by omega)).trans e2, ?_⟩
 rw [e2]
 rcases (by omega : r = 0 ∨ r = 1) with rfl | rfl <;> rfl
theorem pick6 (x : Int) : ∃ r : Nat, (r : Int) < 6 ∧ IntKind.i64.wrap (Int.tmod (IntKind.u64.wrap x) 6) = (r : Int) ∧ (#[Value.int .i64 1, .int .i64 2, .int .i64 3, .int .i64 4, .int .i64 6, .int .i64 12] : Array Value)[r]? = some (.int .i64 (if U x 6 = 0 then (1 : Int) else if U x 6 = 1 then 2 else if U x 6 = 2 then 3 else if U x 6 = 3 then 4 else if U x 6 = 4 then 6 else 12)) := by
 obtain ⟨r, hr, e⟩ := U_nat x 6 (by omega) (by omega)
 have e2 : U x 6 = (r : Int) := e
 refine ⟨r, by omega, (U_is x (m := 6) (by omega) (by omega)).trans e2, ?_⟩
 rw [e2]
 rcases (by omega : r = 0 ∨ r = 1 ∨ r = 2 ∨ r = 3 ∨ r = 4 ∨ r = 5) with rfl | rfl | rfl | rfl | rfl | rfl <;> rfl
set_option maxRecDepth 100000 in
set_option maxHeartbeats 8000000 in
theorem near_not (p : Prod) (A1 : Option Addr) (c1 : Nat) (A2 : Option Addr) (c2 : Nat) (A3 : Option Addr) (c3 : Nat) (n : Int) (w : World) (hp : ProdAt w p A1 c1 A2 c2 A3 c3) (hs : Held p) (ho : ok p = false) (n1 : 1 ≤ n) (n2 : n ≤ 1000) :
  Calls Tryz.prog 6 #[pv p A1 c1 A2 c2 A3 c3, .int .i64 n] w (NearE p A1 c1 A2 c2 A3 c3 (nearP p n) w) := by
 have er : err p = 9 := by unfold err; rw [ho]; rfl
 have en : nearP p n = nearB p n := by unfold nearP; rw [if_neg (by rw [ho]; decide)]; unfold nearD; split <;> rfl
 have HP := Aside0.mk hp
 have CK := Aside0.mk (fun w1 (hb : Below w.heap.size w w1) => rcheck_any p A1 c1 A2 c2 A3 c3 w1 (HP.out.below hb) hs)
 rw [er] at CK
 obtain ⟨x2, hx2⟩ : ∃ x, x = (if U p.round 2 = 0 then (1 : Int) else 3) := ⟨_, rfl⟩
 obtain ⟨x6, hx6⟩ : ∃ x, x = (if U p.every 6 = 0 then (1 : Int) else if U p.every 6 = 1 then 2 else if U p.every 6 = 2 then 3 else if U p.every 6 = 3 then 4 else if U p.every 6 = 4 then 6 else 12) := ⟨_, rfl⟩
 obtain ⟨qf, hqf⟩ : ∃ q, q = (show Prod from { plainP with count := 1 + U p.count 3, kind := 1 + U p.kind 3, round := x2, every := x6, times := 1 + U p.times n, rate := U p.rate 300000000, penalty := U p.penalty 500000000, over := 1 + U p.over 3 }) := ⟨_, rfl⟩
 have en2 : nearB p n = qf := by rw [hqf, hx2, hx6]; rfl
 have HQ := Aside0.mk hqf
 clear hqf
 rw [en, en2]
 have m1 := U_is p.count (m := 3) (by omega) (by omega)
 obtain ⟨b1a, b1b⟩ := U_bd p.count (m := 3) (by omega)
 have m3 := U_is p.kind (m := 3) (by omega) (by omega)
 obtain ⟨b3a, b3b⟩ := U_bd p.kind (m := 3) (by omega)
 obtain ⟨r2, r2b, m2, p2⟩ := pick2 p.round
 obtain ⟨r6, r6b, m6, p6⟩ := pick6 p.every
 have m5 := U_is p.times (m := n) (by omega) (by omega)
 obtain ⟨b5a, b5b⟩ := U_bd p.times (m := n) (by omega)
 have m7 := U_is p.rate (m := 300000000) (by omega) (by omega)
 have m9 := U_is p.penalty (m := 500000000) (by omega) (by omega)
 have m14 := U_is p.over (m := 3) (by omega) (by omega)
 obtain ⟨b14a, b14b⟩ := U_bd p.over (m := 3) (by omega)
 have mn : IntKind.u64.wrap n = n := by show n % 18446744073709551616 = n; omega
 have nz : (n == 0) = false := by simp; omega
 rw [← hx2] at p2
 rw [← hx6] at p6
 clear hx2 hx6 en2
 have P2 := Aside0.mk p2
 have P6 := Aside0.mk p6
 clear hp er en ho hs p2 p6
 go_enter Tryz.func6, Tryz.ntmps6
 go_wp2_with ((with_reducible refine gate_dst (N := 2) rfl ?_); refine box_event ?hg (N := 2) ?hd (cs := pcs p A1 c1 A2 c2 A3 c3) (t := 27) ?hr ?_; (case hd => rfl); (case hg => rfl); (case hr => first | (go_simp; done) | (go_simp; rfl)); intro g2 hg v0 hb1 hbl1; clear hg; have G2 := Aside0.mk hb1; have HB := Aside0.mk hbl1; clear hb1 hbl1; refine Hid.out ?_)
 refine Lib.hid ?_
 go_wp2_with (first
  | ((with_reducible refine gate_dst (N := 4) rfl ?_); refine box_event ?hg (N := 4) ?hd (cs := pzs) (t := 27) ?hr ?_; (case hd => rfl); (case hg => rfl); (case hr => first | (go_simp; done) | (go_simp; rfl)); intro g4 hg w4 hb1 hbl1; have ge4 := (show w.heap.size ≤ g4 by rw [hg]; exact HB.out.size); have ne42 := (show g4 ≠ g2 by have := blk_lt G2.out; omega); clear hg; have G2 := Aside0.mk (Pd.blk_below G2.out hbl1); have G4 := Aside0.mk hb1; have HB := Aside0.mk (below_step HB.out hbl1); clear hb1 hbl1)
  | (go_at_call 13; (with_reducible refine (plain_any _).mono ?_); rintro e w5 ⟨rfl, hb⟩; have G2 := Aside0.mk (Pd.blk_below G2.out hb); have G4 := Aside0.mk (Pd.blk_below G4.out hb); have HB := Aside0.mk (below_step HB.out hb); clear hb)
  | ((with_reducible refine gate_dst (N := 5) rfl ?_); refine copy_event rfl (N := 5) rfl rfl rfl (t := 27) (v := .tmp 6) rfl (cs := plainC) (zs := pzs) ?hr rfl rfl info_prod ?hz plainC_one ?_; (case hr => first | (go_simp; done) | (go_simp; rfl)); (case hz => rfl); intro g5 hg w6 hb0 hb; have ge5 := (show w.heap.size ≤ g5 by rw [hg]; exact HB.out.size); have ne52 := (show g5 ≠ g2 by have := blk_lt G2.out; omega); have ne54 := (show g5 ≠ g4 by have := blk_lt G4.out; omega); clear hg; have G2 := Aside0.mk (Pd.blk_below G2.out hb); have G4 := Aside0.mk (Pd.blk_below G4.out hb); have G5 := Aside0.mk hb0; have HB := Aside0.mk (below_step HB.out hb); clear hb0 hb)
  | ((with_reducible refine gate_dst (N := 7) rfl ?_); refine wpList_load_row rfl 27 (.tmp 2) rfl g2 rfl 27 _ (0, 0) _ G2.out Tryz.underlying27 rfl info_prod ?_)
  | (go_at_call 14; (with_reducible refine (CK.out _ HB.out).mono ?_); rintro e w7 ⟨rfl, hb⟩; have G2 := Aside0.mk (Pd.blk_below G2.out hb); have G4 := Aside0.mk (Pd.blk_below G4.out hb); have G5 := Aside0.mk (Pd.blk_below G5.out hb); have HB := Aside0.mk (below_step HB.out hb); clear hb))
 obtain ⟨-, q1, q2, q3, q4, q5, -, q7, -, q9, -, -, -, -, q14, -, -, -, -⟩ := pc_cells G2.out
 obtain ⟨-, u1, -, u3, -, -, -, -, -, -, -, -, -, -, -, -, -, -, -⟩ := pc_cells (p := plainP) (A1 := none) (c1 := 0) (A2 := none) (c2 := 0) (A3 := none) (c3 := 0) G5.out
 have f1 := frozen_of_row w7 g5 1 _ _ G5.out
 have f3 := frozen_of_row w7 g5 3 _ _ G5.out
 go_region
 obtain ⟨W5, hW5⟩ : ∃ W, W = ((w7.setCell ⟨g5, 1, none⟩ (.int .i64 (1 + U p.count 3))).setCell ⟨g5, 3, none⟩ (.int .i64 (1 + U p.kind 3))).drew := ⟨_, rfl⟩
 rw [← hW5]
 have n5 : W5.heap[g5]? = some (.cells (pcs { plainP with count := 1 + U p.count 3, kind := 1 + U p.kind 3 } none 0 none 0 none 0) 27 (0, 0)) := by rw [hW5]; exact (heap_setCell_same _ g5 3 _ _ _ (heap_setCell_same _ g5 1 _ _ _ G5.out)).trans rfl
 have nb : H.But g5 w7 W5 := by rw [hW5]; exact (let h : H.But g5 w7 ((w7.setCell ⟨g5, 1, none⟩ (.int .i64 (1 + U p.count 3))).setCell ⟨g5, 3, none⟩ (.int .i64 (1 + U p.kind 3))) := (But.one g5 1 w7 _).setCell (p := ⟨g5, 3, none⟩) (Or.inl rfl) _; ⟨h.os, h.tape, h.output, h.size, h.block⟩)
 have n2 := (nb.block g2 (blk_lt G2.out) (Ne.symm ne52)).trans G2.out
 have n4 := (nb.block g4 (blk_lt G4.out) (Ne.symm ne54)).trans G4.out
 have nH := But.below HB.out HB.out.size ge5 nb
 have G5 := Aside0.mk n5
 have G2 := Aside0.mk n2
 have G4 := Aside0.mk n4
 have HB := Aside0.mk nH
 clear hW5 nb n5 n2 n4 nH q1 q2 q3 q4 q5 q7 q9 q14 u1 u3 f1 f3
 obtain ⟨-, q1, q2, q3, q4, q5, -, q7, -, q9, -, -, -, -, q14, -, -, -, -⟩ := pc_cells G2.out
 go_wp2_with (first
  | ((with_reducible refine gate_dst (N := 25) rfl ?_); refine lit_event rfl (N := 25) rfl (cs := #[.int .i64 1, .int .i64 3]) (t := 3) (n := 2) ?hr ?_; (case hr => first | (go_simp; done) | (go_simp; rfl)); intro gl25 hgl wl25 hbl hb; have cl := (blk_cell hbl r2).trans P2.out; have G2 := Aside0.mk (Pd.blk_below G2.out hb); have G4 := Aside0.mk (Pd.blk_below G4.out hb); have G5 := Aside0.mk (Pd.blk_below G5.out hb); have HB := Aside0.mk (below_step HB.out hb); clear hgl hbl hb; obtain ⟨-, q1, q2, q3, q4, q5, -, q7, -, q9, -, -, -, -, q14, -, -, -, -⟩ := pc_cells G2.out; obtain ⟨-, -, u2, -, u4, u5, -, u7, -, u9, -, -, -, -, u14, -, -, -, -⟩ := pc_cells (c1 := 0) (c2 := 0) (c3 := 0) G5.out; have f2 := frozen_of_row wl25 g5 2 _ _ G5.out; have f4 := frozen_of_row wl25 g5 4 _ _ G5.out)
  | ((with_reducible refine gate_store (t := 3) (p := 33) rfl ?_); refine put_event rfl (t := 3) (p := 33) (v := .tmp 32) rfl rfl (g := g5) (i := 2) (cs := pcs { plainP with count := 1 + U p.count 3, kind := 1 + U p.kind 3 } none 0 none 0 none 0) (cs' := pcs { plainP with count := 1 + U p.count 3, kind := 1 + U p.kind 3, round := x2 } none 0 none 0 none 0) (x := .int .i64 x2) ?hr G5.out ?hc ?_; (case hc => rfl); (case hr => go_simp); intro w31 hb8 hbut; have G5 := Aside0.mk hb8; have G2 := Aside0.mk ((hbut.block g2 (blk_lt G2.out) (Ne.symm ne52)).trans G2.out); have G4 := Aside0.mk ((hbut.block g4 (blk_lt G4.out) (Ne.symm ne54)).trans G4.out); have HB := Aside0.mk (But.below HB.out HB.out.size ge5 hbut); clear hb8 hbut; obtain ⟨-, q1, q2, q3, q4, q5, -, q7, -, q9, -, -, -, -, q14, -, -, -, -⟩ := pc_cells G2.out; obtain ⟨-, -, u2, u3, u4, u5, u6, u7, -, u9, -, -, -, -, u14, -, -, -, -⟩ := pc_cells (c1 := 0) (c2 := 0) (c3 := 0) G5.out; have f6 := frozen_of_row w31 g5 6 _ _ G5.out; have f2 := frozen_of_row w31 g5 2 _ _ G5.out; have f4 := frozen_of_row w31 g5 4 _ _ G5.out; have f5 := frozen_of_row w31 g5 5 _ _ G5.out; have f7 := frozen_of_row w31 g5 7 _ _ G5.out; have f9 := frozen_of_row w31 g5 9 _ _ G5.out)
  | ((with_reducible refine gate_dst (N := 34) rfl ?_); refine lit_event rfl (N := 34) rfl (cs := #[.int .i64 1, .int .i64 2, .int .i64 3, .int .i64 4, .int .i64 6, .int .i64 12]) (t := 3) (n := 6) ?hr ?_; (case hr => first | (go_simp; done) | (go_simp; rfl)); intro gl34 hgl wl34 hbl hb; have cl := (blk_cell hbl r6).trans P6.out; have G2 := Aside0.mk (Pd.blk_below G2.out hb); have G4 := Aside0.mk (Pd.blk_below G4.out hb); have G5 := Aside0.mk (Pd.blk_below G5.out hb); have HB := Aside0.mk (below_step HB.out hb); clear hgl hbl hb; obtain ⟨-, q1, q2, q3, q4, q5, -, q7, -, q9, -, -, -, -, q14, -, -, -, -⟩ := pc_cells G2.out; obtain ⟨-, -, u2, -, u4, u5, -, u7, -, u9, -, -, -, -, u14, -, -, -, -⟩ := pc_cells (c1 := 0) (c2 := 0) (c3 := 0) G5.out; have f2 := frozen_of_row wl34 g5 2 _ _ G5.out; have f4 := frozen_of_row wl34 g5 4 _ _ G5.out)
  | ((with_reducible refine gate_store (t := 3) (p := 42) rfl ?_); refine put_event rfl (t := 3) (p := 42) (v := .tmp 41) rfl rfl (g := g5) (i := 4) (cs := pcs { plainP with count := 1 + U p.count 3, kind := 1 + U p.kind 3, round := x2 } none 0 none 0 none 0) (cs' := pcs { plainP with count := 1 + U p.count 3, kind := 1 + U p.kind 3, round := x2, every := x6 } none 0 none 0 none 0) (x := .int .i64 x6) ?hr G5.out ?hc ?_; (case hc => rfl); (case hr => go_simp); intro w32 hb8 hbut; have G5 := Aside0.mk hb8; have G2 := Aside0.mk ((hbut.block g2 (blk_lt G2.out) (Ne.symm ne52)).trans G2.out); have G4 := Aside0.mk ((hbut.block g4 (blk_lt G4.out) (Ne.symm ne54)).trans G4.out); have HB := Aside0.mk (But.below HB.out HB.out.size ge5 hbut); clear hb8 hbut; obtain ⟨-, q1, q2, q3, q4, q5, -, q7, -, q9, -, -, -, -, q14, -, -, -, -⟩ := pc_cells G2.out; obtain ⟨-, -, u2, u3, u4, u5, u6, u7, -, u9, -, -, -, -, u14, -, -, -, -⟩ := pc_cells (c1 := 0) (c2 := 0) (c3 := 0) G5.out; have f6 := frozen_of_row w32 g5 6 _ _ G5.out; have f2 := frozen_of_row w32 g5 2 _ _ G5.out; have f4 := frozen_of_row w32 g5 4 _ _ G5.out; have f5 := frozen_of_row w32 g5 5 _ _ G5.out; have f7 := frozen_of_row w32 g5 7 _ _ G5.out; have f9 := frozen_of_row w32 g5 9 _ _ G5.out)
  | ((with_reducible refine gate_store (t := 3) (p := 51) rfl ?_); refine put_event rfl (t := 3) (p := 51) (v := .tmp 50) rfl rfl (g := g5) (i := 5) (cs := pcs { plainP with count := 1 + U p.count 3, kind := 1 + U p.kind 3, round := x2, every := x6 } none 0 none 0 none 0) (cs' := pcs { plainP with count := 1 + U p.count 3, kind := 1 + U p.kind 3, round := x2, every := x6, times := 1 + U p.times n } none 0 none 0 none 0) (x := .int .i64 (1 + U p.times n)) ?hr G5.out ?hc ?_; (case hc => rfl); (case hr => go_simp); intro w33 hb8 hbut; have G5 := Aside0.mk hb8; have G2 := Aside0.mk ((hbut.block g2 (blk_lt G2.out) (Ne.symm ne52)).trans G2.out); have G4 := Aside0.mk ((hbut.block g4 (blk_lt G4.out) (Ne.symm ne54)).trans G4.out); have HB := Aside0.mk (But.below HB.out HB.out.size ge5 hbut); clear hb8 hbut; obtain ⟨-, q1, q2, q3, q4, q5, -, q7, -, q9, -, -, -, -, q14, -, -, -, -⟩ := pc_cells G2.out; obtain ⟨-, -, u2, u3, u4, u5, u6, u7, -, u9, -, -, -, -, u14, -, -, -, -⟩ := pc_cells (c1 := 0) (c2 := 0) (c3 := 0) G5.out; have f6 := frozen_of_row w33 g5 6 _ _ G5.out; have f2 := frozen_of_row w33 g5 2 _ _ G5.out; have f4 := frozen_of_row w33 g5 4 _ _ G5.out; have f5 := frozen_of_row w33 g5 5 _ _ G5.out; have f7 := frozen_of_row w33 g5 7 _ _ G5.out; have f9 := frozen_of_row w33 g5 9 _ _ G5.out))
 go_region
 obtain ⟨W8, hW8⟩ : ∃ W, W = ((w33.setCell ⟨g5, 7, none⟩ (.int .i64 (U p.rate 300000000))).setCell ⟨g5, 9, none⟩ (.int .i64 (U p.penalty 500000000))).drew := ⟨_, rfl⟩
 rw [← hW8]
 have n5 : W8.heap[g5]? = some (.cells (pcs { plainP with count := 1 + U p.count 3, kind := 1 + U p.kind 3, round := x2, every := x6, times := 1 + U p.times n, rate := U p.rate 300000000, penalty := U p.penalty 500000000 } none 0 none 0 none 0) 27 (0, 0)) := by rw [hW8]; exact (heap_setCell_same _ g5 9 _ _ _ (heap_setCell_same _ g5 7 _ _ _ G5.out)).trans rfl
 have nb : H.But g5 w33 W8 := by rw [hW8]; exact (let h : H.But g5 w33 ((w33.setCell ⟨g5, 7, none⟩ (.int .i64 (U p.rate 300000000))).setCell ⟨g5, 9, none⟩ (.int .i64 (U p.penalty 500000000))) := (But.one g5 7 w33 _).setCell (p := ⟨g5, 9, none⟩) (Or.inl rfl) _; ⟨h.os, h.tape, h.output, h.size, h.block⟩)
 have n2 := (nb.block g2 (blk_lt G2.out) (Ne.symm ne52)).trans G2.out
 have n4 := (nb.block g4 (blk_lt G4.out) (Ne.symm ne54)).trans G4.out
 have nH := But.below HB.out HB.out.size ge5 nb
 have G5 := Aside0.mk n5
 have G2 := Aside0.mk n2
 have G4 := Aside0.mk n4
 have HB := Aside0.mk nH
 clear hW8 nb n5 n2 n4 nH q1 q2 q3 q4 q5 q7 q9 q14 u2 u4 u5 u7 u9 u14 f2 f4 f5 f7 f9
 obtain ⟨-, q1, q2, q3, q4, q5, -, q7, -, q9, -, -, -, -, q14, -, -, -, -⟩ := pc_cells G2.out
 obtain ⟨-, -, u2, -, u4, u5, -, u7, -, u9, -, -, -, -, u14, -, -, -, -⟩ := pc_cells (c1 := 0) (c2 := 0) (c3 := 0) G5.out
 have f14 := frozen_of_row W8 g5 14 _ _ G5.out
 have hgp : plainP.grace = 0 := rfl
 have tl : decide (n < 1 + U p.times n) = false := decide_eq_false (by omega)
 have tg : decide (1 + U p.times n ≤ 0) = false := decide_eq_false (by omega)
 cases hk : (1 + U p.kind 3 == 3) with
 | true =>
  go_wp2_with ((with_reducible refine gate_store (t := 3) (p := 70) rfl ?_); refine put_event rfl (t := 3) (p := 70) (v := .tmp 69) rfl rfl (g := g5) (i := 14) (cs := pcs { plainP with count := 1 + U p.count 3, kind := 1 + U p.kind 3, round := x2, every := x6, times := 1 + U p.times n, rate := U p.rate 300000000, penalty := U p.penalty 500000000 } none 0 none 0 none 0) (cs' := pcs { plainP with count := 1 + U p.count 3, kind := 1 + U p.kind 3, round := x2, every := x6, times := 1 + U p.times n, rate := U p.rate 300000000, penalty := U p.penalty 500000000, over := 1 + U p.over 3 } none 0 none 0 none 0) (x := .int .i64 (1 + U p.over 3)) ?hr G5.out ?hc ?_; (case hc => rfl); (case hr => go_simp); intro w34 hb8 hbut; have G5 := Aside0.mk hb8; have G2 := Aside0.mk ((hbut.block g2 (blk_lt G2.out) (Ne.symm ne52)).trans G2.out); have G4 := Aside0.mk ((hbut.block g4 (blk_lt G4.out) (Ne.symm ne54)).trans G4.out); have HB := Aside0.mk (But.below HB.out HB.out.size ge5 hbut); clear hb8 hbut; obtain ⟨-, q1, q2, q3, q4, q5, -, q7, -, q9, -, -, -, -, q14, -, -, -, -⟩ := pc_cells G2.out; obtain ⟨-, -, u2, u3, u4, u5, u6, u7, -, u9, -, -, -, -, u14, -, -, -, -⟩ := pc_cells (c1 := 0) (c2 := 0) (c3 := 0) G5.out; have f6 := frozen_of_row w34 g5 6 _ _ G5.out; have f2 := frozen_of_row w34 g5 2 _ _ G5.out; have f4 := frozen_of_row w34 g5 4 _ _ G5.out; have f5 := frozen_of_row w34 g5 5 _ _ G5.out; have f7 := frozen_of_row w34 g5 7 _ _ G5.out; have f9 := frozen_of_row w34 g5 9 _ _ G5.out; refine Hid.out ?_)
  refine Lib.hid ?_
  try go_frame
  have bfin : (w34.setCell ⟨g5, 6, none⟩ (.int .i64 0)).heap[g5]? = some (.cells (pcs qf none 0 none 0 none 0) 27 (0, 0)) := by rw [HQ.out]; exact (heap_setCell_same _ g5 6 _ _ _ G5.out).trans rfl
  have hbut : H.But g5 w34 (w34.setCell ⟨g5, 6, none⟩ (.int .i64 0)) := ((H.But.of (Below.refl w34.heap.size w34)).setCell (p := ⟨g5, 6, none⟩) (Or.inl rfl) (.int .i64 0))
  have g4fin : (w34.setCell ⟨g5, 6, none⟩ (.int .i64 0)).heap[g4]? = some (.cells pzs 27 (0, 0)) := (hbut.block g4 (blk_lt G4.out) (Ne.symm ne54)).trans G4.out
  have hbfin : Below w.heap.size w (w34.setCell ⟨g5, 6, none⟩ (.int .i64 0)) := But.below HB.out HB.out.size ge5 hbut
  have F5 := Aside0.mk bfin
  have F4 := Aside0.mk g4fin
  have FB := Aside0.mk hbfin
  clear bfin hbut g4fin hbfin
  go_wp2_with (first
   | ((with_reducible refine gate_dst (N := 89) rfl ?_); refine wpList_load_row rfl 27 (.tmp 5) rfl g5 rfl 27 _ (0, 0) _ F5.out Tryz.underlying27 rfl info_prod ?_)
   | ((with_reducible refine gate_store (t := 27) (p := 4) rfl ?_); refine Hid.out ?_))
  refine Lib.hid ?_
  refine row_event rfl (t := 27) (p := 4) (v := .tmp 89) rfl rfl (g := g4) (cs := pcs qf none 0 none 0 none 0) (zs := pzs) rfl rfl F4.out info_prod rfl (pcs_one _ _ _ _ _ _ _) ?_
  intro w20 hb20 hbut20
  have H20 := Aside0.mk hb20
  have HB20 := Aside0.mk (But.below FB.out FB.out.size ge4 hbut20)
  clear hb20 hbut20
  try go_frame
  go_wp2_with fail
  exact bodyPost_ret (v := pv qf none 0 none 0 none 0) (results_cell_row (g := g4) Tryz.results6 _ _ _ _ _ _ rfl H20.out Tryz.underlying27 rfl info_prod) rfl ⟨none, 0, none, 0, none, 0, rfl, fun w0 _ => nilAt (by rw [HQ.out]; rfl) (by rw [HQ.out]; rfl) (by rw [HQ.out]; rfl), HB20.out⟩
 | false =>
  go_wp2_with ((with_reducible refine gate_store (t := 3) (p := 70) rfl ?_); refine put_event rfl (t := 3) (p := 70) (v := .tmp 69) rfl rfl (g := g5) (i := 14) (cs := pcs { plainP with count := 1 + U p.count 3, kind := 1 + U p.kind 3, round := x2, every := x6, times := 1 + U p.times n, rate := U p.rate 300000000, penalty := U p.penalty 500000000 } none 0 none 0 none 0) (cs' := pcs { plainP with count := 1 + U p.count 3, kind := 1 + U p.kind 3, round := x2, every := x6, times := 1 + U p.times n, rate := U p.rate 300000000, penalty := U p.penalty 500000000, over := 1 + U p.over 3 } none 0 none 0 none 0) (x := .int .i64 (1 + U p.over 3)) ?hr G5.out ?hc ?_; (case hc => rfl); (case hr => go_simp); intro w34 hb8 hbut; have G5 := Aside0.mk hb8; have G2 := Aside0.mk ((hbut.block g2 (blk_lt G2.out) (Ne.symm ne52)).trans G2.out); have G4 := Aside0.mk ((hbut.block g4 (blk_lt G4.out) (Ne.symm ne54)).trans G4.out); have HB := Aside0.mk (But.below HB.out HB.out.size ge5 hbut); clear hb8 hbut; obtain ⟨-, q1, q2, q3, q4, q5, -, q7, -, q9, -, -, -, -, q14, -, -, -, -⟩ := pc_cells G2.out; obtain ⟨-, -, u2, u3, u4, u5, u6, u7, -, u9, -, -, -, -, u14, -, -, -, -⟩ := pc_cells (c1 := 0) (c2 := 0) (c3 := 0) G5.out; have f6 := frozen_of_row w34 g5 6 _ _ G5.out; have f2 := frozen_of_row w34 g5 2 _ _ G5.out; have f4 := frozen_of_row w34 g5 4 _ _ G5.out; have f5 := frozen_of_row w34 g5 5 _ _ G5.out; have f7 := frozen_of_row w34 g5 7 _ _ G5.out; have f9 := frozen_of_row w34 g5 9 _ _ G5.out; refine Hid.out ?_)
  refine Lib.hid ?_
  try go_frame
  have bfin : w34.heap[g5]? = some (.cells (pcs qf none 0 none 0 none 0) 27 (0, 0)) := by rw [HQ.out]; exact G5.out
  have hbut : H.But g5 w34 w34 := (H.But.of (Below.refl w34.heap.size w34))
  have g4fin : w34.heap[g4]? = some (.cells pzs 27 (0, 0)) := (hbut.block g4 (blk_lt G4.out) (Ne.symm ne54)).trans G4.out
  have hbfin : Below w.heap.size w w34 := But.below HB.out HB.out.size ge5 hbut
  have F5 := Aside0.mk bfin
  have F4 := Aside0.mk g4fin
  have FB := Aside0.mk hbfin
  clear bfin hbut g4fin hbfin
  go_wp2_with (first
   | ((with_reducible refine gate_dst (N := 89) rfl ?_); refine wpList_load_row rfl 27 (.tmp 5) rfl g5 rfl 27 _ (0, 0) _ F5.out Tryz.underlying27 rfl info_prod ?_)
   | ((with_reducible refine gate_store (t := 27) (p := 4) rfl ?_); refine Hid.out ?_))
  refine Lib.hid ?_
  refine row_event rfl (t := 27) (p := 4) (v := .tmp 89) rfl rfl (g := g4) (cs := pcs qf none 0 none 0 none 0) (zs := pzs) rfl rfl F4.out info_prod rfl (pcs_one _ _ _ _ _ _ _) ?_
  intro w20 hb20 hbut20
  have H20 := Aside0.mk hb20
  have HB20 := Aside0.mk (But.below FB.out FB.out.size ge4 hbut20)
  clear hb20 hbut20
  try go_frame
  go_wp2_with fail
  exact bodyPost_ret (v := pv qf none 0 none 0 none 0) (results_cell_row (g := g4) Tryz.results6 _ _ _ _ _ _ rfl H20.out Tryz.underlying27 rfl info_prod) rfl ⟨none, 0, none, 0, none, 0, rfl, fun w0 _ => nilAt (by rw [HQ.out]; rfl) (by rw [HQ.out]; rfl) (by rw [HQ.out]; rfl), HB20.out⟩
end Go.Proofs.YtfmkdledofbhdaaGreat.Du
/- What a law of days asks of lists that calls hand back. -/
namespace Go.Proofs.YtfmkdledofbhdaaGreat.Du
open Go.RowKit Go.Proofs.YtfmkdledofbhdaaGreatW.PrintWords Go.Proofs.YtfmkdledofbhdaaGreatW.PrintLast Go.Proofs.YtfmkdledofbhdaaGreatW.PrintMore Go.Proofs.YtfmkdledofbhdaaGreat.HW
open Go.Proofs.YtfmkdledofbhdaaGreat.Math Go.Proofs.YtfmkdledofbhdaaGreat.H Go.Proofs.YtfmkdledofbhdaaGreat.Pd Pm
set_option linter.unusedVariables false
set_option linter.unusedSimpArgs false
theorem near_any (p : Prod) (A1 : Option Addr) (c1 : Nat) (A2 : Option Addr) (c2 : Nat) (A3 : Option Addr) (c3 : Nat) (n : Int) (w : World) (hp : ProdAt w p A1 c1 A2 c2 A3 c3) (hs : Held p) (n1 : 1 ≤ n) (n2 : n ≤ 1000) :
  Calls Tryz.prog 6 #[pv p A1 c1 A2 c2 A3 c3, .int .i64 n] w (NearE p A1 c1 A2 c2 A3 c3 (nearP p n) w) := by
 cases ho : ok p with
 | false => exact near_not p A1 c1 A2 c2 A3 c3 n w hp hs ho n1 n2
 | true => exact near_ok p A1 c1 A2 c2 A3 c3 n w hp hs ho
theorem C_nil (w : World) : Kd.C (Kd.int .i64) w none 0 [] := Kd.C_of_reads (d := (0 : Int)) ⟨rfl, by omega, fun h => absurd h (by omega)⟩
theorem rparts_len (c : Int) : ∀ (l : List Int) (s : Int), (rpartsL c s l).length = l.length
 | [], s => rfl
 | d :: r, s => by rw [rpartsL, List.length_cons, rparts_len c r d]; rfl
end Go.Proofs.YtfmkdledofbhdaaGreat.Du
/- Plain: a product near another one may be, whatever its way of rolling, without holidays. -/
namespace Go.Proofs.YtfmkdledofbhdaaGreat.Du
open Go.RowKit Go.Proofs.YtfmkdledofbhdaaGreatW.PrintWords Go.Proofs.YtfmkdledofbhdaaGreatW.PrintLast Go.Proofs.YtfmkdledofbhdaaGreatW.PrintMore Go.Proofs.YtfmkdledofbhdaaGreat.HW
open Go.Proofs.YtfmkdledofbhdaaGreat.Math Go.Proofs.YtfmkdledofbhdaaGreat.H Go.Proofs.YtfmkdledofbhdaaGreat.Pd Pm
set_option linter.unusedVariables false
set_option linter.unusedSimpArgs false
theorem ok_iff (p : Prod) : ok p = true ↔ ((((nameOk p.name.data.toList = true ∧ (1 ≤ p.count ∧ p.count ≤ 3) ∧ (p.round = 1 ∨ p.round = 3) ∧ (1 ≤ p.kind ∧ p.kind ≤ 3) ∧ (p.every = 1 ∨ p.every = 2 ∨ p.every = 3 ∨ p.every = 4 ∨ p.every = 6 ∨ p.every = 12) ∧ (1 ≤ p.times ∧ p.times ≤ 600) ∧ (0 ≤ p.grace ∧ p.grace ≤ p.times - 1) ∧ (p.kind = 3 → p.grace = 0)) ∧
  ((0 ≤ p.rate ∧ p.rate ≤ 1000000000) ∧ (0 ≤ p.penalty ∧ p.penalty ≤ 1000000000) ∧ p.resets.length ≤ 20) ∧ resetsOk p.times 0 p.resets = true) ∧ orderOk p.o1 p.o2 p.o3 p.o4 = true ∧ 1 ≤ p.over ∧ p.over ≤ 3) ∧
  (p.late.length ≤ 8 ∧ (0 ≤ p.cap ∧ p.cap ≤ 10000000000000) ∧ (p.late = [] → p.cap = 0)) ∧ tiersOk 0 0 p.late = true) ∧ (p.hol.length ≤ 200 ∧ (1 ≤ p.roll ∧ p.roll ≤ 4) ∧ (p.roll = 1 → p.hol = [])) ∧ holsOk (-25568) p.hol = true := by
 simp only [ok, shapeOk, ratesOk, ordOk, lateOk, daysOk, Bool.and_eq_true, decide_eq_true_eq]
theorem ok_graced {q : Prod} (h : (ok { q with grace := 0 } = true)) (hg : ¬ (q.times ≤ q.grace ∨ q.kind = 3)) (g0 : 0 ≤ q.grace) : ok q = true := by
 have h' := (ok_iff _).1 h
 obtain ⟨⟨⟨⟨⟨a1, a2, a3, a4, a5, a6, a7, a8⟩, b⟩, c⟩, d⟩, e⟩ := h'
 exact (ok_iff _).2 ⟨⟨⟨⟨⟨a1, a2, a3, a4, a5, a6, ⟨g0, by omega⟩, fun h => absurd (Or.inr h) hg⟩, b⟩, c⟩, d⟩, e⟩
theorem ok_nearD {q : Prod} (h : (ok { q with grace := 0 } = true)) (g0 : 0 ≤ q.grace) : ok (nearD q) = true := by
 unfold nearD
 split
 ·exact h
 ·rename_i hg; exact ok_graced h hg g0
theorem nearD_times (q : Prod) : (nearD q).times = q.times ∧ (nearD q).count = q.count ∧ (nearD q).every = q.every := by
 unfold nearD
 split <;> exact ⟨rfl, rfl, rfl⟩
theorem plain_good : ok plainP = true := by decide +kernel
theorem near_valid (p : Prod) {n : Int} (n1 : 1 ≤ n) (n2 : n ≤ 600) : ok (nearP p n) = true ∧ (nearP p n).times ≤ n := by
 unfold nearP
 split
 ·rename_i h
  obtain ⟨⟨⟨⟨⟨a1, a2, a3, a4, a5, a6, a7, a8⟩, ⟨b1, b2, b3⟩, b4⟩, c⟩, d⟩, e⟩ := (ok_iff _).1 h
  split
  ·rename_i hn
   refine ⟨ok_nearD ((ok_iff _).2 ⟨⟨⟨⟨⟨a1, a2, a3, a4, a5, ⟨n1, n2⟩, ⟨by show (0 : Int) ≤ 0; omega, by show (0 : Int) ≤ n - 1; omega⟩, fun _ => rfl⟩, ⟨b1, b2, by show (0 : Nat) ≤ 20; omega⟩, rfl⟩, c⟩, d⟩, e⟩) a7.1, ?_⟩
   rw [(nearD_times _).1]
   exact Int.le_refl n
  ·rename_i hn
   refine ⟨ok_nearD ((ok_iff _).2 ⟨⟨⟨⟨⟨a1, a2, a3, a4, a5, a6, ⟨by show (0 : Int) ≤ 0; omega, by show (0 : Int) ≤ p.times - 1; omega⟩, fun _ => rfl⟩, ⟨b1, b2, b3⟩, b4⟩, c⟩, d⟩, e⟩) a7.1, ?_⟩
   rw [(nearD_times _).1]
   omega
 ·have u1 := U_bd p.count (m := 3) (by omega)
  have u2 := U_bd p.kind (m := 3) (by omega)
  have u3 := U_bd p.every (m := 6) (by omega)
  have u4 := U_bd p.times (m := n) (by omega)
  have u5 := U_bd p.rate (m := 300000000) (by omega)
  have u6 := U_bd p.penalty (m := 500000000) (by omega)
  have u7 := U_bd p.over (m := 3) (by omega)
  obtain ⟨⟨⟨⟨⟨a1, a2, a3, a4, a5, a6, a7, a8⟩, ⟨b1, b2, b3⟩, b4⟩, c⟩, d⟩, e⟩ := (ok_iff _).1 plain_good
  refine ⟨ok_nearD ((ok_iff _).2 ⟨⟨⟨⟨⟨a1, ⟨by show 1 ≤ 1 + U p.count 3; omega, by show 1 + U p.count 3 ≤ 3; omega⟩, ?_, ⟨by show 1 ≤ 1 + U p.kind 3; omega, by show 1 + U p.kind 3 ≤ 3; omega⟩, ?_, ⟨by show 1 ≤ 1 + U p.times n; omega, by show 1 + U p.times n ≤ 600; omega⟩, ⟨by show (0 : Int) ≤ 0; omega, by show (0 : Int) ≤ 1 + U p.times n - 1; omega⟩, fun _ => rfl⟩, ⟨⟨by show 0 ≤ U p.rate 300000000; omega, by show U p.rate 300000000 ≤ 1000000000; omega⟩, ⟨by show 0 ≤ U p.penalty 500000000; omega, by show U p.penalty 500000000 ≤ 1000000000; omega⟩, b3⟩, rfl⟩, ⟨c.1, by show 1 ≤ 1 + U p.over 3; omega, by show 1 + U p.over 3 ≤ 3; omega⟩⟩, d⟩, e⟩) (by show (0 : Int) ≤ 0; omega), ?_⟩
  ·show (if U p.round 2 = 0 then (1 : Int) else 3) = 1 ∨ (if U p.round 2 = 0 then (1 : Int) else 3) = 3
   split
   ·exact Or.inl rfl
   ·exact Or.inr rfl
  ·generalize hx : (nearB p n).every = x
   have hx' : (if U p.every 6 = 0 then (1 : Int) else if U p.every 6 = 1 then 2 else if U p.every 6 = 2 then 3 else if U p.every 6 = 3 then 4 else if U p.every 6 = 4 then 6 else 12) = x := hx
   show x = 1 ∨ x = 2 ∨ x = 3 ∨ x = 4 ∨ x = 6 ∨ x = 12
   repeat' split at hx'
   all_goals omega
  ·rw [(nearD_times _).1]
   show 1 + U p.times n ≤ n
   omega
end Go.Proofs.YtfmkdledofbhdaaGreat.Du
/- Plain: the days of a product near another one, from a day of thirty years: they are there, and lie far apart. -/
namespace Go.Proofs.YtfmkdledofbhdaaGreat.Du
open Go.RowKit Go.Proofs.YtfmkdledofbhdaaGreatW.PrintWords Go.Proofs.YtfmkdledofbhdaaGreatW.PrintLast Go.Proofs.YtfmkdledofbhdaaGreatW.PrintMore Go.Proofs.YtfmkdledofbhdaaGreat.HW
open Go.Proofs.YtfmkdledofbhdaaGreat.Math Go.Proofs.YtfmkdledofbhdaaGreat.H Go.Proofs.YtfmkdledofbhdaaGreat.Pd Pm
set_option linter.unusedVariables false
set_option linter.unusedSimpArgs false
theorem far28 {t t' D : Int} (h : t < t') (D1 : 1 ≤ D) : dayAt t (min D (ml t)) + 28 ≤ dayAt t' (min D (ml t')) := by
 have b0 := ml_bd t
 have b1 := ml_bd (t + 1)
 have b2 := ml_bd t'
 have hn := dayAt_next t
 have a0 := dayAt_mono (t := t) (d := min D (ml t)) (d' := ml t)
 by_cases e : t' = t + 1
 ·subst e
  have a1 := dayAt_mono (t := t + 1) (d := min D (ml (t + 1))) (d' := 1)
  omega
 ·have hl := dayAt_less (t := t + 1) (t' := t') (d := ml (t + 1)) (d' := min D (ml t')) (by omega) (by omega) (Int.le_refl _)
  have a1 := dayAt_mono (t := t + 1) (d := ml (t + 1)) (d' := 1)
  omega
def A (n k : Int) : Int := dayAt (idx n + k) (min (dayOf n) (ml (idx n + k)))
theorem A_zero {n : Int} (h : isDay n) : A n 0 = n := by
 obtain ⟨_, _, d1, d2, e, _⟩ := idx_spec h
 unfold A
 rw [Int.add_zero, show min (dayOf n) (ml (idx n)) = dayOf n by omega]
 exact e.symm
theorem idx_low {n : Int} (h : isDay n) (h2 : n < 20000) : idx n ≤ 25000 := by
 obtain ⟨y1, y2, y3, y4⟩ := yearOf_spec h
 obtain ⟨_, m1, m2, _⟩ := date_ok h
 have ei : idx n = 12 * yearOf n + monthOf n - 1 := rfl
 unfold opens at y3
 omega
theorem A_add {n k : Int} (h : isDay n) (h2 : n < 20000) (k0 : 0 ≤ k) (k1 : k ≤ 480) : add n k = (A n k, 0) := by
 have hi := idx_low h h2
 have hs := (idx_spec h).1
 exact (add_ok h (by omega) (by omega) (by omega) (by omega)).1
theorem A_far {n k k' : Int} (h : isDay n) (hk : k < k') : A n k + 28 ≤ A n k' := far28 (by omega) (idx_spec h).2.2.1
theorem A_up {n k : Int} (h : isDay n) (h2 : n < 20000) (k0 : 0 ≤ k) (k1 : k ≤ 480) : n ≤ A n k ∧ A n k ≤ 60000 := by
 refine ⟨?_, ?_⟩
 ·by_cases e : k = 0
  ·rw [e, A_zero h]; exact Int.le_refl n
  ·have := A_far h (k := 0) (k' := k) (by omega)
   rw [A_zero h] at this
   omega
 ·have hi := idx_low h h2
  have hs := (idx_spec h).1
  have b := ml_bd (idx n + k)
  have d1 := (idx_spec h).2.2.1
  have hc := cum_bd ((idx n + k) / 12) ((idx n + k) % 12 + 1) (by omega) (by omega)
  have ho : opens ((idx n + k) / 12) ≤ 57000 := by
   have : (idx n + k) / 12 ≤ 2124 := by omega
   unfold opens; omega
  unfold A dayAt
  omega
def drow (n e : Int) : Nat → Int → List Int
 | 0, _ => []
 | m + 1, i => A n ((i + 1) * e) :: drow n e m (i + 1)
theorem mul_low {i e : Int} (h1 : 0 ≤ i) (h2 : i ≤ 40) (e1 : 1 ≤ e) (e2 : e ≤ 12) : 0 ≤ i * e ∧ i * e ≤ 480 := by
 have a := Int.mul_le_mul_of_nonneg_right h2 (show 0 ≤ e by omega)
 have b := Int.mul_nonneg h1 (show 0 ≤ e by omega)
 omega
theorem dates_are {n e : Int} (hd : isDay n) (h2 : n < 20000) (e1 : 1 ≤ e) (e2 : e ≤ 12) : ∀ (m : Nat) (i : Int) (l : List Int), 0 ≤ i → i + m ≤ 40 → dates m n e i l = (l ++ drow n e m i, 0)
 | 0, i, l, i0, h => by simp [dates, drow]
 | m + 1, i, l, i0, h => by
  obtain ⟨p1, p2⟩ := mul_low (i := i + 1) (by omega) (by omega) e1 e2
  unfold dates
  rw [A_add hd h2 p1 p2, if_pos rfl, dates_are hd h2 e1 e2 m (i + 1) _ (by omega) (by omega), drow, List.append_assoc]
  rfl
end Go.Proofs.YtfmkdledofbhdaaGreat.Du
/- Plain: parts between days far apart are above nothing; their sum is what lies between the first day and the last one. -/
namespace Go.Proofs.YtfmkdledofbhdaaGreat.Du
open Go.RowKit Go.Proofs.YtfmkdledofbhdaaGreatW.PrintWords Go.Proofs.YtfmkdledofbhdaaGreatW.PrintLast Go.Proofs.YtfmkdledofbhdaaGreatW.PrintMore Go.Proofs.YtfmkdledofbhdaaGreat.HW
open Go.Proofs.YtfmkdledofbhdaaGreat.Math Go.Proofs.YtfmkdledofbhdaaGreat.H Go.Proofs.YtfmkdledofbhdaaGreat.Pd Pm
set_option linter.unusedVariables false
set_option linter.unusedSimpArgs false
theorem actual_up : ∀ (k : Nat) {a : Int}, isDay a → isDay (a + k) → actual a + k ≤ actual (a + k)
 | 0, a, _, _ => by simp
 | k + 1, a, ha, hb => by
  obtain ⟨a1, a2⟩ := id ha
  obtain ⟨b1, b2⟩ := id hb
  have hm : isDay (a + k) := ⟨by omega, by omega⟩
  have hb' : isDay (a + k + 1) := ⟨by omega, by omega⟩
  have ih := actual_up k ha hm
  have hs := actual_succ hm hb'
  have hl := leap_01 (yearOf (a + k))
  rw [show a + ((k + 1 : Nat) : Int) = a + k + 1 by omega]
  omega
def prev (s : Int) (l : List Int) (k : Nat) : Int := if k = 0 then s else l.getD (k - 1) 0
end Go.Proofs.YtfmkdledofbhdaaGreat.Du
/- Plain arithmetic of what a balance bears: the rest, and the whole. -/
namespace Go.Proofs.YtfmkdledofbhdaaGreat.Gm
def gp (c : Int) : Int := if c = 1 then 360 else if c = 2 then 365 else 133590
def whole (c : Int) : Int := 1000000000 * gp c
def half (c r : Int) : Int := if r = 1 then whole c / 2 else 0
theorem whole_bd (c : Int) : 360000000000 ≤ whole c ∧ whole c ≤ 133590000000000 ∧ whole c % 2 = 0 := by
 unfold whole gp
 split
 ·decide
 ·split <;> decide
theorem half_bd (c r : Int) : 0 ≤ half c r ∧ 2 * half c r ≤ whole c := by
 have := whole_bd c
 unfold half
 split <;> omega
theorem half_one (c : Int) : 2 * half c 1 = whole c := by
 have := whole_bd c
 unfold half
 rw [if_pos rfl]; omega
theorem half_no {c r : Int} (h : r ≠ 1) : half c r = 0 := if_neg h
def q (W h rest x : Int) : Int := (x + (rest + h)) / W
def r (W h rest x : Int) : Int := (x + (rest + h)) % W - h
theorem step {W h rest x : Int} (hW : 0 < W) (hx : 0 ≤ x) (r0 : -h ≤ rest) : 0 ≤ q W h rest x ∧ -h ≤ r W h rest x ∧ r W h rest x < W - h ∧ r W h rest x = rest + x - q W h rest x * W := by
 unfold q r
 have e := Int.emod_add_mul_ediv (x + (rest + h)) W
 have h1 := Int.emod_nonneg (x + (rest + h)) (show W ≠ 0 by omega)
 have h2 := Int.emod_lt_of_pos (x + (rest + h)) hW
 have h3 : 0 ≤ (x + (rest + h)) / W := Int.ediv_nonneg (by omega) (by omega)
 rw [Int.mul_comm] at e
 refine ⟨h3, by omega, by omega, by omega⟩
theorem most {W h rest x M : Int} (hW : 0 < W) (r1 : rest < W - h) (hx : x ≤ M * W) : q W h rest x ≤ M := by
 unfold q
 have : (x + (rest + h)) / W < M + 1 := by
  refine Int.ediv_lt_of_lt_mul hW ?_
  rw [Int.add_mul, Int.one_mul]; omega
 omega
theorem uniq {W h x s : Int} (hW : 0 < W) (h1 : -h ≤ x - s * W) (h2 : x - s * W < W - h) : q W h 0 x = s ∧ r W h 0 x = x - s * W := by
 unfold q r
 have e : x + (0 + h) = (x - s * W + h) + s * W := by omega
 have a : (x + (0 + h)) / W = s := by
  rw [e, Int.add_mul_ediv_right _ _ (by omega), Int.ediv_eq_zero_of_lt (by omega) (by omega)]; omega
 have b : (x + (0 + h)) % W = x - s * W + h := by
  rw [e, Int.add_mul_emod_self_right, Int.emod_eq_of_lt (by omega) (by omega)]
 exact ⟨a, by omega⟩
theorem more {W h x y : Int} (hW : 0 < W) (hxy : x ≤ y) : q W h 0 x ≤ q W h 0 y := by
 unfold q
 exact Int.ediv_le_ediv hW (by omega)
theorem none {W h : Int} (hW : 0 < W) (h0 : 0 ≤ h) (h1 : h < W) : q W h 0 0 = 0 ∧ r W h 0 0 = 0 := by
 obtain ⟨a, b⟩ := uniq (W := W) (h := h) (x := 0) (s := 0) hW (by omega) (by omega)
 exact ⟨a, by omega⟩
theorem mul_le {a b A B : Int} (a0 : 0 ≤ a) (b0 : 0 ≤ b) (hA : a ≤ A) (hB : b ≤ B) : 0 ≤ a * b ∧ a * b ≤ A * B :=
 ⟨Int.mul_nonneg a0 b0, Int.mul_le_mul hA hB b0 (by omega)⟩
def may (bal rate n : Int) : Prop := 0 ≤ bal ∧ bal ≤ 1000000000000000 ∧ 0 ≤ rate ∧ rate ≤ 1000000000 ∧ 0 ≤ n ∧ n ≤ 53436000
instance (bal rate n : Int) : Decidable (may bal rate n) := by unfold may; exact inferInstance
def bear (W h rest bal rate n : Int) : Int × Int × Int :=
 if may bal rate n then (if q W h rest (bal * rate * n) ≤ 1000000000000000 then (q W h rest (bal * rate * n), 0, r W h rest (bal * rate * n)) else (0, 3, rest)) else (0, 1, rest)
end Go.Proofs.YtfmkdledofbhdaaGreat.Gm
/- Plain law of level: what an instalment leaves, and the least one that leaves nothing. -/
namespace Go.Proofs.YtfmkdledofbhdaaGreat.Lv
set_option linter.unusedVariables false
set_option linter.unusedSimpArgs false
def wk (W h rate gr inst : Int) : Int → List Int → Int → Int → Int
 | _, [], bal, _ => bal
 | i, n :: l, bal, rest =>
  if (Gm.bear W h rest bal rate n).2.1 ≠ 0 then 1000000000000001
  else if i < gr then wk W h rate gr inst (i + 1) l bal (Gm.bear W h rest bal rate n).2.2
  else if bal + ((Gm.bear W h rest bal rate n).1 - inst) ≤ 0 then bal + ((Gm.bear W h rest bal rate n).1 - inst)
  else if 1000000000000000 < bal + ((Gm.bear W h rest bal rate n).1 - inst) then 1000000000000001
  else wk W h rate gr inst (i + 1) l (bal + ((Gm.bear W h rest bal rate n).1 - inst)) (Gm.bear W h rest bal rate n).2.2
structure In (W h rest bal : Int) : Prop where
 w0 : 0 < W
 b0 : 0 < bal
 b1 : bal ≤ 1000000000000000
 r0 : -h ≤ rest
 r1 : rest < W - h
theorem bear_eq {W h rest bal rate n : Int} : Gm.bear W h rest bal rate n = if Gm.may bal rate n then (if Gm.q W h rest (bal * rate * n) ≤ 1000000000000000 then (Gm.q W h rest (bal * rate * n), 0, Gm.r W h rest (bal * rate * n)) else (0, 3, rest)) else (0, 1, rest) := rfl
theorem bear_ok {W h rest bal rate n : Int} (e : (Gm.bear W h rest bal rate n).2.1 = 0) : Gm.may bal rate n ∧ Gm.q W h rest (bal * rate * n) ≤ 1000000000000000 ∧ Gm.bear W h rest bal rate n = (Gm.q W h rest (bal * rate * n), 0, Gm.r W h rest (bal * rate * n)) := by
 rw [bear_eq] at e ⊢
 by_cases hm : Gm.may bal rate n
 ·rw [if_pos hm] at e ⊢
  by_cases hq : Gm.q W h rest (bal * rate * n) ≤ 1000000000000000
  ·rw [if_pos hq]; exact ⟨hm, hq, rfl⟩
  ·rw [if_neg hq] at e; simp at e
 ·rw [if_neg hm] at e; simp at e
theorem two {W h rate n b1 r1 b2 r2 : Int} (I1 : In W h r1 b1) (I2 : In W h r2 b2) (hb : b1 < b2 ∨ b1 = b2 ∧ r1 ≤ r2) (e : (Gm.bear W h r2 b2 rate n).2.1 = 0) :
  (Gm.bear W h r1 b1 rate n).2.1 = 0 ∧ (b1 + (Gm.bear W h r1 b1 rate n).1 < b2 + (Gm.bear W h r2 b2 rate n).1 ∨ b1 + (Gm.bear W h r1 b1 rate n).1 = b2 + (Gm.bear W h r2 b2 rate n).1 ∧ (Gm.bear W h r1 b1 rate n).2.2 ≤ (Gm.bear W h r2 b2 rate n).2.2) ∧
   0 ≤ (Gm.bear W h r1 b1 rate n).1 ∧ (Gm.bear W h r1 b1 rate n).1 ≤ 1000000000000000 := by
 obtain ⟨hm, hq, he⟩ := bear_ok e
 obtain ⟨w0, p0, p1, q0, q1⟩ := I1
 obtain ⟨_, s0, s1, t0, t1⟩ := I2
 obtain ⟨m0, m1, m2, m3, m4, m5⟩ := hm
 have hm1 : Gm.may b1 rate n := ⟨by omega, by omega, m2, m3, m4, m5⟩
 have rn0 := Int.mul_nonneg m2 m4
 have x1 := Int.mul_nonneg (Int.le_of_lt p0) rn0
 have x2 := Int.mul_nonneg (Int.le_of_lt s0) rn0
 have x12 : b1 * (rate * n) ≤ b2 * (rate * n) := Int.mul_le_mul_of_nonneg_right (by omega) rn0
 rw [← Int.mul_assoc] at x1 x2
 have g1 := Gm.step (W := W) (h := h) (rest := r1) (x := b1 * rate * n) w0 x1 q0
 have g2 := Gm.step (W := W) (h := h) (rest := r2) (x := b2 * rate * n) w0 x2 t0
 obtain ⟨a0, a1, a2, a3⟩ := g1
 obtain ⟨c0, c1, c2, c3⟩ := g2
 have hq1 : Gm.q W h r1 (b1 * rate * n) ≤ 1000000000000000 := by
  rcases hb with hb | ⟨rfl, hr⟩
  ·by_cases hw : rate * n ≤ W
   ·-- no more than the balance
    have : b1 * (rate * n) ≤ b1 * W := Int.mul_le_mul_of_nonneg_left hw (by omega)
    rw [← Int.mul_assoc] at this
    have := Gm.most (W := W) (h := h) (rest := r1) (x := b1 * rate * n) (M := b1) w0 q1 this
    omega
   ·refine Int.le_trans ?_ hq
    unfold Gm.q
    refine Int.ediv_le_ediv w0 ?_
    have : (b1 + 1) * (rate * n) ≤ b2 * (rate * n) := Int.mul_le_mul_of_nonneg_right (by omega) rn0
    rw [show (b1 + 1) * (rate * n) = b1 * rate * n + rate * n by rw [Int.add_mul, Int.one_mul, Int.mul_assoc], show b2 * (rate * n) = b2 * rate * n from (Int.mul_assoc ..).symm] at this
    omega
  ·refine Int.le_trans ?_ hq
   unfold Gm.q
   exact Int.ediv_le_ediv w0 (by omega)
 have h1 : Gm.bear W h r1 b1 rate n = (Gm.q W h r1 (b1 * rate * n), 0, Gm.r W h r1 (b1 * rate * n)) := by rw [bear_eq, if_pos hm1, if_pos hq1]
 rw [h1, he]
 refine ⟨rfl, ?_, a0, hq1⟩
 simp only []
 generalize Gm.q W h r1 (b1 * rate * n) = u1 at *
 generalize Gm.q W h r2 (b2 * rate * n) = u2 at *
 generalize Gm.r W h r1 (b1 * rate * n) = v1 at *
 generalize Gm.r W h r2 (b2 * rate * n) = v2 at *
 rw [← Int.mul_assoc, ← Int.mul_assoc] at x12
 generalize b1 * rate * n = y1 at *
 generalize b2 * rate * n = y2 at *
 have tot : (b1 + u1) * W + v1 ≤ (b2 + u2) * W + v2 := by
  have e1 : (b1 + u1) * W + v1 = b1 * W + r1 + y1 := by rw [Int.add_mul, a3]; omega
  have e2 : (b2 + u2) * W + v2 = b2 * W + r2 + y2 := by rw [Int.add_mul, c3]; omega
  rw [e1, e2]
  rcases hb with hb | ⟨rfl, hr⟩
  ·have : (b1 + 1) * W ≤ b2 * W := Int.mul_le_mul_of_nonneg_right (by omega) (by omega)
   rw [Int.add_mul] at this
   omega
  ·omega
 by_cases hlt : b1 + u1 < b2 + u2
 ·exact Or.inl hlt
 ·right
  have hge : (b2 + u2) * W ≤ (b1 + u1) * W := Int.mul_le_mul_of_nonneg_right (by omega) (by omega)
  have heq : b1 + u1 = b2 + u2 := by
   rcases (by omega : b1 + u1 = b2 + u2 ∨ b2 + u2 + 1 ≤ b1 + u1) with h | h
   ·exact h
   ·have : (b2 + u2 + 1) * W ≤ (b1 + u1) * W := Int.mul_le_mul_of_nonneg_right h (by omega)
    rw [Int.add_mul] at this
    omega
  rw [heq] at tot
  exact ⟨heq, by omega⟩
theorem bear_in {W h rest bal rate n : Int} (I : In W h rest bal) (e : (Gm.bear W h rest bal rate n).2.1 = 0) : 0 ≤ (Gm.bear W h rest bal rate n).1 ∧ -h ≤ (Gm.bear W h rest bal rate n).2.2 ∧ (Gm.bear W h rest bal rate n).2.2 < W - h := by
 obtain ⟨⟨m0, m1, m2, m3, m4, m5⟩, hq, he⟩ := bear_ok e
 rw [he]
 obtain ⟨a0, a1, a2, a3⟩ := Gm.step (W := W) (h := h) (rest := rest) (x := bal * rate * n) I.w0 (Int.mul_nonneg (Int.mul_nonneg m0 m2) m4) I.r0
 exact ⟨a0, a1, a2⟩
theorem wk_mono {W h rate gr x1 x2 : Int} (hx : x2 ≤ x1) : ∀ (l : List Int) (i b1 r1 b2 r2 : Int), In W h r1 b1 → In W h r2 b2 → (b1 < b2 ∨ b1 = b2 ∧ r1 ≤ r2) → (i < gr → b1 < b2 ∨ b1 = b2 ∧ r1 = r2) → wk W h rate gr x2 i l b2 r2 ≤ 0 → wk W h rate gr x1 i l b1 r1 ≤ 0
 | [], i, b1, r1, b2, r2, I1, I2, hb, hg, h0 => by
  have := I2.b0
  simp only [wk] at h0
  omega
 | n :: l, i, b1, r1, b2, r2, I1, I2, hb, hg, h0 => by
  rw [wk] at h0 ⊢
  by_cases e : (Gm.bear W h r2 b2 rate n).2.1 = 0
  ·obtain ⟨e1, ht, hq0, hq1⟩ := two I1 I2 hb e
   obtain ⟨k1, k2, k3⟩ := bear_in I1 e1
   obtain ⟨j1, j2, j3⟩ := bear_in I2 e
   rw [if_neg (by simpa using e)] at h0
   rw [if_neg (by simpa using e1)]
   by_cases hi : i < gr
   ·rw [if_pos hi] at h0 ⊢
    refine wk_mono hx l (i + 1) _ _ _ _ ⟨I1.w0, I1.b0, I1.b1, k2, k3⟩ ⟨I2.w0, I2.b0, I2.b1, j2, j3⟩ ?_ ?_ h0
    ·rcases hg hi with h | ⟨rfl, rfl⟩
     ·exact Or.inl h
     ·exact Or.inr ⟨rfl, Int.le_refl _⟩
    ·intro _
     rcases hg hi with h | ⟨rfl, rfl⟩
     ·exact Or.inl h
     ·exact Or.inr ⟨rfl, rfl⟩
   ·rw [if_neg hi] at h0 ⊢
    generalize Gm.bear W h r1 b1 rate n = z1 at *
    generalize Gm.bear W h r2 b2 rate n = z2 at *
    by_cases c2 : b2 + (z2.1 - x2) ≤ 0
    ·rw [if_pos (by omega)]; omega
    ·rw [if_neg c2] at h0
     by_cases d2 : 1000000000000000 < b2 + (z2.1 - x2)
     ·rw [if_pos d2] at h0; omega
     ·rw [if_neg d2] at h0
      by_cases c1 : b1 + (z1.1 - x1) ≤ 0
      ·rw [if_pos c1]; omega
      ·rw [if_neg c1, if_neg (by omega)]
       exact wk_mono hx l (i + 1) _ _ _ _ ⟨I1.w0, by omega, by omega, k2, k3⟩ ⟨I2.w0, by omega, by omega, j2, j3⟩ (by omega) (fun h => by omega) h0
  ·rw [if_pos (by simpa using e)] at h0
   omega
theorem wk_zero {W h rate gr : Int} : ∀ (l : List Int) (i b r : Int), In W h r b → 0 < wk W h rate gr 0 i l b r
 | [], i, b, r, I => by simp only [wk]; exact I.b0
 | n :: l, i, b, r, I => by
  rw [wk]
  by_cases e : (Gm.bear W h r b rate n).2.1 = 0
  ·obtain ⟨k1, k2, k3⟩ := bear_in I e
   have b0 := I.b0
   rw [if_neg (by simpa using e)]
   split
   ·exact wk_zero l _ _ _ ⟨I.w0, I.b0, I.b1, k2, k3⟩
   ·rw [if_neg (by omega)]
    split
    ·omega
    ·exact wk_zero l _ _ _ ⟨I.w0, by omega, by omega, k2, k3⟩
  ·rw [if_pos (by simpa using e)]; omega
def srch (f : Int → Int) : Nat → Int → Int → Int
 | 0, _, hi => hi
 | k + 1, lo, hi => if 1 < hi - lo then (if 0 < f (lo + Int.tdiv (hi - lo) 2) then srch f k (lo + Int.tdiv (hi - lo) 2) hi else srch f k lo (lo + Int.tdiv (hi - lo) 2)) else hi
structure Least (f : Int → Int) (v : Int) : Prop where
 yes : f v ≤ 0
 v1 : 1 ≤ v
 vm : v ≤ 1000000000000000
 no : 0 < f (v - 1)
theorem srch_least (f : Int → Int) : ∀ (k : Nat) (lo hi : Int), 0 ≤ lo → lo < hi → hi ≤ 1000000000000000 → hi - lo ≤ 2 ^ k → 0 < f lo → f hi ≤ 0 → Least f (srch f k lo hi)
 | 0, lo, hi, h0, h1, h2, h3, h4, h5 => by
  have : hi - lo = 1 := by simp at h3; omega
  exact ⟨h5, by simp only [srch]; omega, h2, by simp only [srch]; rw [show hi - 1 = lo by omega]; exact h4⟩
 | k + 1, lo, hi, h0, h1, h2, h3, h4, h5 => by
  rw [srch]
  have hp : (2 : Int) ^ (k + 1) = 2 ^ k * 2 := Int.pow_succ ..
  split
  ·rename_i hc
   have ht : Int.tdiv (hi - lo) 2 = (hi - lo) / 2 := Int.tdiv_eq_ediv_of_nonneg (by omega)
   rw [ht]
   split
   ·rename_i hf
    exact srch_least f k _ _ (by omega) (by omega) h2 (by omega) hf h5
   ·rename_i hf
    exact srch_least f k _ _ h0 (by omega) (by omega) (by omega) h4 (by omega)
  ·exact ⟨h5, by omega, h2, by rw [show hi - 1 = lo by omega]; exact h4⟩
theorem Least.uniq {f : Int → Int} (hm : ∀ x y, 0 ≤ x → x ≤ y → y ≤ 1000000000000000 → f x ≤ 0 → f y ≤ 0) {u v : Int} (hu : Least f u) (hv : Least f v) : u = v := by
 obtain ⟨a1, a2, a3, a4⟩ := hu
 obtain ⟨b1, b2, b3, b4⟩ := hv
 rcases (by omega : u = v ∨ u ≤ v - 1 ∨ v ≤ u - 1) with h | h | h
 ·exact h
 ·have := hm u (v - 1) (by omega) h (by omega) a1; omega
 ·have := hm v (u - 1) (by omega) h (by omega) b1; omega
end Go.Proofs.YtfmkdledofbhdaaGreat.Lv
namespace Go.Proofs.YtfmkdledofbhdaaGreat.PRB
open Go.RowKit Go.Proofs.YtfmkdledofbhdaaGreatW.PrintWords Go.Proofs.YtfmkdledofbhdaaGreatW.PrintLast Go.Proofs.YtfmkdledofbhdaaGreatW.PrintMore Go.Proofs.YtfmkdledofbhdaaGreat.HW
attribute [local go_sem] run_makeFunc_ max2_int min2_int max_two min_two max_three min_three max_four min_four   -- for this text's walks alone
set_option linter.unusedVariables false
set_option linter.unusedSimpArgs false
def errW : Option Int → Value
 | none => .nilIface
 | some c => .iface 0 (.int .i64 c)
theorem errW_none : errW none = .nilIface := rfl
theorem errW_some (c : Int) : errW (some c) = .iface 0 (.int .i64 c) := rfl
theorem info2 : (Tryz.prog.info? 2).map (fun i => (i.zero, i.size, i.bytes)) = some (some (.int .i64 0), 1, 8) := by kernel_rfl
end Go.Proofs.YtfmkdledofbhdaaGreat.PRB
namespace Go.Proofs.YtfmkdledofbhdaaGreat.PRB
open Go.RowKit Go.Proofs.YtfmkdledofbhdaaGreatW.PrintWords Go.Proofs.YtfmkdledofbhdaaGreatW.PrintLast Go.Proofs.YtfmkdledofbhdaaGreatW.PrintMore Go.Proofs.YtfmkdledofbhdaaGreat.HW
attribute [local go_sem] run_makeFunc_ max2_int min2_int max_two min_two max_three min_three max_four min_four   -- for this text's walks alone
set_option linter.unusedVariables false
set_option linter.unusedSimpArgs false
/-! ### quittanceref12_times: function 27 -/
mutual
def quittanceref12_times.l0 : Nat → List Int → Int → List Int → Int → Int → Option (List Int)
 | 0, _, _, _, _, _ => none
 | k + 1, x0, x1, x5, x6, x7 => if x7 < (x0.length : Int) then (if 0 ≤ x7 then (if x5.length < 17592186044416 then (quittanceref12_times.l0 k x0 x1 (x5 ++ [Int.tmod (wrap64 ((wrap64 ((rd x0 x7) * x1)) + x6)) 1000000000]) (wrap64 (Int.tdiv (wrap64 ((wrap64 ((rd x0 x7) * x1)) + x6)) 1000000000)) (wrap64 (x7 + 1))) else (none)) else (none)) else (quittanceref12_times.l1 k x5 x6)
def quittanceref12_times.l1 : Nat → List Int → Int → Option (List Int)
 | 0, _, _ => none
 | k + 1, x5, x6 => if x6 > 0 then (if x5.length < 17592186044416 then (quittanceref12_times.l1 k (x5 ++ [Int.tmod x6 1000000000]) (wrap64 (Int.tdiv x6 1000000000))) else (none)) else (some x5)
end
def quittanceref12_times.f (k : Nat) (l0 : List Int) (a1 : Int) : Option (List Int) := quittanceref12_times.l0 k l0 a1 ([] : List Int) 0 0
theorem quittanceref12_times.mono_l : ∀ k, (∀ y0 y1 y2 y3 y4, LeO (quittanceref12_times.l0 k y0 y1 y2 y3 y4) (quittanceref12_times.l0 (k + 1) y0 y1 y2 y3 y4)) ∧ (∀ y0 y1, LeO (quittanceref12_times.l1 k y0 y1) (quittanceref12_times.l1 (k + 1) y0 y1))
 | 0 => ⟨fun _ _ _ _ _ r h => by simp [quittanceref12_times.l0] at h, fun _ _ r h => by simp [quittanceref12_times.l1] at h⟩
 | k + 1 => by
  obtain ⟨ih0, ih1⟩ := quittanceref12_times.mono_l k
  refine ⟨?_, ?_⟩
  ·intro y0 y1 y2 y3 y4
   unfold quittanceref12_times.l0
   repeat' first
   | (with_reducible exact ih0 _ _ _ _ _)
   | (with_reducible exact ih1 _ _)
   | (with_reducible exact LeO.refl _)
   | (with_reducible exact LeO.none _)
   | (with_reducible refine LeO.ite ?_ ?_)
   | (with_reducible refine LeO.bind ?_ (fun _ => ?_))
   | exact ih0 _ _ _ _ _
   | exact ih1 _ _
   | exact LeO.none _
   | refine LeO.ite ?_ ?_
   | refine LeO.bind ?_ (fun _ => ?_)
  ·intro y0 y1
   unfold quittanceref12_times.l1
   repeat' first
   | (with_reducible exact ih0 _ _ _ _ _)
   | (with_reducible exact ih1 _ _)
   | (with_reducible exact LeO.refl _)
   | (with_reducible exact LeO.none _)
   | (with_reducible refine LeO.ite ?_ ?_)
   | (with_reducible refine LeO.bind ?_ (fun _ => ?_))
   | exact ih0 _ _ _ _ _
   | exact ih1 _ _
   | exact LeO.none _
   | refine LeO.ite ?_ ?_
   | refine LeO.bind ?_ (fun _ => ?_)
theorem quittanceref12_times.mono : ∀ a0 a1 k, LeO (quittanceref12_times.f k a0 a1) (quittanceref12_times.f (k + 1) a0 a1) := by
 intro a0 a1 k
 obtain ⟨ih0, ih1⟩ := quittanceref12_times.mono_l k
 unfold quittanceref12_times.f
 repeat' first
   | (with_reducible exact ih0 _ _ _ _ _)
   | (with_reducible exact ih1 _ _)
   | (with_reducible exact LeO.refl _)
   | (with_reducible exact LeO.none _)
   | (with_reducible refine LeO.ite ?_ ?_)
   | (with_reducible refine LeO.bind ?_ (fun _ => ?_))
   | exact ih0 _ _ _ _ _
   | exact ih1 _ _
   | exact LeO.none _
   | refine LeO.ite ?_ ?_
   | refine LeO.bind ?_ (fun _ => ?_)
set_option maxHeartbeats 8000000 in
set_option maxRecDepth 100000 in
theorem quittanceref12_times.calls (k : Nat) (A0 : Option Addr) (c0 : Nat) (l0 : List Int) (a1 : Int) (r : List Int) (w : World) (hr0 : Kd.C (Kd.int .i64) w A0 l0.length l0) (hc0 : l0.length ≤ c0) (h : quittanceref12_times.f k l0 a1 = some r) :
  Calls Tryz.prog 27 #[.slice A0 l0.length c0, .int .i64 a1] w fun e w' => ∃ v0_ : Value, e = .returned (v0_) ∧ Kd.R (Kd.int .i64) 2 w' w.heap.size (fun _ => True) v0_ r ∧ Below w.heap.size w w' := by
 have HR0 := Aside0.mk hr0
 have HC0 := Aside0.mk hc0
 clear hr0 hc0
 have HB := Aside0.mk (Below.refl w.heap.size w)
 have H : (quittanceref12_times.l0 k l0 a1 ([] : List Int) 0 0) = some r := h
 clear h
 have H' := Aside0.mk H
 clear H
 go_enter Tryz.func27, Tryz.ntmps27
 go_wp2
 go_loopg [5, 6, 7] k (fun kq v5 v6 v7 w' => ∃ (x5_1 : List Int) (x6_1 : Int) (x7_1 : Int), v6 = .int .i64 x6_1 ∧ v7 = .int .i64 x7_1 ∧ Aside0 (quittanceref12_times.l0 kq l0 a1 x5_1 x6_1 x7_1 = some r) ∧ Aside0 (kq ≤ k) ∧ Aside0 (Kd.R (Kd.int .i64) 2 w' w.heap.size (fun _ => True) v5 x5_1) ∧ Aside0 (Below w.heap.size w w'))
 case atStart => exact ⟨(([] : List Int)), (0), (0), (by first | rfl | (simp; done) | (simp [*]; done)), (by first | rfl | (simp; done) | (simp [*]; done)), H', ⟨Nat.le_refl _⟩, ⟨by first | exact Kd.R_nil _ _ _ _ _ | exact Kd.N_nil _ _ _ _ _ | exact Kd.V_nil _ _ _ _ _ | exact Kd.Q_nil _ _ _ _ _ | exact Kd.S_nil _ _ _ _ _⟩, ⟨by repeat (first | (with_reducible first | exact HB.out | apply below_alloc | apply pw_below_drewN | apply below_drew1) | exact HB.out)⟩⟩
 case round =>
  clear H'
  obtain ⟨x5_1, x6_1, x7_1, rfl, rfl, HA, HK1, HO_5, HB⟩ := hrel
  cases gk with
  | zero => exact absurd HA.out (by simp [quittanceref12_times.l0])
  | succ k1 =>
   have H := HA.out
   clear HA
   simp only [quittanceref12_times.l0] at H
   by_cases c3 : x7_1 < (l0.length : Int)
   ·rw [if_pos c3] at H
    have c3b0 : decide (x7_1 < (l0.length : Int)) = true := decide_eq_true c3
    clear c3
    by_cases c4 : 0 ≤ x7_1
    ·rw [if_pos c4] at H
     have c4b0 : decide (0 ≤ x7_1) = true := decide_eq_true c4
     clear c4
     by_cases c5 : x5_1.length < 17592186044416
     ·rw [if_pos c5] at H
      have LMc5 := Aside0.mk c5
      clear c5
      obtain ⟨y102, hy102⟩ : ∃ y_ : List Int, y_ = (x5_1 ++ [Int.tmod (wrap64 ((wrap64 ((rd l0 x7_1) * a1)) + x6_1)) 1000000000]) := ⟨_, rfl⟩
      replace H : (quittanceref12_times.l0 k1 l0 a1 y102 (wrap64 (Int.tdiv (wrap64 ((wrap64 ((rd l0 x7_1) * a1)) + x6_1)) 1000000000)) (wrap64 (x7_1 + 1))) = some r := by first | (rw [hy102]; with_reducible exact H) | (have H2_ := (Option.bind_some _ _).symm.trans H; rw [hy102]; with_reducible exact H2_) | (have H2_ := (Option.bind_some _ _).symm.trans H; with_reducible exact H2_) | with_reducible exact H | (rw [hy102]; exact H) | exact H
      have Ny102 := Aside0.mk hy102
      clear hy102
      have H' := Aside0.mk H
      clear H
      have p101 : 0 ≤ (x7_1 : Int) := of_decide_eq_true (by first | (with_reducible assumption) | assumption)
      have q101 : x7_1 < (l0.length : Int) := of_decide_eq_true (by first | (with_reducible assumption) | assumption)
      obtain ⟨ad101, e101, hx101_0⟩ := Kd.at_int HR0.out x7_1 p101 q101
      cases e101
      replace hx101_0 := (HB.out.cell (World.block_lt_of_cell? w _ hx101_0)).trans hx101_0
      replace p101 := eq_true p101
      replace q101 := eq_true q101
      go_wp2_with (first | ((with_reducible refine gate_builtin (b := .append) (xs := #[.tmp 23, .tmp 26]) rfl ?_); at_builtin; refine Kd.R_append (Kd.int .i64) (w0 := w) w.heap.size rfl (.tmp 23) (.tmp 26) 40 2 (.int .i64 0) 8 rfl Tryz.underlying40 info2 rfl (by decide) (by omega) u5 x5_1 (Int.tmod (wrap64 ((wrap64 ((rd l0 x7_1) * a1)) + x6_1)) 1000000000) [.int .i64 (Int.tmod (wrap64 ((wrap64 ((rd l0 x7_1) * a1)) + x6_1)) 1000000000)] (fun _ => True) (fun _ => False) rfl rfl ?aP (fun _ hk => hk.elim) ?aF ?aO ?aB ?aS ?aL ?_; (case aP => exact rfl); (case aB => exact HB.out); (case aF => exact (fun _ _ => trivial)); (case aO => exact (by (with_reducible repeat (first | apply Kd.R_alloc | apply Kd.R_drewN | apply Kd.R_drew)); exact HO_5.out)); (case aS => exact (below_size HB.out)); (case aL => have := LMc5.out; omega); intro v103 w6 ho hb hg hat; rw [← Ny102.out] at ho; have n0_ := Aside0.mk (hb); have n1_ := Aside0.mk (ho); clear HB; clear HO_5; have HB := n0_; have HO104 := n1_; clear n0_ n1_; clear ho hb hg hat))
      go_roundg k1
      case measure => have := HK1.out; omega
      case rel => exact ⟨(y102), (wrap64 (Int.tdiv (wrap64 ((wrap64 ((rd l0 x7_1) * a1)) + x6_1)) 1000000000)), (wrap64 (x7_1 + 1)), (by first | rfl | (simp; done) | (simp [*]; done)), (by first | rfl | (simp; done) | (simp [*]; done)), H', ⟨by have := HK1.out; omega⟩, ⟨by (with_reducible repeat (first | apply Kd.R_alloc | apply Kd.R_drewN | apply Kd.R_drew)); exact HO104.out⟩, ⟨by repeat (first | (with_reducible first | exact HB.out | apply below_alloc | apply pw_below_drewN | apply below_drew1) | exact HB.out)⟩⟩
     ·rw [if_neg c5] at H
      exact absurd H (by simp)
    ·rw [if_neg c4] at H
     exact absurd H (by simp)
   ·rw [if_neg c3] at H
    have c3b0 : decide (x7_1 < (l0.length : Int)) = false := decide_eq_false c3
    clear c3
    have H' := Aside0.mk H
    clear H
    go_wp2
    go_loopg [5, 6] k1 (fun kq v5 v6 w' => ∃ (x5_2 : List Int) (x6_2 : Int), v6 = .int .i64 x6_2 ∧ Aside0 (quittanceref12_times.l1 kq x5_2 x6_2 = some r) ∧ Aside0 (kq ≤ k1) ∧ Aside0 (Kd.R (Kd.int .i64) 2 w' w.heap.size (fun _ => True) v5 x5_2) ∧ Aside0 (Below w.heap.size w w'))
    case atStart => exact ⟨(x5_1), (x6_1), (by first | rfl | (simp; done) | (simp [*]; done)), H', ⟨Nat.le_refl _⟩, ⟨by (with_reducible repeat (first | apply Kd.R_alloc | apply Kd.R_drewN | apply Kd.R_drew)); exact HO_5.out⟩, ⟨by repeat (first | (with_reducible first | exact HB.out | apply below_alloc | apply pw_below_drewN | apply below_drew1) | exact HB.out)⟩⟩
    case round =>
     clear H'
     try clear c3b0
     obtain ⟨x5_2, x6_2, rfl, HA, HK2, HO_5, HB⟩ := hrel
     cases gk with
     | zero => exact absurd HA.out (by simp [quittanceref12_times.l1])
     | succ k2 =>
      have H := HA.out
      clear HA
      simp only [quittanceref12_times.l1] at H
      by_cases c7 : x6_2 > 0
      ·rw [if_pos c7] at H
       have c7b0 : decide (0 < x6_2) = true := decide_eq_true c7
       clear c7
       by_cases c8 : x5_2.length < 17592186044416
       ·rw [if_pos c8] at H
        have LMc8 := Aside0.mk c8
        clear c8
        obtain ⟨y105, hy105⟩ : ∃ y_ : List Int, y_ = (x5_2 ++ [Int.tmod x6_2 1000000000]) := ⟨_, rfl⟩
        replace H : (quittanceref12_times.l1 k2 y105 (wrap64 (Int.tdiv x6_2 1000000000))) = some r := by first | (rw [hy105]; with_reducible exact H) | (have H2_ := (Option.bind_some _ _).symm.trans H; rw [hy105]; with_reducible exact H2_) | (have H2_ := (Option.bind_some _ _).symm.trans H; with_reducible exact H2_) | with_reducible exact H | (rw [hy105]; exact H) | exact H
        have Ny105 := Aside0.mk hy105
        clear hy105
        have H' := Aside0.mk H
        clear H
        go_wp2_with (first | ((with_reducible refine gate_builtin (b := .append) (xs := #[.tmp 32, .tmp 35]) rfl ?_); at_builtin; refine Kd.R_append (Kd.int .i64) (w0 := w) w.heap.size rfl (.tmp 32) (.tmp 35) 40 2 (.int .i64 0) 8 rfl Tryz.underlying40 info2 rfl (by decide) (by omega) u5 x5_2 (Int.tmod x6_2 1000000000) [.int .i64 (Int.tmod x6_2 1000000000)] (fun _ => True) (fun _ => False) rfl rfl ?aP (fun _ hk => hk.elim) ?aF ?aO ?aB ?aS ?aL ?_; (case aP => exact rfl); (case aB => exact HB.out); (case aF => exact (fun _ _ => trivial)); (case aO => exact (by (with_reducible repeat (first | apply Kd.R_alloc | apply Kd.R_drewN | apply Kd.R_drew)); exact HO_5.out)); (case aS => exact (below_size HB.out)); (case aL => have := LMc8.out; omega); intro v106 w9 ho hb hg hat; rw [← Ny105.out] at ho; have n0_ := Aside0.mk (hb); have n1_ := Aside0.mk (ho); clear HB; clear HO_5; have HB := n0_; have HO107 := n1_; clear n0_ n1_; clear ho hb hg hat))
        go_roundg k2
        case measure => have := HK1.out; have := HK2.out; omega
        case rel => exact ⟨(y105), (wrap64 (Int.tdiv x6_2 1000000000)), (by first | rfl | (simp; done) | (simp [*]; done)), H', ⟨by have := HK1.out; have := HK2.out; omega⟩, ⟨by (with_reducible repeat (first | apply Kd.R_alloc | apply Kd.R_drewN | apply Kd.R_drew)); exact HO107.out⟩, ⟨by repeat (first | (with_reducible first | exact HB.out | apply below_alloc | apply pw_below_drewN | apply below_drew1) | exact HB.out)⟩⟩
       ·rw [if_neg c8] at H
        exact absurd H (by simp)
      ·rw [if_neg c7] at H
       have c7b0 : decide (0 < x6_2) = false := decide_eq_false c7
       clear c7
       obtain rfl := Option.some.inj H
       go_wp2
       go_ret
       exact ⟨_, by first | rfl | (simp [errW_none, errW_some] <;> rfl) | (simp [*, errW_none, errW_some] <;> rfl), by (with_reducible repeat (first | apply Kd.R_alloc | apply Kd.R_drewN | apply Kd.R_drew)); exact HO_5.out, by repeat (first | (with_reducible first | exact HB.out | apply below_alloc | apply pw_below_drewN | apply below_drew1) | exact HB.out)⟩
end Go.Proofs.YtfmkdledofbhdaaGreat.PRB
/- Plain arithmetic: numbers as1 digits of a thousand million each. -/
namespace Go.Proofs.YtfmkdledofbhdaaGreat.Dg
def val : List Int → Int
 | [] => 0
 | d :: ds => d + 1000000000 * val ds
def Dig (l : List Int) : Prop := ∀ d ∈ l, 0 ≤ d ∧ d < 1000000000
theorem Dig.nil : Dig [] := fun d h => by simp at h
theorem Dig.cons {d : Int} {l : List Int} (h1 : 0 ≤ d) (h2 : d < 1000000000) (h : Dig l) : Dig (d :: l) := fun x hx => by
 rcases List.mem_cons.1 hx with rfl | hx
 ·exact ⟨h1, h2⟩
 ·exact h x hx
theorem Dig.tail {d : Int} {l : List Int} (h : Dig (d :: l)) : Dig l := fun x hx => h x (List.mem_cons_of_mem _ hx)
theorem Dig.head {d : Int} {l : List Int} (h : Dig (d :: l)) : 0 ≤ d ∧ d < 1000000000 := h d List.mem_cons_self
def tms (n : Int) : Int → List Int → List Int
 | c, [] => if 0 < c then [c] else []
 | c, d :: ds => (d * n + c) % 1000000000 :: tms n ((d * n + c) / 1000000000) ds
theorem step_bd {d n c : Int} (d0 : 0 ≤ d) (d1 : d < 1000000000) (n0 : 0 ≤ n) (n1 : n ≤ 1000000000) (c0 : 0 ≤ c) (c1 : c < 1000000000) : 0 ≤ d * n ∧ d * n ≤ 999999999000000000 ∧ 0 ≤ d * n + c ∧ d * n + c < 1000000000000000000 ∧ (d * n + c) / 1000000000 < 1000000000 := by
 obtain ⟨h1, h2⟩ := Gm.mul_le d0 n0 (show d ≤ 999999999 by omega) n1
 omega
theorem tms_spec {n : Int} (n0 : 0 ≤ n) (n1 : n ≤ 1000000000) (l : List Int) : ∀ c, 0 ≤ c → c < 1000000000 → Dig l → Dig (tms n c l) ∧ val (tms n c l) = val l * n + c ∧ (tms n c l).length ≤ l.length + 1 := by
 induction l with
 | nil =>
  intro c c0 c1 _
  simp only [tms]
  by_cases h : 0 < c
  ·rw [if_pos h]; exact ⟨Dig.cons c0 c1 Dig.nil, by simp [val], by simp⟩
  ·rw [if_neg h]; exact ⟨Dig.nil, by simp [val]; omega, by simp⟩
 | cons d ds ih =>
  intro c c0 c1 hd
  obtain ⟨h1, h2, h3, h4, h5⟩ := step_bd hd.head.1 hd.head.2 n0 n1 c0 c1
  obtain ⟨i1, i2, i3⟩ := ih ((d * n + c) / 1000000000) (by omega) h5 hd.tail
  simp only [tms]
  refine ⟨Dig.cons (by omega) (by omega) i1, ?_, by simp; omega⟩
  simp only [val]
  rw [i2, Int.add_mul, Int.mul_add, Int.mul_assoc]
  generalize val ds * n = z
  generalize d * n = y at *
  omega
def pls : Int → List Int → List Int
 | v, [] => if 0 < v then (if 0 < v / 1000000000 then [v % 1000000000, v / 1000000000] else [v % 1000000000]) else []
 | v, d :: ds => if 0 < v then (v + d) % 1000000000 :: pls ((v + d) / 1000000000) ds else d :: ds
theorem pls_zero (l : List Int) : pls 0 l = l := by cases l <;> simp [pls]
theorem pls_spec (l : List Int) : ∀ v, 0 ≤ v → v ≤ 1000000000000000 → Dig l → Dig (pls v l) ∧ val (pls v l) = val l + v ∧ (pls v l).length ≤ l.length + 2 := by
 induction l with
 | nil =>
  intro v v0 v1 _
  simp only [pls]
  by_cases h : 0 < v
  ·rw [if_pos h]
   by_cases h2 : 0 < v / 1000000000
   ·rw [if_pos h2]; exact ⟨Dig.cons (by omega) (by omega) (Dig.cons (by omega) (by omega) Dig.nil), by simp [val]; omega, by simp⟩
   ·rw [if_neg h2]; exact ⟨Dig.cons (by omega) (by omega) Dig.nil, by simp [val]; omega, by simp⟩
  ·rw [if_neg h]; exact ⟨Dig.nil, by simp [val]; omega, by simp⟩
 | cons d ds ih =>
  intro v v0 v1 hd
  simp only [pls]
  have := hd.head
  by_cases h : 0 < v
  ·rw [if_pos h]
   obtain ⟨i1, i2, i3⟩ := ih ((v + d) / 1000000000) (by omega) (by omega) hd.tail
   refine ⟨Dig.cons (by omega) (by omega) i1, ?_, by simp; omega⟩
   simp only [val]
   rw [i2]
   omega
  ·rw [if_neg h]; exact ⟨hd, by omega, by simp⟩
theorem div_step {P q r d y : Int} (hP : 0 < P) (hy : y = q * P + r) (r0 : 0 ≤ r) (r1 : r < P) (d0 : 0 ≤ d) (d1 : d < 1000000000) :
  d + 1000000000 * y = (q * 1000000000 + (r * 1000000000 + d) / P) * P + (r * 1000000000 + d) % P ∧ 0 ≤ (r * 1000000000 + d) / P ∧ (r * 1000000000 + d) / P < 1000000000 ∧ 0 ≤ (r * 1000000000 + d) % P ∧ (r * 1000000000 + d) % P < P := by
 have e := Int.emod_add_mul_ediv (r * 1000000000 + d) P
 rw [Int.mul_comm P] at e
 have h1 := Int.emod_nonneg (r * 1000000000 + d) (show P ≠ 0 by omega)
 have h2 := Int.emod_lt_of_pos (r * 1000000000 + d) hP
 have h3 : 0 ≤ (r * 1000000000 + d) / P := Int.ediv_nonneg (by omega) (by omega)
 have h4 : (r * 1000000000 + d) / P < 1000000000 := Int.ediv_lt_of_lt_mul hP (by omega)
 refine ⟨?_, h3, h4, h1, h2⟩
 rw [hy, Int.add_mul, Int.mul_add]
 have e2 : q * 1000000000 * P = 1000000000 * (q * P) := by rw [Int.mul_comm q, Int.mul_assoc]
 rw [e2]
 generalize q * P = z
 generalize (r * 1000000000 + d) / P * P = y at *
 omega
theorem val_drop {l : List Int} (h : Dig l) (i : Nat) (hi : i < l.length) : val (l.drop i) = l.getD i 0 + 1000000000 * val (l.drop (i + 1)) ∧ 0 ≤ l.getD i 0 ∧ l.getD i 0 < 1000000000 := by
 rw [List.drop_eq_getElem_cons hi]
 simp only [val]
 have := h _ (List.getElem_mem hi)
 simp [hi]
 exact this
theorem val_ge {l : List Int} (h : Dig l) (i : Nat) : i ≤ l.length → 1000000000 ^ i * val (l.drop i) ≤ val l := by
 induction i with
 | zero => intro _; simp
 | succ i ih =>
  intro hi
  obtain ⟨h1, h2, h3⟩ := val_drop h i (by omega)
  have := ih (by omega)
  have hp : (0 : Int) ≤ 1000000000 ^ i := Int.pow_nonneg (by decide)
  rw [h1, Int.mul_add] at this
  have h4 := Int.mul_nonneg hp h2
  rw [Int.pow_succ, Int.mul_assoc]
  omega
theorem ends {P W h rest x q r : Int} (hP : 0 < P) (hW : W = 1000000000 * P) (e : x + rest + W = q * W + r) (r0 : 0 ≤ r) (r1 : r < W) (up : Bool) (hh : up = true ∧ W = 2 * h ∨ up = false ∧ h = 0) :
  (up = true ∧ W - r ≤ r → Gm.q W h rest x = q ∧ Gm.r W h rest x = r - W) ∧ (¬ (up = true ∧ W - r ≤ r) → Gm.q W h rest x = q - 1 ∧ Gm.r W h rest x = r) := by
 have hW0 : 0 < W := by omega
 have key : ∀ (s t : Int), x + (rest + h) = s * W + t → 0 ≤ t → t < W → Gm.q W h rest x = s ∧ Gm.r W h rest x = t - h := by
  intro s t e t0 t1
  unfold Gm.q Gm.r
  rw [e, Int.add_comm (s * W), Int.add_mul_ediv_right _ _ (by omega), Int.add_mul_emod_self_right, Int.ediv_eq_zero_of_lt t0 t1, Int.emod_eq_of_lt t0 t1]
  exact ⟨by omega, rfl⟩
 have eq1 : (q - 1) * W = q * W - W := by rw [Int.sub_mul, Int.one_mul]
 constructor
 ·rintro ⟨hu, hr⟩
  have hwh : W = 2 * h := by rcases hh with h' | h'; exact h'.2; rw [hu] at h'; cases h'.1
  obtain ⟨g1, g2⟩ := key q (r + h - W) (by omega) (by omega) (by omega)
  exact ⟨g1, by omega⟩
 ·intro hn
  rcases hh with ⟨hu, hwh⟩ | ⟨hu, h0⟩
  ·have : r < W - r := by
    rcases Int.lt_or_le r (W - r) with h' | h'
    ·exact h'
    ·exact absurd ⟨hu, h'⟩ hn
   obtain ⟨g1, g2⟩ := key (q - 1) (r + h) (by omega) (by omega) (by omega)
   exact ⟨g1, by omega⟩
  ·obtain ⟨g1, g2⟩ := key (q - 1) (r + h) (by omega) (by omega) (by omega)
   exact ⟨g1, by omega⟩
end Go.Proofs.YtfmkdledofbhdaaGreat.Dg
/- The library's bits, as1 the printed callers ask them. -/
namespace Go.Proofs.YtfmkdledofbhdaaGreat.H
open Go.RowKit Go.Proofs.YtfmkdledofbhdaaGreatW.PrintWords Go.Proofs.YtfmkdledofbhdaaGreatW.PrintLast
set_option linter.unusedVariables false
set_option linter.unusedSimpArgs false
def bits_LeadingZeros64.f (x : Int) : Option Int := if 0 ≤ x ∧ x ≤ 18446744073709551615 then some (64 - (Lib.bitLen x.toNat : Int)) else none
theorem bits_LeadingZeros64.calls (a0 r : Int) (w : World) (h : bits_LeadingZeros64.f a0 = some r) : Calls Tryz.prog 101 #[.int .u64 a0] w fun e w' => e = .returned (.int .i64 r) ∧ Drawn0 w w' := by
 unfold bits_LeadingZeros64.f at h
 split at h
 ·rename_i hb
  obtain rfl := Option.some.inj h
  exact (Tryz.bits_LeadingZeros64 a0 w hb.1 hb.2).mono fun e w' ⟨h1, h2⟩ => ⟨h1, h2 ▸ Drawn0.refl _⟩
 ·cases h
def bits_Mul64.f (x y : Int) : Option (Int × Int) := if 0 ≤ x ∧ x ≤ 18446744073709551615 ∧ 0 ≤ y ∧ y ≤ 18446744073709551615 then some (x * y / 18446744073709551616, x * y % 18446744073709551616) else none
theorem bits_Mul64.calls (a0 a1 r1 r2 : Int) (w : World) (h : bits_Mul64.f a0 a1 = some (r1, r2)) : Calls Tryz.prog 89 #[.int .u64 a0, .int .u64 a1] w fun e w' => e = .returned (.tuple #[.int .u64 r1, .int .u64 r2]) ∧ Drawn0 w w' := by
 unfold bits_Mul64.f at h
 split at h
 ·rename_i hb
  obtain ⟨h1, h2, h3, h4⟩ := hb
  obtain ⟨x, rfl⟩ := Int.eq_ofNat_of_zero_le h1
  obtain ⟨y, rfl⟩ := Int.eq_ofNat_of_zero_le h3
  obtain ⟨rfl, rfl⟩ := Prod.mk.inj (Option.some.inj h)
  refine (Tryz.bits_Mul64 x y (by omega) (by omega) w).mono fun e w' ⟨h1, h2⟩ => ⟨?_, h2 ▸ Drawn0.refl _⟩
  rw [h1]
  simp
 ·cases h
end Go.Proofs.YtfmkdledofbhdaaGreat.H
/- Division of 128 bits by 64, digit by digit, in plain numbers. -/
namespace Go.Proofs.YtfmkdledofbhdaaGreat.Math64
def dig (y1 y0 u d : Int) : Int := (u * 4294967296 + d) / (y1 * 4294967296 + y0)
structure Inv (y1 y0 u d q r : Int) : Prop where
 q0 : 0 ≤ q
 q1 : q ≤ 4294967297
 r0 : 0 ≤ r
 hu : u = q * y1 + r
 hq : dig y1 y0 u d ≤ q
structure Base (y1 y0 u d : Int) : Prop where
 y1lo : 2147483648 ≤ y1
 y1hi : y1 < 4294967296
 y0lo : 0 ≤ y0
 y0hi : y0 < 4294967296
 ulo : 0 ≤ u
 uhi : u < y1 * 4294967296 + y0
 dlo : 0 ≤ d
 dhi : d < 4294967296
section
variable {y1 y0 u d q r : Int} (b : Base y1 y0 u d)
include b
theorem Base.pos : 0 < y1 * 4294967296 + y0 := by have := b.y1lo; have := b.y0lo; omega
theorem dig_lo : 0 ≤ dig y1 y0 u d := Int.ediv_nonneg (by have := b.ulo; have := b.dlo; omega) (by have := b.pos; omega)
theorem dig_hi : dig y1 y0 u d < 4294967296 := by
 refine Int.ediv_lt_of_lt_mul b.pos ?_
 have := b.uhi; have := b.dhi
 omega
theorem le_dig (q : Int) : q ≤ dig y1 y0 u d ↔ q * (y1 * 4294967296 + y0) ≤ u * 4294967296 + d := Int.le_ediv_iff_mul_le b.pos
set_option linter.unusedSectionVars false in
theorem cross (q : Int) : q * (y1 * 4294967296 + y0) = (q * y1) * 4294967296 + q * y0 := by rw [Int.mul_add, ← Int.mul_assoc]
theorem mul_bd {q : Int} (h0 : 0 ≤ q) (h1 : q ≤ 4294967297) : 0 ≤ q * y0 ∧ q * y0 ≤ 18446744073709551615 := by
 have a := b.y0lo
 have c := b.y0hi
 refine ⟨Int.mul_nonneg h0 a, ?_⟩
 have := Int.mul_le_mul h1 (show y0 ≤ 4294967295 by omega) a (by omega)
 omega
theorem Inv.big (h : Inv y1 y0 u d q r) (hb : 4294967296 ≤ q) : dig y1 y0 u d < q := by have := dig_hi b; omega
theorem Inv.more (h : Inv y1 y0 u d q r) (hb : 4294967296 * r + d < q * y0) : dig y1 y0 u d < q := by
 have h1 := le_dig b q
 have h2 := cross b q
 have h3 := h.hu
 have : ¬ q ≤ dig y1 y0 u d := by rw [h1, h2]; omega
 omega
theorem Inv.done (h : Inv y1 y0 u d q r) (hb : ¬ 4294967296 * r + d < q * y0) : q = dig y1 y0 u d := by
 have h1 := le_dig b q
 have h2 := cross b q
 have h3 := h.hu
 have h4 := h.hq
 have : q ≤ dig y1 y0 u d := by rw [h1, h2]; omega
 omega
theorem Inv.next (h : Inv y1 y0 u d q r) (hl : dig y1 y0 u d < q) : Inv y1 y0 u d (q - 1) (r + y1) := by
 have h0 := dig_lo b
 have h1 := h.q1
 have h2 := h.r0
 have h3 := h.hu
 have h4 := b.y1lo
 refine ⟨by omega, by omega, by omega, ?_, by omega⟩
 rw [Int.sub_mul]; omega
theorem Inv.last (h : Inv y1 y0 u d q r) (hl : dig y1 y0 u d < q) (hr : 4294967296 ≤ r + y1) : q - 1 = dig y1 y0 u d := by
 have n := h.next b hl
 refine n.done b ?_
 have h1 := h.q1
 have h0 := dig_lo b
 have a := b.y0lo
 have c := b.y0hi
 have e := b.dlo
 have := Int.mul_le_mul (show q - 1 ≤ 4294967296 by omega) (show y0 ≤ 4294967295 by omega) a (by omega)
 omega
theorem Inv.first : Inv y1 y0 u d (u / y1) (u - u / y1 * y1) := by
 have h1 := b.y1lo
 have h2 := b.y1hi
 have h3 := b.ulo
 have h4 := b.uhi
 have h5 := b.y0hi
 have h6 := b.dhi
 have h7 := b.y0lo
 have e := Int.emod_add_mul_ediv u y1
 have m0 := Int.emod_nonneg u (show y1 ≠ 0 by omega)
 have c := Int.mul_comm y1 (u / y1)
 refine ⟨Int.ediv_nonneg h3 (by omega), ?_, by omega, by omega, ?_⟩
 ·have : u / y1 < 4294967298 := Int.ediv_lt_of_lt_mul (by omega) (by omega)
  omega
 ·have q := (le_dig b (dig y1 y0 u d)).1 (Int.le_refl _)
  rw [cross b] at q
  have z := (mul_bd b (dig_lo b) (by have := dig_hi b; omega)).1
  exact (Int.le_ediv_iff_mul_le (by omega)).2 (by omega)
theorem first_lt : u - u / y1 * y1 < 4294967296 := by
 have h1 := b.y1lo
 have h2 := b.y1hi
 have e := Int.emod_add_mul_ediv u y1
 have m0 := Int.emod_lt_of_pos u (show 0 < y1 by omega)
 have c := Int.mul_comm y1 (u / y1)
 omega
theorem left_bd : 0 ≤ u * 4294967296 + d - dig y1 y0 u d * (y1 * 4294967296 + y0) ∧ u * 4294967296 + d - dig y1 y0 u d * (y1 * 4294967296 + y0) < y1 * 4294967296 + y0 := by
 have e := Int.emod_add_mul_ediv (u * 4294967296 + d) (y1 * 4294967296 + y0)
 have m0 := Int.emod_nonneg (u * 4294967296 + d) (show y1 * 4294967296 + y0 ≠ 0 by have := b.pos; omega)
 have m1 := Int.emod_lt_of_pos (u * 4294967296 + d) b.pos
 have c := Int.mul_comm (y1 * 4294967296 + y0) (dig y1 y0 u d)
 unfold dig at *
 omega
end
theorem two_digits {y u d e q1 q0 r : Int} (hy : 0 < y) (h1 : u * 4294967296 + d - q1 * y = r) (h2 : 0 ≤ r * 4294967296 + e - q0 * y) (h3 : r * 4294967296 + e - q0 * y < y) :
  (u * 18446744073709551616 + d * 4294967296 + e) / y = q1 * 4294967296 + q0 ∧ (u * 18446744073709551616 + d * 4294967296 + e) % y = r * 4294967296 + e - q0 * y := by
 have a : (q1 * 4294967296 + q0) * y = (q1 * y) * 4294967296 + q0 * y := by rw [Int.add_mul, Int.mul_assoc, Int.mul_comm 4294967296 y, ← Int.mul_assoc]
 have hd : (u * 18446744073709551616 + d * 4294967296 + e) / y = q1 * 4294967296 + q0 := by
  have l1 := (Int.le_ediv_iff_mul_le hy).2 (show (q1 * 4294967296 + q0) * y ≤ u * 18446744073709551616 + d * 4294967296 + e by rw [a]; omega)
  have l2 := Int.ediv_lt_of_lt_mul hy (show u * 18446744073709551616 + d * 4294967296 + e < (q1 * 4294967296 + q0 + 1) * y by rw [Int.add_mul, a]; omega)
  omega
 refine ⟨hd, ?_⟩
 have e1 := Int.emod_add_mul_ediv (u * 18446744073709551616 + d * 4294967296 + e) y
 rw [hd, Int.mul_comm y, a] at e1
 omega
theorem bitLen_aux : ∀ (f x : Nat), x < 2 ^ f → x ≠ 0 → 1 ≤ Lib.bitLenAux f x ∧ Lib.bitLenAux f x ≤ f ∧ 2 ^ (Lib.bitLenAux f x - 1) ≤ x ∧ x < 2 ^ (Lib.bitLenAux f x) := by
 intro f
 induction f with
 | zero => intro x h h0; simp at h; omega
 | succ f ih =>
  intro x h h0
  simp only [Lib.bitLenAux, if_neg h0]
  by_cases hx : x / 2 = 0
  ·have e : Lib.bitLenAux f (x / 2) = 0 := by rw [hx]; cases f <;> simp [Lib.bitLenAux]
   rw [e]
   refine ⟨by omega, by omega, ?_, ?_⟩ <;> simp <;> omega
  ·have hp : 2 ^ (f + 1) = 2 * 2 ^ f := by rw [Nat.pow_succ]; omega
   obtain ⟨a, b, c, d⟩ := ih (x / 2) (by omega) hx
   generalize Lib.bitLenAux f (x / 2) = L at *
   obtain ⟨L, rfl⟩ : ∃ m, L = m + 1 := ⟨L - 1, by omega⟩
   have e1 : 2 ^ (1 + (L + 1) - 1) = 2 * 2 ^ L := by rw [show 1 + (L + 1) - 1 = L + 1 by omega, Nat.pow_succ]; omega
   have e2 : 2 ^ (1 + (L + 1)) = 2 * 2 ^ (L + 1) := by rw [show 1 + (L + 1) = (L + 1) + 1 by omega, Nat.pow_succ]; omega
   rw [show L + 1 - 1 = L by omega] at c
   rw [e1, e2]
   exact ⟨by omega, by omega, by omega, by omega⟩
theorem bitLen_spec {x : Nat} (h : x < 18446744073709551616) (h0 : x ≠ 0) : 1 ≤ Lib.bitLen x ∧ Lib.bitLen x ≤ 64 ∧ 2 ^ (Lib.bitLen x - 1) ≤ x ∧ x < 2 ^ (Lib.bitLen x) := bitLen_aux 64 x h h0
end Go.Proofs.YtfmkdledofbhdaaGreat.Math64
namespace Go.Proofs.YtfmkdledofbhdaaGreat.PM
open Go.RowKit Go.Proofs.YtfmkdledofbhdaaGreatW.PrintWords Go.Proofs.YtfmkdledofbhdaaGreatW.PrintLast Go.Proofs.YtfmkdledofbhdaaGreatW.PrintMore Go.Proofs.YtfmkdledofbhdaaGreat.HW
attribute [local go_sem] run_makeFunc_ max2_int min2_int max_two min_two max_three min_three max_four min_four   -- for this text's walks alone
set_option linter.unusedVariables false
set_option linter.unusedSimpArgs false
def errW : Option Int → Value
 | none => .nilIface
 | some c => .iface 0 (.int .i64 c)
theorem errW_none : errW none = .nilIface := rfl
theorem errW_some (c : Int) : errW (some c) = .iface 0 (.int .i64 c) := rfl
end Go.Proofs.YtfmkdledofbhdaaGreat.PM
namespace Go.Proofs.YtfmkdledofbhdaaGreat.PM
open Go.RowKit Go.Proofs.YtfmkdledofbhdaaGreatW.PrintWords Go.Proofs.YtfmkdledofbhdaaGreatW.PrintLast Go.Proofs.YtfmkdledofbhdaaGreatW.PrintMore Go.Proofs.YtfmkdledofbhdaaGreat.HW Go.Proofs.YtfmkdledofbhdaaGreat.H
attribute [local go_sem] run_makeFunc_ max2_int min2_int max_two min_two max_three min_three max_four min_four   -- for this text's walks alone
set_option linter.unusedVariables false
set_option linter.unusedSimpArgs false
/-! ### bits_Div64: function 91 -/
mutual
def bits_Div64.j2 : Nat → Int → Int → Int → Int → Int → Int → Int → Int → Option (Int × Int)
 | 0, _, _, _, _, _, _, _, _ => none
 | k + 1, x2, x8, x9, x10, x11, x13, x14, x15 => if x9 = 0 then (none) else (bits_Div64.l1 k x2 x8 x9 x10 x14 x15 (IntKind.u64.wrap ((IntKind.u64.wrap ((IntKind.u64.wrap ((IntKind.u64.wrap (x11 * 4294967296)) + x13)) - (IntKind.u64.wrap (x15 * x2)))) - (IntKind.u64.wrap ((IntKind.u64.wrap (Int.tdiv (IntKind.u64.wrap ((IntKind.u64.wrap ((IntKind.u64.wrap (x11 * 4294967296)) + x13)) - (IntKind.u64.wrap (x15 * x2)))) x9)) * x9)))) (IntKind.u64.wrap ((IntKind.u64.wrap ((IntKind.u64.wrap (x11 * 4294967296)) + x13)) - (IntKind.u64.wrap (x15 * x2)))) (IntKind.u64.wrap (Int.tdiv (IntKind.u64.wrap ((IntKind.u64.wrap ((IntKind.u64.wrap (x11 * 4294967296)) + x13)) - (IntKind.u64.wrap (x15 * x2)))) x9)))
def bits_Div64.l1 : Nat → Int → Int → Int → Int → Int → Int → Int → Int → Int → Option (Int × Int)
 | 0, _, _, _, _, _, _, _, _, _ => none
 | k + 1, x2, x8, x9, x10, x14, x15, x16, x17, x18 => if x18 ≥ 4294967296 then (bits_Div64.j4 k x2 x8 x9 x10 x14 x15 x16 x17 x18 true) else (bits_Div64.j4 k x2 x8 x9 x10 x14 x15 x16 x17 x18 (decide ((IntKind.u64.wrap (x18 * x10)) > (IntKind.u64.wrap ((IntKind.u64.wrap (4294967296 * x16)) + x14)))))
def bits_Div64.j4 : Nat → Int → Int → Int → Int → Int → Int → Int → Int → Int → Bool → Option (Int × Int)
 | 0, _, _, _, _, _, _, _, _, _, _ => none
 | k + 1, x2, x8, x9, x10, x14, x15, x16, x17, x18, x113 => if x113 = true then (if (IntKind.u64.wrap (x16 + x9)) ≥ 4294967296 then (if 0 ≤ x8 then (some (IntKind.u64.wrap ((IntKind.u64.wrap (x15 * 4294967296)) + (IntKind.u64.wrap (x18 - 1))), shr .u64 (IntKind.u64.wrap ((IntKind.u64.wrap ((IntKind.u64.wrap (x17 * 4294967296)) + x14)) - (IntKind.u64.wrap ((IntKind.u64.wrap (x18 - 1)) * x2)))) x8)) else (none)) else (bits_Div64.l1 k x2 x8 x9 x10 x14 x15 (IntKind.u64.wrap (x16 + x9)) x17 (IntKind.u64.wrap (x18 - 1)))) else (if 0 ≤ x8 then (some (IntKind.u64.wrap ((IntKind.u64.wrap (x15 * 4294967296)) + x18), shr .u64 (IntKind.u64.wrap ((IntKind.u64.wrap ((IntKind.u64.wrap (x17 * 4294967296)) + x14)) - (IntKind.u64.wrap (x18 * x2)))) x8)) else (none))
def bits_Div64.l0 : Nat → Int → Int → Int → Int → Int → Int → Int → Int → Int → Option (Int × Int)
 | 0, _, _, _, _, _, _, _, _, _ => none
 | k + 1, x2, x8, x9, x10, x11, x13, x14, x15, x16 => if x15 ≥ 4294967296 then (bits_Div64.j1 k x2 x8 x9 x10 x11 x13 x14 x15 x16 true) else (bits_Div64.j1 k x2 x8 x9 x10 x11 x13 x14 x15 x16 (decide ((IntKind.u64.wrap (x15 * x10)) > (IntKind.u64.wrap ((IntKind.u64.wrap (4294967296 * x16)) + x13)))))
def bits_Div64.j1 : Nat → Int → Int → Int → Int → Int → Int → Int → Int → Int → Bool → Option (Int × Int)
 | 0, _, _, _, _, _, _, _, _, _, _ => none
 | k + 1, x2, x8, x9, x10, x11, x13, x14, x15, x16, x78 => if x78 = true then (if (IntKind.u64.wrap (x16 + x9)) ≥ 4294967296 then (bits_Div64.j2 k x2 x8 x9 x10 x11 x13 x14 (IntKind.u64.wrap (x15 - 1))) else (bits_Div64.l0 k x2 x8 x9 x10 x11 x13 x14 (IntKind.u64.wrap (x15 - 1)) (IntKind.u64.wrap (x16 + x9)))) else (bits_Div64.j2 k x2 x8 x9 x10 x11 x13 x14 x15)
end
def bits_Div64.f (k : Nat) (a0 : Int) (a1 : Int) (a2 : Int) : Option (Int × Int) := if a2 = 0 then (none) else (if a2 ≤ a0 then (none) else (if a0 = 0 then (some (IntKind.u64.wrap (Int.tdiv a1 a2), Int.tmod a1 a2)) else ((bits_LeadingZeros64.f a2).bind fun t101 => (if 0 ≤ (IntKind.u64.wrap (t101)) then (if 0 ≤ (IntKind.u64.wrap (64 - (IntKind.u64.wrap (t101)))) then (if ((shl .u64 a2 (IntKind.u64.wrap (t101))) / 4294967296) = 0 then (none) else (bits_Div64.l0 k (shl .u64 a2 (IntKind.u64.wrap (t101))) (IntKind.u64.wrap (t101)) ((shl .u64 a2 (IntKind.u64.wrap (t101))) / 4294967296) (Go.bits .and .u64 (shl .u64 a2 (IntKind.u64.wrap (t101))) 4294967295) (Go.bits .or .u64 (shl .u64 a0 (IntKind.u64.wrap (t101))) (shr .u64 a1 (IntKind.u64.wrap (64 - (IntKind.u64.wrap (t101)))))) ((shl .u64 a1 (IntKind.u64.wrap (t101))) / 4294967296) (Go.bits .and .u64 (shl .u64 a1 (IntKind.u64.wrap (t101))) 4294967295) (IntKind.u64.wrap (Int.tdiv (Go.bits .or .u64 (shl .u64 a0 (IntKind.u64.wrap (t101))) (shr .u64 a1 (IntKind.u64.wrap (64 - (IntKind.u64.wrap (t101)))))) ((shl .u64 a2 (IntKind.u64.wrap (t101))) / 4294967296))) (IntKind.u64.wrap ((Go.bits .or .u64 (shl .u64 a0 (IntKind.u64.wrap (t101))) (shr .u64 a1 (IntKind.u64.wrap (64 - (IntKind.u64.wrap (t101)))))) - (IntKind.u64.wrap ((IntKind.u64.wrap (Int.tdiv (Go.bits .or .u64 (shl .u64 a0 (IntKind.u64.wrap (t101))) (shr .u64 a1 (IntKind.u64.wrap (64 - (IntKind.u64.wrap (t101)))))) ((shl .u64 a2 (IntKind.u64.wrap (t101))) / 4294967296))) * ((shl .u64 a2 (IntKind.u64.wrap (t101))) / 4294967296))))))) else (none)) else (none)))))
theorem bits_Div64.mono_l : ∀ k, (∀ y0 y1 y2 y3 y4 y5 y6 y7, LeO (bits_Div64.j2 k y0 y1 y2 y3 y4 y5 y6 y7) (bits_Div64.j2 (k + 1) y0 y1 y2 y3 y4 y5 y6 y7)) ∧ (∀ y0 y1 y2 y3 y4 y5 y6 y7 y8, LeO (bits_Div64.l1 k y0 y1 y2 y3 y4 y5 y6 y7 y8) (bits_Div64.l1 (k + 1) y0 y1 y2 y3 y4 y5 y6 y7 y8)) ∧ (∀ y0 y1 y2 y3 y4 y5 y6 y7 y8 y9, LeO (bits_Div64.j4 k y0 y1 y2 y3 y4 y5 y6 y7 y8 y9) (bits_Div64.j4 (k + 1) y0 y1 y2 y3 y4 y5 y6 y7 y8 y9)) ∧ (∀ y0 y1 y2 y3 y4 y5 y6 y7 y8, LeO (bits_Div64.l0 k y0 y1 y2 y3 y4 y5 y6 y7 y8) (bits_Div64.l0 (k + 1) y0 y1 y2 y3 y4 y5 y6 y7 y8)) ∧ (∀ y0 y1 y2 y3 y4 y5 y6 y7 y8 y9, LeO (bits_Div64.j1 k y0 y1 y2 y3 y4 y5 y6 y7 y8 y9) (bits_Div64.j1 (k + 1) y0 y1 y2 y3 y4 y5 y6 y7 y8 y9))
 | 0 => ⟨fun _ _ _ _ _ _ _ _ r h => by simp [bits_Div64.j2] at h, fun _ _ _ _ _ _ _ _ _ r h => by simp [bits_Div64.l1] at h, fun _ _ _ _ _ _ _ _ _ _ r h => by simp [bits_Div64.j4] at h, fun _ _ _ _ _ _ _ _ _ r h => by simp [bits_Div64.l0] at h, fun _ _ _ _ _ _ _ _ _ _ r h => by simp [bits_Div64.j1] at h⟩
 | k + 1 => by
  obtain ⟨ih0, ih1, ih2, ih3, ih4⟩ := bits_Div64.mono_l k
  refine ⟨?_, ?_, ?_, ?_, ?_⟩
  ·intro y0 y1 y2 y3 y4 y5 y6 y7
   unfold bits_Div64.j2
   repeat' first
   | (with_reducible exact ih0 _ _ _ _ _ _ _ _)
   | (with_reducible exact ih1 _ _ _ _ _ _ _ _ _)
   | (with_reducible exact ih2 _ _ _ _ _ _ _ _ _ _)
   | (with_reducible exact ih3 _ _ _ _ _ _ _ _ _)
   | (with_reducible exact ih4 _ _ _ _ _ _ _ _ _ _)
   | (with_reducible exact LeO.refl _)
   | (with_reducible exact LeO.none _)
   | (with_reducible refine LeO.ite ?_ ?_)
   | (with_reducible refine LeO.bind ?_ (fun _ => ?_))
   | exact ih0 _ _ _ _ _ _ _ _
   | exact ih1 _ _ _ _ _ _ _ _ _
   | exact ih2 _ _ _ _ _ _ _ _ _ _
   | exact ih3 _ _ _ _ _ _ _ _ _
   | exact ih4 _ _ _ _ _ _ _ _ _ _
   | exact LeO.none _
   | refine LeO.ite ?_ ?_
   | refine LeO.bind ?_ (fun _ => ?_)
  ·intro y0 y1 y2 y3 y4 y5 y6 y7 y8
   unfold bits_Div64.l1
   repeat' first
   | (with_reducible exact ih0 _ _ _ _ _ _ _ _)
   | (with_reducible exact ih1 _ _ _ _ _ _ _ _ _)
   | (with_reducible exact ih2 _ _ _ _ _ _ _ _ _ _)
   | (with_reducible exact ih3 _ _ _ _ _ _ _ _ _)
   | (with_reducible exact ih4 _ _ _ _ _ _ _ _ _ _)
   | (with_reducible exact LeO.refl _)
   | (with_reducible exact LeO.none _)
   | (with_reducible refine LeO.ite ?_ ?_)
   | (with_reducible refine LeO.bind ?_ (fun _ => ?_))
   | exact ih0 _ _ _ _ _ _ _ _
   | exact ih1 _ _ _ _ _ _ _ _ _
   | exact ih2 _ _ _ _ _ _ _ _ _ _
   | exact ih3 _ _ _ _ _ _ _ _ _
   | exact ih4 _ _ _ _ _ _ _ _ _ _
   | exact LeO.none _
   | refine LeO.ite ?_ ?_
   | refine LeO.bind ?_ (fun _ => ?_)
  ·intro y0 y1 y2 y3 y4 y5 y6 y7 y8 y9
   unfold bits_Div64.j4
   repeat' first
   | (with_reducible exact ih0 _ _ _ _ _ _ _ _)
   | (with_reducible exact ih1 _ _ _ _ _ _ _ _ _)
   | (with_reducible exact ih2 _ _ _ _ _ _ _ _ _ _)
   | (with_reducible exact ih3 _ _ _ _ _ _ _ _ _)
   | (with_reducible exact ih4 _ _ _ _ _ _ _ _ _ _)
   | (with_reducible exact LeO.refl _)
   | (with_reducible exact LeO.none _)
   | (with_reducible refine LeO.ite ?_ ?_)
   | (with_reducible refine LeO.bind ?_ (fun _ => ?_))
   | exact ih0 _ _ _ _ _ _ _ _
   | exact ih1 _ _ _ _ _ _ _ _ _
   | exact ih2 _ _ _ _ _ _ _ _ _ _
   | exact ih3 _ _ _ _ _ _ _ _ _
   | exact ih4 _ _ _ _ _ _ _ _ _ _
   | exact LeO.none _
   | refine LeO.ite ?_ ?_
   | refine LeO.bind ?_ (fun _ => ?_)
  ·intro y0 y1 y2 y3 y4 y5 y6 y7 y8
   unfold bits_Div64.l0
   repeat' first
   | (with_reducible exact ih0 _ _ _ _ _ _ _ _)
   | (with_reducible exact ih1 _ _ _ _ _ _ _ _ _)
   | (with_reducible exact ih2 _ _ _ _ _ _ _ _ _ _)
   | (with_reducible exact ih3 _ _ _ _ _ _ _ _ _)
   | (with_reducible exact ih4 _ _ _ _ _ _ _ _ _ _)
   | (with_reducible exact LeO.refl _)
   | (with_reducible exact LeO.none _)
   | (with_reducible refine LeO.ite ?_ ?_)
   | (with_reducible refine LeO.bind ?_ (fun _ => ?_))
   | exact ih0 _ _ _ _ _ _ _ _
   | exact ih1 _ _ _ _ _ _ _ _ _
   | exact ih2 _ _ _ _ _ _ _ _ _ _
   | exact ih3 _ _ _ _ _ _ _ _ _
   | exact ih4 _ _ _ _ _ _ _ _ _ _
   | exact LeO.none _
   | refine LeO.ite ?_ ?_
   | refine LeO.bind ?_ (fun _ => ?_)
  ·intro y0 y1 y2 y3 y4 y5 y6 y7 y8 y9
   unfold bits_Div64.j1
   repeat' first
   | (with_reducible exact ih0 _ _ _ _ _ _ _ _)
   | (with_reducible exact ih1 _ _ _ _ _ _ _ _ _)
   | (with_reducible exact ih2 _ _ _ _ _ _ _ _ _ _)
   | (with_reducible exact ih3 _ _ _ _ _ _ _ _ _)
   | (with_reducible exact ih4 _ _ _ _ _ _ _ _ _ _)
   | (with_reducible exact LeO.refl _)
   | (with_reducible exact LeO.none _)
   | (with_reducible refine LeO.ite ?_ ?_)
   | (with_reducible refine LeO.bind ?_ (fun _ => ?_))
   | exact ih0 _ _ _ _ _ _ _ _
   | exact ih1 _ _ _ _ _ _ _ _ _
   | exact ih2 _ _ _ _ _ _ _ _ _ _
   | exact ih3 _ _ _ _ _ _ _ _ _
   | exact ih4 _ _ _ _ _ _ _ _ _ _
   | exact LeO.none _
   | refine LeO.ite ?_ ?_
   | refine LeO.bind ?_ (fun _ => ?_)
theorem bits_Div64.mono : ∀ a0 a1 a2 k, LeO (bits_Div64.f k a0 a1 a2) (bits_Div64.f (k + 1) a0 a1 a2) := by
 intro a0 a1 a2 k
 obtain ⟨ih0, ih1, ih2, ih3, ih4⟩ := bits_Div64.mono_l k
 unfold bits_Div64.f
 repeat' first
   | (with_reducible exact ih0 _ _ _ _ _ _ _ _)
   | (with_reducible exact ih1 _ _ _ _ _ _ _ _ _)
   | (with_reducible exact ih2 _ _ _ _ _ _ _ _ _ _)
   | (with_reducible exact ih3 _ _ _ _ _ _ _ _ _)
   | (with_reducible exact ih4 _ _ _ _ _ _ _ _ _ _)
   | (with_reducible exact LeO.refl _)
   | (with_reducible exact LeO.none _)
   | (with_reducible refine LeO.ite ?_ ?_)
   | (with_reducible refine LeO.bind ?_ (fun _ => ?_))
   | exact ih0 _ _ _ _ _ _ _ _
   | exact ih1 _ _ _ _ _ _ _ _ _
   | exact ih2 _ _ _ _ _ _ _ _ _ _
   | exact ih3 _ _ _ _ _ _ _ _ _
   | exact ih4 _ _ _ _ _ _ _ _ _ _
   | exact LeO.none _
   | refine LeO.ite ?_ ?_
   | refine LeO.bind ?_ (fun _ => ?_)
set_option maxHeartbeats 8000000 in
set_option maxRecDepth 100000 in
theorem bits_Div64.calls (k : Nat) (a0 : Int) (a1 : Int) (a2 : Int) (r1 : Int) (r2 : Int) (w : World) (h : bits_Div64.f k a0 a1 a2 = some (r1, r2)) :
  Calls Tryz.prog 91 #[.int .u64 a0, .int .u64 a1, .int .u64 a2] w fun e w' => e = .returned (.tuple #[.int .u64 r1, .int .u64 r2]) ∧ Drawn0 w w' := by
 have H : (if a2 = 0 then (none) else (if a2 ≤ a0 then (none) else (if a0 = 0 then (some (IntKind.u64.wrap (Int.tdiv a1 a2), Int.tmod a1 a2)) else ((bits_LeadingZeros64.f a2).bind fun t101 => (if 0 ≤ (IntKind.u64.wrap (t101)) then (if 0 ≤ (IntKind.u64.wrap (64 - (IntKind.u64.wrap (t101)))) then (if ((shl .u64 a2 (IntKind.u64.wrap (t101))) / 4294967296) = 0 then (none) else (bits_Div64.l0 k (shl .u64 a2 (IntKind.u64.wrap (t101))) (IntKind.u64.wrap (t101)) ((shl .u64 a2 (IntKind.u64.wrap (t101))) / 4294967296) (Go.bits .and .u64 (shl .u64 a2 (IntKind.u64.wrap (t101))) 4294967295) (Go.bits .or .u64 (shl .u64 a0 (IntKind.u64.wrap (t101))) (shr .u64 a1 (IntKind.u64.wrap (64 - (IntKind.u64.wrap (t101)))))) ((shl .u64 a1 (IntKind.u64.wrap (t101))) / 4294967296) (Go.bits .and .u64 (shl .u64 a1 (IntKind.u64.wrap (t101))) 4294967295) (IntKind.u64.wrap (Int.tdiv (Go.bits .or .u64 (shl .u64 a0 (IntKind.u64.wrap (t101))) (shr .u64 a1 (IntKind.u64.wrap (64 - (IntKind.u64.wrap (t101)))))) ((shl .u64 a2 (IntKind.u64.wrap (t101))) / 4294967296))) (IntKind.u64.wrap ((Go.bits .or .u64 (shl .u64 a0 (IntKind.u64.wrap (t101))) (shr .u64 a1 (IntKind.u64.wrap (64 - (IntKind.u64.wrap (t101)))))) - (IntKind.u64.wrap ((IntKind.u64.wrap (Int.tdiv (Go.bits .or .u64 (shl .u64 a0 (IntKind.u64.wrap (t101))) (shr .u64 a1 (IntKind.u64.wrap (64 - (IntKind.u64.wrap (t101)))))) ((shl .u64 a2 (IntKind.u64.wrap (t101))) / 4294967296))) * ((shl .u64 a2 (IntKind.u64.wrap (t101))) / 4294967296))))))) else (none)) else (none)))))) = some (r1, r2) := h
 clear h
 by_cases c4 : a2 = 0
 ·rw [if_pos c4] at H
  exact absurd H (by simp)
 ·rw [if_neg c4] at H
  have c4b0 : (a2 == 0) = false := beq_eq_false_iff_ne.mpr c4
  have c4b1 : (a2 != 0) = true := bne_iff_ne.mpr c4
  by_cases c5 : a2 ≤ a0
  ·rw [if_pos c5] at H
   exact absurd H (by simp)
  ·rw [if_neg c5] at H
   have c5b0 : decide (a2 ≤ a0) = false := decide_eq_false c5
   clear c5
   by_cases c6 : a0 = 0
   ·rw [if_pos c6] at H
    have c6b0 : (a0 == 0) = true := beq_iff_eq.mpr c6
    have c6b1 : (a0 != 0) = false := bne_eq_false_iff_eq.mpr c6
    clear c6
    simp only [Option.some.injEq, Prod.mk.injEq] at H
    obtain ⟨rfl, rfl⟩ := H
    go_enter Tryz.func91, Tryz.ntmps91
    go_wp2
    repeat (go_quiet (fail); try go_wp2)
    go_ret2
    exact ⟨by first | rfl | (simp; done) | (simp [*]; done), by repeat (first | exact Drawn0.refl _ | apply Drawn0.step)⟩
   ·rw [if_neg c6] at H
    have c6b0 : (a0 == 0) = false := beq_eq_false_iff_ne.mpr c6
    have c6b1 : (a0 != 0) = true := bne_iff_ne.mpr c6
    replace H := Option.bind_eq_some_iff.mp H
    obtain ⟨t101, A70, H⟩ := H
    replace H : (if 0 ≤ (IntKind.u64.wrap (t101)) then (if 0 ≤ (IntKind.u64.wrap (64 - (IntKind.u64.wrap (t101)))) then (if ((shl .u64 a2 (IntKind.u64.wrap (t101))) / 4294967296) = 0 then (none) else (bits_Div64.l0 k (shl .u64 a2 (IntKind.u64.wrap (t101))) (IntKind.u64.wrap (t101)) ((shl .u64 a2 (IntKind.u64.wrap (t101))) / 4294967296) (Go.bits .and .u64 (shl .u64 a2 (IntKind.u64.wrap (t101))) 4294967295) (Go.bits .or .u64 (shl .u64 a0 (IntKind.u64.wrap (t101))) (shr .u64 a1 (IntKind.u64.wrap (64 - (IntKind.u64.wrap (t101)))))) ((shl .u64 a1 (IntKind.u64.wrap (t101))) / 4294967296) (Go.bits .and .u64 (shl .u64 a1 (IntKind.u64.wrap (t101))) 4294967295) (IntKind.u64.wrap (Int.tdiv (Go.bits .or .u64 (shl .u64 a0 (IntKind.u64.wrap (t101))) (shr .u64 a1 (IntKind.u64.wrap (64 - (IntKind.u64.wrap (t101)))))) ((shl .u64 a2 (IntKind.u64.wrap (t101))) / 4294967296))) (IntKind.u64.wrap ((Go.bits .or .u64 (shl .u64 a0 (IntKind.u64.wrap (t101))) (shr .u64 a1 (IntKind.u64.wrap (64 - (IntKind.u64.wrap (t101)))))) - (IntKind.u64.wrap ((IntKind.u64.wrap (Int.tdiv (Go.bits .or .u64 (shl .u64 a0 (IntKind.u64.wrap (t101))) (shr .u64 a1 (IntKind.u64.wrap (64 - (IntKind.u64.wrap (t101)))))) ((shl .u64 a2 (IntKind.u64.wrap (t101))) / 4294967296))) * ((shl .u64 a2 (IntKind.u64.wrap (t101))) / 4294967296))))))) else (none)) else (none)) = some (r1, r2) := H
    have A7 := Aside0.mk A70
    clear A70
    obtain ⟨ji8, hji8⟩ : ∃ j_ : Int, (IntKind.u64.wrap (t101)) = j_ := ⟨_, rfl⟩
    replace H : (if 0 ≤ (ji8) then (if 0 ≤ (IntKind.u64.wrap (64 - (ji8))) then (if ((shl .u64 a2 (ji8)) / 4294967296) = 0 then (none) else (bits_Div64.l0 k (shl .u64 a2 (ji8)) ji8 ((shl .u64 a2 (ji8)) / 4294967296) (Go.bits .and .u64 (shl .u64 a2 (ji8)) 4294967295) (Go.bits .or .u64 (shl .u64 a0 (ji8)) (shr .u64 a1 (IntKind.u64.wrap (64 - (ji8))))) ((shl .u64 a1 (ji8)) / 4294967296) (Go.bits .and .u64 (shl .u64 a1 (ji8)) 4294967295) (IntKind.u64.wrap (Int.tdiv (Go.bits .or .u64 (shl .u64 a0 (ji8)) (shr .u64 a1 (IntKind.u64.wrap (64 - (ji8))))) ((shl .u64 a2 (ji8)) / 4294967296))) (IntKind.u64.wrap ((Go.bits .or .u64 (shl .u64 a0 (ji8)) (shr .u64 a1 (IntKind.u64.wrap (64 - (ji8))))) - (IntKind.u64.wrap ((IntKind.u64.wrap (Int.tdiv (Go.bits .or .u64 (shl .u64 a0 (ji8)) (shr .u64 a1 (IntKind.u64.wrap (64 - (ji8))))) ((shl .u64 a2 (ji8)) / 4294967296))) * ((shl .u64 a2 (ji8)) / 4294967296))))))) else (none)) else (none)) = some (r1, r2) := by first | (rw [hji8] at H; exact H) | (simp only [hji8] at H ⊢; exact H)
    (try rw [hji8] at A7)
    by_cases c9 : 0 ≤ (ji8)
    ·rw [if_pos c9] at H
     have c9b0 := eq_true c9
     have c9b1 : decide (0 ≤ (ji8)) = true := decide_eq_true c9
     clear c9
     obtain ⟨ji10, hji10⟩ : ∃ j_ : Int, (shl .u64 a2 (ji8)) = j_ := ⟨_, rfl⟩
     replace H : (if 0 ≤ (IntKind.u64.wrap (64 - (ji8))) then (if ((ji10) / 4294967296) = 0 then (none) else (bits_Div64.l0 k ji10 ji8 ((ji10) / 4294967296) (Go.bits .and .u64 (ji10) 4294967295) (Go.bits .or .u64 (shl .u64 a0 (ji8)) (shr .u64 a1 (IntKind.u64.wrap (64 - (ji8))))) ((shl .u64 a1 (ji8)) / 4294967296) (Go.bits .and .u64 (shl .u64 a1 (ji8)) 4294967295) (IntKind.u64.wrap (Int.tdiv (Go.bits .or .u64 (shl .u64 a0 (ji8)) (shr .u64 a1 (IntKind.u64.wrap (64 - (ji8))))) ((ji10) / 4294967296))) (IntKind.u64.wrap ((Go.bits .or .u64 (shl .u64 a0 (ji8)) (shr .u64 a1 (IntKind.u64.wrap (64 - (ji8))))) - (IntKind.u64.wrap ((IntKind.u64.wrap (Int.tdiv (Go.bits .or .u64 (shl .u64 a0 (ji8)) (shr .u64 a1 (IntKind.u64.wrap (64 - (ji8))))) ((ji10) / 4294967296))) * ((ji10) / 4294967296))))))) else (none)) = some (r1, r2) := by first | (rw [hji10] at H; exact H) | (simp only [hji10] at H ⊢; exact H)
     (try rw [hji10] at A7)
     have hji10_ : (IntKind.u64.wrap (a2 * 2 ^ min (ji8).toNat 64)) = ji10 := hji10
     have hji10z : (ji8) ≤ 64 → (IntKind.u64.wrap (a2 * 2 ^ (ji8).toNat)) = ji10 := shl_small hji10
     have c11b0 := eq_true (of_decide_eq_true (by first | (with_reducible assumption) | assumption) : 0 ≤ (ji8))
     obtain ⟨ji12, hji12⟩ : ∃ j_ : Int, (shl .u64 a0 (ji8)) = j_ := ⟨_, rfl⟩
     replace H : (if 0 ≤ (IntKind.u64.wrap (64 - (ji8))) then (if ((ji10) / 4294967296) = 0 then (none) else (bits_Div64.l0 k ji10 ji8 ((ji10) / 4294967296) (Go.bits .and .u64 (ji10) 4294967295) (Go.bits .or .u64 (ji12) (shr .u64 a1 (IntKind.u64.wrap (64 - (ji8))))) ((shl .u64 a1 (ji8)) / 4294967296) (Go.bits .and .u64 (shl .u64 a1 (ji8)) 4294967295) (IntKind.u64.wrap (Int.tdiv (Go.bits .or .u64 (ji12) (shr .u64 a1 (IntKind.u64.wrap (64 - (ji8))))) ((ji10) / 4294967296))) (IntKind.u64.wrap ((Go.bits .or .u64 (ji12) (shr .u64 a1 (IntKind.u64.wrap (64 - (ji8))))) - (IntKind.u64.wrap ((IntKind.u64.wrap (Int.tdiv (Go.bits .or .u64 (ji12) (shr .u64 a1 (IntKind.u64.wrap (64 - (ji8))))) ((ji10) / 4294967296))) * ((ji10) / 4294967296))))))) else (none)) = some (r1, r2) := by first | (rw [hji12] at H; exact H) | (simp only [hji12] at H ⊢; exact H)
     (try rw [hji12] at A7)
     have hji12_ : (IntKind.u64.wrap (a0 * 2 ^ min (ji8).toNat 64)) = ji12 := hji12
     have hji12z : (ji8) ≤ 64 → (IntKind.u64.wrap (a0 * 2 ^ (ji8).toNat)) = ji12 := shl_small hji12
     obtain ⟨ji13, hji13⟩ : ∃ j_ : Int, (IntKind.u64.wrap (64 - (ji8))) = j_ := ⟨_, rfl⟩
     replace H : (if 0 ≤ (ji13) then (if ((ji10) / 4294967296) = 0 then (none) else (bits_Div64.l0 k ji10 ji8 ((ji10) / 4294967296) (Go.bits .and .u64 (ji10) 4294967295) (Go.bits .or .u64 (ji12) (shr .u64 a1 (ji13))) ((shl .u64 a1 (ji8)) / 4294967296) (Go.bits .and .u64 (shl .u64 a1 (ji8)) 4294967295) (IntKind.u64.wrap (Int.tdiv (Go.bits .or .u64 (ji12) (shr .u64 a1 (ji13))) ((ji10) / 4294967296))) (IntKind.u64.wrap ((Go.bits .or .u64 (ji12) (shr .u64 a1 (ji13))) - (IntKind.u64.wrap ((IntKind.u64.wrap (Int.tdiv (Go.bits .or .u64 (ji12) (shr .u64 a1 (ji13))) ((ji10) / 4294967296))) * ((ji10) / 4294967296))))))) else (none)) = some (r1, r2) := by first | (rw [hji13] at H; exact H) | (simp only [hji13] at H ⊢; exact H)
     (try rw [hji13] at A7)
     by_cases c14 : 0 ≤ (ji13)
     ·rw [if_pos c14] at H
      have c14b0 := eq_true c14
      have c14b1 : decide (0 ≤ (ji13)) = true := decide_eq_true c14
      clear c14
      obtain ⟨ji15, hji15⟩ : ∃ j_ : Int, (shr .u64 a1 (ji13)) = j_ := ⟨_, rfl⟩
      replace H : (if ((ji10) / 4294967296) = 0 then (none) else (bits_Div64.l0 k ji10 ji8 ((ji10) / 4294967296) (Go.bits .and .u64 (ji10) 4294967295) (Go.bits .or .u64 (ji12) (ji15)) ((shl .u64 a1 (ji8)) / 4294967296) (Go.bits .and .u64 (shl .u64 a1 (ji8)) 4294967295) (IntKind.u64.wrap (Int.tdiv (Go.bits .or .u64 (ji12) (ji15)) ((ji10) / 4294967296))) (IntKind.u64.wrap ((Go.bits .or .u64 (ji12) (ji15)) - (IntKind.u64.wrap ((IntKind.u64.wrap (Int.tdiv (Go.bits .or .u64 (ji12) (ji15)) ((ji10) / 4294967296))) * ((ji10) / 4294967296))))))) = some (r1, r2) := by first | (rw [hji15] at H; exact H) | (simp only [hji15] at H ⊢; exact H)
      (try rw [hji15] at A7)
      have hji15_ : (a1 / 2 ^ min (ji13).toNat 64) = ji15 := hji15
      have hji15z : (ji13) ≤ 64 → (a1 / 2 ^ (ji13).toNat) = ji15 := shr_small hji15
      have c16b0 := eq_true (of_decide_eq_true (by first | (with_reducible assumption) | assumption) : 0 ≤ (ji8))
      obtain ⟨ji17, hji17⟩ : ∃ j_ : Int, (shl .u64 a1 (ji8)) = j_ := ⟨_, rfl⟩
      replace H : (if ((ji10) / 4294967296) = 0 then (none) else (bits_Div64.l0 k ji10 ji8 ((ji10) / 4294967296) (Go.bits .and .u64 (ji10) 4294967295) (Go.bits .or .u64 (ji12) (ji15)) ((ji17) / 4294967296) (Go.bits .and .u64 (ji17) 4294967295) (IntKind.u64.wrap (Int.tdiv (Go.bits .or .u64 (ji12) (ji15)) ((ji10) / 4294967296))) (IntKind.u64.wrap ((Go.bits .or .u64 (ji12) (ji15)) - (IntKind.u64.wrap ((IntKind.u64.wrap (Int.tdiv (Go.bits .or .u64 (ji12) (ji15)) ((ji10) / 4294967296))) * ((ji10) / 4294967296))))))) = some (r1, r2) := by first | (rw [hji17] at H; exact H) | (simp only [hji17] at H ⊢; exact H)
      (try rw [hji17] at A7)
      have hji17_ : (IntKind.u64.wrap (a1 * 2 ^ min (ji8).toNat 64)) = ji17 := hji17
      have hji17z : (ji8) ≤ 64 → (IntKind.u64.wrap (a1 * 2 ^ (ji8).toNat)) = ji17 := shl_small hji17
      by_cases c18 : ((ji10) / 4294967296) = 0
      ·rw [if_pos c18] at H
       exact absurd H (by simp)
      ·rw [if_neg c18] at H
       have c18b0 : (((ji10) / 4294967296) == 0) = false := beq_eq_false_iff_ne.mpr c18
       have c18b1 : (((ji10) / 4294967296) != 0) = true := bne_iff_ne.mpr c18
       have HC19 := Aside0.mk H
       clear H
       go_enter Tryz.func91, Tryz.ntmps91
       go_upto_block 0 with (first | (go_at_call 101; (with_reducible refine (bits_LeadingZeros64.calls a2 t101 _ A7.out).mono ?_); rintro e w' ⟨rfl, ⟨nd, rfl⟩⟩; (try first | exact ⟨rfl, _, World.drewN_drewN _ _ _⟩ | exact ⟨rfl, _, Eq.trans (World.drewN_drewN _ _ _) (congrArg (World.drewN _) (Nat.add_assoc _ _ _))⟩)))
       (try simp only [Act.put, List.setIfInBounds_toArray, List.set_cons_zero, List.set_cons_succ])
       go_cut [15] (fun v15 wc => ∃ (kq : Nat) (x15_18 : Int), v15 = .int .u64 x15_18 ∧ Aside0 (bits_Div64.j2 kq ji10 ji8 ((ji10) / 4294967296) (Go.bits .and .u64 (ji10) 4294967295) (Go.bits .or .u64 (ji12) (ji15)) ((ji17) / 4294967296) (Go.bits .and .u64 (ji17) 4294967295) x15_18 = some (r1, r2)) ∧ Aside0 (kq ≤ k) ∧ Drawn0 w wc)
       case first =>
        have H := HC19.out
        clear HC19
        have H' := Aside0.mk H
        clear H
        go_wp2
        repeat (go_quiet (fail); try go_wp2)
        go_loopg [15, 16] k (fun kq v15 v16 w' => ∃ (x15_1 : Int) (x16_1 : Int), v15 = .int .u64 x15_1 ∧ v16 = .int .u64 x16_1 ∧ Aside0 (bits_Div64.l0 kq ji10 ji8 ((ji10) / 4294967296) (Go.bits .and .u64 (ji10) 4294967295) (Go.bits .or .u64 (ji12) (ji15)) ((ji17) / 4294967296) (Go.bits .and .u64 (ji17) 4294967295) x15_1 x16_1 = some (r1, r2)) ∧ Aside0 (kq ≤ k) ∧ Drawn0 w w')
        case atStart => exact ⟨(IntKind.u64.wrap (Int.tdiv (Go.bits .or .u64 (ji12) (ji15)) ((ji10) / 4294967296))), (IntKind.u64.wrap ((Go.bits .or .u64 (ji12) (ji15)) - (IntKind.u64.wrap ((IntKind.u64.wrap (Int.tdiv (Go.bits .or .u64 (ji12) (ji15)) ((ji10) / 4294967296))) * ((ji10) / 4294967296))))), (by first | rfl | (simp; done) | (simp only [← hji10, ← hji12, ← hji15] <;> (first | rfl | simp)) | (simp [*]; done)), (by first | rfl | (simp; done) | (simp only [← hji10, ← hji12, ← hji15] <;> (first | rfl | simp)) | (simp [*]; done)), H', ⟨Nat.le_refl _⟩, by repeat (first | exact Drawn0.refl _ | apply Drawn0.step)⟩
        case round =>
         clear H'
         try clear c4
         try clear c4b0
         try clear c4b1
         try clear c5b0
         try clear c6
         try clear c6b0
         try clear c6b1
         try clear c9b0
         try clear c9b1
         try clear c11b0
         try clear c14b0
         try clear c14b1
         try clear c16b0
         try clear c18
         try clear c18b0
         try clear c18b1
         obtain ⟨x15_1, x16_1, rfl, rfl, HA, HK1, ⟨m1, rfl⟩⟩ := hrel
         cases gk with
         | zero => exact absurd HA.out (by simp [bits_Div64.l0])
         | succ k1 =>
          have H := HA.out
          clear HA
          simp only [bits_Div64.l0] at H
          have HC20 := Aside0.mk H
          clear H
          go_upto_region 17 with (fail)
          go_cut [78] (fun v78 wc => ∃ (kq : Nat) (x78_19 : Bool), v78 = .bool x78_19 ∧ Aside0 (bits_Div64.j1 kq ji10 ji8 ((ji10) / 4294967296) (Go.bits .and .u64 (ji10) 4294967295) (Go.bits .or .u64 (ji12) (ji15)) ((ji17) / 4294967296) (Go.bits .and .u64 (ji17) 4294967295) x15_1 x16_1 x78_19 = some (r1, r2)) ∧ Aside0 (kq ≤ k1) ∧ Drawn0 w wc)
          case first =>
           have H := HC20.out
           clear HC20
           by_cases c21 : x15_1 ≥ 4294967296
           ·rw [if_pos c21] at H
            have c21b0 : decide (4294967296 ≤ x15_1) = true := decide_eq_true c21
            clear c21
            (first | rw [c21b0] | (simp only [i64_w, i32_w]; rw [c21b0]) | skip)
            have H' := Aside0.mk H
            clear H
            go_wp2
            repeat (go_quiet (fail); try go_wp2)
            go_meet
            case rel => exact ⟨_, (true), (by first | rfl | (simp; done) | (simp [*]; done)), H', ⟨by have := HK1.out; first | omega | exact Nat.le_refl _⟩, by repeat (first | exact Drawn0.refl _ | apply Drawn0.step)⟩
           ·rw [if_neg c21] at H
            have c21b0 : decide (4294967296 ≤ x15_1) = false := decide_eq_false c21
            clear c21
            (first | rw [c21b0] | (simp only [i64_w, i32_w]; rw [c21b0]) | skip)
            have H' := Aside0.mk H
            clear H
            go_wp2
            repeat (go_quiet (fail); try go_wp2)
            go_meet
            case rel => exact ⟨_, (decide ((IntKind.u64.wrap (x15_1 * (Go.bits .and .u64 (ji10) 4294967295))) > (IntKind.u64.wrap ((IntKind.u64.wrap (4294967296 * x16_1)) + ((ji17) / 4294967296))))), (by first | rfl | (simp; done) | (simp only [← hji10, ← hji17] <;> (first | rfl | simp)) | (simp [*]; done)), H', ⟨by have := HK1.out; first | omega | exact Nat.le_refl _⟩, by repeat (first | exact Drawn0.refl _ | apply Drawn0.step)⟩
          case rest =>
           clear HC20
           obtain ⟨kq, x78_19, rfl, HA, HJ19, ⟨mc19, rfl⟩⟩ := hcut
           cases kq with
           | zero => exact absurd HA.out (by simp [bits_Div64.j1])
           | succ kj19 =>
            have H := HA.out
            clear HA
            simp only [bits_Div64.j1] at H
            by_cases c22 : x78_19 = true
            ·subst c22
             have H1 : (if (IntKind.u64.wrap (x16_1 + ((ji10) / 4294967296))) ≥ 4294967296 then (bits_Div64.j2 kj19 ji10 ji8 ((ji10) / 4294967296) (Go.bits .and .u64 (ji10) 4294967295) (Go.bits .or .u64 (ji12) (ji15)) ((ji17) / 4294967296) (Go.bits .and .u64 (ji17) 4294967295) (IntKind.u64.wrap (x15_1 - 1))) else (bits_Div64.l0 kj19 ji10 ji8 ((ji10) / 4294967296) (Go.bits .and .u64 (ji10) 4294967295) (Go.bits .or .u64 (ji12) (ji15)) ((ji17) / 4294967296) (Go.bits .and .u64 (ji17) 4294967295) (IntKind.u64.wrap (x15_1 - 1)) (IntKind.u64.wrap (x16_1 + ((ji10) / 4294967296))))) = some (r1, r2) := by rw [if_pos rfl] at H; exact H
             clear H
             have H := H1
             clear H1
             by_cases c23 : (IntKind.u64.wrap (x16_1 + ((ji10) / 4294967296))) ≥ 4294967296
             ·rw [if_pos c23] at H
              have c23b0 : decide (4294967296 ≤ (IntKind.u64.wrap (x16_1 + ((ji10) / 4294967296)))) = true := decide_eq_true c23
              clear c23
              have H' := Aside0.mk H
              clear H
              go_wp2
              repeat (go_quiet (fail); try go_wp2)
              go_meet
              case rel => exact ⟨_, (IntKind.u64.wrap (x15_1 - 1)), (by first | rfl | (simp; done) | (simp [*]; done)), H', ⟨by have := HK1.out; have := HJ19.out; first | omega | exact Nat.le_refl _⟩, by repeat (first | exact Drawn0.refl _ | apply Drawn0.step)⟩
             ·rw [if_neg c23] at H
              have c23b0 : decide (4294967296 ≤ (IntKind.u64.wrap (x16_1 + ((ji10) / 4294967296)))) = false := decide_eq_false c23
              clear c23
              have H' := Aside0.mk H
              clear H
              go_wp2
              repeat (go_quiet (fail); try go_wp2)
              go_roundg kj19
              case measure => have := HK1.out; have := HJ19.out; omega
              case rel => exact ⟨(IntKind.u64.wrap (x15_1 - 1)), (IntKind.u64.wrap (x16_1 + ((ji10) / 4294967296))), (by first | rfl | (simp; done) | (simp [*]; done)), (by first | rfl | (simp; done) | (simp only [← hji10] <;> (first | rfl | simp)) | (simp [*]; done)), H', ⟨by have := HK1.out; have := HJ19.out; omega⟩, by repeat (first | exact Drawn0.refl _ | apply Drawn0.step)⟩
            ·replace c22 := Bool.eq_false_iff.mpr c22
             subst c22
             have H1 : (bits_Div64.j2 kj19 ji10 ji8 ((ji10) / 4294967296) (Go.bits .and .u64 (ji10) 4294967295) (Go.bits .or .u64 (ji12) (ji15)) ((ji17) / 4294967296) (Go.bits .and .u64 (ji17) 4294967295) x15_1) = some (r1, r2) := by rw [if_neg (show ¬ (false = true) by decide)] at H; exact H
             clear H
             have H := H1
             clear H1
             have H' := Aside0.mk H
             clear H
             go_wp2
             repeat (go_quiet (fail); try go_wp2)
             go_meet
             case rel => exact ⟨_, (x15_1), (by first | rfl | (simp; done) | (simp [*]; done)), H', ⟨by have := HK1.out; have := HJ19.out; first | omega | exact Nat.le_refl _⟩, by repeat (first | exact Drawn0.refl _ | apply Drawn0.step)⟩
       case rest =>
        clear HC19
        try clear c4
        try clear c4b0
        try clear c4b1
        try clear c5b0
        try clear c6
        try clear c6b0
        try clear c6b1
        try clear c9b0
        try clear c9b1
        try clear c11b0
        try clear c14b0
        try clear c14b1
        try clear c16b0
        try clear c18
        try clear c18b0
        try clear c18b1
        obtain ⟨kq, x15_18, rfl, HA, HJ18, ⟨mc18, rfl⟩⟩ := hcut
        cases kq with
        | zero => exact absurd HA.out (by simp [bits_Div64.j2])
        | succ kj18 =>
         have H := HA.out
         clear HA
         simp only [bits_Div64.j2] at H
         by_cases c24 : ((ji10) / 4294967296) = 0
         ·rw [if_pos c24] at H
          exact absurd H (by simp)
         ·rw [if_neg c24] at H
          have c24b0 : (((ji10) / 4294967296) == 0) = false := beq_eq_false_iff_ne.mpr c24
          have c24b1 : (((ji10) / 4294967296) != 0) = true := bne_iff_ne.mpr c24
          have H' := Aside0.mk H
          clear H
          go_wp2
          repeat (go_quiet (fail); try go_wp2)
          go_loopg [16, 18] kj18 (fun kq v16 v18 w' => ∃ (x16_2 : Int) (x18_2 : Int), v16 = .int .u64 x16_2 ∧ v18 = .int .u64 x18_2 ∧ Aside0 (bits_Div64.l1 kq ji10 ji8 ((ji10) / 4294967296) (Go.bits .and .u64 (ji10) 4294967295) (Go.bits .and .u64 (ji17) 4294967295) x15_18 x16_2 (IntKind.u64.wrap ((IntKind.u64.wrap ((IntKind.u64.wrap ((Go.bits .or .u64 (ji12) (ji15)) * 4294967296)) + ((ji17) / 4294967296))) - (IntKind.u64.wrap (x15_18 * ji10)))) x18_2 = some (r1, r2)) ∧ Aside0 (kq ≤ kj18) ∧ Drawn0 w w')
          case atStart => exact ⟨(IntKind.u64.wrap ((IntKind.u64.wrap ((IntKind.u64.wrap ((IntKind.u64.wrap ((Go.bits .or .u64 (ji12) (ji15)) * 4294967296)) + ((ji17) / 4294967296))) - (IntKind.u64.wrap (x15_18 * ji10)))) - (IntKind.u64.wrap ((IntKind.u64.wrap (Int.tdiv (IntKind.u64.wrap ((IntKind.u64.wrap ((IntKind.u64.wrap ((Go.bits .or .u64 (ji12) (ji15)) * 4294967296)) + ((ji17) / 4294967296))) - (IntKind.u64.wrap (x15_18 * ji10)))) ((ji10) / 4294967296))) * ((ji10) / 4294967296))))), (IntKind.u64.wrap (Int.tdiv (IntKind.u64.wrap ((IntKind.u64.wrap ((IntKind.u64.wrap ((Go.bits .or .u64 (ji12) (ji15)) * 4294967296)) + ((ji17) / 4294967296))) - (IntKind.u64.wrap (x15_18 * ji10)))) ((ji10) / 4294967296))), (by first | rfl | (simp; done) | (simp only [← hji10, ← hji12, ← hji15, ← hji17] <;> (first | rfl | simp)) | (simp [*]; done)), (by first | rfl | (simp; done) | (simp only [← hji10, ← hji12, ← hji15, ← hji17] <;> (first | rfl | simp)) | (simp [*]; done)), H', ⟨Nat.le_refl _⟩, by repeat (first | exact Drawn0.refl _ | apply Drawn0.step)⟩
          case round =>
           clear H'
           try clear c24
           try clear c24b0
           try clear c24b1
           obtain ⟨x16_2, x18_2, rfl, rfl, HA, HK2, ⟨m2, rfl⟩⟩ := hrel
           cases gk with
           | zero => exact absurd HA.out (by simp [bits_Div64.l1])
           | succ k2 =>
            have H := HA.out
            clear HA
            simp only [bits_Div64.l1] at H
            have HC25 := Aside0.mk H
            clear H
            go_upto_region 24 with (fail)
            go_cut [113] (fun v113 wc => ∃ (kq : Nat) (x113_24 : Bool), v113 = .bool x113_24 ∧ Aside0 (bits_Div64.j4 kq ji10 ji8 ((ji10) / 4294967296) (Go.bits .and .u64 (ji10) 4294967295) (Go.bits .and .u64 (ji17) 4294967295) x15_18 x16_2 (IntKind.u64.wrap ((IntKind.u64.wrap ((IntKind.u64.wrap ((Go.bits .or .u64 (ji12) (ji15)) * 4294967296)) + ((ji17) / 4294967296))) - (IntKind.u64.wrap (x15_18 * ji10)))) x18_2 x113_24 = some (r1, r2)) ∧ Aside0 (kq ≤ k2) ∧ Drawn0 w wc)
            case first =>
             have H := HC25.out
             clear HC25
             by_cases c26 : x18_2 ≥ 4294967296
             ·rw [if_pos c26] at H
              have c26b0 : decide (4294967296 ≤ x18_2) = true := decide_eq_true c26
              clear c26
              (first | rw [c26b0] | (simp only [i64_w, i32_w]; rw [c26b0]) | skip)
              have H' := Aside0.mk H
              clear H
              go_wp2
              repeat (go_quiet (fail); try go_wp2)
              go_meet
              case rel => exact ⟨_, (true), (by first | rfl | (simp; done) | (simp [*]; done)), H', ⟨by have := HJ18.out; have := HK2.out; first | omega | exact Nat.le_refl _⟩, by repeat (first | exact Drawn0.refl _ | apply Drawn0.step)⟩
             ·rw [if_neg c26] at H
              have c26b0 : decide (4294967296 ≤ x18_2) = false := decide_eq_false c26
              clear c26
              (first | rw [c26b0] | (simp only [i64_w, i32_w]; rw [c26b0]) | skip)
              have H' := Aside0.mk H
              clear H
              go_wp2
              repeat (go_quiet (fail); try go_wp2)
              go_meet
              case rel => exact ⟨_, (decide ((IntKind.u64.wrap (x18_2 * (Go.bits .and .u64 (ji10) 4294967295))) > (IntKind.u64.wrap ((IntKind.u64.wrap (4294967296 * x16_2)) + (Go.bits .and .u64 (ji17) 4294967295))))), (by first | rfl | (simp; done) | (simp only [← hji10, ← hji17] <;> (first | rfl | simp)) | (simp [*]; done)), H', ⟨by have := HJ18.out; have := HK2.out; first | omega | exact Nat.le_refl _⟩, by repeat (first | exact Drawn0.refl _ | apply Drawn0.step)⟩
            case rest =>
             clear HC25
             obtain ⟨kq, x113_24, rfl, HA, HJ24, ⟨mc24, rfl⟩⟩ := hcut
             cases kq with
             | zero => exact absurd HA.out (by simp [bits_Div64.j4])
             | succ kj24 =>
              have H := HA.out
              clear HA
              simp only [bits_Div64.j4] at H
              by_cases c27 : x113_24 = true
              ·subst c27
               have H1 : (if (IntKind.u64.wrap (x16_2 + ((ji10) / 4294967296))) ≥ 4294967296 then (if 0 ≤ ji8 then (some (IntKind.u64.wrap ((IntKind.u64.wrap (x15_18 * 4294967296)) + (IntKind.u64.wrap (x18_2 - 1))), shr .u64 (IntKind.u64.wrap ((IntKind.u64.wrap ((IntKind.u64.wrap ((IntKind.u64.wrap ((IntKind.u64.wrap ((IntKind.u64.wrap ((Go.bits .or .u64 (ji12) (ji15)) * 4294967296)) + ((ji17) / 4294967296))) - (IntKind.u64.wrap (x15_18 * ji10)))) * 4294967296)) + (Go.bits .and .u64 (ji17) 4294967295))) - (IntKind.u64.wrap ((IntKind.u64.wrap (x18_2 - 1)) * ji10)))) ji8)) else (none)) else (bits_Div64.l1 kj24 ji10 ji8 ((ji10) / 4294967296) (Go.bits .and .u64 (ji10) 4294967295) (Go.bits .and .u64 (ji17) 4294967295) x15_18 (IntKind.u64.wrap (x16_2 + ((ji10) / 4294967296))) (IntKind.u64.wrap ((IntKind.u64.wrap ((IntKind.u64.wrap ((Go.bits .or .u64 (ji12) (ji15)) * 4294967296)) + ((ji17) / 4294967296))) - (IntKind.u64.wrap (x15_18 * ji10)))) (IntKind.u64.wrap (x18_2 - 1)))) = some (r1, r2) := by rw [if_pos rfl] at H; exact H
               clear H
               have H := H1
               clear H1
               by_cases c28 : (IntKind.u64.wrap (x16_2 + ((ji10) / 4294967296))) ≥ 4294967296
               ·rw [if_pos c28] at H
                have c28b0 : decide (4294967296 ≤ (IntKind.u64.wrap (x16_2 + ((ji10) / 4294967296)))) = true := decide_eq_true c28
                clear c28
                by_cases c29 : 0 ≤ ji8
                ·rw [if_pos c29] at H
                 have c29b0 := eq_true c29
                 have c29b1 : decide (0 ≤ ji8) = true := decide_eq_true c29
                 clear c29
                 obtain ⟨ji30, hji30⟩ : ∃ j_ : Int, (shr .u64 (IntKind.u64.wrap ((IntKind.u64.wrap ((IntKind.u64.wrap ((IntKind.u64.wrap ((IntKind.u64.wrap ((IntKind.u64.wrap ((Go.bits .or .u64 (ji12) (ji15)) * 4294967296)) + ((ji17) / 4294967296))) - (IntKind.u64.wrap (x15_18 * ji10)))) * 4294967296)) + (Go.bits .and .u64 (ji17) 4294967295))) - (IntKind.u64.wrap ((IntKind.u64.wrap (x18_2 - 1)) * ji10)))) ji8) = j_ := ⟨_, rfl⟩
                 replace H : (some (IntKind.u64.wrap ((IntKind.u64.wrap (x15_18 * 4294967296)) + (IntKind.u64.wrap (x18_2 - 1))), ji30)) = some (r1, r2) := by first | (rw [hji30] at H; exact H) | (simp only [hji30] at H ⊢; exact H)
                 have hji30_ : ((IntKind.u64.wrap ((IntKind.u64.wrap ((IntKind.u64.wrap ((IntKind.u64.wrap ((IntKind.u64.wrap ((IntKind.u64.wrap ((Go.bits .or .u64 (ji12) (ji15)) * 4294967296)) + ((ji17) / 4294967296))) - (IntKind.u64.wrap (x15_18 * ji10)))) * 4294967296)) + (Go.bits .and .u64 (ji17) 4294967295))) - (IntKind.u64.wrap ((IntKind.u64.wrap (x18_2 - 1)) * ji10)))) / 2 ^ min ji8.toNat 64) = ji30 := hji30
                 have hji30z : ji8 ≤ 64 → ((IntKind.u64.wrap ((IntKind.u64.wrap ((IntKind.u64.wrap ((IntKind.u64.wrap ((IntKind.u64.wrap ((IntKind.u64.wrap ((Go.bits .or .u64 (ji12) (ji15)) * 4294967296)) + ((ji17) / 4294967296))) - (IntKind.u64.wrap (x15_18 * ji10)))) * 4294967296)) + (Go.bits .and .u64 (ji17) 4294967295))) - (IntKind.u64.wrap ((IntKind.u64.wrap (x18_2 - 1)) * ji10)))) / 2 ^ ji8.toNat) = ji30 := shr_small hji30
                 simp only [Option.some.injEq, Prod.mk.injEq] at H
                 obtain ⟨rfl, rfl⟩ := H
                 go_wp2
                 repeat (go_quiet (fail); try go_wp2)
                 go_ret2
                 exact ⟨by first | rfl | (simp; done) | (simp only [← hji8, ← hji10, ← hji12, ← hji13, ← hji15, ← hji17, ← hji30] <;> (first | rfl | simp)) | (simp [*]; done), by repeat (first | exact Drawn0.refl _ | apply Drawn0.step)⟩
                ·rw [if_neg c29] at H
                 exact absurd H (by simp)
               ·rw [if_neg c28] at H
                have c28b0 : decide (4294967296 ≤ (IntKind.u64.wrap (x16_2 + ((ji10) / 4294967296)))) = false := decide_eq_false c28
                clear c28
                have H' := Aside0.mk H
                clear H
                go_wp2
                repeat (go_quiet (fail); try go_wp2)
                go_roundg kj24
                case measure => have := HJ18.out; have := HK2.out; have := HJ24.out; omega
                case rel => exact ⟨(IntKind.u64.wrap (x16_2 + ((ji10) / 4294967296))), (IntKind.u64.wrap (x18_2 - 1)), (by first | rfl | (simp; done) | (simp only [← hji10] <;> (first | rfl | simp)) | (simp [*]; done)), (by first | rfl | (simp; done) | (simp [*]; done)), H', ⟨by have := HJ18.out; have := HK2.out; have := HJ24.out; omega⟩, by repeat (first | exact Drawn0.refl _ | apply Drawn0.step)⟩
              ·replace c27 := Bool.eq_false_iff.mpr c27
               subst c27
               have H1 : (if 0 ≤ ji8 then (some (IntKind.u64.wrap ((IntKind.u64.wrap (x15_18 * 4294967296)) + x18_2), shr .u64 (IntKind.u64.wrap ((IntKind.u64.wrap ((IntKind.u64.wrap ((IntKind.u64.wrap ((IntKind.u64.wrap ((IntKind.u64.wrap ((Go.bits .or .u64 (ji12) (ji15)) * 4294967296)) + ((ji17) / 4294967296))) - (IntKind.u64.wrap (x15_18 * ji10)))) * 4294967296)) + (Go.bits .and .u64 (ji17) 4294967295))) - (IntKind.u64.wrap (x18_2 * ji10)))) ji8)) else (none)) = some (r1, r2) := by rw [if_neg (show ¬ (false = true) by decide)] at H; exact H
               clear H
               have H := H1
               clear H1
               by_cases c31 : 0 ≤ ji8
               ·rw [if_pos c31] at H
                have c31b0 := eq_true c31
                have c31b1 : decide (0 ≤ ji8) = true := decide_eq_true c31
                clear c31
                obtain ⟨ji32, hji32⟩ : ∃ j_ : Int, (shr .u64 (IntKind.u64.wrap ((IntKind.u64.wrap ((IntKind.u64.wrap ((IntKind.u64.wrap ((IntKind.u64.wrap ((IntKind.u64.wrap ((Go.bits .or .u64 (ji12) (ji15)) * 4294967296)) + ((ji17) / 4294967296))) - (IntKind.u64.wrap (x15_18 * ji10)))) * 4294967296)) + (Go.bits .and .u64 (ji17) 4294967295))) - (IntKind.u64.wrap (x18_2 * ji10)))) ji8) = j_ := ⟨_, rfl⟩
                replace H : (some (IntKind.u64.wrap ((IntKind.u64.wrap (x15_18 * 4294967296)) + x18_2), ji32)) = some (r1, r2) := by first | (rw [hji32] at H; exact H) | (simp only [hji32] at H ⊢; exact H)
                have hji32_ : ((IntKind.u64.wrap ((IntKind.u64.wrap ((IntKind.u64.wrap ((IntKind.u64.wrap ((IntKind.u64.wrap ((IntKind.u64.wrap ((Go.bits .or .u64 (ji12) (ji15)) * 4294967296)) + ((ji17) / 4294967296))) - (IntKind.u64.wrap (x15_18 * ji10)))) * 4294967296)) + (Go.bits .and .u64 (ji17) 4294967295))) - (IntKind.u64.wrap (x18_2 * ji10)))) / 2 ^ min ji8.toNat 64) = ji32 := hji32
                have hji32z : ji8 ≤ 64 → ((IntKind.u64.wrap ((IntKind.u64.wrap ((IntKind.u64.wrap ((IntKind.u64.wrap ((IntKind.u64.wrap ((IntKind.u64.wrap ((Go.bits .or .u64 (ji12) (ji15)) * 4294967296)) + ((ji17) / 4294967296))) - (IntKind.u64.wrap (x15_18 * ji10)))) * 4294967296)) + (Go.bits .and .u64 (ji17) 4294967295))) - (IntKind.u64.wrap (x18_2 * ji10)))) / 2 ^ ji8.toNat) = ji32 := shr_small hji32
                simp only [Option.some.injEq, Prod.mk.injEq] at H
                obtain ⟨rfl, rfl⟩ := H
                go_wp2
                repeat (go_quiet (fail); try go_wp2)
                go_ret2
                exact ⟨by first | rfl | (simp; done) | (simp only [← hji8, ← hji10, ← hji12, ← hji13, ← hji15, ← hji17, ← hji32] <;> (first | rfl | simp)) | (simp [*]; done), by repeat (first | exact Drawn0.refl _ | apply Drawn0.step)⟩
               ·rw [if_neg c31] at H
                exact absurd H (by simp)
     ·rw [if_neg c14] at H
      exact absurd H (by simp)
    ·rw [if_neg c9] at H
     exact absurd H (by simp)
end Go.Proofs.YtfmkdledofbhdaaGreat.PM
/- bits.Div64, as1 it is printed, is division. -/
namespace Go.Proofs.YtfmkdledofbhdaaGreat.H
open Go.RowKit Go.Proofs.YtfmkdledofbhdaaGreatW.PrintWords Go.Proofs.YtfmkdledofbhdaaGreatW.PrintLast
open Go.Proofs.YtfmkdledofbhdaaGreat.Math64
set_option linter.unusedVariables false
set_option linter.unusedSimpArgs false
theorem u64w (x : Int) : IntKind.u64.wrap x = x % 18446744073709551616 := by simp [IntKind.wrap, IntKind.signed, IntKind.bits]
theorem u64s {x : Int} (h0 : 0 ≤ x) (h1 : x < 18446744073709551616) : IntKind.u64.wrap x = x := by rw [u64w]; omega
theorem loop1 {y1 y0 u d : Int} (b : Base y1 y0 u d) (x2 x8 x14 : Int) (n : Nat) : ∀ (k : Nat) (q r : Int), 2 * n + 2 ≤ k → Inv y1 y0 u d q r → r < 4294967296 → 4294967296 ≤ r + n * 2147483648 →
  ∃ j, k ≤ j + 2 * n + 2 ∧ PM.bits_Div64.l0 k x2 x8 y1 y0 u d x14 q r = PM.bits_Div64.j2 j x2 x8 y1 y0 u d x14 (dig y1 y0 u d) := by
 induction n with
 | zero => intro k q r hk h hr hn; omega
 | succ n ih =>
  intro k q r hk h hr hn
  obtain ⟨k, rfl⟩ : ∃ m, k = m + 2 := ⟨k - 2, by omega⟩
  have hb := mul_bd b h.q0 h.q1
  have h0 := dig_lo b
  have a1 := h.q1
  have a2 := h.r0
  have a3 := b.y1lo
  have a4 := b.y1hi
  have a5 := b.dlo
  have a6 := b.dhi
  have e1 : IntKind.u64.wrap (q * y0) = q * y0 := u64s hb.1 (by omega)
  have e2 : IntKind.u64.wrap (IntKind.u64.wrap (4294967296 * r) + d) = 4294967296 * r + d := by rw [u64s (x := 4294967296 * r) (by omega) (by omega), u64s (by omega) (by omega)]
  have e3 : IntKind.u64.wrap (r + y1) = r + y1 := u64s (by omega) (by omega)
  have down : dig y1 y0 u d < q → ∃ j, k + 2 ≤ j + 2 * (n + 1) + 2 ∧ PM.bits_Div64.j1 (k + 1) x2 x8 y1 y0 u d x14 q r true = PM.bits_Div64.j2 j x2 x8 y1 y0 u d x14 (dig y1 y0 u d) := by
   intro hl
   have e4 : IntKind.u64.wrap (q - 1) = q - 1 := u64s (by omega) (by omega)
   simp only [PM.bits_Div64.j1, if_true]
   rw [e3, e4]
   by_cases hr2 : r + y1 ≥ 4294967296
   ·rw [if_pos hr2, h.last b hl hr2]
    exact ⟨k, by omega, rfl⟩
   ·rw [if_neg hr2]
    obtain ⟨j, hj, e⟩ := ih k (q - 1) (r + y1) (by omega) (h.next b hl) (by omega) (by omega)
    exact ⟨j, by omega, e⟩
  simp only [PM.bits_Div64.l0]
  rw [e1, e2]
  by_cases c1 : q ≥ 4294967296
  ·rw [if_pos c1]; exact down (h.big b c1)
  ·rw [if_neg c1]
   by_cases c2 : q * y0 > 4294967296 * r + d
   ·rw [decide_eq_true c2]; exact down (h.more b c2)
   ·rw [decide_eq_false c2]
    simp only [PM.bits_Div64.j1, Bool.false_eq_true, if_false]
    rw [h.done b c2]
    exact ⟨k, by omega, rfl⟩
theorem loop2 {y1 y0 u d : Int} (b : Base y1 y0 u d) (x2 x8 x15 : Int) (h8 : 0 ≤ x8) (n : Nat) : ∀ (k : Nat) (q r : Int), 2 * n + 2 ≤ k → Inv y1 y0 u d q r → r < 4294967296 → 4294967296 ≤ r + n * 2147483648 →
  PM.bits_Div64.l1 k x2 x8 y1 y0 d x15 r u q = some (IntKind.u64.wrap (IntKind.u64.wrap (x15 * 4294967296) + dig y1 y0 u d), shr .u64 (IntKind.u64.wrap (IntKind.u64.wrap (IntKind.u64.wrap (u * 4294967296) + d) - IntKind.u64.wrap (dig y1 y0 u d * x2))) x8) := by
 induction n with
 | zero => intro k q r hk h hr hn; omega
 | succ n ih =>
  intro k q r hk h hr hn
  obtain ⟨k, rfl⟩ : ∃ m, k = m + 2 := ⟨k - 2, by omega⟩
  have hb := mul_bd b h.q0 h.q1
  have h0 := dig_lo b
  have a1 := h.q1
  have a2 := h.r0
  have a3 := b.y1lo
  have a4 := b.y1hi
  have a5 := b.dlo
  have a6 := b.dhi
  have e1 : IntKind.u64.wrap (q * y0) = q * y0 := u64s hb.1 (by omega)
  have e2 : IntKind.u64.wrap (IntKind.u64.wrap (4294967296 * r) + d) = 4294967296 * r + d := by rw [u64s (x := 4294967296 * r) (by omega) (by omega), u64s (by omega) (by omega)]
  have e3 : IntKind.u64.wrap (r + y1) = r + y1 := u64s (by omega) (by omega)
  have down : dig y1 y0 u d < q → PM.bits_Div64.j4 (k + 1) x2 x8 y1 y0 d x15 r u q true = some (IntKind.u64.wrap (IntKind.u64.wrap (x15 * 4294967296) + dig y1 y0 u d), shr .u64 (IntKind.u64.wrap (IntKind.u64.wrap (IntKind.u64.wrap (u * 4294967296) + d) - IntKind.u64.wrap (dig y1 y0 u d * x2))) x8) := by
   intro hl
   have e4 : IntKind.u64.wrap (q - 1) = q - 1 := u64s (by omega) (by omega)
   simp only [PM.bits_Div64.j4, if_true]
   rw [e3, e4]
   by_cases hr2 : r + y1 ≥ 4294967296
   ·rw [if_pos hr2, if_pos h8, h.last b hl hr2]
   ·rw [if_neg hr2]
    exact ih k (q - 1) (r + y1) (by omega) (h.next b hl) (by omega) (by omega)
  simp only [PM.bits_Div64.l1]
  rw [e1, e2]
  by_cases c1 : q ≥ 4294967296
  ·rw [if_pos c1]; exact down (h.big b c1)
  ·rw [if_neg c1]
   by_cases c2 : q * y0 > 4294967296 * r + d
   ·rw [decide_eq_true c2]; exact down (h.more b c2)
   ·rw [decide_eq_false c2]
    simp only [PM.bits_Div64.j4, Bool.false_eq_true, if_false]
    rw [if_pos h8, h.done b c2]
end Go.Proofs.YtfmkdledofbhdaaGreat.H
/- bits.Div64 is division: the whole of it. -/
namespace Go.Proofs.YtfmkdledofbhdaaGreat.H
open Go.RowKit Go.Proofs.YtfmkdledofbhdaaGreatW.PrintWords Go.Proofs.YtfmkdledofbhdaaGreatW.PrintLast
open Go.Proofs.YtfmkdledofbhdaaGreat.Math64
set_option linter.unusedVariables false
set_option linter.unusedSimpArgs false
theorem tmod_pos {a : Int} (h : 0 ≤ a) (b : Int) : Int.tmod a b = a % b := Int.tmod_eq_emod_of_nonneg h
theorem tdiv_pos {a : Int} (h : 0 ≤ a) (b : Int) : Int.tdiv a b = a / b := Int.tdiv_eq_ediv_of_nonneg h
theorem and32 {x : Int} (h0 : 0 ≤ x) (h1 : x < 18446744073709551616) : Go.bits .and .u64 x 4294967295 = x % 4294967296 := by
 obtain ⟨n, rfl⟩ := Int.eq_ofNat_of_zero_le h0
 rw [u64_and (n : Int) 4294967295 (by omega) h1 (by omega) (by omega)]
 have := Nat.and_two_pow_sub_one_eq_mod n 32
 simp only [Nat.reducePow, Nat.reduceSub] at this
 simp only [Int.toNat_natCast]
 rw [show (4294967295 : Int).toNat = 4294967295 from rfl, this]
 omega
theorem upper {hi lo y P Q : Int} (h0 : 0 ≤ hi) (h1 : hi < y) (l0 : 0 ≤ lo) (l1 : lo < 18446744073709551616) (hP : 0 < P) (hQ : 0 < Q) (hPQ : P * Q = 18446744073709551616) :
  0 ≤ lo / Q ∧ lo / Q < P ∧ 0 ≤ hi * P ∧ hi * P + lo / Q < y * P ∧ lo * P % 18446744073709551616 = lo % Q * P ∧ (hi * 18446744073709551616 + lo) * P = (hi * P + lo / Q) * 18446744073709551616 + lo % Q * P := by
 have a1 := Int.ediv_nonneg l0 (show 0 ≤ Q by omega)
 have a2 : lo / Q < P := Int.ediv_lt_of_lt_mul hQ (by omega)
 have a3 := Int.mul_nonneg h0 (show 0 ≤ P by omega)
 have a4 := Int.mul_le_mul_of_nonneg_right (show hi ≤ y - 1 by omega) (show 0 ≤ P by omega)
 rw [Int.sub_mul, Int.one_mul] at a4
 have m0 := Int.emod_nonneg lo (show Q ≠ 0 by omega)
 have m1 := Int.emod_lt_of_pos lo hQ
 have e := Int.emod_add_mul_ediv lo Q
 have r0 := Int.mul_nonneg m0 (show 0 ≤ P by omega)
 have r1 := Int.mul_le_mul_of_nonneg_right (show lo % Q ≤ Q - 1 by omega) (show 0 ≤ P by omega)
 rw [Int.sub_mul, Int.one_mul, Int.mul_comm Q P, hPQ] at r1
 have e2 : lo * P = lo % Q * P + 18446744073709551616 * (lo / Q) := by
  calc lo * P = (lo % Q + Q * (lo / Q)) * P := by rw [e]
   _ = lo % Q * P + Q * (lo / Q) * P := Int.add_mul ..
   _ = lo % Q * P + P * Q * (lo / Q) := by rw [Int.mul_comm (Q * (lo / Q)) P, ← Int.mul_assoc]
   _ = _ := by rw [hPQ]
 refine ⟨a1, a2, a3, by omega, ?_, ?_⟩
 ·rw [e2]; omega
 ·rw [Int.add_mul, e2, Int.add_mul, Int.mul_assoc hi, Int.mul_comm 18446744073709551616 P, ← Int.mul_assoc]; omega
theorem pow_parts {L : Nat} (h1 : 1 ≤ L) (h2 : L ≤ 64) : (2 : Int) ^ (64 - L) * 2 ^ L = 18446744073709551616 ∧ 0 < (2 : Int) ^ (64 - L) ∧ 0 < (2 : Int) ^ L := by
 refine ⟨?_, Int.pow_pos (by decide), Int.pow_pos (by decide)⟩
 rw [← Int.pow_add, show 64 - L + L = 64 by omega]; rfl
theorem or_sum {P hi b : Nat} {i : Nat} (hP : P = 2 ^ i) (hb : b < P) (hl : hi * P + b < 18446744073709551616) : Go.bits .or .u64 ((hi * P : Nat) : Int) (b : Int) = ((hi * P + b : Nat) : Int) := by
 rw [u64_or_nat _ _ (by omega) (by omega)]
 subst hP
 rw [Nat.mul_comm hi, Nat.two_pow_add_eq_or_of_lt hb]
set_option maxHeartbeats 1000000 in
theorem div64 (k : Nat) (hk : 20 ≤ k) {hi lo y : Int} (h0 : 0 ≤ hi) (h1 : hi < y) (h2 : y < 18446744073709551616) (l0 : 0 ≤ lo) (l1 : lo < 18446744073709551616) :
  PM.bits_Div64.f k hi lo y = some ((hi * 18446744073709551616 + lo) / y, (hi * 18446744073709551616 + lo) % y) := by
 unfold PM.bits_Div64.f
 rw [if_neg (by omega), if_neg (by omega)]
 by_cases hz : hi = 0
 ·subst hz
  have a := Int.ediv_nonneg l0 (show 0 ≤ y by omega)
  have b : lo / y < 18446744073709551616 := Int.ediv_lt_of_lt_mul (by omega) (by have := Int.mul_le_mul_of_nonneg_left (show 1 ≤ y by omega) (show (0 : Int) ≤ 18446744073709551616 by decide); omega)
  rw [if_pos rfl, tdiv_pos l0, tmod_pos l0, u64s a b]
  simp
 rw [if_neg hz]
 simp only [bits_LeadingZeros64.f]
 rw [if_pos (by omega)]
 simp only [Option.bind_some]
 obtain ⟨yn, rfl⟩ := Int.eq_ofNat_of_zero_le (show 0 ≤ y by omega)
 obtain ⟨hn, rfl⟩ := Int.eq_ofNat_of_zero_le h0
 obtain ⟨ln, rfl⟩ := Int.eq_ofNat_of_zero_le l0
 obtain ⟨b1, b2, b3, b4⟩ := Go.Proofs.YtfmkdledofbhdaaGreat.Math64.bitLen_spec (x := yn) (by omega) (by omega)
 rw [Int.toNat_natCast]
 generalize Lib.bitLen yn = L at *
 obtain ⟨hPQ, hP, hQ⟩ := pow_parts b1 b2
 have es : IntKind.u64.wrap (64 - (L : Int)) = 64 - (L : Int) := u64s (by omega) (by omega)
 have es2 : IntKind.u64.wrap (64 - (64 - (L : Int))) = L := by rw [u64s (by omega) (by omega)]; omega
 rw [es, es2, if_pos (by omega), if_pos (by omega)]
 have t1 : min (64 - (L : Int)).toNat (IntKind.u64.bits) = 64 - L := by simp [IntKind.bits] <;> omega
 have t2 : min (L : Int).toNat (IntKind.u64.bits) = L := by simp [IntKind.bits] <;> omega
 unfold shl
 rw [t1]
 have esr : shr .u64 (ln : Int) (L : Int) = (ln : Int) / 2 ^ L := by unfold shr; rw [t2]
 rw [esr]
 obtain ⟨q1, q2, q3, q4, q5, q6⟩ := upper (hi := hn) (lo := ln) (y := yn) h0 h1 l0 l1 hP hQ hPQ
 have hnat : (yn : Int) * 2 ^ (64 - L) < 18446744073709551616 := by
  have c1 : (yn : Int) ≤ 2 ^ L - 1 := by
   have : ((2 ^ L : Nat) : Int) = (2 : Int) ^ L := by simp
   omega
  have := Int.mul_le_mul_of_nonneg_right c1 (show 0 ≤ (2 : Int) ^ (64 - L) by omega)
  rw [Int.sub_mul, Int.one_mul, Int.mul_comm ((2 : Int) ^ L), hPQ] at this
  omega
 have hbig : 9223372036854775808 ≤ (yn : Int) * 2 ^ (64 - L) := by
  have c1 : (2 : Int) ^ (L - 1) ≤ yn := by
   have : ((2 ^ (L - 1) : Nat) : Int) = (2 : Int) ^ (L - 1) := by simp
   omega
  have := Int.mul_le_mul_of_nonneg_right c1 (show 0 ≤ (2 : Int) ^ (64 - L) by omega)
  rw [← Int.pow_add, show L - 1 + (64 - L) = 63 by omega] at this
  exact this
 have hor : Go.bits .or .u64 (IntKind.u64.wrap ((hn : Int) * 2 ^ (64 - L))) ((ln : Int) / 2 ^ L) = (hn : Int) * 2 ^ (64 - L) + (ln : Int) / 2 ^ L := by
  rw [u64s q3 (by omega)]
  have e1 : (hn : Int) * 2 ^ (64 - L) = ((hn * 2 ^ (64 - L) : Nat) : Int) := by simp
  have e2 : (ln : Int) / 2 ^ L = ((ln / 2 ^ L : Nat) : Int) := by simp
  have e3 : ((2 ^ (64 - L) : Nat) : Int) = (2 : Int) ^ (64 - L) := by simp
  have k1 : ((ln / 2 ^ L : Nat) : Int) < ((2 ^ (64 - L) : Nat) : Int) := by rw [e3, ← e2]; exact q2
  have k2 : ((hn * 2 ^ (64 - L) + ln / 2 ^ L : Nat) : Int) < ((18446744073709551616 : Nat) : Int) := by rw [Int.natCast_add, ← e1, ← e2]; omega
  rw [e1, e2, or_sum (i := 64 - L) rfl (Int.ofNat_lt.1 k1) (Int.ofNat_lt.1 k2), Int.natCast_add]
 rw [hor, u64s (x := (yn : Int) * 2 ^ (64 - L)) (by omega) hnat, u64w ((ln : Int) * 2 ^ (64 - L)), q5]
 have lt0 := Int.mul_nonneg (Int.emod_nonneg (ln : Int) (show (2 : Int) ^ L ≠ 0 by omega)) (show 0 ≤ (2 : Int) ^ (64 - L) by omega)
 have lt1 : (ln : Int) % 2 ^ L * 2 ^ (64 - L) < 18446744073709551616 := by rw [← q5]; omega
 generalize hu : (hn : Int) * 2 ^ (64 - L) + (ln : Int) / 2 ^ L = u at *
 generalize hv : (ln : Int) % 2 ^ L * 2 ^ (64 - L) = v at *
 have eqy : (yn : Int) * 2 ^ (64 - L) / ((2 : Int) ^ (64 - L)) = yn := Int.mul_ediv_cancel _ (by omega)
 have hX1 := Int.mul_ediv_mul_of_pos_left ((hn : Int) * 18446744073709551616 + ln) (yn : Int) hP
 have hX2 : ((hn : Int) * 18446744073709551616 + ln) * 2 ^ (64 - L) % ((yn : Int) * 2 ^ (64 - L)) = ((hn : Int) * 18446744073709551616 + ln) % yn * 2 ^ (64 - L) := by
  rw [Int.mul_comm _ ((2 : Int) ^ (64 - L)), Int.mul_comm (yn : Int), Int.mul_emod_mul_of_pos _ _ hP, Int.mul_comm]
 rw [q6] at hX1 hX2
 generalize hY : (yn : Int) * 2 ^ (64 - L) = Y at *
 have bs : Base (Y / 4294967296) (Y % 4294967296) u (v / 4294967296) := ⟨by omega, by omega, by omega, by omega, by omega, by omega, by omega, by omega⟩
 have f1 := Inv.first bs
 have f2 := first_lt bs
 have l3 := left_bd bs
 have g0 := dig_lo bs
 have g1 := dig_hi bs
 have hYY : Y / 4294967296 * 4294967296 + Y % 4294967296 = Y := by omega
 rw [hYY] at l3
 rw [if_neg (by omega), and32 (by omega) (by omega), and32 (by omega) (by omega)]
 have hdu : 0 ≤ u / (Y / 4294967296) := f1.q0
 have hdm := f1.hu
 have e5 : IntKind.u64.wrap (Int.tdiv u (Y / 4294967296)) = u / (Y / 4294967296) := by rw [tdiv_pos (by omega)]; exact u64s hdu (by have := f1.q1; omega)
 have e6 : IntKind.u64.wrap (u - IntKind.u64.wrap (u / (Y / 4294967296) * (Y / 4294967296))) = u - u / (Y / 4294967296) * (Y / 4294967296) := by
  have := f1.r0
  have := Int.mul_nonneg hdu (show 0 ≤ Y / 4294967296 by omega)
  rw [u64s (x := u / (Y / 4294967296) * (Y / 4294967296)) (by omega) (by omega), u64s (by omega) (by omega)]
 rw [e5, e6]
 obtain ⟨j, hj, e⟩ := loop1 bs Y (64 - L) (v % 4294967296) 2 k _ _ (by omega) f1 f2 (by have := f1.r0; omega)
 rw [e]
 obtain ⟨j, rfl⟩ : ∃ m, j = m + 1 := ⟨j - 1, by omega⟩
 simp only [PM.bits_Div64.j2]
 rw [if_neg (by omega)]
 generalize hD : dig (Y / 4294967296) (Y % 4294967296) u (v / 4294967296) = D at *
 have e7 : IntKind.u64.wrap (IntKind.u64.wrap (IntKind.u64.wrap (u * 4294967296) + v / 4294967296) - IntKind.u64.wrap (D * Y)) = u * 4294967296 + v / 4294967296 - D * Y := by
  rw [u64w, u64w, u64w, u64w]; omega
 rw [e7]
 generalize hR : u * 4294967296 + v / 4294967296 - D * Y = R at *
 have bs2 : Base (Y / 4294967296) (Y % 4294967296) R (v % 4294967296) := ⟨by omega, by omega, by omega, by omega, by omega, by omega, by omega, by omega⟩
 have f3 := Inv.first bs2
 have f4 := first_lt bs2
 have l4 := left_bd bs2
 have g2 := dig_lo bs2
 have g3 := dig_hi bs2
 rw [hYY] at l4
 have hdu2 : 0 ≤ R / (Y / 4294967296) := f3.q0
 have e8 : IntKind.u64.wrap (Int.tdiv R (Y / 4294967296)) = R / (Y / 4294967296) := by rw [tdiv_pos (by omega)]; exact u64s hdu2 (by have := f3.q1; omega)
 have e9 : IntKind.u64.wrap (R - IntKind.u64.wrap (R / (Y / 4294967296) * (Y / 4294967296))) = R - R / (Y / 4294967296) * (Y / 4294967296) := by
  have := f3.r0
  have := f3.hu
  have := Int.mul_nonneg hdu2 (show 0 ≤ Y / 4294967296 by omega)
  rw [u64s (x := R / (Y / 4294967296) * (Y / 4294967296)) (by omega) (by omega), u64s (by omega) (by omega)]
 rw [e8, e9, loop2 bs2 Y (64 - L) D (by omega) 2 j _ _ (by omega) f3 f4 (by have := f3.r0; omega)]
 generalize hE : dig (Y / 4294967296) (Y % 4294967296) R (v % 4294967296) = E at *
 have e10 : IntKind.u64.wrap (IntKind.u64.wrap (IntKind.u64.wrap (R * 4294967296) + v % 4294967296) - IntKind.u64.wrap (E * Y)) = R * 4294967296 + v % 4294967296 - E * Y := by
  rw [u64w, u64w, u64w, u64w]; omega
 have e11 : IntKind.u64.wrap (IntKind.u64.wrap (D * 4294967296) + E) = D * 4294967296 + E := by rw [u64s (x := D * 4294967296) (by omega) (by omega), u64s (by omega) (by omega)]
 rw [e10, e11]
 obtain ⟨z1, z2⟩ := two_digits (y := Y) (u := u) (d := v / 4294967296) (e := v % 4294967296) (q1 := D) (q0 := E) (by omega) hR l4.1 l4.2
 rw [show u * 18446744073709551616 + v / 4294967296 * 4294967296 + v % 4294967296 = u * 18446744073709551616 + v by omega] at z1 z2
 rw [← z2, ← z1, hX1, hX2]
 unfold shr
 rw [t1, Int.mul_ediv_cancel _ (by omega)]
end Go.Proofs.YtfmkdledofbhdaaGreat.H
namespace Go.Proofs.YtfmkdledofbhdaaGreat.H
open Go.RowKit Go.Proofs.YtfmkdledofbhdaaGreatW.PrintWords Go.Proofs.YtfmkdledofbhdaaGreatW.PrintLast
def bits_Div64.f (hi lo y : Int) : Option (Int × Int) := if 0 ≤ hi ∧ hi < y ∧ y < 18446744073709551616 ∧ 0 ≤ lo ∧ lo < 18446744073709551616 then some ((hi * 18446744073709551616 + lo) / y, (hi * 18446744073709551616 + lo) % y) else none
theorem bits_Div64.calls (a0 a1 a2 r1 r2 : Int) (w : World) (h : bits_Div64.f a0 a1 a2 = some (r1, r2)) : Calls Tryz.prog 91 #[.int .u64 a0, .int .u64 a1, .int .u64 a2] w fun e w' => e = .returned (.tuple #[.int .u64 r1, .int .u64 r2]) ∧ Drawn0 w w' := by
 unfold bits_Div64.f at h
 split at h
 ·rename_i hb
  obtain ⟨h1, h2, h3, h4, h5⟩ := hb
  exact PM.bits_Div64.calls 20 a0 a1 a2 r1 r2 w ((div64 20 (by omega) h1 h2 h3 h4 h5).trans h)
 ·cases h
end Go.Proofs.YtfmkdledofbhdaaGreat.H
/- Contracts by hand: growth: what a balance bears, exactly. -/
namespace Go.Proofs.YtfmkdledofbhdaaGreat.H
open Go.RowKit Go.Proofs.YtfmkdledofbhdaaGreatW.PrintWords Go.Proofs.YtfmkdledofbhdaaGreatW.PrintLast Go.Proofs.YtfmkdledofbhdaaGreatW.PrintMore Go.Proofs.YtfmkdledofbhdaaGreat.HW
set_option linter.unusedVariables false
set_option linter.unusedSimpArgs false
structure BearAt (w : World) (gb : Nat) (W h rest : Int) : Prop where
 c0 : w.cell? ⟨gb, 0, none⟩ = some (.int .i64 W)
 c1 : w.cell? ⟨gb, 1, none⟩ = some (.int .i64 h)
 c2 : w.cell? ⟨gb, 2, none⟩ = some (.int .i64 rest)
 f2 : w.frozen? ⟨gb, 2, none⟩ = false
 lt : gb < w.heap.size
theorem BearAt.below {w w1 : World} {gb : Nat} {W h rest : Int} (H : BearAt w gb W h rest) (hb : Below w.heap.size w w1) : BearAt w1 gb W h rest :=
 ⟨by rw [hb.cell (by exact H.lt)]; exact H.c0, by rw [hb.cell (by exact H.lt)]; exact H.c1, by rw [hb.cell (by exact H.lt)]; exact H.c2, by rw [hb.frozen (by exact H.lt)]; exact H.f2, Nat.lt_of_lt_of_le H.lt hb.size⟩
structure Good (W h rest : Int) : Prop where
 w0 : 360000000000 ≤ W
 w1 : W ≤ 133590000000000
 h0 : 0 ≤ h
 h1 : 2 * h ≤ W
 r0 : -h ≤ rest
 r1 : rest < W - h
theorem Good.next {W h rest x : Int} (G : Good W h rest) (hx : 0 ≤ x) : Good W h (Gm.r W h rest x) := by
 have := G.w0
 obtain ⟨_, h2, h3, _⟩ := Gm.step (W := W) (h := h) (rest := rest) (x := x) (by omega) hx G.r0
 exact ⟨G.w0, G.w1, G.h0, G.h1, h2, h3⟩
theorem add64_run (x y : Int) (hx : 0 ≤ x) (hy : 0 ≤ y) (w : World) : (callFunc 90 #[.int .u64 x, .int .u64 y, .int .u64 0]).run Tryz.prog w = .ok (.value (.tuple #[.int .u64 ((x + y + 0) % 18446744073709551616), .int .u64 ((x + y + 0) / 18446744073709551616)])) w := by
 rw [run_callFunc_extern Tryz.func90 (by kernel_rfl) (by kernel_rfl) (by kernel_rfl) (e := add64Entry) (by kernel_rfl), run_add64 x y 0 hx hy (by omega) (by omega)]
 rfl
theorem mul_any {x y hi lo : Int} (x0 : 0 ≤ x) (x1 : x ≤ 18446744073709551615) (y0 : 0 ≤ y) (y1 : y ≤ 18446744073709551615) (h1 : x * y / 18446744073709551616 = hi) (h2 : x * y % 18446744073709551616 = lo) (w : World) :
  Calls Tryz.prog 89 #[.int .u64 x, .int .u64 y] w fun e w' => e = .returned (.tuple #[.int .u64 hi, .int .u64 lo]) ∧ Drawn0 w w' :=
 bits_Mul64.calls x y hi lo w (by unfold bits_Mul64.f; rw [if_pos ⟨x0, x1, y0, y1⟩, h1, h2])
theorem div_any {hi lo y q r : Int} (h0 : 0 ≤ hi) (h1 : hi < y) (h2 : y < 18446744073709551616) (l0 : 0 ≤ lo) (l1 : lo < 18446744073709551616) (e1 : (hi * 18446744073709551616 + lo) / y = q) (e2 : (hi * 18446744073709551616 + lo) % y = r) (w : World) :
  Calls Tryz.prog 91 #[.int .u64 hi, .int .u64 lo, .int .u64 y] w fun e w' => e = .returned (.tuple #[.int .u64 q, .int .u64 r]) ∧ Drawn0 w w' :=
 bits_Div64.calls hi lo y q r w (by unfold bits_Div64.f; rw [if_pos ⟨h0, h1, h2, l0, l1⟩, e1, e2])
theorem parts128 {bal rate n s : Int} (a0 : 0 ≤ bal) (a1 : bal ≤ 1000000000000000) (b0 : 0 ≤ rate) (b1 : rate ≤ 1000000000) (n0 : 0 ≤ n) (n1 : n ≤ 53436000) (s0 : 0 ≤ s) (s1 : s ≤ 133590000000000) :
  ∃ high low over lo u lo3 carry : Int, bal * rate / 18446744073709551616 = high ∧ bal * rate % 18446744073709551616 = low ∧ low * n / 18446744073709551616 = over ∧ low * n % 18446744073709551616 = lo ∧ high * n = u ∧
   0 ≤ high ∧ high ≤ 100000 ∧ 0 ≤ low ∧ low ≤ 18446744073709551615 ∧ 0 ≤ over ∧ over ≤ 53436000 ∧ 0 ≤ lo ∧ lo ≤ 18446744073709551615 ∧ 0 ≤ u ∧ u ≤ 5343600000000 ∧
   (lo + s + 0) % 18446744073709551616 = lo3 ∧ (lo + s + 0) / 18446744073709551616 = carry ∧ 0 ≤ lo3 ∧ lo3 ≤ 18446744073709551615 ∧ 0 ≤ carry ∧ carry ≤ 1 ∧
   (u + over + carry) * 18446744073709551616 + lo3 = bal * rate * n + s := by
 have hP := Gm.mul_le a0 b0 a1 b1
 have g1 : 0 ≤ bal * rate / 18446744073709551616 ∧ bal * rate / 18446744073709551616 ≤ 100000 := by omega
 have g2 : 0 ≤ bal * rate % 18446744073709551616 ∧ bal * rate % 18446744073709551616 ≤ 18446744073709551615 := by omega
 have hU := Gm.mul_le g1.1 n0 g1.2 n1
 have hV := Gm.mul_le g2.1 n0 g2.2 n1
 have e : bal * rate * n = bal * rate / 18446744073709551616 * n * 18446744073709551616 + bal * rate % 18446744073709551616 * n := by
  rw [Int.mul_right_comm _ n, ← Int.add_mul]
  congr 1
  omega
 refine ⟨_, _, _, _, _, _, _, rfl, rfl, rfl, rfl, rfl, g1.1, g1.2, g2.1, g2.2, ?_, ?_, ?_, ?_, hU.1, by omega, rfl, rfl, ?_, ?_, ?_, ?_, ?_⟩ <;> omega
end Go.Proofs.YtfmkdledofbhdaaGreat.H
/- Contracts by hand: growth: borne. -/
namespace Go.Proofs.YtfmkdledofbhdaaGreat.H
open Go.RowKit Go.Proofs.YtfmkdledofbhdaaGreatW.PrintWords Go.Proofs.YtfmkdledofbhdaaGreatW.PrintLast Go.Proofs.YtfmkdledofbhdaaGreatW.PrintMore Go.Proofs.YtfmkdledofbhdaaGreat.HW
set_option linter.unusedVariables false
set_option linter.unusedSimpArgs false
set_option maxHeartbeats 1000000 in
theorem borne_yes {gb : Nat} {W h rest bal rate n : Int} {w : World} (A : BearAt w gb W h rest) (G : Good W h rest) (hm : Gm.may bal rate n) (hq : Gm.q W h rest (bal * rate * n) ≤ 1000000000000000) :
  Calls Tryz.prog 72 #[.pointer (some ⟨gb, 0, none⟩), .int .u64 bal, .int .u64 rate, .int .u64 n] w fun e w' => e = .returned (.tuple #[.int .i64 (Gm.q W h rest (bal * rate * n)), .int .i64 (Gm.r W h rest (bal * rate * n))]) ∧ Drawn0 w w' := by
 obtain ⟨a0, a1, b0, b1, n0, n1⟩ := hm
 obtain ⟨w0, w1, h0, h1, r0, r1⟩ := G
 obtain ⟨c0, c1, c2, f2, lt⟩ := A
 obtain ⟨high, low, over, lo, u, lo3, carry, e1, e2, e3, e4, e5, p1, p2, p3, p4, p5, p6, p7, p8, p9, p10, e6, e7, p11, p12, p13, p14, tot⟩ := parts128 a0 a1 b0 b1 n0 n1 (show 0 ≤ rest + h by omega) (by omega)
 obtain ⟨st1, st2, st3, st4⟩ := Gm.step (W := W) (h := h) (rest := rest) (x := bal * rate * n) (by omega) (Int.mul_nonneg (Int.mul_nonneg a0 b0) n0) r0
 have eq1 : ((u + over + carry) * 18446744073709551616 + lo3) / W = Gm.q W h rest (bal * rate * n) := by rw [tot]; rfl
 have eq2 : ((u + over + carry) * 18446744073709551616 + lo3) % W = Gm.r W h rest (bal * rate * n) + h := by rw [tot]; unfold Gm.r; omega
 have hlt : u + over + carry < W := by
  rcases Int.lt_or_le (u + over + carry) W with hh | hh
  ·exact hh
  ·exfalso
   have hh2 : 18446744073709551616 ≤ Gm.q W h rest (bal * rate * n) := by
    rw [← eq1]
    refine (Int.le_ediv_iff_mul_le (by omega)).2 ?_
    omega
   omega
 generalize Gm.q W h rest (bal * rate * n) = q at *
 generalize Gm.r W h rest (bal * rate * n) = r at *
 have U := Aside0.mk e5
 have E1 := Aside0.mk e1
 have E2 := Aside0.mk e2
 have E3 := Aside0.mk e3
 have E4 := Aside0.mk e4
 have E6 := Aside0.mk e6
 have E7 := Aside0.mk e7
 have Q1 := Aside0.mk eq1
 have Q2 := Aside0.mk eq2
 clear e1 e2 e3 e4 e6 e7 eq1 eq2 tot st4
 go_enter Tryz.func72, Tryz.ntmps72
 go_wp2_with fail
 refine (mul_any a0 (by omega) b0 (by omega) E1.out E2.out _).mono ?_
 rintro e w1 ⟨rfl, ⟨m1, rfl⟩⟩
 go_wp2_with fail
 refine (mul_any p3 p4 n0 (by omega) E3.out E4.out _).mono ?_
 rintro e w1 ⟨rfl, ⟨m2, rfl⟩⟩
 go_wp2_with fail
 obtain ⟨s, hs⟩ : ∃ s, rest + h = s := ⟨_, rfl⟩
 have hi64 : IntKind.i64.wrap (rest + h) = s := by rw [hs]; exact IntWalk.i64_in _ (by omega)
 have hu64 : IntKind.u64.wrap s = s := IntWalk.u64_in _ (by omega)
 have hadd : ∀ w : World, (callFunc 90 #[.int .u64 lo, .int .u64 s, .int .u64 0]).run Tryz.prog w = .ok (.value (.tuple #[.int .u64 lo3, .int .u64 carry])) w := fun w => by rw [add64_run lo s (by omega) (by omega) w, ← hs, E6.out, E7.out]
 clear hs
 go_quiet (fail)
 clear hi64 hu64 hadd
 have hWu : IntKind.u64.wrap W = W := IntWalk.u64_in _ (by omega)
 go_wp2_with fail
 refine (div_any (by omega) (by omega) (by omega) (by omega) (by omega) Q1.out Q2.out _).mono ?_
 rintro e w1 ⟨rfl, ⟨m3, rfl⟩⟩
 have hq2 : decide (1000000000000000 < q) = false := decide_eq_false (by omega)
 go_wp2_with fail
 have k1 : IntKind.i64.wrap q = q := IntWalk.i64_in _ (by omega)
 have k2 : IntKind.i64.wrap (r + h) = r + h := IntWalk.i64_in _ (by omega)
 have k3 : IntKind.i64.wrap (r + h - h) = r := by rw [show r + h - h = r by omega]; exact IntWalk.i64_in _ (by omega)
 go_quiet (fail)
 go_wp2_with fail
 go_ret2
 exact ⟨rfl, ⟨_, by first | rfl | (simp only [World.drewN_drewN]; rfl)⟩⟩
set_option maxHeartbeats 1000000 in
theorem borne_no {gb : Nat} {W h rest bal rate n : Int} {w : World} (A : BearAt w gb W h rest) (G : Good W h rest) (hm : Gm.may bal rate n) (hq : 1000000000000000 < Gm.q W h rest (bal * rate * n)) :
  Calls Tryz.prog 72 #[.pointer (some ⟨gb, 0, none⟩), .int .u64 bal, .int .u64 rate, .int .u64 n] w fun e w' => e = .panicked [{ v := .iface 121 (.int .i64 3), recovered := false }] ∧ Drawn0 w w' := by
 obtain ⟨a0, a1, b0, b1, n0, n1⟩ := hm
 obtain ⟨w0, w1, h0, h1, r0, r1⟩ := G
 obtain ⟨c0, c1, c2, f2, lt⟩ := A
 obtain ⟨high, low, over, lo, u, lo3, carry, e1, e2, e3, e4, e5, p1, p2, p3, p4, p5, p6, p7, p8, p9, p10, e6, e7, p11, p12, p13, p14, tot⟩ := parts128 a0 a1 b0 b1 n0 n1 (show 0 ≤ rest + h by omega) (by omega)
 obtain ⟨st1, st2, st3, st4⟩ := Gm.step (W := W) (h := h) (rest := rest) (x := bal * rate * n) (by omega) (Int.mul_nonneg (Int.mul_nonneg a0 b0) n0) r0
 have eq1 : ((u + over + carry) * 18446744073709551616 + lo3) / W = Gm.q W h rest (bal * rate * n) := by rw [tot]; rfl
 have eq2 : ((u + over + carry) * 18446744073709551616 + lo3) % W = Gm.r W h rest (bal * rate * n) + h := by rw [tot]; unfold Gm.r; omega
 have hqm : u + over + carry < W → Gm.q W h rest (bal * rate * n) < 18446744073709551616 := by
  intro hh
  rw [← eq1]
  refine Int.ediv_lt_of_lt_mul (by omega) ?_
  omega
 generalize Gm.q W h rest (bal * rate * n) = q at *
 generalize Gm.r W h rest (bal * rate * n) = r at *
 have U := Aside0.mk e5
 have E1 := Aside0.mk e1
 have E2 := Aside0.mk e2
 have E3 := Aside0.mk e3
 have E4 := Aside0.mk e4
 have E6 := Aside0.mk e6
 have E7 := Aside0.mk e7
 have Q1 := Aside0.mk eq1
 have Q2 := Aside0.mk eq2
 have QM := Aside0.mk hqm
 clear e1 e2 e3 e4 e6 e7 eq1 eq2 tot st4 hqm
 have hadd0 := Aside0.mk (fun (s : Int) (hs : rest + h = s) (w : World) => show (callFunc 90 #[.int .u64 lo, .int .u64 s, .int .u64 0]).run Tryz.prog w = .ok (.value (.tuple #[.int .u64 lo3, .int .u64 carry])) w by rw [add64_run lo s (by omega) (by omega) w, ← hs, E6.out, E7.out])
 by_cases hlt : u + over + carry < W
 ·have hqm := QM.out hlt
  go_enter Tryz.func72, Tryz.ntmps72
  go_wp2_with fail
  refine (mul_any a0 (by omega) b0 (by omega) E1.out E2.out _).mono ?_
  rintro e w1 ⟨rfl, ⟨m1, rfl⟩⟩
  go_wp2_with fail
  refine (mul_any p3 p4 n0 (by omega) E3.out E4.out _).mono ?_
  rintro e w1 ⟨rfl, ⟨m2, rfl⟩⟩
  go_wp2_with fail
  obtain ⟨s, hs⟩ : ∃ s, rest + h = s := ⟨_, rfl⟩
  have hi64 : IntKind.i64.wrap (rest + h) = s := by rw [hs]; exact IntWalk.i64_in _ (by omega)
  have hu64 : IntKind.u64.wrap s = s := IntWalk.u64_in _ (by omega)
  have hadd := hadd0.out s hs
  clear hs
  go_quiet (fail)
  clear hi64 hu64 hadd
  have hWu : IntKind.u64.wrap W = W := IntWalk.u64_in _ (by omega)
  go_wp2_with fail
  refine (div_any (by omega) (by omega) (by omega) (by omega) (by omega) Q1.out Q2.out _).mono ?_
  rintro e w1 ⟨rfl, ⟨m3, rfl⟩⟩
  have hq2 : decide (1000000000000000 < q) = true := decide_eq_true (by omega)
  go_wp2_with fail
  exact ⟨rfl, rfl, ⟨_, by first | rfl | (simp only [World.drewN_drewN]; rfl)⟩⟩
 ·go_enter Tryz.func72, Tryz.ntmps72
  go_wp2_with fail
  refine (mul_any a0 (by omega) b0 (by omega) E1.out E2.out _).mono ?_
  rintro e w1 ⟨rfl, ⟨m1, rfl⟩⟩
  go_wp2_with fail
  refine (mul_any p3 p4 n0 (by omega) E3.out E4.out _).mono ?_
  rintro e w1 ⟨rfl, ⟨m2, rfl⟩⟩
  go_wp2_with fail
  obtain ⟨s, hs⟩ : ∃ s, rest + h = s := ⟨_, rfl⟩
  have hi64 : IntKind.i64.wrap (rest + h) = s := by rw [hs]; exact IntWalk.i64_in _ (by omega)
  have hu64 : IntKind.u64.wrap s = s := IntWalk.u64_in _ (by omega)
  have hadd := hadd0.out s hs
  clear hs
  go_quiet (fail)
  clear hi64 hu64 hadd
  have hWu : IntKind.u64.wrap W = W := IntWalk.u64_in _ (by omega)
  go_wp2_with fail
  exact ⟨rfl, rfl, ⟨_, by first | rfl | (simp only [World.drewN_drewN]; rfl)⟩⟩
end Go.Proofs.YtfmkdledofbhdaaGreat.H
/- Contracts by hand: parts of a year: what is thrown, and caught. -/
namespace Go.Proofs.YtfmkdledofbhdaaGreat.Fr
open Go.RowKit Go.Proofs.YtfmkdledofbhdaaGreatW.PrintWords Go.Proofs.YtfmkdledofbhdaaGreatW.PrintLast Go.Proofs.YtfmkdledofbhdaaGreatW.PrintMore
set_option linter.unusedVariables false
set_option linter.unusedSimpArgs false
theorem rest_plain {P : Program} {c : Code} {Q0 : Exit → Act → List Frame → World → Prop} {a : Act} {cs : List Frame} {w : World}
  (h : ∀ Q : Exit → Act → World → Prop, Aside0 (∀ e a' w', Q0 e a' cs w' → Q e a' w') → c.wp P Q a w) : c.wpS P Q0 a cs w :=
 wpS_of_wp (h _ ⟨fun _ _ _ x => x⟩)
structure Res2 (w W : World) (x y : Value) : Prop where
 below : Below w.heap.size w W
 c0 : W.cell? ⟨w.heap.size, 0, none⟩ = some x
 c1 : W.cell? ⟨w.heap.size + 1, 0, none⟩ = some y
 f0 : W.frozen? ⟨w.heap.size, 0, none⟩ = false
 f1 : W.frozen? ⟨w.heap.size + 1, 0, none⟩ = false
 size : w.heap.size + 2 ≤ W.heap.size
theorem Res2.made (w : World) (x y : Value) (t u : TypeId) : Res2 w ((w.alloc (.cells #[x] t)).alloc (.cells #[y] u)) x y := by
 refine ⟨((Below.refl _ _).alloc (Nat.le_refl _) _).alloc (by simp) _, ?_, ?_, ?_, ?_, ?_⟩ <;> simp [go_sem]
theorem Res2.step {w W W' : World} {x y : Value} (h : Res2 w W x y) (hb : Below W.heap.size W W') : Res2 w W' x y := by
 have hs := h.size
 refine ⟨h.below.trans (hb.mono (by omega)), ?_, ?_, ?_, ?_, Nat.le_trans h.size hb.size⟩
 ·rw [hb.cell (by simp; omega)]; exact h.c0
 ·rw [hb.cell (by simp; omega)]; exact h.c1
 ·rw [hb.frozen (by simp; omega)]; exact h.f0
 ·rw [hb.frozen (by simp; omega)]; exact h.f1
theorem Res2.drawn {w W W' : World} {x y : Value} (h : Res2 w W x y) (hb : Drawn0 W W') : Res2 w W' x y := h.step hb.below
theorem Res2.put {w W : World} {x y : Value} (h : Res2 w W x y) (u v : Value) : Below w.heap.size w ((W.setCell ⟨w.heap.size, 0, none⟩ u).setCell ⟨w.heap.size + 1, 0, none⟩ v) :=
 (h.below.setCell (by simp) _).setCell (by simp) _
theorem frac_idle (pv pe : Addr) (w : World) :
  CallsD Tryz.prog 68 #[.pointer (some pv), .pointer (some pe)] .returning w fun e u' w' => e = .returned (.tuple #[]) ∧ u' = .returning ∧ w' = w := by
 refine callsD_of_wpS Tryz.func68 rfl fun c₀ cs hu => ?_
 simp only [Tryz.ntmps68, List.size_toArray, List.length_cons, List.length_nil, Nat.reduceAdd, Nat.reduceSub, Array.replicate_succ, Array.replicate_zero, List.push_toArray, List.append_toArray, List.nil_append, List.cons_append]
 apply wpS_seq
 apply wpS_region
 simp [wpOpsS, go_sem, recoverD, hu, Exit.thenS]
 refine rest_plain fun Q HQ => ?_
 go_wp2
 refine HQ.out _ _ _ ?_
 clear HQ
 simp [bodyPostS, results, Tryz.results68, hu]
 cases c₀
 simp_all
theorem frac_thrown (pv pe : Addr) (x y : Int) (c : Int) (older : List PanicEntry) (w : World) (hne : pv.block ≠ pe.block) (hx : w.cell? pv = some (.int .i64 x)) (hy : w.cell? pe = some (.int .i64 y)) (fx : w.frozen? pv = false) (fy : w.frozen? pe = false) :
  CallsD Tryz.prog 68 #[.pointer (some pv), .pointer (some pe)] (.panicking ({ v := .iface 135 (.int .i64 c), recovered := false } :: older)) w fun e u' w' =>
   e = .returned (.tuple #[]) ∧ u' = .panicking ({ v := .iface 135 (.int .i64 c), recovered := true } :: older) ∧ w' = (w.setCell pv (.int .i64 0)).setCell pe (.int .i64 c) := by
 refine callsD_of_wpS Tryz.func68 rfl fun c₀ cs hu => ?_
 simp only [Tryz.ntmps68, List.size_toArray, List.length_cons, List.length_nil, Nat.reduceAdd, Nat.reduceSub, Array.replicate_succ, Array.replicate_zero, List.push_toArray, List.append_toArray, List.nil_append, List.cons_append]
 apply wpS_seq
 apply wpS_region
 simp [wpOpsS, go_sem, recoverD, hu, Exit.thenS]
 refine rest_plain fun Q HQ => ?_
 have hta : ∀ w, (Instr.typeAssert (.iface 135 (.int .i64 c)) 20 135 true).run Tryz.prog w = .ok (.tuple #[.int .i64 c, .bool true]) w := fun _ => by kernel_rfl
 have hy2 : (w.setCell pv (.int .i64 0)).cell? pe = some (.int .i64 y) := by rw [World.cell?_setCell_other]; exact hy; exact fun e => hne (by rw [e])
 go_wp2
 refine HQ.out _ _ _ ?_
 clear HQ
 simp [bodyPostS, results, Tryz.results68, hu]
def parts (c : Int) : Int × Int := if c = 1 then (360, 0) else if c = 2 then (365, 0) else if c = 3 then (133590, 0) else (0, 1)
theorem year_yes {c v : Int} (h : parts c = (v, 0)) (w : World) : Calls Tryz.prog 69 #[.int .i64 c] w fun e w' => e = .returned (.int .i64 v) ∧ Drawn0 w w' := by
 unfold parts at h
 by_cases h1 : c = 1
 ·subst h1
  rw [if_pos rfl] at h
  obtain ⟨rfl, _⟩ := Prod.mk.inj h
  clear h
  go_enter Tryz.func69, Tryz.ntmps69
  go_wp2
  go_ret
  exact ⟨rfl, Drawn0.refl _⟩
 ·rw [if_neg h1] at h
  by_cases h2 : c = 2
  ·subst h2
   rw [if_pos rfl] at h
   obtain ⟨rfl, _⟩ := Prod.mk.inj h
   clear h h1
   go_enter Tryz.func69, Tryz.ntmps69
   go_wp2
   go_ret
   exact ⟨rfl, Drawn0.refl _⟩
  ·rw [if_neg h2] at h
   by_cases h3 : c = 3
   ·subst h3
    rw [if_pos rfl] at h
    obtain ⟨rfl, _⟩ := Prod.mk.inj h
    clear h h1 h2
    go_enter Tryz.func69, Tryz.ntmps69
    go_wp2
    go_ret
    exact ⟨rfl, Drawn0.refl _⟩
   ·rw [if_neg h3] at h
    cases h
theorem year_no {c : Int} (h1 : (c == 1) = false) (h2 : (c == 2) = false) (h3 : (c == 3) = false) (w : World) : Calls Tryz.prog 69 #[.int .i64 c] w fun e w' => e = .panicked [{ v := .iface 135 (.int .i64 1), recovered := false }] ∧ w' = w := by
 go_enter Tryz.func69, Tryz.ntmps69
 go_wp2
 exact ⟨rfl, rfl, rfl⟩
theorem Parts_yes {c v : Int} (h : parts c = (v, 0)) (w : World) : Calls Tryz.prog 46 #[.int .i64 c] w fun e w' => e = .returned (.tuple #[.int .i64 v, .int .i64 0]) ∧ Below w.heap.size w w' := by
 have R0 := Aside0.mk (Res2.made w (.int .i64 0) (.int .i64 0) 2 33)
 have HY := Aside0.mk h
 clear h
 go_enter_defers Tryz.func46, Tryz.ntmps46
 go_wp2_with fail
 refine (year_yes HY.out _).mono ?_
 rintro e w1 ⟨rfl, hd⟩
 have R1 := R0.out.drawn hd
 have c0 := R1.c0
 have c1 := R1.c1
 have f0 := R1.f0
 have f1 := R1.f1
 have RR := Aside0.mk R1
 clear hd R1 R0
 go_wp2
 refine leaves_cons (f := 68) (args := #[.pointer (some ⟨w.heap.size, 0, none⟩), .pointer (some ⟨w.heap.size + 1, 0, none⟩)]) (by simp) (by simp [go_sem]) ?_
 refine (frac_idle _ _ _).mono ?_
 rintro e u' w'' ⟨rfl, rfl, rfl⟩
 simp [Leaves, settle, results, Tryz.results46, go_sem, c0, c1]
 exact RR.out.put _ _
theorem Parts_no {c : Int} (h1 : (c == 1) = false) (h2 : (c == 2) = false) (h3 : (c == 3) = false) (w : World) : Calls Tryz.prog 46 #[.int .i64 c] w fun e w' => e = .returned (.tuple #[.int .i64 0, .int .i64 1]) ∧ Below w.heap.size w w' := by
 have R0 := Aside0.mk (Res2.made w (.int .i64 0) (.int .i64 0) 2 33)
 go_enter_defers Tryz.func46, Tryz.ntmps46
 go_wp2_with fail
 refine (year_no h1 h2 h3 _).mono ?_
 rintro e w1 ⟨rfl, rfl⟩
 refine leaves_cons (f := 68) (args := #[.pointer (some ⟨w.heap.size, 0, none⟩), .pointer (some ⟨w.heap.size + 1, 0, none⟩)]) (by simp) (by simp [go_sem]) ?_
 refine (frac_thrown _ _ 0 0 1 [] _ (by simp) R0.out.c0 R0.out.c1 R0.out.f0 R0.out.f1).mono ?_
 rintro e u' w'' ⟨rfl, rfl, rfl⟩
 have c0 := R0.out.c0
 have c1 := R0.out.c1
 simp [Leaves, settle, results, Tryz.results46, go_sem, c0, c1]
 first | exact R0.out.put _ _ | exact ((Below.refl _ _).alloc (Nat.le_refl _) _).alloc (by simp) _
theorem parts_cases (c : Int) : (∃ v, parts c = (v, 0) ∧ (c = 1 ∨ c = 2 ∨ c = 3)) ∨ (parts c = (0, 1) ∧ (c == 1) = false ∧ (c == 2) = false ∧ (c == 3) = false) := by
 unfold parts
 by_cases h1 : c = 1
 ·left; exact ⟨360, by simp [h1], Or.inl h1⟩
 by_cases h2 : c = 2
 ·left; exact ⟨365, by simp [h2], Or.inr (Or.inl h2)⟩
 by_cases h3 : c = 3
 ·left; exact ⟨133590, by simp [h3], Or.inr (Or.inr h3)⟩
 ·right; simp [h1, h2, h3]
theorem parts_any (c : Int) (w : World) : Calls Tryz.prog 46 #[.int .i64 c] w fun e w' => e = .returned (.tuple #[.int .i64 (parts c).1, .int .i64 (parts c).2]) ∧ Below w.heap.size w w' := by
 rcases parts_cases c with ⟨v, hp, _⟩ | ⟨hp, h1, h2, h3⟩
 ·rw [hp]; exact Parts_yes hp w
 ·rw [hp]; exact Parts_no h1 h2 h3 w
end Go.Proofs.YtfmkdledofbhdaaGreat.Fr
/- Contracts by hand: growth: a bearer made, its rest, a fork. -/
namespace Go.Proofs.YtfmkdledofbhdaaGreat.H
open Go.RowKit Go.Proofs.YtfmkdledofbhdaaGreatW.PrintWords Go.Proofs.YtfmkdledofbhdaaGreatW.PrintLast Go.Proofs.YtfmkdledofbhdaaGreatW.PrintMore Go.Proofs.YtfmkdledofbhdaaGreat.HW
set_option linter.unusedVariables false
set_option linter.unusedSimpArgs false
theorem good_new (c r : Int) : Good (Gm.whole c) (Gm.half c r) 0 := by
 obtain ⟨h1, h2, h3⟩ := Gm.whole_bd c
 obtain ⟨h4, h5⟩ := Gm.half_bd c r
 exact ⟨h1, h2, h4, h5, by omega, by omega⟩
def Newly (c r : Int) (w : World) (e : Ending) (w' : World) : Prop := Below w.heap.size w w' ∧ ∃ gb, w.heap.size ≤ gb ∧ e = .returned (.tuple #[.pointer (some ⟨gb, 0, none⟩), .int .i64 0]) ∧ BearAt w' gb (Gm.whole c) (Gm.half c r) 0
theorem bnew_any {c r : Int} (hc : c = 1 ∨ c = 2 ∨ c = 3) (hr : r = 1 ∨ r = 3) (w : World) : Calls Tryz.prog 18 #[.int .i64 c, .int .i64 r] w (Newly c r w) := by
 obtain ⟨v, hp, hw, v0, v1⟩ : ∃ v, Fr.parts c = (v, 0) ∧ Gm.whole c = 1000000000 * v ∧ 360 ≤ v ∧ v ≤ 133590 := by
  rcases hc with rfl | rfl | rfl <;> exact ⟨_, rfl, rfl, by decide, by decide⟩
 have HP := Aside0.mk (fun w => by have := Fr.parts_any c w; rw [hp] at this; exact this)
 have HW := Aside0.mk hw
 have HH := Aside0.mk (show Gm.half c 1 = 1000000000 * v / 2 by unfold Gm.half; rw [if_pos rfl, hw])
 have HH3 := Aside0.mk (show Gm.half c 3 = 0 from rfl)
 clear hp hc hw
 rcases hr with rfl | rfl
 ·go_enter Tryz.func18, Tryz.ntmps18
  go_wp2_with fail
  refine (HP.out _).mono ?_
  rintro e w1 ⟨rfl, hb⟩
  have HB := Aside0.mk hb
  clear hb
  go_wp2_with fail
  go_ret2
  refine ⟨HB.out.alloc HB.out.size _, w1.heap.size, HB.out.size, rfl, ?_⟩
  rw [HW.out, HH.out]
  constructor <;> simp [go_sem]
 ·go_enter Tryz.func18, Tryz.ntmps18
  go_wp2_with fail
  refine (HP.out _).mono ?_
  rintro e w1 ⟨rfl, hb⟩
  have HB := Aside0.mk hb
  clear hb
  go_wp2_with fail
  go_ret2
  refine ⟨HB.out.alloc HB.out.size _, w1.heap.size, HB.out.size, rfl, ?_⟩
  rw [HW.out, HH3.out]
  constructor <;> simp [go_sem]
end Go.Proofs.YtfmkdledofbhdaaGreat.H
/- Contracts by hand: growth: what a balance bears, and the rest then; or why nothing. -/
namespace Go.Proofs.YtfmkdledofbhdaaGreat.H
open Go.RowKit Go.Proofs.YtfmkdledofbhdaaGreatW.PrintWords Go.Proofs.YtfmkdledofbhdaaGreatW.PrintLast Go.Proofs.YtfmkdledofbhdaaGreatW.PrintMore Go.Proofs.YtfmkdledofbhdaaGreat.HW
set_option linter.unusedVariables false
set_option linter.unusedSimpArgs false
theorem BearAt.but {w w1 : World} {gb g2 : Nat} {W h rest : Int} (H : BearAt w g2 W h rest) (hb : But gb w w1) (hn : g2 ≠ gb) : BearAt w1 g2 W h rest :=
 ⟨by rw [hb.cell (by exact H.lt) (by exact hn)]; exact H.c0, by rw [hb.cell (by exact H.lt) (by exact hn)]; exact H.c1, by rw [hb.cell (by exact H.lt) (by exact hn)]; exact H.c2, by rw [hb.frozen (by exact H.lt) (by exact hn)]; exact H.f2, Nat.lt_of_lt_of_le H.lt hb.size⟩
theorem bcaught_idle (pv pe : Addr) (w : World) :
  CallsD Tryz.prog 71 #[.pointer (some pv), .pointer (some pe)] .returning w fun e u' w' => e = .returned (.tuple #[]) ∧ u' = .returning ∧ w' = w := by
 refine callsD_of_wpS Tryz.func71 rfl fun c₀ cs hu => ?_
 simp only [Tryz.ntmps71, List.size_toArray, List.length_cons, List.length_nil, Nat.reduceAdd, Nat.reduceSub, Array.replicate_succ, Array.replicate_zero, List.push_toArray, List.append_toArray, List.nil_append, List.cons_append]
 apply wpS_seq
 apply wpS_region
 simp [wpOpsS, go_sem, recoverD, hu, Exit.thenS]
 refine rest_plain fun Q HQ => ?_
 go_wp2
 refine HQ.out _ _ _ ?_
 clear HQ
 simp [bodyPostS, results, Tryz.results71, hu]
 cases c₀
 simp_all
theorem bcaught_thrown (pv pe : Addr) (x y : Int) (c : Int) (older : List PanicEntry) (w : World) (hne : pv.block ≠ pe.block) (hx : w.cell? pv = some (.int .i64 x)) (hy : w.cell? pe = some (.int .i64 y)) (fx : w.frozen? pv = false) (fy : w.frozen? pe = false) :
  CallsD Tryz.prog 71 #[.pointer (some pv), .pointer (some pe)] (.panicking ({ v := .iface 121 (.int .i64 c), recovered := false } :: older)) w fun e u' w' =>
   e = .returned (.tuple #[]) ∧ u' = .panicking ({ v := .iface 121 (.int .i64 c), recovered := true } :: older) ∧ w' = (w.setCell pv (.int .i64 0)).setCell pe (.int .i64 c) := by
 refine callsD_of_wpS Tryz.func71 rfl fun c₀ cs hu => ?_
 simp only [Tryz.ntmps71, List.size_toArray, List.length_cons, List.length_nil, Nat.reduceAdd, Nat.reduceSub, Array.replicate_succ, Array.replicate_zero, List.push_toArray, List.append_toArray, List.nil_append, List.cons_append]
 apply wpS_seq
 apply wpS_region
 simp [wpOpsS, go_sem, recoverD, hu, Exit.thenS]
 refine rest_plain fun Q HQ => ?_
 have hta : ∀ w, (Instr.typeAssert (.iface 121 (.int .i64 c)) 20 121 true).run Tryz.prog w = .ok (.tuple #[.int .i64 c, .bool true]) w := fun _ => by kernel_rfl
 have hy2 : (w.setCell pv (.int .i64 0)).cell? pe = some (.int .i64 y) := by rw [World.cell?_setCell_other]; exact hy; exact fun e => hne (by rw [e])
 go_wp2
 refine HQ.out _ _ _ ?_
 clear HQ
 simp [bodyPostS, results, Tryz.results71, hu]
theorem bear_arg {gb : Nat} {bal rate n : Int} (hm : ¬ Gm.may bal rate n) (w : World) : Calls Tryz.prog 47 #[.pointer (some ⟨gb, 0, none⟩), .int .i64 bal, .int .i64 rate, .int .i64 n] w fun e w' => e = .returned (.tuple #[.int .i64 0, .int .i64 1]) ∧ Below w.heap.size w w' := by
 have R0 := Aside0.mk (Fr.Res2.made w (.int .i64 0) (.int .i64 0) 2 33)
 have hno : bal < 0 ∨ (0 ≤ bal ∧ 1000000000000000 < bal) ∨ (0 ≤ bal ∧ bal ≤ 1000000000000000 ∧ rate < 0) ∨ (0 ≤ bal ∧ bal ≤ 1000000000000000 ∧ 0 ≤ rate ∧ 1000000000 < rate) ∨ (0 ≤ bal ∧ bal ≤ 1000000000000000 ∧ 0 ≤ rate ∧ rate ≤ 1000000000 ∧ n < 0) ∨ (0 ≤ bal ∧ bal ≤ 1000000000000000 ∧ 0 ≤ rate ∧ rate ≤ 1000000000 ∧ 0 ≤ n ∧ 53436000 < n) := by
  unfold Gm.may at hm
  omega
 clear hm
 rcases hno with h1 | ⟨h1, h2⟩ | ⟨h1, h2, h3⟩ | ⟨h1, h2, h3, h4⟩ | ⟨h1, h2, h3, h4, h5⟩ | ⟨h1, h2, h3, h4, h5, h6⟩
 all_goals
  go_enter_defers Tryz.func47, Tryz.ntmps47
  go_wp2_with fail
  refine leaves_cons (f := 71) (args := #[.pointer (some ⟨w.heap.size, 0, none⟩), .pointer (some ⟨w.heap.size + 1, 0, none⟩)]) (by simp) (by simp [go_sem]) ?_
  refine (bcaught_thrown _ _ 0 0 1 [] _ (by simp) R0.out.c0 R0.out.c1 R0.out.f0 R0.out.f1).mono ?_
  rintro e u' w'' ⟨rfl, rfl, rfl⟩
  have c0 := R0.out.c0
  have c1 := R0.out.c1
  simp [Leaves, settle, results, Tryz.results47, go_sem, c0, c1]
  first | exact R0.out.put _ _ | exact ((Below.refl _ _).alloc (Nat.le_refl _) _).alloc (by simp) _
def Bore (gb : Nat) (W h : Int) (x : Int × Int × Int) (w : World) (e : Ending) (w' : World) : Prop :=
 e = .returned (.tuple #[.int .i64 x.1, .int .i64 x.2.1]) ∧ BearAt w' gb W h x.2.2 ∧ But gb w w'
set_option maxHeartbeats 1000000 in
theorem bear_yes {gb : Nat} {W h rest bal rate n : Int} {w : World} (A : BearAt w gb W h rest) (G : Good W h rest) (hm : Gm.may bal rate n) (hq : Gm.q W h rest (bal * rate * n) ≤ 1000000000000000) :
  Calls Tryz.prog 47 #[.pointer (some ⟨gb, 0, none⟩), .int .i64 bal, .int .i64 rate, .int .i64 n] w (Bore gb W h (Gm.q W h rest (bal * rate * n), 0, Gm.r W h rest (bal * rate * n)) w) := by
 have R0 := Aside0.mk (Fr.Res2.made w (.int .i64 0) (.int .i64 0) 2 33)
 have HB := Aside0.mk (fun (w1 : World) (A1 : BearAt w1 gb W h rest) => borne_yes A1 G hm hq)
 have lt := A.lt
 have hne : ¬ gb = w.heap.size := by omega
 have hne1 : ¬ gb = w.heap.size + 1 := by omega
 obtain ⟨a0, a1, b0, b1, n0, n1⟩ := hm
 have u1 : IntKind.u64.wrap bal = bal := IntWalk.u64_in _ (by omega)
 have u2 : IntKind.u64.wrap rate = rate := IntWalk.u64_in _ (by omega)
 have u3 : IntKind.u64.wrap n = n := IntWalk.u64_in _ (by omega)
 have AA := Aside0.mk A
 clear hq G A
 generalize Gm.q W h rest (bal * rate * n) = q at *
 generalize Gm.r W h rest (bal * rate * n) = r at *
 go_enter_defers Tryz.func47, Tryz.ntmps47
 go_wp2_with fail
 refine (HB.out _ (AA.out.below R0.out.below)).mono ?_
 rintro e w1 ⟨rfl, hd⟩
 have R1 := R0.out.drawn hd
 have A1 := (AA.out.below R0.out.below).below hd.below
 have BU := Aside0.mk (But.of (gb := gb) R1.below)
 have c0 := R1.c0
 have c1 := R1.c1
 have f0 := R1.f0
 have f1 := R1.f1
 have g2 := A1.c2
 have gf := A1.f2
 have RR := Aside0.mk R1
 have AB := Aside0.mk A1
 clear hd R0 R1 A1
 go_wp2
 refine leaves_cons (f := 71) (args := #[.pointer (some ⟨w.heap.size, 0, none⟩), .pointer (some ⟨w.heap.size + 1, 0, none⟩)]) (by simp) (by simp [go_sem]) ?_
 refine (bcaught_idle _ _ _).mono ?_
 rintro e u' w'' ⟨rfl, rfl, rfl⟩
 simp [Leaves, settle, results, Tryz.results47, go_sem, c0, c1]
 obtain ⟨k0, k1, k2, k3, k4⟩ := AB.out
 refine ⟨rfl, ⟨?_, ?_, ?_, ?_, ?_⟩, (((BU.out.setCell (Or.inr (Nat.le_refl _)) _).setCell (Or.inl rfl) _).setCell (Or.inr (Nat.le_refl _)) _).setCell (Or.inr (by simp)) _⟩
 ·rw [World.cell?_setCell_other _ _ _ _ (by first | (simp; done) | (simp; omega)), World.cell?_setCell_other _ _ _ _ (by first | (simp; done) | (simp; omega)), World.cell?_setCell_other _ _ _ _ (by simp), World.cell?_setCell_other _ _ _ _ (by first | (simp; done) | (simp; omega))]; exact k0
 ·rw [World.cell?_setCell_other _ _ _ _ (by first | (simp; done) | (simp; omega)), World.cell?_setCell_other _ _ _ _ (by first | (simp; done) | (simp; omega)), World.cell?_setCell_other _ _ _ _ (by simp), World.cell?_setCell_other _ _ _ _ (by first | (simp; done) | (simp; omega))]; exact k1
 ·rw [World.cell?_setCell_other _ _ _ _ (by first | (simp; done) | (simp; omega)), World.cell?_setCell_other _ _ _ _ (by first | (simp; done) | (simp; omega))]
  have k2' : (w1.setCell ⟨w.heap.size, 0, none⟩ (.int .i64 q)).cell? ⟨gb, 2, none⟩ = some (.int .i64 rest) := by rw [World.cell?_setCell_other _ _ _ _ (by first | (simp; done) | (simp; omega))]; exact k2
  simp [World.cell?_setCell_same, k2']
 ·simp [go_sem, k3]
 ·simp [go_sem]; exact k4
theorem bear_range {gb : Nat} {W h rest bal rate n : Int} {w : World} (A : BearAt w gb W h rest) (G : Good W h rest) (hm : Gm.may bal rate n) (hq : 1000000000000000 < Gm.q W h rest (bal * rate * n)) :
  Calls Tryz.prog 47 #[.pointer (some ⟨gb, 0, none⟩), .int .i64 bal, .int .i64 rate, .int .i64 n] w fun e w' => e = .returned (.tuple #[.int .i64 0, .int .i64 3]) ∧ Below w.heap.size w w' := by
 have R0 := Aside0.mk (Fr.Res2.made w (.int .i64 0) (.int .i64 0) 2 33)
 have HB := Aside0.mk (fun (w1 : World) (A1 : BearAt w1 gb W h rest) => borne_no A1 G hm hq)
 have lt := A.lt
 have hne : ¬ gb = w.heap.size := by omega
 have hne1 : ¬ gb = w.heap.size + 1 := by omega
 obtain ⟨a0, a1, b0, b1, n0, n1⟩ := hm
 have u1 : IntKind.u64.wrap bal = bal := IntWalk.u64_in _ (by omega)
 have u2 : IntKind.u64.wrap rate = rate := IntWalk.u64_in _ (by omega)
 have u3 : IntKind.u64.wrap n = n := IntWalk.u64_in _ (by omega)
 have AA := Aside0.mk A
 clear hq G A
 go_enter_defers Tryz.func47, Tryz.ntmps47
 go_wp2_with fail
 refine (HB.out _ (AA.out.below R0.out.below)).mono ?_
 rintro e w1 ⟨rfl, hd⟩
 have R1 := Aside0.mk (R0.out.drawn hd)
 clear hd R0
 refine leaves_cons (f := 71) (args := #[.pointer (some ⟨w.heap.size, 0, none⟩), .pointer (some ⟨w.heap.size + 1, 0, none⟩)]) (by simp) (by simp [go_sem]) ?_
 refine (bcaught_thrown _ _ 0 0 3 [] _ (by simp) R1.out.c0 R1.out.c1 R1.out.f0 R1.out.f1).mono ?_
 rintro e u' w'' ⟨rfl, rfl, rfl⟩
 have c0 := R1.out.c0
 have c1 := R1.out.c1
 simp [Leaves, settle, results, Tryz.results47, go_sem, c0, c1]
 exact R1.out.put _ _
theorem bear_any {gb : Nat} {W h rest bal rate n : Int} {w : World} (A : BearAt w gb W h rest) (G : Good W h rest) :
  Calls Tryz.prog 47 #[.pointer (some ⟨gb, 0, none⟩), .int .i64 bal, .int .i64 rate, .int .i64 n] w (Bore gb W h (Gm.bear W h rest bal rate n) w) := by
 unfold Gm.bear
 by_cases hm : Gm.may bal rate n
 ·rw [if_pos hm]
  by_cases hq : Gm.q W h rest (bal * rate * n) ≤ 1000000000000000
  ·rw [if_pos hq]; exact bear_yes A G hm hq
  ·rw [if_neg hq]
   exact (bear_range A G hm (by omega)).mono fun e w' ⟨h1, h2⟩ => ⟨h1, A.below h2, But.of h2⟩
 ·rw [if_neg hm]
  exact (bear_arg hm w).mono fun e w' ⟨h1, h2⟩ => ⟨h1, A.below h2, But.of h2⟩
theorem good_bear {W h rest bal rate n : Int} (G : Good W h rest) : Good W h (Gm.bear W h rest bal rate n).2.2 := by
 unfold Gm.bear
 by_cases hm : Gm.may bal rate n
 ·rw [if_pos hm]
  obtain ⟨a0, a1, b0, b1, n0, n1⟩ := hm
  split
  ·exact G.next (Int.mul_nonneg (Int.mul_nonneg a0 b0) n0)
  ·exact G
 ·rw [if_neg hm]; exact G
end Go.Proofs.YtfmkdledofbhdaaGreat.H
