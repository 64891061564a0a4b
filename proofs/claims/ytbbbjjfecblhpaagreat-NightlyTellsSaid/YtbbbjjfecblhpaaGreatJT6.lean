/- Texts of this claim, joined in build order. -/
import Derived.RowKit
import Derived.Below
import Derived.Test.YtbbbjjfecblhpaaGreatProg
import Derived.Deep.Draws
import Derived.Deep.AppendLies
import Derived.Maps.AppendAt
import Derived.OwnWalk
import Derived.Laws.BytesArg
import Derived.Laws.MakeOwn
import Derived.Laws.OwnMore
import Derived.Tactics
import Derived.Lib.ConvBytes
import Derived.Laws.Slices
import Derived.WalkKit
import Derived.KernelRfl
import Derived.RowKit3
import Derived.Deep.LoopGhost
import Derived.Deep.QuietTactic
import Derived.BigQuiet
import Derived.WideLaws
import Derived.Deep.DeepCutAuto
import Derived.Deep.CutBlock
import Derived.Deep.RegionHeld3
import Derived.Lib.AppendStr
import Derived.ArgAppend
import Derived.Laws.IdiomCopy
import Derived.OrdersHeld
import Derived.Laws.BitsLemmas
import Derived.Laws.StructEq
import Derived.WalkLawsBesides
import Derived.WalkSpells
import Derived.Lib.IndexMore
import Derived.Deep.Slices
import Derived.Deep.Fields
import Derived.ChangeSame
import Derived.Lib.SmallJoins
import Derived.ProofKit
import Derived.Defers
import Derived.Laws.Tables
import Derived.Deep.WholeRow
import Derived.Recover
import Derived.StillTailTactics
import Derived.SizedLaws
import Derived.ChangeSlices
import Derived.IntWalk
import Derived.Shelf.Small.Bits
import Derived.Shelf.Strconv.Itoa0
import Derived.Shelf.Strings.Search1
import Derived.Shelf.Strings.Search2
import Derived.Shelf.Strings.Search3
import Derived.Shelf.LaysM
import Derived.Shelf.Strings.Shaped
import Derived.Shelf.Bits.Mul64
import Derived.Ground.Names2Prog
import Derived.Shelf.Slices.Clone
import Derived.Ground.SlgnProg
import Derived.Shelf.SlicesE.Clone
import Derived.Lib.SlBytesConst
import Derived.Deep.RegionWith
import Derived.Lib.Hide
import Derived.BigFrame
import Derived.Deep.MidRow
import Derived.Lib.BitFns
import Derived.Laws.BitsAllLaws
import Derived.Laws.Externs
import Derived.RegionTactic
import Derived.Laws.AppendOwnNone
import Derived.OpenShut
import Derived.ShutString
import Derived.ChangeOld
import Derived.Laws.IdiomArrays
import Derived.HandedShaped
import Derived.Shelf.Vars
import Derived.Test.YtbbbjjfecblhpaaGreatJT1
import Derived.Test.YtbbbjjfecblhpaaGreatJT2
import Derived.Test.YtbbbjjfecblhpaaGreatJT3
import Derived.Test.YtbbbjjfecblhpaaGreatJT4
import Derived.Test.YtbbbjjfecblhpaaGreatJT5
set_option linter.unusedVariables false
set_option linter.unusedSimpArgs false
/- Contracts by hand: Nights and Night. -/
namespace Go.Proofs.YtbbbjjfecblhpaaGreat.Nt
open Go.RowKit Go.Proofs.YtbbbjjfecblhpaaGreatW.PrintWords Go.Proofs.YtbbbjjfecblhpaaGreatW.PrintLast Go.Proofs.YtbbbjjfecblhpaaGreatW.PrintMore Go.Proofs.YtbbbjjfecblhpaaGreat.HW
open Go.Proofs.YtbbbjjfecblhpaaGreat.Math Go.Proofs.YtbbbjjfecblhpaaGreat.H Go.Proofs.YtbbbjjfecblhpaaGreat.Pd Go.Proofs.YtbbbjjfecblhpaaGreat.Du Go.Proofs.YtbbbjjfecblhpaaGreat.Lv Pm
set_option linter.unusedVariables false
set_option linter.unusedSimpArgs false
attribute [local go_sem] max2_int min2_int max_two min_two
/-- What is handed back: a state, its lists in memory, and a code. -/
def Handed (w : World) (x : St × Int) (e : Ending) (w' : World) : Prop := ∃ L2 lc2 D2 dc2, e = .returned (.tuple #[sv x.1 L2 lc2 D2 dc2, .int .i64 x.2]) ∧ StAt w' x.1 L2 lc2 D2 dc2 ∧ Below w.heap.size w w' ∧ Lies w.heap.size L2 D2
theorem lies_none (b : Nat) : Lies b none none := ⟨fun a h => (Option.some_ne_none a h.symm).elim, fun a h => (Option.some_ne_none a h.symm).elim⟩
theorem Lies.mono {a b : Nat} {L D : Option Addr} (h : Lies b L D) (hb : a ≤ b) : Lies a L D := ⟨fun x e => Nat.le_trans hb (h.1 x e), fun x e => Nat.le_trans hb (h.2 x e)⟩
set_option maxRecDepth 100000 in
set_option maxHeartbeats 8000000 in
theorem Nights_look (P : Pm.Prod) (A1 : Option Addr) (c1 : Nat) (A2 : Option Addr) (c2 : Nat) (A3 : Option Addr) (c3 : Nat) (s : St) (L : Option Addr) (lc : Nat) (D : Option Addr) (dc : Nat) (n : Int) (w : World) (hp : ProdAt w P A1 c1 A2 c2 A3 c3) (hs : Small P) (hgv : GV w) (hm : MAt w s.m D) (he : mayE P s ≠ 0) : Calls Tryz.prog 16 #[pv P A1 c1 A2 c2 A3 c3, sv s L lc D dc, .int .i64 n] w (Handed w (zeroS, mayE P s)) := by
  have MA := Aside0.mk (fun (W : World) (hb : Below w.heap.size w W) => looks_any P A1 c1 A2 c2 A3 c3 s L lc D dc W (hp.below hb) hs (hgv.below hb) (hm.below hb))
  obtain ⟨c, hc⟩ : ∃ c, mayE P s = c := ⟨_, rfl⟩
  rw [hc] at MA he ⊢
  simp only [lookE, if_neg he] at MA
  clear hp hs hgv hm he hc
  go_enter_defers Tryz.func16, Tryz.ntmps16
  go_wp2_with (first
    | ((with_reducible refine gate_dst (N := 3) rfl ?_); refine box_event ?hg (N := 3) ?hd (cs := pcs P A1 c1 A2 c2 A3 c3) (t := 27) ?hr ?_; (case hd => rfl); (case hg => rfl); (case hr => first | (go_simp; done) | (go_simp; rfl)); intro gp hg y1_ hb1 hb; clear hg; have GP := Aside0.mk hb1; have HB := Aside0.mk hb; clear hb1 hb)
    | ((with_reducible refine gate_dst (N := 4) rfl ?_); refine box_event ?hg (N := 4) ?hd (cs := scs s L lc D dc) (t := 33) ?hr ?_; (case hd => rfl); (case hg => rfl); (case hr => first | (go_simp; done) | (go_simp; rfl)); intro gs hg y2_ hb1 hb; clear hg; have GS := Aside0.mk hb1; have GP := Aside0.mk (Pd.blk_below GP.out hb); have HB := Aside0.mk (below_step HB.out hb); clear hb1 hb)
    | ((with_reducible refine gate_dst (N := 6) rfl ?_); refine box_event rfl (N := 6) rfl (cs := scs zeroS none 0 none 0) (t := 33) ?hr ?_; (case hr => first | (go_simp; done) | (go_simp; rfl)); intro gr hg y3_ hb1 hb; have grge := (show w.heap.size ≤ gr by rw [hg]; exact HB.out.size); clear hg; have GR := Aside0.mk hb1; have GP := Aside0.mk (Pd.blk_below GP.out hb); have GS := Aside0.mk (Pd.blk_below GS.out hb); have HB := Aside0.mk (below_step HB.out hb); clear hb1 hb)
    | ((with_reducible refine gate_dst (N := 7) rfl ?_); refine box_event rfl (N := 7) rfl (cs := #[.int .i64 0]) (t := 41) ?hr ?_; (case hr => first | (go_simp; done) | (go_simp; rfl)); intro ge hg v4 hb1 hb; have gege := (show w.heap.size ≤ ge by rw [hg]; exact HB.out.size); have grne := (show gr ≠ ge by have := blk_lt GR.out; omega); clear hg; have GR := Aside0.mk (Pd.blk_below GR.out hb); have GP := Aside0.mk (Pd.blk_below GP.out hb); have GS := Aside0.mk (Pd.blk_below GS.out hb); have HB := Aside0.mk (below_step HB.out hb); have R := Aside0.mk (Out.mk GR.out hb1 grge gege grne HB.out); clear grge gege grne GR HB hb1 hb)
    | ((with_reducible refine gate_dst (N := 8) rfl ?_); refine wpList_load_row rfl 27 (.tmp 3) rfl gp rfl 27 _ (0, 0) _ GP.out Tryz.underlying27 rfl info_prod ?_)
    | ((with_reducible refine gate_dst (N := 9) rfl ?_); refine wpList_load_row rfl 33 (.tmp 4) rfl gs rfl 33 _ (0, 0) _ GS.out Tryz.underlying33 rfl info_state ?_)
    | (go_at_call 34; (with_reducible refine (MA.out _ R.out.below).mono ?_); rintro e y5_ ⟨rfl, hb⟩; have GP := Aside0.mk (Pd.blk_below GP.out hb); have GS := Aside0.mk (Pd.blk_below GS.out hb); have R := Aside0.mk (R.out.step hb); clear hb))
  refine leaves_cons (f := 33) (args := #[.pointer (some ⟨gr, 0, none⟩), .pointer (some ⟨ge, 0, none⟩)]) (by simp) (by simp [go_sem]) ?_
  refine (ncaught_thrown w gr ge 0 c zeroS none 0 none 0 [] _ R.out).mono ?_
  rintro e u' w'' ⟨rfl, rfl, R2⟩
  exact ⟨_, R2.results (p := 6) (q := 7) Tryz.results16 _ rfl rfl, none, 0, none, 0, rfl, st_zero _, R2.below, lies_none _⟩
set_option maxRecDepth 100000 in
set_option maxHeartbeats 8000000 in
theorem Nights_less (P : Pm.Prod) (A1 : Option Addr) (c1 : Nat) (A2 : Option Addr) (c2 : Nat) (A3 : Option Addr) (c3 : Nat) (s : St) (L : Option Addr) (lc : Nat) (D : Option Addr) (dc : Nat) (n : Int) (w : World) (hp : ProdAt w P A1 c1 A2 c2 A3 c3) (hs : Small P) (hgv : GV w) (hm : MAt w s.m D) (he : mayE P s = 0) (hn : n < 0) : Calls Tryz.prog 16 #[pv P A1 c1 A2 c2 A3 c3, sv s L lc D dc, .int .i64 n] w (Handed w (zeroS, 1)) := by
  have MA := Aside0.mk (fun (W : World) (hb : Below w.heap.size w W) => looks_any P A1 c1 A2 c2 A3 c3 s L lc D dc W (hp.below hb) hs (hgv.below hb) (hm.below hb))
  rw [he] at MA
  simp only [lookE, if_pos (rfl : (0 : Int) = 0)] at MA
  have N1 := Aside0.mk (fun W => nmust_no 1 W)
  have hge : decide (0 ≤ n) = false := decide_eq_false (by omega)
  clear hp hs hgv hm he
  go_enter_defers Tryz.func16, Tryz.ntmps16
  go_wp2_with (first
    | ((with_reducible refine gate_dst (N := 3) rfl ?_); refine box_event ?hg (N := 3) ?hd (cs := pcs P A1 c1 A2 c2 A3 c3) (t := 27) ?hr ?_; (case hd => rfl); (case hg => rfl); (case hr => first | (go_simp; done) | (go_simp; rfl)); intro gp hg y1_ hb1 hb; clear hg; have GP := Aside0.mk hb1; have HB := Aside0.mk hb; clear hb1 hb)
    | ((with_reducible refine gate_dst (N := 4) rfl ?_); refine box_event ?hg (N := 4) ?hd (cs := scs s L lc D dc) (t := 33) ?hr ?_; (case hd => rfl); (case hg => rfl); (case hr => first | (go_simp; done) | (go_simp; rfl)); intro gs hg y2_ hb1 hb; clear hg; have GS := Aside0.mk hb1; have GP := Aside0.mk (Pd.blk_below GP.out hb); have HB := Aside0.mk (below_step HB.out hb); clear hb1 hb)
    | ((with_reducible refine gate_dst (N := 6) rfl ?_); refine box_event rfl (N := 6) rfl (cs := scs zeroS none 0 none 0) (t := 33) ?hr ?_; (case hr => first | (go_simp; done) | (go_simp; rfl)); intro gr hg y3_ hb1 hb; have grge := (show w.heap.size ≤ gr by rw [hg]; exact HB.out.size); clear hg; have GR := Aside0.mk hb1; have GP := Aside0.mk (Pd.blk_below GP.out hb); have GS := Aside0.mk (Pd.blk_below GS.out hb); have HB := Aside0.mk (below_step HB.out hb); clear hb1 hb)
    | ((with_reducible refine gate_dst (N := 7) rfl ?_); refine box_event rfl (N := 7) rfl (cs := #[.int .i64 0]) (t := 41) ?hr ?_; (case hr => first | (go_simp; done) | (go_simp; rfl)); intro ge hg v4 hb1 hb; have gege := (show w.heap.size ≤ ge by rw [hg]; exact HB.out.size); have grne := (show gr ≠ ge by have := blk_lt GR.out; omega); clear hg; have GR := Aside0.mk (Pd.blk_below GR.out hb); have GP := Aside0.mk (Pd.blk_below GP.out hb); have GS := Aside0.mk (Pd.blk_below GS.out hb); have HB := Aside0.mk (below_step HB.out hb); have R := Aside0.mk (Out.mk GR.out hb1 grge gege grne HB.out); clear grge gege grne GR HB hb1 hb)
    | ((with_reducible refine gate_dst (N := 8) rfl ?_); refine wpList_load_row rfl 27 (.tmp 3) rfl gp rfl 27 _ (0, 0) _ GP.out Tryz.underlying27 rfl info_prod ?_)
    | ((with_reducible refine gate_dst (N := 9) rfl ?_); refine wpList_load_row rfl 33 (.tmp 4) rfl gs rfl 33 _ (0, 0) _ GS.out Tryz.underlying33 rfl info_state ?_)
    | (go_at_call 34; (with_reducible refine (MA.out _ R.out.below).mono ?_); rintro e y5_ ⟨rfl, hb⟩; have GP := Aside0.mk (Pd.blk_below GP.out hb); have GS := Aside0.mk (Pd.blk_below GS.out hb); have R := Aside0.mk (R.out.step hb); clear hb; have s0 := (show y5_.cell? ⟨gs, 0, none⟩ = some (.int .i64 s.day) from (blk_cell GS.out 0).trans rfl))
    | (go_at_call 35; (with_reducible refine (N1.out _).mono ?_); rintro e w' ⟨rfl, rfl⟩))
  refine leaves_cons (f := 33) (args := #[.pointer (some ⟨gr, 0, none⟩), .pointer (some ⟨ge, 0, none⟩)]) (by simp) (by simp [go_sem]) ?_
  refine (ncaught_thrown w gr ge 0 1 zeroS none 0 none 0 [] _ R.out).mono ?_
  rintro e u' w'' ⟨rfl, rfl, R2⟩
  exact ⟨_, R2.results (p := 6) (q := 7) Tryz.results16 _ rfl rfl, none, 0, none, 0, rfl, st_zero _, R2.below, lies_none _⟩
set_option maxRecDepth 100000 in
set_option maxHeartbeats 8000000 in
theorem Nights_many (P : Pm.Prod) (A1 : Option Addr) (c1 : Nat) (A2 : Option Addr) (c2 : Nat) (A3 : Option Addr) (c3 : Nat) (s : St) (L : Option Addr) (lc : Nat) (D : Option Addr) (dc : Nat) (n : Int) (w : World) (hp : ProdAt w P A1 c1 A2 c2 A3 c3) (hs : Small P) (hgv : GV w) (hm : MAt w s.m D) (he : mayE P s = 0) (h0 : 0 ≤ n) (hn : 84370 - s.day < n) : Calls Tryz.prog 16 #[pv P A1 c1 A2 c2 A3 c3, sv s L lc D dc, .int .i64 n] w (Handed w (zeroS, 5)) := by
  have MA := Aside0.mk (fun (W : World) (hb : Below w.heap.size w W) => looks_any P A1 c1 A2 c2 A3 c3 s L lc D dc W (hp.below hb) hs (hgv.below hb) (hm.below hb))
  rw [he] at MA
  simp only [lookE, if_pos (rfl : (0 : Int) = 0)] at MA
  have N5 := Aside0.mk (fun W => nmust_no 5 W)
  have M1 := Aside0.mk (fun W => nmust_yes 1 W)
  have hd := mayE_zero he
  have sw : IntKind.i64.wrap (84370 - s.day) = 84370 - s.day := IntWalk.i64_in _ (by obtain ⟨-, -, -, -, -, -, k6, k7⟩ := hd; omega)
  have hge : decide (0 ≤ n) = true := decide_eq_true h0
  have hle : decide (n ≤ 84370 - s.day) = false := decide_eq_false (by omega)
  clear hd h0 hn
  clear hp hs hgv hm he
  go_enter_defers Tryz.func16, Tryz.ntmps16
  go_wp2_with (first
    | ((with_reducible refine gate_dst (N := 3) rfl ?_); refine box_event ?hg (N := 3) ?hd (cs := pcs P A1 c1 A2 c2 A3 c3) (t := 27) ?hr ?_; (case hd => rfl); (case hg => rfl); (case hr => first | (go_simp; done) | (go_simp; rfl)); intro gp hg y1_ hb1 hb; clear hg; have GP := Aside0.mk hb1; have HB := Aside0.mk hb; clear hb1 hb)
    | ((with_reducible refine gate_dst (N := 4) rfl ?_); refine box_event ?hg (N := 4) ?hd (cs := scs s L lc D dc) (t := 33) ?hr ?_; (case hd => rfl); (case hg => rfl); (case hr => first | (go_simp; done) | (go_simp; rfl)); intro gs hg y2_ hb1 hb; clear hg; have GS := Aside0.mk hb1; have GP := Aside0.mk (Pd.blk_below GP.out hb); have HB := Aside0.mk (below_step HB.out hb); clear hb1 hb)
    | ((with_reducible refine gate_dst (N := 6) rfl ?_); refine box_event rfl (N := 6) rfl (cs := scs zeroS none 0 none 0) (t := 33) ?hr ?_; (case hr => first | (go_simp; done) | (go_simp; rfl)); intro gr hg y3_ hb1 hb; have grge := (show w.heap.size ≤ gr by rw [hg]; exact HB.out.size); clear hg; have GR := Aside0.mk hb1; have GP := Aside0.mk (Pd.blk_below GP.out hb); have GS := Aside0.mk (Pd.blk_below GS.out hb); have HB := Aside0.mk (below_step HB.out hb); clear hb1 hb)
    | ((with_reducible refine gate_dst (N := 7) rfl ?_); refine box_event rfl (N := 7) rfl (cs := #[.int .i64 0]) (t := 41) ?hr ?_; (case hr => first | (go_simp; done) | (go_simp; rfl)); intro ge hg v4 hb1 hb; have gege := (show w.heap.size ≤ ge by rw [hg]; exact HB.out.size); have grne := (show gr ≠ ge by have := blk_lt GR.out; omega); clear hg; have GR := Aside0.mk (Pd.blk_below GR.out hb); have GP := Aside0.mk (Pd.blk_below GP.out hb); have GS := Aside0.mk (Pd.blk_below GS.out hb); have HB := Aside0.mk (below_step HB.out hb); have R := Aside0.mk (Out.mk GR.out hb1 grge gege grne HB.out); clear grge gege grne GR HB hb1 hb)
    | ((with_reducible refine gate_dst (N := 8) rfl ?_); refine wpList_load_row rfl 27 (.tmp 3) rfl gp rfl 27 _ (0, 0) _ GP.out Tryz.underlying27 rfl info_prod ?_)
    | ((with_reducible refine gate_dst (N := 9) rfl ?_); refine wpList_load_row rfl 33 (.tmp 4) rfl gs rfl 33 _ (0, 0) _ GS.out Tryz.underlying33 rfl info_state ?_)
    | (go_at_call 34; (with_reducible refine (MA.out _ R.out.below).mono ?_); rintro e y5_ ⟨rfl, hb⟩; have GP := Aside0.mk (Pd.blk_below GP.out hb); have GS := Aside0.mk (Pd.blk_below GS.out hb); have R := Aside0.mk (R.out.step hb); clear hb; have s0 := (show y5_.cell? ⟨gs, 0, none⟩ = some (.int .i64 s.day) from (blk_cell GS.out 0).trans rfl))
    | (go_at_call 35; (with_reducible refine (M1.out _).mono ?_); rintro e w' ⟨rfl, rfl⟩)
    | (go_at_call 35; (with_reducible refine (N5.out _).mono ?_); rintro e w' ⟨rfl, rfl⟩))
  refine leaves_cons (f := 33) (args := #[.pointer (some ⟨gr, 0, none⟩), .pointer (some ⟨ge, 0, none⟩)]) (by simp) (by simp [go_sem]) ?_
  refine (ncaught_thrown w gr ge 0 5 zeroS none 0 none 0 [] _ R.out).mono ?_
  rintro e u' w'' ⟨rfl, rfl, R2⟩
  exact ⟨_, R2.results (p := 6) (q := 7) Tryz.results16 _ rfl rfl, none, 0, none, 0, rfl, st_zero _, R2.below, lies_none _⟩
set_option maxRecDepth 100000 in
set_option maxHeartbeats 8000000 in
theorem Nights_wrong (P : Pm.Prod) (A1 : Option Addr) (c1 : Nat) (A2 : Option Addr) (c2 : Nat) (A3 : Option Addr) (c3 : Nat) (s : St) (L : Option Addr) (lc : Nat) (D : Option Addr) (dc : Nat) (n : Int) (w : World) (hp : ProdAt w P A1 c1 A2 c2 A3 c3) (hs : Small P) (hgv : GV w) (hm : MAt w s.m D) (he : mayE P s = 0) (h0 : 0 ≤ n) (hn : n ≤ 84370 - s.day) (hz : (nightsB P s n).2 ≠ 0) : Calls Tryz.prog 16 #[pv P A1 c1 A2 c2 A3 c3, sv s L lc D dc, .int .i64 n] w (Handed w (zeroS, (nightsB P s n).2)) := by
  have MA := Aside0.mk (fun (W : World) (hb : Below w.heap.size w W) => looks_any P A1 c1 A2 c2 A3 c3 s L lc D dc W (hp.below hb) hs (hgv.below hb) (hm.below hb))
  rw [he] at MA
  simp only [lookE, if_pos (rfl : (0 : Int) = 0)] at MA
  have M5 := Aside0.mk (fun W => nmust_yes 5 W)
  have M1 := Aside0.mk (fun W => nmust_yes 1 W)
  have NI := Aside0.mk (fun (W : World) (hb : Below w.heap.size w W) => nights_any P A1 c1 A2 c2 A3 c3 s L lc D dc n W he h0 hn (hm.below hb))
  have hd := mayE_zero he
  have sw : IntKind.i64.wrap (84370 - s.day) = 84370 - s.day := IntWalk.i64_in _ (by obtain ⟨-, -, -, -, -, -, k6, k7⟩ := hd; omega)
  have hge : decide (0 ≤ n) = true := decide_eq_true h0
  have hle : decide (n ≤ 84370 - s.day) = true := decide_eq_true hn
  clear hd h0 hn
  obtain ⟨c, hc⟩ : ∃ c, (nightsB P s n).2 = c := ⟨_, rfl⟩
  rw [hc] at hz ⊢
  simp only [nightsE, hc, if_neg hz] at NI
  clear hp hs hgv hm he hz hc
  go_enter_defers Tryz.func16, Tryz.ntmps16
  go_wp2_with (first
    | ((with_reducible refine gate_dst (N := 3) rfl ?_); refine box_event ?hg (N := 3) ?hd (cs := pcs P A1 c1 A2 c2 A3 c3) (t := 27) ?hr ?_; (case hd => rfl); (case hg => rfl); (case hr => first | (go_simp; done) | (go_simp; rfl)); intro gp hg y1_ hb1 hb; clear hg; have GP := Aside0.mk hb1; have HB := Aside0.mk hb; clear hb1 hb)
    | ((with_reducible refine gate_dst (N := 4) rfl ?_); refine box_event ?hg (N := 4) ?hd (cs := scs s L lc D dc) (t := 33) ?hr ?_; (case hd => rfl); (case hg => rfl); (case hr => first | (go_simp; done) | (go_simp; rfl)); intro gs hg y2_ hb1 hb; clear hg; have GS := Aside0.mk hb1; have GP := Aside0.mk (Pd.blk_below GP.out hb); have HB := Aside0.mk (below_step HB.out hb); clear hb1 hb)
    | ((with_reducible refine gate_dst (N := 6) rfl ?_); refine box_event rfl (N := 6) rfl (cs := scs zeroS none 0 none 0) (t := 33) ?hr ?_; (case hr => first | (go_simp; done) | (go_simp; rfl)); intro gr hg y3_ hb1 hb; have grge := (show w.heap.size ≤ gr by rw [hg]; exact HB.out.size); clear hg; have GR := Aside0.mk hb1; have GP := Aside0.mk (Pd.blk_below GP.out hb); have GS := Aside0.mk (Pd.blk_below GS.out hb); have HB := Aside0.mk (below_step HB.out hb); clear hb1 hb)
    | ((with_reducible refine gate_dst (N := 7) rfl ?_); refine box_event rfl (N := 7) rfl (cs := #[.int .i64 0]) (t := 41) ?hr ?_; (case hr => first | (go_simp; done) | (go_simp; rfl)); intro ge hg v4 hb1 hb; have gege := (show w.heap.size ≤ ge by rw [hg]; exact HB.out.size); have grne := (show gr ≠ ge by have := blk_lt GR.out; omega); clear hg; have GR := Aside0.mk (Pd.blk_below GR.out hb); have GP := Aside0.mk (Pd.blk_below GP.out hb); have GS := Aside0.mk (Pd.blk_below GS.out hb); have HB := Aside0.mk (below_step HB.out hb); have R := Aside0.mk (Out.mk GR.out hb1 grge gege grne HB.out); clear grge gege grne GR HB hb1 hb)
    | ((with_reducible refine gate_dst (N := 8) rfl ?_); refine wpList_load_row rfl 27 (.tmp 3) rfl gp rfl 27 _ (0, 0) _ GP.out Tryz.underlying27 rfl info_prod ?_)
    | ((with_reducible refine gate_dst (N := 9) rfl ?_); refine wpList_load_row rfl 33 (.tmp 4) rfl gs rfl 33 _ (0, 0) _ GS.out Tryz.underlying33 rfl info_state ?_)
    | (go_at_call 34; (with_reducible refine (MA.out _ R.out.below).mono ?_); rintro e y5_ ⟨rfl, hb⟩; have GP := Aside0.mk (Pd.blk_below GP.out hb); have GS := Aside0.mk (Pd.blk_below GS.out hb); have R := Aside0.mk (R.out.step hb); clear hb; have s0 := (show y5_.cell? ⟨gs, 0, none⟩ = some (.int .i64 s.day) from (blk_cell GS.out 0).trans rfl))
    | (go_at_call 35; (with_reducible refine (M1.out _).mono ?_); rintro e w' ⟨rfl, rfl⟩)
    | (go_at_call 35; (with_reducible refine (M5.out _).mono ?_); rintro e w' ⟨rfl, rfl⟩)
    | ((with_reducible refine gate_dst (N := 20) rfl ?_); refine wpList_load_row rfl 27 (.tmp 3) rfl gp rfl 27 _ (0, 0) _ GP.out Tryz.underlying27 rfl info_prod ?_)
    | ((with_reducible refine gate_dst (N := 21) rfl ?_); refine wpList_load_row rfl 33 (.tmp 4) rfl gs rfl 33 _ (0, 0) _ GS.out Tryz.underlying33 rfl info_state ?_)
    | (go_at_call 37; (with_reducible refine (NI.out _ R.out.below).mono ?_); rintro e y6_ ⟨rfl, hb⟩; have GP := Aside0.mk (Pd.blk_below GP.out hb); have GS := Aside0.mk (Pd.blk_below GS.out hb); have R := Aside0.mk (R.out.step hb); clear hb s0))
  refine leaves_cons (f := 33) (args := #[.pointer (some ⟨gr, 0, none⟩), .pointer (some ⟨ge, 0, none⟩)]) (by simp) (by simp [go_sem]) ?_
  refine (ncaught_thrown w gr ge 0 c zeroS none 0 none 0 [] _ R.out).mono ?_
  rintro e u' w'' ⟨rfl, rfl, R2⟩
  exact ⟨_, R2.results (p := 6) (q := 7) Tryz.results16 _ rfl rfl, none, 0, none, 0, rfl, st_zero _, R2.below, lies_none _⟩
set_option maxRecDepth 100000 in
set_option maxHeartbeats 8000000 in
theorem Nights_right (P : Pm.Prod) (A1 : Option Addr) (c1 : Nat) (A2 : Option Addr) (c2 : Nat) (A3 : Option Addr) (c3 : Nat) (s : St) (L : Option Addr) (lc : Nat) (D : Option Addr) (dc : Nat) (n : Int) (w : World) (hp : ProdAt w P A1 c1 A2 c2 A3 c3) (hs : Small P) (hgv : GV w) (hst : StAt w s L lc D dc) (he : mayE P s = 0) (h0 : 0 ≤ n) (hn : n ≤ 84370 - s.day) (hz : (nightsB P s n).2 = 0) : Calls Tryz.prog 16 #[pv P A1 c1 A2 c2 A3 c3, sv s L lc D dc, .int .i64 n] w (Handed w ((nightsB P s n).1, 0)) := by
  have hm := hst.m
  have MA := Aside0.mk (fun (W : World) (hb : Below w.heap.size w W) => looks_any P A1 c1 A2 c2 A3 c3 s L lc D dc W (hp.below hb) hs (hgv.below hb) (hm.below hb))
  rw [he] at MA
  simp only [lookE, if_pos (rfl : (0 : Int) = 0)] at MA
  have M5 := Aside0.mk (fun W => nmust_yes 5 W)
  have M1 := Aside0.mk (fun W => nmust_yes 1 W)
  have NI := Aside0.mk (fun (W : World) (hb : Below w.heap.size w W) => nights_any P A1 c1 A2 c2 A3 c3 s L lc D dc n W he h0 hn (hm.below hb))
  have hd := mayE_zero he
  have sw : IntKind.i64.wrap (84370 - s.day) = 84370 - s.day := IntWalk.i64_in _ (by obtain ⟨-, -, -, -, -, -, k6, k7⟩ := hd; omega)
  have hge : decide (0 ≤ n) = true := decide_eq_true h0
  have hle : decide (n ≤ 84370 - s.day) = true := decide_eq_true hn
  clear hd h0 hn
  obtain ⟨l1, l2⟩ := nightsB_lists P s n hz
  obtain ⟨x, hx⟩ : ∃ x, (nightsB P s n).1 = x := ⟨_, rfl⟩
  simp only [nightsE, hz, if_true] at NI
  rw [hx] at l1 l2 NI ⊢
  have OW := Aside0.mk (fun (W : World) (hb : Below w.heap.size w W) => own_any x L lc D dc W ((hst.below hb).of l1 l2))
  clear hp hs hgv hm he hz hx l1 l2 hst
  go_enter_defers Tryz.func16, Tryz.ntmps16
  go_wp2_with (first
    | ((with_reducible refine gate_dst (N := 3) rfl ?_); refine box_event ?hg (N := 3) ?hd (cs := pcs P A1 c1 A2 c2 A3 c3) (t := 27) ?hr ?_; (case hd => rfl); (case hg => rfl); (case hr => first | (go_simp; done) | (go_simp; rfl)); intro gp hg y1_ hb1 hb; clear hg; have GP := Aside0.mk hb1; have HB := Aside0.mk hb; clear hb1 hb)
    | ((with_reducible refine gate_dst (N := 4) rfl ?_); refine box_event ?hg (N := 4) ?hd (cs := scs s L lc D dc) (t := 33) ?hr ?_; (case hd => rfl); (case hg => rfl); (case hr => first | (go_simp; done) | (go_simp; rfl)); intro gs hg y2_ hb1 hb; clear hg; have GS := Aside0.mk hb1; have GP := Aside0.mk (Pd.blk_below GP.out hb); have HB := Aside0.mk (below_step HB.out hb); clear hb1 hb)
    | ((with_reducible refine gate_dst (N := 6) rfl ?_); refine box_event rfl (N := 6) rfl (cs := scs zeroS none 0 none 0) (t := 33) ?hr ?_; (case hr => first | (go_simp; done) | (go_simp; rfl)); intro gr hg y3_ hb1 hb; have grge := (show w.heap.size ≤ gr by rw [hg]; exact HB.out.size); clear hg; have GR := Aside0.mk hb1; have GP := Aside0.mk (Pd.blk_below GP.out hb); have GS := Aside0.mk (Pd.blk_below GS.out hb); have HB := Aside0.mk (below_step HB.out hb); clear hb1 hb)
    | ((with_reducible refine gate_dst (N := 7) rfl ?_); refine box_event rfl (N := 7) rfl (cs := #[.int .i64 0]) (t := 41) ?hr ?_; (case hr => first | (go_simp; done) | (go_simp; rfl)); intro ge hg v4 hb1 hb; have gege := (show w.heap.size ≤ ge by rw [hg]; exact HB.out.size); have grne := (show gr ≠ ge by have := blk_lt GR.out; omega); clear hg; have GR := Aside0.mk (Pd.blk_below GR.out hb); have GP := Aside0.mk (Pd.blk_below GP.out hb); have GS := Aside0.mk (Pd.blk_below GS.out hb); have HB := Aside0.mk (below_step HB.out hb); have R := Aside0.mk (Out.mk GR.out hb1 grge gege grne HB.out); clear grge gege grne GR HB hb1 hb)
    | ((with_reducible refine gate_dst (N := 8) rfl ?_); refine wpList_load_row rfl 27 (.tmp 3) rfl gp rfl 27 _ (0, 0) _ GP.out Tryz.underlying27 rfl info_prod ?_)
    | ((with_reducible refine gate_dst (N := 9) rfl ?_); refine wpList_load_row rfl 33 (.tmp 4) rfl gs rfl 33 _ (0, 0) _ GS.out Tryz.underlying33 rfl info_state ?_)
    | (go_at_call 34; (with_reducible refine (MA.out _ R.out.below).mono ?_); rintro e y5_ ⟨rfl, hb⟩; have GP := Aside0.mk (Pd.blk_below GP.out hb); have GS := Aside0.mk (Pd.blk_below GS.out hb); have R := Aside0.mk (R.out.step hb); clear hb; have s0 := (show y5_.cell? ⟨gs, 0, none⟩ = some (.int .i64 s.day) from (blk_cell GS.out 0).trans rfl))
    | (go_at_call 35; (with_reducible refine (M1.out _).mono ?_); rintro e w' ⟨rfl, rfl⟩)
    | (go_at_call 35; (with_reducible refine (M5.out _).mono ?_); rintro e w' ⟨rfl, rfl⟩)
    | ((with_reducible refine gate_dst (N := 20) rfl ?_); refine wpList_load_row rfl 27 (.tmp 3) rfl gp rfl 27 _ (0, 0) _ GP.out Tryz.underlying27 rfl info_prod ?_)
    | ((with_reducible refine gate_dst (N := 21) rfl ?_); refine wpList_load_row rfl 33 (.tmp 4) rfl gs rfl 33 _ (0, 0) _ GS.out Tryz.underlying33 rfl info_state ?_)
    | (go_at_call 37; (with_reducible refine (NI.out _ R.out.below).mono ?_); rintro e y6_ ⟨rfl, hb⟩; have GP := Aside0.mk (Pd.blk_below GP.out hb); have GS := Aside0.mk (Pd.blk_below GS.out hb); have R := Aside0.mk (R.out.step hb); clear hb s0)
    | (go_at_call 36; (with_reducible refine (OW.out _ R.out.below).mono ?_); have grlt := blk_lt R.out.st; have gelt := blk_lt R.out.er; have y6s := R.out.below.size; rintro e y7_ ⟨L2, lc2, D2, dc2, rfl, hst, hb, hli⟩; have ST := Aside0.mk hst; have LI := Aside0.mk hli; have R := Aside0.mk (R.out.step hb); clear hb hst hli GP GS)
    | ((with_reducible refine gate_store (t := 33) (p := 6) rfl ?_); refine row_event rfl (t := 33) (p := 6) (v := .tmp 24) rfl rfl (g := gr) (cs := scs x L2 lc2 D2 dc2) (zs := scs zeroS none 0 none 0) rfl rfl R.out.st info_state rfl (by simp [Value.oneCell']) ?_; intro w1 hb1 hbut; refine Hid.out ?_))
  refine Lib.hid ?_
  have hne := R.out.ne
  have HE := Aside0.mk (show w1.heap[ge]? = some (.cells #[.int .i64 0] 41 (0, 0)) from (hbut.block ge (blk_lt R.out.er) (Ne.symm hne)).trans R.out.er)
  have HB := Aside0.mk (But.below R.out.below R.out.below.size R.out.r0 hbut)
  have ST2 := Aside0.mk (st_but hbut ST.out LI.out grlt)
  have r0 := R.out.r0
  have e0 := R.out.e0
  have R1 := Aside0.mk (Out.mk (s := x) (L := L2) (lc := lc2) (D := D2) (dc := dc2) hb1 HE.out r0 e0 hne HB.out)
  have c0 := (show w1.cell? ⟨ge, 0, none⟩ = some (.int .i64 0) from (blk_cell HE.out 0).trans rfl)
  have f0 := frozen_of_row w1 ge 0 _ _ HE.out
  clear hbut hb1 HE HB R ST
  go_wp2
  refine leaves_cons (f := 33) (args := #[.pointer (some ⟨gr, 0, none⟩), .pointer (some ⟨ge, 0, none⟩)]) (by simp) (by simp [go_sem]) ?_
  refine (ncaught_idle _ _ _).mono ?_
  rintro e u' w'' ⟨rfl, rfl, rfl⟩
  have R3 := Out.mk (w0 := w) (w := w1.setCell ⟨ge, 0, none⟩ (.int .i64 0)) (c := 0) (s := x) (L := L2) (lc := lc2) (D := D2) (dc := dc2) (blk_far R1.out.st hne _) (blk_set R1.out.er 0 (.int .i64 0)) r0 e0 hne (Below.setCell R1.out.below e0 _)
  exact ⟨_, R3.results (p := 6) (q := 7) Tryz.results16 _ rfl rfl, L2, lc2, D2, dc2, rfl, st_but (But.of (gb := ge) (Below.refl _ _)|>.setCell (Or.inl rfl) _) ST2.out LI.out gelt, R3.below, LI.out.mono y6s⟩
theorem Nights_any (P : Pm.Prod) (A1 : Option Addr) (c1 : Nat) (A2 : Option Addr) (c2 : Nat) (A3 : Option Addr) (c3 : Nat) (s : St) (L : Option Addr) (lc : Nat) (D : Option Addr) (dc : Nat) (n : Int) (w : World) (hp : ProdAt w P A1 c1 A2 c2 A3 c3) (hs : Small P) (hgv : GV w) (hst : StAt w s L lc D dc) : Calls Tryz.prog 16 #[pv P A1 c1 A2 c2 A3 c3, sv s L lc D dc, .int .i64 n] w (Handed w (nightsP P s n)) := by
  unfold nightsP
  by_cases he : mayE P s = 0
  · rw [if_neg (fun h => h he)]
    by_cases h0 : n < 0
    · rw [if_pos h0]
      exact Nights_less P A1 c1 A2 c2 A3 c3 s L lc D dc n w hp hs hgv hst.m he h0
    · rw [if_neg h0]
      by_cases hn : 84370 - s.day < n
      · rw [if_pos hn]
        exact Nights_many P A1 c1 A2 c2 A3 c3 s L lc D dc n w hp hs hgv hst.m he (by omega) hn
      · rw [if_neg hn]
        by_cases hz : (nightsB P s n).2 = 0
        · have h := Nights_right P A1 c1 A2 c2 A3 c3 s L lc D dc n w hp hs hgv hst he (by omega) (by omega) hz
          rw [show nightsB P s n = ((nightsB P s n).1, 0) from Prod.ext rfl hz]
          exact h
        · have h := Nights_wrong P A1 c1 A2 c2 A3 c3 s L lc D dc n w hp hs hgv hst.m he (by omega) (by omega) hz
          rw [show nightsB P s n = (zeroS, (nightsB P s n).2) from Prod.ext (nightsB_zero P s n hz) rfl]
          exact h
  · rw [if_pos he]
    exact Nights_look P A1 c1 A2 c2 A3 c3 s L lc D dc n w hp hs hgv hst.m he
theorem results_mix {w : World} {gr : Nat} {c : Int} {s : St} {L : Option Addr} {lc : Nat} {D : Option Addr} {dc : Nat} (h : w.heap[gr]? = some (.cells (scs s L lc D dc) 33 (0, 0))) {fn : Func} {p q : Tmp} (hr : fn.results = #[.cell p 33, .tmp q]) (tmps : Array Value) (hp : tmps.getD p undef = .pointer (some ⟨gr, 0, none⟩)) (hq : tmps.getD q undef = .int .i64 c) :
    (results fn tmps).run Tryz.prog w = .ok (.tuple #[sv s L lc D dc, .int .i64 c]) w := by
  have hp' : tmps[p]?.getD undef = .pointer (some ⟨gr, 0, none⟩) := by simpa using hp
  have hq' : tmps[q]?.getD undef = .int .i64 c := by simpa using hq
  have e1 := run_loadVar_row (P := Tryz.prog) w gr 33 33 _ (0, 0) _ h Tryz.underlying33 rfl info_state
  simp [Go.results, hr, hp', hq', asAddr, e1]
set_option maxRecDepth 100000 in
set_option maxHeartbeats 8000000 in
theorem Night_any (P : Pm.Prod) (A1 : Option Addr) (c1 : Nat) (A2 : Option Addr) (c2 : Nat) (A3 : Option Addr) (c3 : Nat) (s : St) (L : Option Addr) (lc : Nat) (D : Option Addr) (dc : Nat) (w : World) (hp : ProdAt w P A1 c1 A2 c2 A3 c3) (hs : Small P) (hgv : GV w) (hst : StAt w s L lc D dc) : Calls Tryz.prog 9 #[pv P A1 c1 A2 c2 A3 c3, sv s L lc D dc] w (Handed w (nightsP P s 1)) := by
  have NS := Aside0.mk (fun (W : World) (hb : Below w.heap.size w W) => Nights_any P A1 c1 A2 c2 A3 c3 s L lc D dc 1 W (hp.below hb) hs (hgv.below hb) (hst.below hb))
  obtain ⟨⟨x, c⟩, hx⟩ : ∃ x, nightsP P s 1 = x := ⟨_, rfl⟩
  rw [hx] at NS ⊢
  clear hp hs hgv hst hx
  go_enter Tryz.func9, Tryz.ntmps9
  go_wp2_with (first
    | ((with_reducible refine gate_dst (N := 2) rfl ?_); refine box_event ?hg (N := 2) ?hd (cs := pcs P A1 c1 A2 c2 A3 c3) (t := 27) ?hr ?_; (case hd => rfl); (case hg => rfl); (case hr => first | (go_simp; done) | (go_simp; rfl)); intro gp hg y1_ hb1 hb; clear hg; have GP := Aside0.mk hb1; have HB := Aside0.mk hb; clear hb1 hb)
    | ((with_reducible refine gate_dst (N := 3) rfl ?_); refine box_event ?hg (N := 3) ?hd (cs := scs s L lc D dc) (t := 33) ?hr ?_; (case hd => rfl); (case hg => rfl); (case hr => first | (go_simp; done) | (go_simp; rfl)); intro gs hg y2_ hb1 hb; clear hg; have GS := Aside0.mk hb1; have GP := Aside0.mk (Pd.blk_below GP.out hb); have HB := Aside0.mk (below_step HB.out hb); clear hb1 hb)
    | ((with_reducible refine gate_dst (N := 4) rfl ?_); refine box_event rfl (N := 4) rfl (cs := scs zeroS none 0 none 0) (t := 33) ?hr ?_; (case hr => first | (go_simp; done) | (go_simp; rfl)); intro gr hg y3_ hb1 hb; have grge := (show w.heap.size ≤ gr by rw [hg]; exact HB.out.size); clear hg; have GR := Aside0.mk hb1; have GP := Aside0.mk (Pd.blk_below GP.out hb); have GS := Aside0.mk (Pd.blk_below GS.out hb); have HB := Aside0.mk (below_step HB.out hb); clear hb1 hb)
    | ((with_reducible refine gate_dst (N := 6) rfl ?_); refine wpList_load_row rfl 27 (.tmp 2) rfl gp rfl 27 _ (0, 0) _ GP.out Tryz.underlying27 rfl info_prod ?_)
    | ((with_reducible refine gate_dst (N := 7) rfl ?_); refine wpList_load_row rfl 33 (.tmp 3) rfl gs rfl 33 _ (0, 0) _ GS.out Tryz.underlying33 rfl info_state ?_)
    | (go_at_call 16; (with_reducible refine (NS.out _ HB.out).mono ?_); have grlt := blk_lt GR.out; have y3s := HB.out.size; rintro e y4_ ⟨L2, lc2, D2, dc2, rfl, hst, hb, hli⟩; have ST := Aside0.mk hst; have LI := Aside0.mk hli; have GR := Aside0.mk (Pd.blk_below GR.out hb); have HB := Aside0.mk (below_step HB.out hb); clear hb hst hli GP GS NS)
    | ((with_reducible refine gate_store (t := 33) (p := 4) rfl ?_); refine row_event rfl (t := 33) (p := 4) (v := .tmp 9) rfl rfl (g := gr) (cs := scs x L2 lc2 D2 dc2) (zs := scs zeroS none 0 none 0) rfl rfl GR.out info_state rfl (by simp [Value.oneCell']) ?_; intro w1 hb1 hbut; have GR1 := Aside0.mk hb1; have HB1 := Aside0.mk (But.below HB.out HB.out.size grge hbut); have BU := Aside0.mk hbut; clear hb1 hbut))
  exact bodyPost_ret (v := .tuple #[sv x L2 lc2 D2 dc2, .int .i64 c]) (results_mix (p := 4) (q := 5) GR1.out Tryz.results9 _ rfl rfl) rfl ⟨L2, lc2, D2, dc2, rfl, st_but BU.out ST.out LI.out grlt, HB1.out, LI.out.mono y3s⟩
end Go.Proofs.YtbbbjjfecblhpaaGreat.Nt
/- Contracts by hand: two lists of numbers held against each other, one by one. -/
namespace Go.Proofs.YtbbbjjfecblhpaaGreat.H
open Go.RowKit Go.Proofs.YtbbbjjfecblhpaaGreatW.PrintWords Go.Proofs.YtbbbjjfecblhpaaGreatW.PrintLast Go.Proofs.YtbbbjjfecblhpaaGreatW.PrintMore
set_option linter.unusedVariables false
set_option linter.unusedSimpArgs false

theorem rd_drop (l : List Int) (k : Nat) (h : k < l.length) : l.drop k = rd l k :: l.drop (k + 1) := by
  rw [List.drop_eq_getElem_cons h]
  simp [rd, h]

def help_Plain_int.f (l0 l1 : List Int) : Option Bool := if l0.length ≤ 1000000000 then some (l0 == l1) else none
end Go.Proofs.YtbbbjjfecblhpaaGreat.H
/- Contracts by hand: two lists of numbers held against each other, one by one. -/
namespace Go.Proofs.YtbbbjjfecblhpaaGreat.HL
open Go.RowKit Go.Proofs.YtbbbjjfecblhpaaGreatW.PrintWords Go.Proofs.YtbbbjjfecblhpaaGreatW.PrintLast Go.Proofs.YtbbbjjfecblhpaaGreatW.PrintMore
set_option linter.unusedVariables false
set_option linter.unusedSimpArgs false

theorem plain1 (x y : Int) (r : Bool) (hr : (x == y) = r) (w : World) : Calls Tryz.prog 48 #[.int .i64 x, .int .i64 y] w fun e w' => e = .returned (.bool r) ∧ w' = w := by
  go_enter Tryz.func48, Tryz.ntmps48
  go_wp2
  go_ret
  exact ⟨by simp, rfl⟩

theorem rd_drop (l : List Int) (k : Nat) (h : k < l.length) : l.drop k = rd l k :: l.drop (k + 1) := by
  rw [List.drop_eq_getElem_cons h]
  simp [rd, h]

set_option maxHeartbeats 1000000 in
theorem same_any (A0 A1 : Option Addr) (c0 c1 : Nat) (l0 l1 : List Int) (r : Bool) (hr : (l0 == l1) = r) (w : World) (hr0 : Kd.C (Kd.int .i64) w A0 l0.length l0) (hc0 : l0.length ≤ c0) (hr1 : Kd.C (Kd.int .i64) w A1 l1.length l1) (hc1 : l1.length ≤ c1) (hm : l0.length ≤ 1000000000) :
    Calls Tryz.prog 47 #[.slice A0 l0.length c0, .slice A1 l1.length c1, .func (.func 48) #[] #[]] w fun e w' => e = .returned (.bool r) ∧ Drawn0 w w' := by
  have HR0 := Aside0.mk hr0
  have HR1 := Aside0.mk hr1
  have HR := Aside0.mk hr
  clear hr0 hr1 hr
  by_cases hlen : l0.length = l1.length
  · have hb : ((l0.length : Int) != (l1.length : Int)) = false := by simp [hlen]
    have HLn := Aside0.mk hlen
    clear hlen
    go_enter Tryz.func47, Tryz.ntmps47
    go_wp2
    go_loopg [7] (l0.length + 1) (fun g i w' => ∃ (k : Nat), k ≤ l0.length ∧ i = .int .i64 k ∧ Aside0 (g = l0.length + 1 - k) ∧ Aside0 ((l0 == l1) = (l0.drop k == l1.drop k)) ∧ Drawn0 w w')
    case atStart => exact ⟨0, Nat.zero_le _, rfl, ⟨by omega⟩, ⟨by simp⟩, Drawn0.refl _⟩
    case round =>
      obtain ⟨k, hk, rfl, hg, hd, ⟨m1, rfl⟩⟩ := hrel
      by_cases hlt : k < l0.length
      · have hlt1 : k < l1.length := by have := HLn.out; omega
        obtain ⟨ad0, e0, hx0⟩ := Kd.at_int HR0.out (k : Int) (by omega) (by omega)
        cases e0
        obtain ⟨ad1, e1, hx1⟩ := Kd.at_int HR1.out (k : Int) (by omega) (by omega)
        cases e1
        simp only [Int.toNat_natCast] at hx0 hx1
        have hdr : (l0.drop k == l1.drop k) = ((rd l0 k == rd l1 k) && (l0.drop (k + 1) == l1.drop (k + 1))) := by
          rw [rd_drop l0 k hlt, rd_drop l1 k hlt1]; rfl
        cases hq : (rd l0 k == rd l1 k) with
        | true =>
          have HQ := Aside0.mk hq
          clear hq
          have HD := Aside0.mk ((hd.out.trans hdr).trans (by rw [HQ.out, Bool.true_and]))
          clear hdr hd
          go_wp2
          go_quiet ((go_at_call 48; refine (plain1 _ _ _ HQ.out _).mono ?_; rintro e w' ⟨rfl, rfl⟩; exact ⟨rfl, _, rfl⟩))
          go_wp2
          go_roundg (l0.length + 1 - (k + 1))
          case measure => have := hg.out; omega
          case rel => exact ⟨k + 1, by omega, by simp, ⟨rfl⟩, ⟨HD.out⟩, ⟨_, rfl⟩⟩
        | false =>
          have HQ := Aside0.mk hq
          clear hq
          have HD := Aside0.mk ((hd.out.trans hdr).trans (by rw [HQ.out, Bool.false_and]))
          clear hdr hd
          go_wp2
          go_quiet ((go_at_call 48; refine (plain1 _ _ _ HQ.out _).mono ?_; rintro e w' ⟨rfl, rfl⟩; exact ⟨rfl, _, rfl⟩))
          go_wp2
          go_ret
          exact ⟨by rw [← HR.out, HD.out]; rfl, ⟨_, World.drewN_drewN _ _ _⟩⟩
      · go_wp2
        go_ret
        have hk2 : k = l0.length := by omega
        exact ⟨by rw [← HR.out, hd.out, List.drop_of_length_le (by omega), List.drop_of_length_le (by have := HLn.out; omega)]; rfl, ⟨_, rfl⟩⟩
  · have hb : ((l0.length : Int) != (l1.length : Int)) = true := by simp; omega
    have HLn := Aside0.mk hlen
    clear hlen
    go_enter Tryz.func47, Tryz.ntmps47
    go_wp2
    go_ret
    refine ⟨?_, Drawn0.refl _⟩
    rw [← HR.out]
    have : (l0 == l1) = false := by
      rw [beq_eq_false_iff_ne]
      exact fun h => HLn.out (by rw [h])
    rw [this]; rfl
def help_Plain_int.f (l0 l1 : List Int) : Option Bool := if l0.length ≤ 1000000000 then some (l0 == l1) else none
theorem help_Plain_int.calls (A0 : Option Addr) (c0 : Nat) (l0 : List Int) (A1 : Option Addr) (c1 : Nat) (l1 : List Int) (r : Bool) (w : World) (hr0 : Kd.C (Kd.int .i64) w A0 l0.length l0) (hc0 : l0.length ≤ c0) (hr1 : Kd.C (Kd.int .i64) w A1 l1.length l1) (hc1 : l1.length ≤ c1) (h : help_Plain_int.f l0 l1 = some r) :
    Calls Tryz.prog 23 #[.slice A0 l0.length c0, .slice A1 l1.length c1] w fun e w' => e = .returned (.bool r) ∧ Drawn0 w w' := by
  unfold help_Plain_int.f at h
  by_cases hm : l0.length ≤ 1000000000
  · rw [if_pos hm] at h
    have HS := Aside0.mk (same_any A0 A1 c0 c1 l0 l1 r (Option.some.inj h) w hr0 hc0 hr1 hc1 hm)
    clear h hr0 hr1
    go_enter Tryz.func23, Tryz.ntmps23
    go_wp2_with fail

    refine HS.out.mono ?_
    rintro e w1 ⟨rfl, ⟨n, rfl⟩⟩
    go_wp2
    go_ret
    exact ⟨rfl, ⟨n, rfl⟩⟩
  · rw [if_neg hm] at h
    cases h
end Go.Proofs.YtbbbjjfecblhpaaGreat.HL
/- What a law of days asks of lists that calls hand back. -/
namespace Go.Proofs.YtbbbjjfecblhpaaGreat.Du
open Go.RowKit Go.Proofs.YtbbbjjfecblhpaaGreatW.PrintWords Go.Proofs.YtbbbjjfecblhpaaGreatW.PrintLast Go.Proofs.YtbbbjjfecblhpaaGreatW.PrintMore Go.Proofs.YtbbbjjfecblhpaaGreat.HW
open Go.Proofs.YtbbbjjfecblhpaaGreat.Math Go.Proofs.YtbbbjjfecblhpaaGreat.H Go.Proofs.YtbbbjjfecblhpaaGreat.Pd Pm
set_option linter.unusedVariables false
set_option linter.unusedSimpArgs false
theorem near_any (p : Prod) (A1 : Option Addr) (c1 : Nat) (A2 : Option Addr) (c2 : Nat) (A3 : Option Addr) (c3 : Nat) (n : Int) (w : World) (hp : ProdAt w p A1 c1 A2 c2 A3 c3) (hs : Held p) (n1 : 1 ≤ n) (n2 : n ≤ 1000) :
    Calls Tryz.prog 6 #[pv p A1 c1 A2 c2 A3 c3, .int .i64 n] w (NearE p A1 c1 A2 c2 A3 c3 (nearP p n) w) := by
  cases ho : ok p with
  | false => exact near_not p A1 c1 A2 c2 A3 c3 n w hp hs ho n1 n2
  | true => exact near_ok p A1 c1 A2 c2 A3 c3 n w hp hs ho
theorem C_nil (w : World) : Kd.C (Kd.int .i64) w none 0 [] := Kd.C_of_reads (d := (0 : Int)) ⟨rfl, by omega, fun h => absurd h (by omega)⟩
theorem plain_sameL (A0 A1 : Option Addr) (c0 c1 : Nat) (l : List Int) (w : World) (h0 : Kd.C (Kd.int .i64) w A0 l.length l) (k0 : l.length ≤ c0) (h1 : Kd.C (Kd.int .i64) w A1 l.length l) (k1 : l.length ≤ c1) (hm : l.length ≤ 1000000) :
    Calls Tryz.prog 23 #[.slice A0 l.length c0, .slice A1 l.length c1] w fun e w' => e = .returned (.bool true) ∧ Below w.heap.size w w' :=
  (HL.help_Plain_int.calls A0 c0 l A1 c1 l true w h0 k0 h1 k1 (by unfold HL.help_Plain_int.f; rw [if_pos (by omega)]; simp)).mono fun _ _ h => ⟨h.1, h.2.below⟩
theorem right_any (A0 : Option Addr) (c0 : Nat) (l : List Int) (w : World) (h0 : Kd.C (Kd.int .i64) w A0 l.length l) (k0 : l.length ≤ c0) (hm : l.length ≤ 1000000) :
    Calls Tryz.prog 32 #[.slice A0 l.length c0] w fun e w' => e = .returned (.bool (rightB l)) ∧ Below w.heap.size w w' :=
  (H.ref05_Right.calls A0 c0 l (rightB l) w h0 k0 (by unfold H.ref05_Right.f; rw [if_pos (by omega)])).mono fun _ _ h => ⟨h.1, h.2.below⟩
end Go.Proofs.YtbbbjjfecblhpaaGreat.Du
/- Plain: a product near another one may be, whatever its way of rolling, without holidays. -/
namespace Go.Proofs.YtbbbjjfecblhpaaGreat.Du
open Go.RowKit Go.Proofs.YtbbbjjfecblhpaaGreatW.PrintWords Go.Proofs.YtbbbjjfecblhpaaGreatW.PrintLast Go.Proofs.YtbbbjjfecblhpaaGreatW.PrintMore Go.Proofs.YtbbbjjfecblhpaaGreat.HW
open Go.Proofs.YtbbbjjfecblhpaaGreat.Math Go.Proofs.YtbbbjjfecblhpaaGreat.H Go.Proofs.YtbbbjjfecblhpaaGreat.Pd Pm
set_option linter.unusedVariables false
set_option linter.unusedSimpArgs false
theorem ok_iff (p : Prod) : ok p = true ↔ ((((nameOk p.name.data.toList = true ∧ (1 ≤ p.count ∧ p.count ≤ 3) ∧ (p.round = 1 ∨ p.round = 3) ∧ (1 ≤ p.kind ∧ p.kind ≤ 3) ∧ (p.every = 1 ∨ p.every = 2 ∨ p.every = 3 ∨ p.every = 4 ∨ p.every = 6 ∨ p.every = 12) ∧ (1 ≤ p.times ∧ p.times ≤ 600) ∧ (0 ≤ p.grace ∧ p.grace ≤ p.times - 1) ∧ (p.kind = 3 → p.grace = 0)) ∧
    ((0 ≤ p.rate ∧ p.rate ≤ 1000000000) ∧ (0 ≤ p.penalty ∧ p.penalty ≤ 1000000000) ∧ p.resets.length ≤ 20) ∧ resetsOk p.times 0 p.resets = true) ∧ orderOk p.o1 p.o2 p.o3 p.o4 = true ∧ 1 ≤ p.over ∧ p.over ≤ 3) ∧
    (p.late.length ≤ 8 ∧ (0 ≤ p.cap ∧ p.cap ≤ 10000000000000) ∧ (p.late = [] → p.cap = 0)) ∧ tiersOk 0 0 p.late = true) ∧ (p.hol.length ≤ 200 ∧ (1 ≤ p.roll ∧ p.roll ≤ 4) ∧ (p.roll = 1 → p.hol = [])) ∧ holsOk (-25568) p.hol = true := by
  simp only [ok, shapeOk, ratesOk, ordOk, lateOk, daysOk, Bool.and_eq_true, decide_eq_true_eq]
theorem ok_graced {q : Prod} (h : (ok { q with grace := 0 } = true)) (hg : ¬ (q.times ≤ q.grace ∨ q.kind = 3)) (g0 : 0 ≤ q.grace) : ok q = true := by
  have h' := (ok_iff _).1 h
  obtain ⟨⟨⟨⟨⟨a1, a2, a3, a4, a5, a6, a7, a8⟩, b⟩, c⟩, d⟩, e⟩ := h'
  exact (ok_iff _).2 ⟨⟨⟨⟨⟨a1, a2, a3, a4, a5, a6, ⟨g0, by omega⟩, fun h => absurd (Or.inr h) hg⟩, b⟩, c⟩, d⟩, e⟩
theorem ok_nearD {q : Prod} (h : (ok { q with grace := 0 } = true)) (g0 : 0 ≤ q.grace) : ok (nearD q) = true := by
  unfold nearD
  split
  · exact h
  · rename_i hg; exact ok_graced h hg g0
theorem nearD_times (q : Prod) : (nearD q).times = q.times ∧ (nearD q).count = q.count ∧ (nearD q).every = q.every := by
  unfold nearD
  split <;> exact ⟨rfl, rfl, rfl⟩
theorem plain_good : ok plainP = true := by decide +kernel
theorem near_valid (p : Prod) {n : Int} (n1 : 1 ≤ n) (n2 : n ≤ 600) : ok (nearP p n) = true ∧ (nearP p n).times ≤ n := by
  unfold nearP
  split
  · rename_i h
    obtain ⟨⟨⟨⟨⟨a1, a2, a3, a4, a5, a6, a7, a8⟩, ⟨b1, b2, b3⟩, b4⟩, c⟩, d⟩, e⟩ := (ok_iff _).1 h
    split
    · rename_i hn
      refine ⟨ok_nearD ((ok_iff _).2 ⟨⟨⟨⟨⟨a1, a2, a3, a4, a5, ⟨n1, n2⟩, ⟨by show (0 : Int) ≤ 0; omega, by show (0 : Int) ≤ n - 1; omega⟩, fun _ => rfl⟩, ⟨b1, b2, by show (0 : Nat) ≤ 20; omega⟩, rfl⟩, c⟩, d⟩, e⟩) a7.1, ?_⟩
      rw [(nearD_times _).1]
      exact Int.le_refl n
    · rename_i hn
      refine ⟨ok_nearD ((ok_iff _).2 ⟨⟨⟨⟨⟨a1, a2, a3, a4, a5, a6, ⟨by show (0 : Int) ≤ 0; omega, by show (0 : Int) ≤ p.times - 1; omega⟩, fun _ => rfl⟩, ⟨b1, b2, b3⟩, b4⟩, c⟩, d⟩, e⟩) a7.1, ?_⟩
      rw [(nearD_times _).1]
      omega
  · have u1 := U_bd p.count (m := 3) (by omega)
    have u2 := U_bd p.kind (m := 3) (by omega)
    have u3 := U_bd p.every (m := 6) (by omega)
    have u4 := U_bd p.times (m := n) (by omega)
    have u5 := U_bd p.rate (m := 300000000) (by omega)
    have u6 := U_bd p.penalty (m := 500000000) (by omega)
    have u7 := U_bd p.over (m := 3) (by omega)
    obtain ⟨⟨⟨⟨⟨a1, a2, a3, a4, a5, a6, a7, a8⟩, ⟨b1, b2, b3⟩, b4⟩, c⟩, d⟩, e⟩ := (ok_iff _).1 plain_good
    refine ⟨ok_nearD ((ok_iff _).2 ⟨⟨⟨⟨⟨a1, ⟨by show 1 ≤ 1 + U p.count 3; omega, by show 1 + U p.count 3 ≤ 3; omega⟩, ?_, ⟨by show 1 ≤ 1 + U p.kind 3; omega, by show 1 + U p.kind 3 ≤ 3; omega⟩, ?_, ⟨by show 1 ≤ 1 + U p.times n; omega, by show 1 + U p.times n ≤ 600; omega⟩, ⟨by show (0 : Int) ≤ 0; omega, by show (0 : Int) ≤ 1 + U p.times n - 1; omega⟩, fun _ => rfl⟩, ⟨⟨by show 0 ≤ U p.rate 300000000; omega, by show U p.rate 300000000 ≤ 1000000000; omega⟩, ⟨by show 0 ≤ U p.penalty 500000000; omega, by show U p.penalty 500000000 ≤ 1000000000; omega⟩, b3⟩, rfl⟩, ⟨c.1, by show 1 ≤ 1 + U p.over 3; omega, by show 1 + U p.over 3 ≤ 3; omega⟩⟩, d⟩, e⟩) (by show (0 : Int) ≤ 0; omega), ?_⟩
    · show (if U p.round 2 = 0 then (1 : Int) else 3) = 1 ∨ (if U p.round 2 = 0 then (1 : Int) else 3) = 3
      split
      · exact Or.inl rfl
      · exact Or.inr rfl
    · generalize hx : (nearB p n).every = x
      have hx' : (if U p.every 6 = 0 then (1 : Int) else if U p.every 6 = 1 then 2 else if U p.every 6 = 2 then 3 else if U p.every 6 = 3 then 4 else if U p.every 6 = 4 then 6 else 12) = x := hx
      show x = 1 ∨ x = 2 ∨ x = 3 ∨ x = 4 ∨ x = 6 ∨ x = 12
      repeat' split at hx'
      all_goals omega
    · rw [(nearD_times _).1]
      show 1 + U p.times n ≤ n
      omega
end Go.Proofs.YtbbbjjfecblhpaaGreat.Du
/- Plain: the days of a product near another one, from a day of thirty years: they are there, and lie far apart. -/
namespace Go.Proofs.YtbbbjjfecblhpaaGreat.Du
open Go.RowKit Go.Proofs.YtbbbjjfecblhpaaGreatW.PrintWords Go.Proofs.YtbbbjjfecblhpaaGreatW.PrintLast Go.Proofs.YtbbbjjfecblhpaaGreatW.PrintMore Go.Proofs.YtbbbjjfecblhpaaGreat.HW
open Go.Proofs.YtbbbjjfecblhpaaGreat.Math Go.Proofs.YtbbbjjfecblhpaaGreat.H Go.Proofs.YtbbbjjfecblhpaaGreat.Pd Pm
set_option linter.unusedVariables false
set_option linter.unusedSimpArgs false
/-- The day so many months behind. -/
def A (n k : Int) : Int := dayAt (idx n + k) (min (dayOf n) (ml (idx n + k)))
end Go.Proofs.YtbbbjjfecblhpaaGreat.Du
/- Plain: parts between days far apart are above nothing; their sum is what lies between the first day and the last one. -/
namespace Go.Proofs.YtbbbjjfecblhpaaGreat.Du
open Go.RowKit Go.Proofs.YtbbbjjfecblhpaaGreatW.PrintWords Go.Proofs.YtbbbjjfecblhpaaGreatW.PrintLast Go.Proofs.YtbbbjjfecblhpaaGreatW.PrintMore Go.Proofs.YtbbbjjfecblhpaaGreat.HW
open Go.Proofs.YtbbbjjfecblhpaaGreat.Math Go.Proofs.YtbbbjjfecblhpaaGreat.H Go.Proofs.YtbbbjjfecblhpaaGreat.Pd Pm
set_option linter.unusedVariables false
set_option linter.unusedSimpArgs false
/-- The day ahead of the k-th one. -/
def prev (s : Int) (l : List Int) (k : Nat) : Int := if k = 0 then s else l.getD (k - 1) 0
end Go.Proofs.YtbbbjjfecblhpaaGreat.Du
/- Plain: what nights of a loan without dues leave: the rests. -/
namespace Go.Proofs.YtbbbjjfecblhpaaGreat.Nt
open Go.RowKit Go.Proofs.YtbbbjjfecblhpaaGreatW.PrintWords Go.Proofs.YtbbbjjfecblhpaaGreatW.PrintLast Go.Proofs.YtbbbjjfecblhpaaGreatW.PrintMore Go.Proofs.YtbbbjjfecblhpaaGreat.HW
open Go.Proofs.YtbbbjjfecblhpaaGreat.Math Go.Proofs.YtbbbjjfecblhpaaGreat.H Go.Proofs.YtbbbjjfecblhpaaGreat.Pd Go.Proofs.YtbbbjjfecblhpaaGreat.Du Go.Proofs.YtbbbjjfecblhpaaGreat.Lv Pm
set_option linter.unusedVariables false
set_option linter.unusedSimpArgs false
theorem gp_pos (c : Int) : 360 ≤ Gm.gp c ∧ Gm.gp c ≤ 133590 := by
  unfold Gm.gp
  split
  · decide
  · split <;> decide
end Go.Proofs.YtbbbjjfecblhpaaGreat.Nt
/- Plain: nights, and nights behind them, are as1 all of them. -/
namespace Go.Proofs.YtbbbjjfecblhpaaGreat.Nt
open Go.RowKit Go.Proofs.YtbbbjjfecblhpaaGreatW.PrintWords Go.Proofs.YtbbbjjfecblhpaaGreatW.PrintLast Go.Proofs.YtbbbjjfecblhpaaGreatW.PrintMore Go.Proofs.YtbbbjjfecblhpaaGreat.HW
open Go.Proofs.YtbbbjjfecblhpaaGreat.Math Go.Proofs.YtbbbjjfecblhpaaGreat.H Go.Proofs.YtbbbjjfecblhpaaGreat.Pd Go.Proofs.YtbbbjjfecblhpaaGreat.Du Go.Proofs.YtbbbjjfecblhpaaGreat.Lv Pm
set_option linter.unusedVariables false
set_option linter.unusedSimpArgs false
/-- Money that is right, taken apart. -/
theorem readM_parts {m : Mny} (h : (readM m).isSome = true) : ∃ a b, dsum none m.dues 0 0 = some (a, b) ∧ readM m = some (a, b) ∧ (-1000000000000000 ≤ m.cash ∧ m.cash ≤ 1000000000000000) ∧ m.cash + m.p + m.acc + a + b + m.pen + m.fees = m.un + m.earned + m.fined + m.charged ∧ (0 ≤ b ∧ b ≤ 1000000000000000) := by
  have h' := h
  unfold readM at h'
  split at h'
  · rename_i h1
    cases hd : dsum none m.dues 0 0 with
    | none => rw [hd] at h'; cases h'
    | some ab =>
      obtain ⟨a, b⟩ := ab
      obtain ⟨-, bb⟩ := dsum_bd m.dues none 0 0 a b (by decide) (by decide) hd
      rw [hd] at h'
      simp only at h'
      split at h'
      · rename_i h2
        refine ⟨a, b, rfl, ?_, ⟨h2.1, h2.2.1⟩, h2.2.2, mayB_iff.1 bb⟩
        unfold readM
        rw [if_pos h1, hd]
        simp only
        rw [if_pos h2]
      · cases h'
  · cases h'
abbrev hP (q : Pm.Prod) : Int := Gm.half q.count q.round
theorem nightsP_in {q : Pm.Prod} {s : St} {n : Int} (hm : mayE q s = 0) (h0 : 0 ≤ n) (hn : s.day + n ≤ 84370) : nightsP q s n = nightsB q s n := by
  unfold nightsP
  rw [if_neg (fun h => h hm), if_neg (by omega), if_neg (by omega)]
end Go.Proofs.YtbbbjjfecblhpaaGreat.Nt
/- Contracts by hand: the document's words of money that is right. -/
namespace Go.Proofs.YtbbbjjfecblhpaaGreat.Nt
open Go.RowKit Go.Proofs.YtbbbjjfecblhpaaGreatW.PrintWords Go.Proofs.YtbbbjjfecblhpaaGreatW.PrintLast Go.Proofs.YtbbbjjfecblhpaaGreatW.PrintMore Go.Proofs.YtbbbjjfecblhpaaGreat.HW
open Go.Proofs.YtbbbjjfecblhpaaGreat.Math Go.Proofs.YtbbbjjfecblhpaaGreat.H Go.Proofs.YtbbbjjfecblhpaaGreat.Pd Go.Proofs.YtbbbjjfecblhpaaGreat.Du Go.Proofs.YtbbbjjfecblhpaaGreat.Lv Pm
set_option linter.unusedVariables false
set_option linter.unusedSimpArgs false
attribute [local go_sem] max2_int min2_int max_two min_two
theorem rmay_any (v : Int) (r : Bool) (h : mayB v = r) (w : World) : Calls Tryz.prog 46 #[.int .i64 v] w fun e w' => e = .returned (.bool r) ∧ w' = w := by
  unfold mayB at h
  by_cases h0 : 0 ≤ v
  · by_cases h1 : v ≤ 1000000000000000
    · rw [decide_eq_true h0, decide_eq_true h1] at h
      obtain rfl : true = r := h
      go_enter Tryz.func46, Tryz.ntmps46
      go_wp2
      go_ret
      exact ⟨rfl, rfl⟩
    · rw [decide_eq_true h0, decide_eq_false h1] at h
      obtain rfl : false = r := h
      go_enter Tryz.func46, Tryz.ntmps46
      go_wp2
      go_ret
      exact ⟨rfl, rfl⟩
  · rw [decide_eq_false h0] at h
    obtain rfl : false = r := h
    go_enter Tryz.func46, Tryz.ntmps46
    go_wp2
    go_ret
    exact ⟨rfl, rfl⟩
theorem zz_or {z1 z2 : Bool} (h : (z1 && z2) = false) : z1 = false ∨ (z1 = true ∧ z2 = false) := by
  revert h
  cases z1 <;> cases z2 <;> simp
/-- What the document's sums hand back. -/
def dueV (r : Option (Int × Int)) : Value := match r with
  | none => .tuple #[.int .i64 0, .int .i64 0, .bool false]
  | some (a, b) => .tuple #[.int .i64 a, .int .i64 b, .bool true]
set_option maxRecDepth 100000 in
set_option maxHeartbeats 20000000 in
theorem due_any (A : Option Addr) (c : Nat) (rows : List (List Int)) (w : World) (hr : Op.IntRows w A 4 rows) (hm : rows.length ≤ 140737488351232) :
    Calls Tryz.prog 45 #[.slice A rows.length c] w fun e w' => e = .returned (dueV (dsum none rows 0 0)) ∧ Below w.heap.size w w' := by
  have HR := Aside0.mk hr
  clear hr
  obtain ⟨res, hres⟩ : ∃ r, dsum none rows 0 0 = r := ⟨_, rfl⟩
  rw [hres]
  have RES := Aside0.mk hres
  clear hres
  go_enter Tryz.func45, Tryz.ntmps45
  go_wp2_with fail
  go_loopg [5, 6, 7] (rows.length + 1) (fun gq av bv iv w' => ∃ (k : Nat) (a b : Int), k ≤ rows.length ∧ iv = .int .i64 (k : Int) ∧ av = .int .i64 a ∧ bv = .int .i64 b ∧ Aside0 (gq = rows.length + 1 - k) ∧ Aside0 (dsum (pvA rows k) (rows.drop k) a b = res) ∧ Aside0 (mayB a = true ∧ mayB b = true) ∧ Aside0 (Below w.heap.size w w'))
  case atStart => exact ⟨0, 0, 0, by omega, rfl, rfl, rfl, ⟨rfl⟩, ⟨by rw [List.drop_zero]; exact RES.out⟩, ⟨by decide, by decide⟩, ⟨Below.refl _ _⟩⟩
  case round =>
    obtain ⟨k, a, b, kn, rfl, rfl, rfl, hgq, HD, MAB, HB⟩ := hrel
    by_cases hlt : k < rows.length
    · obtain ⟨ad, n, d, i, q, rfl, hrow, p0, p1, p2, p3, wn, wi, wq⟩ := four_at (HR.out.below HB.out) k hlt
      have hd := HD.out
      rw [List.drop_eq_getElem_cons hlt, show rows[k] = [n, d, i, q] from (List.getElem?_eq_some_iff.1 hrow).2, dsum_step] at hd
      have hpv : pvA rows (k + 1) = some (n, d) := by simp only [pvA, hrow]
      have HPV := Aside0.mk hpv
      obtain ⟨ma, mb⟩ := MAB.out
      have ma := mayB_iff.1 ma
      have mb := mayB_iff.1 mb
      have kl : (k : Int) < (rows.length : Int) := by omega
      clear hrow hpv wn
      by_cases hn : n < 1
      · have hn1 : decide (n < 1) = true := decide_eq_true hn
        have MI := Aside0.mk (fun W => rmay_any 0 true rfl W)
        have MQ := MI
        have hd : none = res := by rw [← hd]; simp [okDue, show ¬ (1 ≤ n) by omega]
        subst hd
        clear wi wq hn
        go_wp2_with ((with_reducible refine gate_dst (N := 8) rfl ?_); refine copy_event rfl (N := 8) rfl rfl rfl (t := 39) (v := .tmp 18) rfl (cs := #[.int .i64 n, .int .i64 d, .int .i64 i, .int .i64 q]) (zs := #[.int .i64 0, .int .i64 0, .int .i64 0, .int .i64 0]) ?hr rfl rfl info_dueN ?hz (by simp [Value.oneCell']) ?_; (case hr => first | (go_simp; done) | (go_simp; rfl)); (case hz => rfl); intro gd hg wd hb1 hb; clear hg; have GD := Aside0.mk hb1; have HB := Aside0.mk (below_step HB.out hb); have c0 := (show wd.cell? ⟨gd, 0, none⟩ = some (.int .i64 n) from (blk_cell hb1 0).trans rfl); have c1 := (show wd.cell? ⟨gd, 1, none⟩ = some (.int .i64 d) from (blk_cell hb1 1).trans rfl); have c2 := (show wd.cell? ⟨gd, 2, none⟩ = some (.int .i64 i) from (blk_cell hb1 2).trans rfl); have c3 := (show wd.cell? ⟨gd, 3, none⟩ = some (.int .i64 q) from (blk_cell hb1 3).trans rfl); clear hb hb1)
        (try simp only [Act.put, List.setIfInBounds_toArray, List.set_cons_zero, List.set_cons_succ])
        go_quiet ((go_at_call 46; (first | (with_reducible refine (MI.out _).mono ?_) | (with_reducible refine (MQ.out _).mono ?_)); rintro e w' ⟨rfl, rfl⟩; exact ⟨rfl, _, rfl⟩))
        obtain ⟨wq, hwq⟩ : ∃ x, wd.drewN nq = x := ⟨_, rfl⟩
        have B0 : Below wd.heap.size wd wq := by rw [← hwq]; exact pw_below_drewN (Below.refl _ _) nq
        rw [hwq]
        have GD := Aside0.mk (Pd.blk_below GD.out B0)
        have HB := Aside0.mk (below_step HB.out B0)
        clear hwq B0 c0 c1 c2 c3
        go_wp2_with fail
        go_ret3
        exact ⟨rfl, HB.out⟩
      · have hn1 : decide (n < 1) = false := decide_eq_false hn
        cases hI : mayB i with
        | false =>
          have MI := Aside0.mk (fun W => rmay_any i false hI W)
          have MQ := MI
          have hd : none = res := by rw [← hd]; simp [okDue, hI]
          subst hd
          clear hI wi wq hn
          go_wp2_with ((with_reducible refine gate_dst (N := 8) rfl ?_); refine copy_event rfl (N := 8) rfl rfl rfl (t := 39) (v := .tmp 18) rfl (cs := #[.int .i64 n, .int .i64 d, .int .i64 i, .int .i64 q]) (zs := #[.int .i64 0, .int .i64 0, .int .i64 0, .int .i64 0]) ?hr rfl rfl info_dueN ?hz (by simp [Value.oneCell']) ?_; (case hr => first | (go_simp; done) | (go_simp; rfl)); (case hz => rfl); intro gd hg wd hb1 hb; clear hg; have GD := Aside0.mk hb1; have HB := Aside0.mk (below_step HB.out hb); have c0 := (show wd.cell? ⟨gd, 0, none⟩ = some (.int .i64 n) from (blk_cell hb1 0).trans rfl); have c1 := (show wd.cell? ⟨gd, 1, none⟩ = some (.int .i64 d) from (blk_cell hb1 1).trans rfl); have c2 := (show wd.cell? ⟨gd, 2, none⟩ = some (.int .i64 i) from (blk_cell hb1 2).trans rfl); have c3 := (show wd.cell? ⟨gd, 3, none⟩ = some (.int .i64 q) from (blk_cell hb1 3).trans rfl); clear hb hb1)
          (try simp only [Act.put, List.setIfInBounds_toArray, List.set_cons_zero, List.set_cons_succ])
          go_quiet ((go_at_call 46; (first | (with_reducible refine (MI.out _).mono ?_) | (with_reducible refine (MQ.out _).mono ?_)); rintro e w' ⟨rfl, rfl⟩; exact ⟨rfl, _, rfl⟩))
          obtain ⟨wq, hwq⟩ : ∃ x, wd.drewN nq = x := ⟨_, rfl⟩
          have B0 : Below wd.heap.size wd wq := by rw [← hwq]; exact pw_below_drewN (Below.refl _ _) nq
          rw [hwq]
          have GD := Aside0.mk (Pd.blk_below GD.out B0)
          have HB := Aside0.mk (below_step HB.out B0)
          clear hwq B0 c0 c1 c2 c3
          go_wp2_with fail
          go_ret3
          exact ⟨rfl, HB.out⟩
        | true =>
          have MI := Aside0.mk (fun W => rmay_any i true hI W)
          have bi := mayB_iff.1 hI
          cases hQ : mayB q with
          | false =>
            have MQ := Aside0.mk (fun W => rmay_any q false hQ W)
            have hd : none = res := by rw [← hd]; simp [okDue, hQ]
            subst hd
            clear hI hQ wi wq hn bi
            go_wp2_with ((with_reducible refine gate_dst (N := 8) rfl ?_); refine copy_event rfl (N := 8) rfl rfl rfl (t := 39) (v := .tmp 18) rfl (cs := #[.int .i64 n, .int .i64 d, .int .i64 i, .int .i64 q]) (zs := #[.int .i64 0, .int .i64 0, .int .i64 0, .int .i64 0]) ?hr rfl rfl info_dueN ?hz (by simp [Value.oneCell']) ?_; (case hr => first | (go_simp; done) | (go_simp; rfl)); (case hz => rfl); intro gd hg wd hb1 hb; clear hg; have GD := Aside0.mk hb1; have HB := Aside0.mk (below_step HB.out hb); have c0 := (show wd.cell? ⟨gd, 0, none⟩ = some (.int .i64 n) from (blk_cell hb1 0).trans rfl); have c1 := (show wd.cell? ⟨gd, 1, none⟩ = some (.int .i64 d) from (blk_cell hb1 1).trans rfl); have c2 := (show wd.cell? ⟨gd, 2, none⟩ = some (.int .i64 i) from (blk_cell hb1 2).trans rfl); have c3 := (show wd.cell? ⟨gd, 3, none⟩ = some (.int .i64 q) from (blk_cell hb1 3).trans rfl); clear hb hb1)
            (try simp only [Act.put, List.setIfInBounds_toArray, List.set_cons_zero, List.set_cons_succ])
            go_quiet ((go_at_call 46; (first | (with_reducible refine (MI.out _).mono ?_) | (with_reducible refine (MQ.out _).mono ?_)); rintro e w' ⟨rfl, rfl⟩; exact ⟨rfl, _, rfl⟩))
            obtain ⟨wq, hwq⟩ : ∃ x, wd.drewN nq = x := ⟨_, rfl⟩
            have B0 : Below wd.heap.size wd wq := by rw [← hwq]; exact pw_below_drewN (Below.refl _ _) nq
            rw [hwq]
            have GD := Aside0.mk (Pd.blk_below GD.out B0)
            have HB := Aside0.mk (below_step HB.out B0)
            clear hwq B0 c0 c1 c2 c3
            go_wp2_with fail
            go_ret3
            exact ⟨rfl, HB.out⟩
          | true =>
            have MQ := Aside0.mk (fun W => rmay_any q true hQ W)
            have bq := mayB_iff.1 hQ
            by_cases hz : i + q = 0
            · have hz1 : (i == 0) = true := by simp; omega
              have hz2 : (q == 0) = true := by simp; omega
              have hd : none = res := by rw [← hd]; simp [okDue, hz]
              subst hd
              clear hI hQ wi wq hn hz bi bq
              go_wp2_with ((with_reducible refine gate_dst (N := 8) rfl ?_); refine copy_event rfl (N := 8) rfl rfl rfl (t := 39) (v := .tmp 18) rfl (cs := #[.int .i64 n, .int .i64 d, .int .i64 i, .int .i64 q]) (zs := #[.int .i64 0, .int .i64 0, .int .i64 0, .int .i64 0]) ?hr rfl rfl info_dueN ?hz (by simp [Value.oneCell']) ?_; (case hr => first | (go_simp; done) | (go_simp; rfl)); (case hz => rfl); intro gd hg wd hb1 hb; clear hg; have GD := Aside0.mk hb1; have HB := Aside0.mk (below_step HB.out hb); have c0 := (show wd.cell? ⟨gd, 0, none⟩ = some (.int .i64 n) from (blk_cell hb1 0).trans rfl); have c1 := (show wd.cell? ⟨gd, 1, none⟩ = some (.int .i64 d) from (blk_cell hb1 1).trans rfl); have c2 := (show wd.cell? ⟨gd, 2, none⟩ = some (.int .i64 i) from (blk_cell hb1 2).trans rfl); have c3 := (show wd.cell? ⟨gd, 3, none⟩ = some (.int .i64 q) from (blk_cell hb1 3).trans rfl); clear hb hb1)
              (try simp only [Act.put, List.setIfInBounds_toArray, List.set_cons_zero, List.set_cons_succ])
              go_quiet ((go_at_call 46; (first | (with_reducible refine (MI.out _).mono ?_) | (with_reducible refine (MQ.out _).mono ?_)); rintro e w' ⟨rfl, rfl⟩; exact ⟨rfl, _, rfl⟩))
              obtain ⟨wq, hwq⟩ : ∃ x, wd.drewN nq = x := ⟨_, rfl⟩
              have B0 : Below wd.heap.size wd wq := by rw [← hwq]; exact pw_below_drewN (Below.refl _ _) nq
              rw [hwq]
              have GD := Aside0.mk (Pd.blk_below GD.out B0)
              have HB := Aside0.mk (below_step HB.out B0)
              clear hwq B0 c0 c1 c2 c3
              go_wp2_with fail
              go_ret3
              exact ⟨rfl, HB.out⟩
            · have hz0 : (i + q == 0) = false := by simp [hz]
              clear hI hQ wi wq
              obtain ⟨z1, z2, hz1, hz2, hz3⟩ : ∃ z1 z2, (i == 0) = z1 ∧ (q == 0) = z2 ∧ (z1 && z2) = false := ⟨_, _, rfl, rfl, by cases h1 : (i == 0) with | false => rfl | true => cases h2 : (q == 0) with | false => rfl | true => exfalso; simp at h1 h2; omega⟩
              rcases (show k = 0 ∨ ∃ j, k = j + 1 by cases k with | zero => exact .inl rfl | succ j => exact .inr ⟨j, rfl⟩) with hk0 | ⟨j, hkj⟩
              · have hj0 : decide ((0 : Int) < (k : Int)) = false := decide_eq_false (by omega)
                have hj0' : decide (0 < k) = false := decide_eq_false (by omega)
                have hok : okDue (pvA rows k) n d i q = true := by rw [hk0]; simp [okDue, pvA, behind, mayB_iff.2 bi, mayB_iff.2 bq, hz0]; omega
                clear hk0 hn hz hz0
                rcases zz_or hz3 with rfl | ⟨rfl, rfl⟩
                · clear hz3
                  go_wp2_with ((with_reducible refine gate_dst (N := 8) rfl ?_); refine copy_event rfl (N := 8) rfl rfl rfl (t := 39) (v := .tmp 18) rfl (cs := #[.int .i64 n, .int .i64 d, .int .i64 i, .int .i64 q]) (zs := #[.int .i64 0, .int .i64 0, .int .i64 0, .int .i64 0]) ?hr rfl rfl info_dueN ?hz (by simp [Value.oneCell']) ?_; (case hr => first | (go_simp; done) | (go_simp; rfl)); (case hz => rfl); intro gd hg wd hb1 hb; clear hg; have GD := Aside0.mk hb1; have HB := Aside0.mk (below_step HB.out hb); have c0 := (show wd.cell? ⟨gd, 0, none⟩ = some (.int .i64 n) from (blk_cell hb1 0).trans rfl); have c1 := (show wd.cell? ⟨gd, 1, none⟩ = some (.int .i64 d) from (blk_cell hb1 1).trans rfl); have c2 := (show wd.cell? ⟨gd, 2, none⟩ = some (.int .i64 i) from (blk_cell hb1 2).trans rfl); have c3 := (show wd.cell? ⟨gd, 3, none⟩ = some (.int .i64 q) from (blk_cell hb1 3).trans rfl); clear hb hb1)
                  (try simp only [Act.put, List.setIfInBounds_toArray, List.set_cons_zero, List.set_cons_succ])
                  go_quiet ((go_at_call 46; (first | (with_reducible refine (MI.out _).mono ?_) | (with_reducible refine (MQ.out _).mono ?_)); rintro e w' ⟨rfl, rfl⟩; exact ⟨rfl, _, rfl⟩))
                  obtain ⟨wq, hwq⟩ : ∃ x, wd.drewN nq = x := ⟨_, rfl⟩
                  have B0 : Below wd.heap.size wd wq := by rw [← hwq]; exact pw_below_drewN (Below.refl _ _) nq
                  rw [hwq]
                  have GD := Aside0.mk (Pd.blk_below GD.out B0)
                  have HB := Aside0.mk (below_step HB.out B0)
                  clear hwq B0 c0 c1 c2 c3
                  clear hj0 hj0' hn1 hz1 hz2 p0 p1 p2 p3
                  have c2 := (show wq.cell? ⟨gd, 2, none⟩ = some (.int .i64 i) from (blk_cell GD.out 2).trans rfl)
                  have c3 := (show wq.cell? ⟨gd, 3, none⟩ = some (.int .i64 q) from (blk_cell GD.out 3).trans rfl)
                  obtain ⟨a2, ha2⟩ : ∃ x, a + i = x := ⟨_, rfl⟩
                  obtain ⟨b2, hb2⟩ : ∃ x, b + q = x := ⟨_, rfl⟩
                  have wa : IntKind.i64.wrap (a + i) = a2 := by rw [ha2]; exact IntWalk.i64_in _ (by omega)
                  have wb : IntKind.i64.wrap (b + q) = b2 := by rw [hb2]; exact IntWalk.i64_in _ (by omega)
                  rw [hok, Bool.true_and, ha2, hb2] at hd
                  clear ha2 hb2 bi bq ma mb hok
                  have MZ := Aside0.mk (Below.refl wq.heap.size wq)
                  go_wp2_with fail
                  go_quiet (fail)
                  cases hA : mayB a2 with
                  | false =>
                    have hd : none = res := by rw [← hd]; simp [hA]
                    subst hd
                    have MI := Aside0.mk (fun W => rmay_any a2 false hA W)
                    have MQ := MI
                    clear hA
                    go_wp2_with (go_at_call 46; (first | (with_reducible refine (MI.out _).mono ?_) | (with_reducible refine (MQ.out _).mono ?_)); rintro e w' ⟨rfl, rfl⟩)
                    go_ret3
                    exact ⟨rfl, (by first | exact HB.out | exact Below.drew HB.out | exact pw_below_drewN HB.out _)⟩
                  | true =>
                    have MI := Aside0.mk (fun W => rmay_any a2 true hA W)
                    cases hB : mayB b2 with
                    | false =>
                      have hd : none = res := by rw [← hd]; simp [hB]
                      subst hd
                      have MQ := Aside0.mk (fun W => rmay_any b2 false hB W)
                      clear hA hB
                      go_wp2_with (go_at_call 46; (first | (with_reducible refine (MI.out _).mono ?_) | (with_reducible refine (MQ.out _).mono ?_)); rintro e w' ⟨rfl, rfl⟩)
                      go_ret3
                      exact ⟨rfl, (by first | exact HB.out | exact Below.drew HB.out | exact pw_below_drewN HB.out _)⟩
                    | true =>
                      have hd : dsum (some (n, d)) (rows.drop (k + 1)) a2 b2 = res := by rw [← hd]; simp [hA, hB]
                      have hd := Aside0.mk hd
                      have MAB2 := Aside0.mk (And.intro hA hB)
                      have MQ := Aside0.mk (fun W => rmay_any b2 true hB W)
                      clear hA hB
                      go_wp2_with (go_at_call 46; (first | (with_reducible refine (MI.out _).mono ?_) | (with_reducible refine (MQ.out _).mono ?_)); rintro e w' ⟨rfl, rfl⟩)
                      go_roundg (rows.length + 1 - (k + 1))
                      case measure => have := hgq.out; omega
                      case rel => exact ⟨k + 1, a2, b2, by omega, by simp, rfl, rfl, ⟨rfl⟩, ⟨by rw [HPV.out]; exact hd.out⟩, ⟨MAB2.out⟩, ⟨(by first | exact HB.out | exact Below.drew HB.out | exact pw_below_drewN HB.out _)⟩⟩
                · clear hz3
                  go_wp2_with ((with_reducible refine gate_dst (N := 8) rfl ?_); refine copy_event rfl (N := 8) rfl rfl rfl (t := 39) (v := .tmp 18) rfl (cs := #[.int .i64 n, .int .i64 d, .int .i64 i, .int .i64 q]) (zs := #[.int .i64 0, .int .i64 0, .int .i64 0, .int .i64 0]) ?hr rfl rfl info_dueN ?hz (by simp [Value.oneCell']) ?_; (case hr => first | (go_simp; done) | (go_simp; rfl)); (case hz => rfl); intro gd hg wd hb1 hb; clear hg; have GD := Aside0.mk hb1; have HB := Aside0.mk (below_step HB.out hb); have c0 := (show wd.cell? ⟨gd, 0, none⟩ = some (.int .i64 n) from (blk_cell hb1 0).trans rfl); have c1 := (show wd.cell? ⟨gd, 1, none⟩ = some (.int .i64 d) from (blk_cell hb1 1).trans rfl); have c2 := (show wd.cell? ⟨gd, 2, none⟩ = some (.int .i64 i) from (blk_cell hb1 2).trans rfl); have c3 := (show wd.cell? ⟨gd, 3, none⟩ = some (.int .i64 q) from (blk_cell hb1 3).trans rfl); clear hb hb1)
                  (try simp only [Act.put, List.setIfInBounds_toArray, List.set_cons_zero, List.set_cons_succ])
                  go_quiet ((go_at_call 46; (first | (with_reducible refine (MI.out _).mono ?_) | (with_reducible refine (MQ.out _).mono ?_)); rintro e w' ⟨rfl, rfl⟩; exact ⟨rfl, _, rfl⟩))
                  obtain ⟨wq, hwq⟩ : ∃ x, wd.drewN nq = x := ⟨_, rfl⟩
                  have B0 : Below wd.heap.size wd wq := by rw [← hwq]; exact pw_below_drewN (Below.refl _ _) nq
                  rw [hwq]
                  have GD := Aside0.mk (Pd.blk_below GD.out B0)
                  have HB := Aside0.mk (below_step HB.out B0)
                  clear hwq B0 c0 c1 c2 c3
                  clear hj0 hj0' hn1 hz1 hz2 p0 p1 p2 p3
                  have c2 := (show wq.cell? ⟨gd, 2, none⟩ = some (.int .i64 i) from (blk_cell GD.out 2).trans rfl)
                  have c3 := (show wq.cell? ⟨gd, 3, none⟩ = some (.int .i64 q) from (blk_cell GD.out 3).trans rfl)
                  obtain ⟨a2, ha2⟩ : ∃ x, a + i = x := ⟨_, rfl⟩
                  obtain ⟨b2, hb2⟩ : ∃ x, b + q = x := ⟨_, rfl⟩
                  have wa : IntKind.i64.wrap (a + i) = a2 := by rw [ha2]; exact IntWalk.i64_in _ (by omega)
                  have wb : IntKind.i64.wrap (b + q) = b2 := by rw [hb2]; exact IntWalk.i64_in _ (by omega)
                  rw [hok, Bool.true_and, ha2, hb2] at hd
                  clear ha2 hb2 bi bq ma mb hok
                  have MZ := Aside0.mk (Below.refl wq.heap.size wq)
                  go_wp2_with fail
                  go_quiet (fail)
                  cases hA : mayB a2 with
                  | false =>
                    have hd : none = res := by rw [← hd]; simp [hA]
                    subst hd
                    have MI := Aside0.mk (fun W => rmay_any a2 false hA W)
                    have MQ := MI
                    clear hA
                    go_wp2_with (go_at_call 46; (first | (with_reducible refine (MI.out _).mono ?_) | (with_reducible refine (MQ.out _).mono ?_)); rintro e w' ⟨rfl, rfl⟩)
                    go_ret3
                    exact ⟨rfl, (by first | exact HB.out | exact Below.drew HB.out | exact pw_below_drewN HB.out _)⟩
                  | true =>
                    have MI := Aside0.mk (fun W => rmay_any a2 true hA W)
                    cases hB : mayB b2 with
                    | false =>
                      have hd : none = res := by rw [← hd]; simp [hB]
                      subst hd
                      have MQ := Aside0.mk (fun W => rmay_any b2 false hB W)
                      clear hA hB
                      go_wp2_with (go_at_call 46; (first | (with_reducible refine (MI.out _).mono ?_) | (with_reducible refine (MQ.out _).mono ?_)); rintro e w' ⟨rfl, rfl⟩)
                      go_ret3
                      exact ⟨rfl, (by first | exact HB.out | exact Below.drew HB.out | exact pw_below_drewN HB.out _)⟩
                    | true =>
                      have hd : dsum (some (n, d)) (rows.drop (k + 1)) a2 b2 = res := by rw [← hd]; simp [hA, hB]
                      have hd := Aside0.mk hd
                      have MAB2 := Aside0.mk (And.intro hA hB)
                      have MQ := Aside0.mk (fun W => rmay_any b2 true hB W)
                      clear hA hB
                      go_wp2_with (go_at_call 46; (first | (with_reducible refine (MI.out _).mono ?_) | (with_reducible refine (MQ.out _).mono ?_)); rintro e w' ⟨rfl, rfl⟩)
                      go_roundg (rows.length + 1 - (k + 1))
                      case measure => have := hgq.out; omega
                      case rel => exact ⟨k + 1, a2, b2, by omega, by simp, rfl, rfl, ⟨rfl⟩, ⟨by rw [HPV.out]; exact hd.out⟩, ⟨MAB2.out⟩, ⟨(by first | exact HB.out | exact Below.drew HB.out | exact pw_below_drewN HB.out _)⟩⟩
              · obtain ⟨ad', pn, pd, pi, pq, e', hrow', r0, r1, -⟩ := four_at (HR.out.below HB.out) j (by omega)
                obtain rfl := Option.some.inj e'
                have hj1 : decide ((0 : Int) < (k : Int)) = true := decide_eq_true (by omega)
                have hj1' : decide (0 < k) = true := decide_eq_true (by omega)
                have hjs : IntKind.i64.wrap ((k : Int) - 1) = (j : Int) := by rw [IntWalk.i64_in _ (by omega)]; omega
                have hjl : (j : Int) < (rows.length : Int) := by omega
                have hpj : pvA rows k = some (pn, pd) := by rw [hkj]; simp only [pvA, hrow']
                by_cases h1 : n ≤ pn
                · have o1 : decide (n ≤ pn) = true := decide_eq_true h1
                  have hd : none = res := by rw [← hd, hpj]; simp [okDue, behind, show ¬ (pn < n) by omega]
                  subst hd
                  clear hkj hpj hrow' bi bq ma mb hn h1 hz hz0
                  rcases zz_or hz3 with rfl | ⟨rfl, rfl⟩
                  · clear hz3
                    go_wp2_with ((with_reducible refine gate_dst (N := 8) rfl ?_); refine copy_event rfl (N := 8) rfl rfl rfl (t := 39) (v := .tmp 18) rfl (cs := #[.int .i64 n, .int .i64 d, .int .i64 i, .int .i64 q]) (zs := #[.int .i64 0, .int .i64 0, .int .i64 0, .int .i64 0]) ?hr rfl rfl info_dueN ?hz (by simp [Value.oneCell']) ?_; (case hr => first | (go_simp; done) | (go_simp; rfl)); (case hz => rfl); intro gd hg wd hb1 hb; clear hg; have GD := Aside0.mk hb1; have HB := Aside0.mk (below_step HB.out hb); have c0 := (show wd.cell? ⟨gd, 0, none⟩ = some (.int .i64 n) from (blk_cell hb1 0).trans rfl); have c1 := (show wd.cell? ⟨gd, 1, none⟩ = some (.int .i64 d) from (blk_cell hb1 1).trans rfl); have c2 := (show wd.cell? ⟨gd, 2, none⟩ = some (.int .i64 i) from (blk_cell hb1 2).trans rfl); have c3 := (show wd.cell? ⟨gd, 3, none⟩ = some (.int .i64 q) from (blk_cell hb1 3).trans rfl); have r0 := cell_laterN hb r0; have r1 := cell_laterN hb r1; clear hb hb1)
                    (try simp only [Act.put, List.setIfInBounds_toArray, List.set_cons_zero, List.set_cons_succ])
                    go_quiet ((go_at_call 46; (first | (with_reducible refine (MI.out _).mono ?_) | (with_reducible refine (MQ.out _).mono ?_)); rintro e w' ⟨rfl, rfl⟩; exact ⟨rfl, _, rfl⟩))
                    obtain ⟨wq, hwq⟩ : ∃ x, wd.drewN nq = x := ⟨_, rfl⟩
                    have B0 : Below wd.heap.size wd wq := by rw [← hwq]; exact pw_below_drewN (Below.refl _ _) nq
                    rw [hwq]
                    have GD := Aside0.mk (Pd.blk_below GD.out B0)
                    have HB := Aside0.mk (below_step HB.out B0)
                    clear hwq B0 c0 c1 c2 c3
                    go_wp2_with fail
                    go_ret3
                    exact ⟨rfl, HB.out⟩
                  · clear hz3
                    go_wp2_with ((with_reducible refine gate_dst (N := 8) rfl ?_); refine copy_event rfl (N := 8) rfl rfl rfl (t := 39) (v := .tmp 18) rfl (cs := #[.int .i64 n, .int .i64 d, .int .i64 i, .int .i64 q]) (zs := #[.int .i64 0, .int .i64 0, .int .i64 0, .int .i64 0]) ?hr rfl rfl info_dueN ?hz (by simp [Value.oneCell']) ?_; (case hr => first | (go_simp; done) | (go_simp; rfl)); (case hz => rfl); intro gd hg wd hb1 hb; clear hg; have GD := Aside0.mk hb1; have HB := Aside0.mk (below_step HB.out hb); have c0 := (show wd.cell? ⟨gd, 0, none⟩ = some (.int .i64 n) from (blk_cell hb1 0).trans rfl); have c1 := (show wd.cell? ⟨gd, 1, none⟩ = some (.int .i64 d) from (blk_cell hb1 1).trans rfl); have c2 := (show wd.cell? ⟨gd, 2, none⟩ = some (.int .i64 i) from (blk_cell hb1 2).trans rfl); have c3 := (show wd.cell? ⟨gd, 3, none⟩ = some (.int .i64 q) from (blk_cell hb1 3).trans rfl); have r0 := cell_laterN hb r0; have r1 := cell_laterN hb r1; clear hb hb1)
                    (try simp only [Act.put, List.setIfInBounds_toArray, List.set_cons_zero, List.set_cons_succ])
                    go_quiet ((go_at_call 46; (first | (with_reducible refine (MI.out _).mono ?_) | (with_reducible refine (MQ.out _).mono ?_)); rintro e w' ⟨rfl, rfl⟩; exact ⟨rfl, _, rfl⟩))
                    obtain ⟨wq, hwq⟩ : ∃ x, wd.drewN nq = x := ⟨_, rfl⟩
                    have B0 : Below wd.heap.size wd wq := by rw [← hwq]; exact pw_below_drewN (Below.refl _ _) nq
                    rw [hwq]
                    have GD := Aside0.mk (Pd.blk_below GD.out B0)
                    have HB := Aside0.mk (below_step HB.out B0)
                    clear hwq B0 c0 c1 c2 c3
                    go_wp2_with fail
                    go_ret3
                    exact ⟨rfl, HB.out⟩
                · have o1 : decide (n ≤ pn) = false := decide_eq_false h1
                  by_cases h2 : d ≤ pd
                  · have o2 : decide (d ≤ pd) = true := decide_eq_true h2
                    have hd : none = res := by rw [← hd, hpj]; simp [okDue, behind, show ¬ (pd < d) by omega]
                    subst hd
                    clear hkj hpj hrow' bi bq ma mb hn h1 h2 hz hz0
                    rcases zz_or hz3 with rfl | ⟨rfl, rfl⟩
                    · clear hz3
                      go_wp2_with ((with_reducible refine gate_dst (N := 8) rfl ?_); refine copy_event rfl (N := 8) rfl rfl rfl (t := 39) (v := .tmp 18) rfl (cs := #[.int .i64 n, .int .i64 d, .int .i64 i, .int .i64 q]) (zs := #[.int .i64 0, .int .i64 0, .int .i64 0, .int .i64 0]) ?hr rfl rfl info_dueN ?hz (by simp [Value.oneCell']) ?_; (case hr => first | (go_simp; done) | (go_simp; rfl)); (case hz => rfl); intro gd hg wd hb1 hb; clear hg; have GD := Aside0.mk hb1; have HB := Aside0.mk (below_step HB.out hb); have c0 := (show wd.cell? ⟨gd, 0, none⟩ = some (.int .i64 n) from (blk_cell hb1 0).trans rfl); have c1 := (show wd.cell? ⟨gd, 1, none⟩ = some (.int .i64 d) from (blk_cell hb1 1).trans rfl); have c2 := (show wd.cell? ⟨gd, 2, none⟩ = some (.int .i64 i) from (blk_cell hb1 2).trans rfl); have c3 := (show wd.cell? ⟨gd, 3, none⟩ = some (.int .i64 q) from (blk_cell hb1 3).trans rfl); have r0 := cell_laterN hb r0; have r1 := cell_laterN hb r1; clear hb hb1)
                      (try simp only [Act.put, List.setIfInBounds_toArray, List.set_cons_zero, List.set_cons_succ])
                      go_quiet ((go_at_call 46; (first | (with_reducible refine (MI.out _).mono ?_) | (with_reducible refine (MQ.out _).mono ?_)); rintro e w' ⟨rfl, rfl⟩; exact ⟨rfl, _, rfl⟩))
                      obtain ⟨wq, hwq⟩ : ∃ x, wd.drewN nq = x := ⟨_, rfl⟩
                      have B0 : Below wd.heap.size wd wq := by rw [← hwq]; exact pw_below_drewN (Below.refl _ _) nq
                      rw [hwq]
                      have GD := Aside0.mk (Pd.blk_below GD.out B0)
                      have HB := Aside0.mk (below_step HB.out B0)
                      clear hwq B0 c0 c1 c2 c3
                      go_wp2_with fail
                      go_ret3
                      exact ⟨rfl, HB.out⟩
                    · clear hz3
                      go_wp2_with ((with_reducible refine gate_dst (N := 8) rfl ?_); refine copy_event rfl (N := 8) rfl rfl rfl (t := 39) (v := .tmp 18) rfl (cs := #[.int .i64 n, .int .i64 d, .int .i64 i, .int .i64 q]) (zs := #[.int .i64 0, .int .i64 0, .int .i64 0, .int .i64 0]) ?hr rfl rfl info_dueN ?hz (by simp [Value.oneCell']) ?_; (case hr => first | (go_simp; done) | (go_simp; rfl)); (case hz => rfl); intro gd hg wd hb1 hb; clear hg; have GD := Aside0.mk hb1; have HB := Aside0.mk (below_step HB.out hb); have c0 := (show wd.cell? ⟨gd, 0, none⟩ = some (.int .i64 n) from (blk_cell hb1 0).trans rfl); have c1 := (show wd.cell? ⟨gd, 1, none⟩ = some (.int .i64 d) from (blk_cell hb1 1).trans rfl); have c2 := (show wd.cell? ⟨gd, 2, none⟩ = some (.int .i64 i) from (blk_cell hb1 2).trans rfl); have c3 := (show wd.cell? ⟨gd, 3, none⟩ = some (.int .i64 q) from (blk_cell hb1 3).trans rfl); have r0 := cell_laterN hb r0; have r1 := cell_laterN hb r1; clear hb hb1)
                      (try simp only [Act.put, List.setIfInBounds_toArray, List.set_cons_zero, List.set_cons_succ])
                      go_quiet ((go_at_call 46; (first | (with_reducible refine (MI.out _).mono ?_) | (with_reducible refine (MQ.out _).mono ?_)); rintro e w' ⟨rfl, rfl⟩; exact ⟨rfl, _, rfl⟩))
                      obtain ⟨wq, hwq⟩ : ∃ x, wd.drewN nq = x := ⟨_, rfl⟩
                      have B0 : Below wd.heap.size wd wq := by rw [← hwq]; exact pw_below_drewN (Below.refl _ _) nq
                      rw [hwq]
                      have GD := Aside0.mk (Pd.blk_below GD.out B0)
                      have HB := Aside0.mk (below_step HB.out B0)
                      clear hwq B0 c0 c1 c2 c3
                      go_wp2_with fail
                      go_ret3
                      exact ⟨rfl, HB.out⟩
                  · have o2 : decide (d ≤ pd) = false := decide_eq_false h2
                    have hok : okDue (pvA rows k) n d i q = true := by rw [hpj]; simp [okDue, behind, mayB_iff.2 bi, mayB_iff.2 bq, hz0]; omega
                    clear hkj hpj hrow' h1 h2 hn hz hz0
                    rcases zz_or hz3 with rfl | ⟨rfl, rfl⟩
                    · clear hz3
                      go_wp2_with ((with_reducible refine gate_dst (N := 8) rfl ?_); refine copy_event rfl (N := 8) rfl rfl rfl (t := 39) (v := .tmp 18) rfl (cs := #[.int .i64 n, .int .i64 d, .int .i64 i, .int .i64 q]) (zs := #[.int .i64 0, .int .i64 0, .int .i64 0, .int .i64 0]) ?hr rfl rfl info_dueN ?hz (by simp [Value.oneCell']) ?_; (case hr => first | (go_simp; done) | (go_simp; rfl)); (case hz => rfl); intro gd hg wd hb1 hb; clear hg; have GD := Aside0.mk hb1; have HB := Aside0.mk (below_step HB.out hb); have c0 := (show wd.cell? ⟨gd, 0, none⟩ = some (.int .i64 n) from (blk_cell hb1 0).trans rfl); have c1 := (show wd.cell? ⟨gd, 1, none⟩ = some (.int .i64 d) from (blk_cell hb1 1).trans rfl); have c2 := (show wd.cell? ⟨gd, 2, none⟩ = some (.int .i64 i) from (blk_cell hb1 2).trans rfl); have c3 := (show wd.cell? ⟨gd, 3, none⟩ = some (.int .i64 q) from (blk_cell hb1 3).trans rfl); have r0 := cell_laterN hb r0; have r1 := cell_laterN hb r1; clear hb hb1)
                      (try simp only [Act.put, List.setIfInBounds_toArray, List.set_cons_zero, List.set_cons_succ])
                      go_quiet ((go_at_call 46; (first | (with_reducible refine (MI.out _).mono ?_) | (with_reducible refine (MQ.out _).mono ?_)); rintro e w' ⟨rfl, rfl⟩; exact ⟨rfl, _, rfl⟩))
                      obtain ⟨wq, hwq⟩ : ∃ x, wd.drewN nq = x := ⟨_, rfl⟩
                      have B0 : Below wd.heap.size wd wq := by rw [← hwq]; exact pw_below_drewN (Below.refl _ _) nq
                      rw [hwq]
                      have GD := Aside0.mk (Pd.blk_below GD.out B0)
                      have HB := Aside0.mk (below_step HB.out B0)
                      clear hwq B0 c0 c1 c2 c3
                      clear hj1 hj1' hjs hjl hz1 hz2 hn1 p0 p1 p2 p3 o1 o2 r0 r1
                      have c2 := (show wq.cell? ⟨gd, 2, none⟩ = some (.int .i64 i) from (blk_cell GD.out 2).trans rfl)
                      have c3 := (show wq.cell? ⟨gd, 3, none⟩ = some (.int .i64 q) from (blk_cell GD.out 3).trans rfl)
                      obtain ⟨a2, ha2⟩ : ∃ x, a + i = x := ⟨_, rfl⟩
                      obtain ⟨b2, hb2⟩ : ∃ x, b + q = x := ⟨_, rfl⟩
                      have wa : IntKind.i64.wrap (a + i) = a2 := by rw [ha2]; exact IntWalk.i64_in _ (by omega)
                      have wb : IntKind.i64.wrap (b + q) = b2 := by rw [hb2]; exact IntWalk.i64_in _ (by omega)
                      rw [hok, Bool.true_and, ha2, hb2] at hd
                      clear ha2 hb2 bi bq ma mb hok
                      have MZ := Aside0.mk (Below.refl wq.heap.size wq)
                      go_wp2_with fail
                      go_quiet (fail)
                      cases hA : mayB a2 with
                      | false =>
                        have hd : none = res := by rw [← hd]; simp [hA]
                        subst hd
                        have MI := Aside0.mk (fun W => rmay_any a2 false hA W)
                        have MQ := MI
                        clear hA
                        go_wp2_with (go_at_call 46; (first | (with_reducible refine (MI.out _).mono ?_) | (with_reducible refine (MQ.out _).mono ?_)); rintro e w' ⟨rfl, rfl⟩)
                        go_ret3
                        exact ⟨rfl, (by first | exact HB.out | exact Below.drew HB.out | exact pw_below_drewN HB.out _)⟩
                      | true =>
                        have MI := Aside0.mk (fun W => rmay_any a2 true hA W)
                        cases hB : mayB b2 with
                        | false =>
                          have hd : none = res := by rw [← hd]; simp [hB]
                          subst hd
                          have MQ := Aside0.mk (fun W => rmay_any b2 false hB W)
                          clear hA hB
                          go_wp2_with (go_at_call 46; (first | (with_reducible refine (MI.out _).mono ?_) | (with_reducible refine (MQ.out _).mono ?_)); rintro e w' ⟨rfl, rfl⟩)
                          go_ret3
                          exact ⟨rfl, (by first | exact HB.out | exact Below.drew HB.out | exact pw_below_drewN HB.out _)⟩
                        | true =>
                          have hd : dsum (some (n, d)) (rows.drop (k + 1)) a2 b2 = res := by rw [← hd]; simp [hA, hB]
                          have hd := Aside0.mk hd
                          have MAB2 := Aside0.mk (And.intro hA hB)
                          have MQ := Aside0.mk (fun W => rmay_any b2 true hB W)
                          clear hA hB
                          go_wp2_with (go_at_call 46; (first | (with_reducible refine (MI.out _).mono ?_) | (with_reducible refine (MQ.out _).mono ?_)); rintro e w' ⟨rfl, rfl⟩)
                          go_roundg (rows.length + 1 - (k + 1))
                          case measure => have := hgq.out; omega
                          case rel => exact ⟨k + 1, a2, b2, by omega, by simp, rfl, rfl, ⟨rfl⟩, ⟨by rw [HPV.out]; exact hd.out⟩, ⟨MAB2.out⟩, ⟨(by first | exact HB.out | exact Below.drew HB.out | exact pw_below_drewN HB.out _)⟩⟩
                    · clear hz3
                      go_wp2_with ((with_reducible refine gate_dst (N := 8) rfl ?_); refine copy_event rfl (N := 8) rfl rfl rfl (t := 39) (v := .tmp 18) rfl (cs := #[.int .i64 n, .int .i64 d, .int .i64 i, .int .i64 q]) (zs := #[.int .i64 0, .int .i64 0, .int .i64 0, .int .i64 0]) ?hr rfl rfl info_dueN ?hz (by simp [Value.oneCell']) ?_; (case hr => first | (go_simp; done) | (go_simp; rfl)); (case hz => rfl); intro gd hg wd hb1 hb; clear hg; have GD := Aside0.mk hb1; have HB := Aside0.mk (below_step HB.out hb); have c0 := (show wd.cell? ⟨gd, 0, none⟩ = some (.int .i64 n) from (blk_cell hb1 0).trans rfl); have c1 := (show wd.cell? ⟨gd, 1, none⟩ = some (.int .i64 d) from (blk_cell hb1 1).trans rfl); have c2 := (show wd.cell? ⟨gd, 2, none⟩ = some (.int .i64 i) from (blk_cell hb1 2).trans rfl); have c3 := (show wd.cell? ⟨gd, 3, none⟩ = some (.int .i64 q) from (blk_cell hb1 3).trans rfl); have r0 := cell_laterN hb r0; have r1 := cell_laterN hb r1; clear hb hb1)
                      (try simp only [Act.put, List.setIfInBounds_toArray, List.set_cons_zero, List.set_cons_succ])
                      go_quiet ((go_at_call 46; (first | (with_reducible refine (MI.out _).mono ?_) | (with_reducible refine (MQ.out _).mono ?_)); rintro e w' ⟨rfl, rfl⟩; exact ⟨rfl, _, rfl⟩))
                      obtain ⟨wq, hwq⟩ : ∃ x, wd.drewN nq = x := ⟨_, rfl⟩
                      have B0 : Below wd.heap.size wd wq := by rw [← hwq]; exact pw_below_drewN (Below.refl _ _) nq
                      rw [hwq]
                      have GD := Aside0.mk (Pd.blk_below GD.out B0)
                      have HB := Aside0.mk (below_step HB.out B0)
                      clear hwq B0 c0 c1 c2 c3
                      clear hj1 hj1' hjs hjl hz1 hz2 hn1 p0 p1 p2 p3 o1 o2 r0 r1
                      have c2 := (show wq.cell? ⟨gd, 2, none⟩ = some (.int .i64 i) from (blk_cell GD.out 2).trans rfl)
                      have c3 := (show wq.cell? ⟨gd, 3, none⟩ = some (.int .i64 q) from (blk_cell GD.out 3).trans rfl)
                      obtain ⟨a2, ha2⟩ : ∃ x, a + i = x := ⟨_, rfl⟩
                      obtain ⟨b2, hb2⟩ : ∃ x, b + q = x := ⟨_, rfl⟩
                      have wa : IntKind.i64.wrap (a + i) = a2 := by rw [ha2]; exact IntWalk.i64_in _ (by omega)
                      have wb : IntKind.i64.wrap (b + q) = b2 := by rw [hb2]; exact IntWalk.i64_in _ (by omega)
                      rw [hok, Bool.true_and, ha2, hb2] at hd
                      clear ha2 hb2 bi bq ma mb hok
                      have MZ := Aside0.mk (Below.refl wq.heap.size wq)
                      go_wp2_with fail
                      go_quiet (fail)
                      cases hA : mayB a2 with
                      | false =>
                        have hd : none = res := by rw [← hd]; simp [hA]
                        subst hd
                        have MI := Aside0.mk (fun W => rmay_any a2 false hA W)
                        have MQ := MI
                        clear hA
                        go_wp2_with (go_at_call 46; (first | (with_reducible refine (MI.out _).mono ?_) | (with_reducible refine (MQ.out _).mono ?_)); rintro e w' ⟨rfl, rfl⟩)
                        go_ret3
                        exact ⟨rfl, (by first | exact HB.out | exact Below.drew HB.out | exact pw_below_drewN HB.out _)⟩
                      | true =>
                        have MI := Aside0.mk (fun W => rmay_any a2 true hA W)
                        cases hB : mayB b2 with
                        | false =>
                          have hd : none = res := by rw [← hd]; simp [hB]
                          subst hd
                          have MQ := Aside0.mk (fun W => rmay_any b2 false hB W)
                          clear hA hB
                          go_wp2_with (go_at_call 46; (first | (with_reducible refine (MI.out _).mono ?_) | (with_reducible refine (MQ.out _).mono ?_)); rintro e w' ⟨rfl, rfl⟩)
                          go_ret3
                          exact ⟨rfl, (by first | exact HB.out | exact Below.drew HB.out | exact pw_below_drewN HB.out _)⟩
                        | true =>
                          have hd : dsum (some (n, d)) (rows.drop (k + 1)) a2 b2 = res := by rw [← hd]; simp [hA, hB]
                          have hd := Aside0.mk hd
                          have MAB2 := Aside0.mk (And.intro hA hB)
                          have MQ := Aside0.mk (fun W => rmay_any b2 true hB W)
                          clear hA hB
                          go_wp2_with (go_at_call 46; (first | (with_reducible refine (MI.out _).mono ?_) | (with_reducible refine (MQ.out _).mono ?_)); rintro e w' ⟨rfl, rfl⟩)
                          go_roundg (rows.length + 1 - (k + 1))
                          case measure => have := hgq.out; omega
                          case rel => exact ⟨k + 1, a2, b2, by omega, by simp, rfl, rfl, ⟨rfl⟩, ⟨by rw [HPV.out]; exact hd.out⟩, ⟨MAB2.out⟩, ⟨(by first | exact HB.out | exact Below.drew HB.out | exact pw_below_drewN HB.out _)⟩⟩
    · obtain rfl : k = rows.length := by omega
      have hd : some (a, b) = res := by have := HD.out; rw [List.drop_of_length_le (Nat.le_refl _)] at this; exact this
      subst hd
      go_wp2_with fail
      go_ret3
      exact ⟨rfl, HB.out⟩
end Go.Proofs.YtbbbjjfecblhpaaGreat.Nt
/- Contracts by hand: the document's Right. -/
namespace Go.Proofs.YtbbbjjfecblhpaaGreat.Nt
open Go.RowKit Go.Proofs.YtbbbjjfecblhpaaGreatW.PrintWords Go.Proofs.YtbbbjjfecblhpaaGreatW.PrintLast Go.Proofs.YtbbbjjfecblhpaaGreatW.PrintMore Go.Proofs.YtbbbjjfecblhpaaGreat.HW
open Go.Proofs.YtbbbjjfecblhpaaGreat.Math Go.Proofs.YtbbbjjfecblhpaaGreat.H Go.Proofs.YtbbbjjfecblhpaaGreat.Pd Go.Proofs.YtbbbjjfecblhpaaGreat.Du Go.Proofs.YtbbbjjfecblhpaaGreat.Lv Pm
set_option linter.unusedVariables false
set_option linter.unusedSimpArgs false
attribute [local go_sem] max2_int min2_int max_two min_two
theorem all_succ (m : Mny) {k : Nat} {v : Int} (hv : m.flat[k]? = some v) : (m.flat.take (k + 1)).all mayB = ((m.flat.take k).all mayB && mayB v) := by
  obtain ⟨hk, rfl⟩ := List.getElem?_eq_some_iff.1 hv
  rw [List.take_succ_eq_append_getElem hk, List.all_append]
  simp
/-- Right, put together. -/
theorem readM_bool (m : Mny) : (readM m).isSome = ((dsum none m.dues 0 0).isSome && m.flat.all mayB && decide (-1000000000000000 ≤ m.cash) && decide (m.cash ≤ 1000000000000000) && (match dsum none m.dues 0 0 with
  | none => false
  | some (a, b) => (m.cash + m.p + m.acc + a + b + m.pen + m.fees == m.un + m.earned + m.fined + m.charged))) := by
  unfold readM
  cases h1 : m.flat.all mayB with
  | false => simp
  | true =>
    rw [if_pos rfl]
    cases hd : dsum none m.dues 0 0 with
    | none => simp
    | some ab =>
      obtain ⟨a, b⟩ := ab
      simp only
      by_cases h2 : -1000000000000000 ≤ m.cash
      · by_cases h3 : m.cash ≤ 1000000000000000
        · by_cases h4 : m.cash + m.p + m.acc + a + b + m.pen + m.fees = m.un + m.earned + m.fined + m.charged
          · rw [if_pos ⟨h2, h3, h4⟩]; simp [h2, h3, h4]
          · rw [if_neg (fun g => h4 g.2.2)]; simp [h2, h3, h4]
        · rw [if_neg (fun g => h3 g.2.1)]; simp [h2, h3]
      · rw [if_neg (fun g => h2 g.1)]; simp [h2]
set_option maxRecDepth 100000 in
set_option maxHeartbeats 20000000 in
theorem rright_any (m : Mny) (D : Option Addr) (dc : Nat) (w : World) (hm : MAt w m D) :
    Calls Tryz.prog 21 #[mv m D dc] w fun e w' => e = .returned (.bool (readM m).isSome) ∧ Below w.heap.size w w' := by
  have DA := Aside0.mk (fun (W : World) (hb : Below w.heap.size w W) => due_any D dc m.dues W (hm.rows.below hb) hm.len)
  have hrb := readM_bool m
  obtain ⟨r, hr⟩ : ∃ r, (readM m).isSome = r := ⟨_, rfl⟩
  rw [hr] at hrb ⊢
  clear hr hm
  cases hds : dsum none m.dues 0 0 with
  | none =>
    rw [hds] at hrb DA
    simp only [dueV] at DA
    have RB := Aside0.mk (show r = false by rw [hrb]; simp)
    clear hrb hds
    go_enter Tryz.func21, Tryz.ntmps21
    go_wp2_with (first
      | ((with_reducible refine gate_dst (N := 1) rfl ?_); refine box_event ?hg (N := 1) ?hd (cs := mcs m D dc) (t := 31) ?hr ?_; (case hd => rfl); (case hg => rfl); (case hr => first | (go_simp; done) | (go_simp; rfl)); intro gm hg w1_ hb1 hb; clear hg; have GM := Aside0.mk hb1; have HB := Aside0.mk hb; clear hb1 hb; have u2 := (show w1_.cell? ⟨gm, 2, none⟩ = some (.slice D m.dues.length dc) from (blk_cell GM.out 2).trans rfl))
      | (go_at_call 45; (with_reducible refine (DA.out _ HB.out).mono ?_); rintro e w2_ ⟨rfl, hb⟩; have GM := Aside0.mk (Pd.blk_below GM.out hb); have HB := Aside0.mk (below_step HB.out hb); clear hb DA u2; have u0 := (show w2_.cell? ⟨gm, 0, none⟩ = some (.int .i64 m.p) from (blk_cell GM.out 0).trans rfl); have u1 := (show w2_.cell? ⟨gm, 1, none⟩ = some (.int .i64 m.acc) from (blk_cell GM.out 1).trans rfl); have u3 := (show w2_.cell? ⟨gm, 3, none⟩ = some (.int .i64 m.pen) from (blk_cell GM.out 3).trans rfl); have u4 := (show w2_.cell? ⟨gm, 4, none⟩ = some (.int .i64 m.fees) from (blk_cell GM.out 4).trans rfl); have u5 := (show w2_.cell? ⟨gm, 5, none⟩ = some (.int .i64 m.un) from (blk_cell GM.out 5).trans rfl); have u7 := (show w2_.cell? ⟨gm, 7, none⟩ = some (.int .i64 m.earned) from (blk_cell GM.out 7).trans rfl); have u8 := (show w2_.cell? ⟨gm, 8, none⟩ = some (.int .i64 m.fined) from (blk_cell GM.out 8).trans rfl); have u9 := (show w2_.cell? ⟨gm, 9, none⟩ = some (.int .i64 m.charged) from (blk_cell GM.out 9).trans rfl); have u6 := (show w2_.cell? ⟨gm, 6, none⟩ = some (.int .i64 m.cash) from (blk_cell GM.out 6).trans rfl))
      | ((with_reducible refine gate_dst (N := 31) rfl ?_); refine lit_event rfl (N := 31) rfl (cs := #[.int .i64 m.p, .int .i64 m.acc, .int .i64 m.pen, .int .i64 m.fees, .int .i64 m.un, .int .i64 m.earned, .int .i64 m.fined, .int .i64 m.charged]) (t := 2) (n := 8) ?hr ?_; (case hr => first | (go_simp; done) | (go_simp; rfl)); intro gl hg w4_ hb1 hb; clear hg; have GL := Aside0.mk hb1; have HB := Aside0.mk (below_step HB.out hb); have GM := Aside0.mk (Pd.blk_below GM.out hb); clear hb1 hb u0 u1 u3 u4 u5 u6 u7 u8 u9))
    go_loopg [5, 7] 9 (fun gq ov iv w' => ∃ (k : Nat) (o : Bool), k ≤ 8 ∧ iv = .int .i64 (k : Int) ∧ ov = .bool o ∧ Aside0 (gq = 9 - k) ∧ Aside0 (o = (false && (m.flat.take k).all mayB)) ∧ Aside0 (w'.heap[gl]? = some (.cells #[.int .i64 m.p, .int .i64 m.acc, .int .i64 m.pen, .int .i64 m.fees, .int .i64 m.un, .int .i64 m.earned, .int .i64 m.fined, .int .i64 m.charged] 2 (0, 0))) ∧ Aside0 (w'.heap[gm]? = some (.cells (mcs m D dc) 31 (0, 0))) ∧ Aside0 (Below w.heap.size w w'))
    case atStart => exact ⟨0, false, by omega, rfl, rfl, ⟨rfl⟩, ⟨by simp⟩, GL, GM, HB⟩
    case round =>
      obtain ⟨k, o, k8, rfl, rfl, hgq, HO, GL, GM, HB⟩ := hrel
      by_cases hlt : (k : Int) < 8
      · obtain ⟨v, hv⟩ : ∃ v, m.flat[k]? = some v := ⟨_, List.getElem?_eq_getElem (show k < 8 by omega)⟩
        have hcl : wr.cell? ⟨gl, k, none⟩ = some (.int .i64 v) := (blk_cell GL.out k).trans (by
          rcases (by omega : k = 0 ∨ k = 1 ∨ k = 2 ∨ k = 3 ∨ k = 4 ∨ k = 5 ∨ k = 6 ∨ k = 7) with rfl | rfl | rfl | rfl | rfl | rfl | rfl | rfl <;> exact congrArg (Option.map (Value.int .i64)) hv)
        obtain ⟨b, hb⟩ : ∃ b, mayB v = b := ⟨_, rfl⟩
        have MI := Aside0.mk (fun W => rmay_any v b hb W)
        have HN := Aside0.mk (show (o && b) = (false && (m.flat.take (k + 1)).all mayB) by rw [all_succ m hv, HO.out, hb, Bool.and_assoc])
        clear hv hb
        cases o with
        | false =>
          go_wp2_with (go_at_call 46; (with_reducible refine (MI.out _).mono ?_); rintro e w' ⟨rfl, rfl⟩)
          go_roundg (9 - (k + 1))
          case measure => have := hgq.out; omega
          case rel => exact ⟨k + 1, false, by omega, by simp, rfl, ⟨rfl⟩, ⟨by rw [← HN.out]; rfl⟩, GL, GM, HB⟩
        | true =>
          go_wp2_with (go_at_call 46; (with_reducible refine (MI.out _).mono ?_); rintro e w' ⟨rfl, rfl⟩)
          go_roundg (9 - (k + 1))
          case measure => have := hgq.out; omega
          case rel => exact ⟨k + 1, b, by omega, by simp, rfl, ⟨rfl⟩, ⟨by rw [← HN.out, Bool.true_and]⟩, GL, GM, HB⟩
      · obtain rfl : k = 8 := by omega
        have ho : o = (false && m.flat.all mayB) := HO.out
        clear HO GL hlt
        have u0 := (show wr.cell? ⟨gm, 0, none⟩ = some (.int .i64 m.p) from (blk_cell GM.out 0).trans rfl)
        have u1 := (show wr.cell? ⟨gm, 1, none⟩ = some (.int .i64 m.acc) from (blk_cell GM.out 1).trans rfl)
        have u3 := (show wr.cell? ⟨gm, 3, none⟩ = some (.int .i64 m.pen) from (blk_cell GM.out 3).trans rfl)
        have u4 := (show wr.cell? ⟨gm, 4, none⟩ = some (.int .i64 m.fees) from (blk_cell GM.out 4).trans rfl)
        have u5 := (show wr.cell? ⟨gm, 5, none⟩ = some (.int .i64 m.un) from (blk_cell GM.out 5).trans rfl)
        have u7 := (show wr.cell? ⟨gm, 7, none⟩ = some (.int .i64 m.earned) from (blk_cell GM.out 7).trans rfl)
        have u8 := (show wr.cell? ⟨gm, 8, none⟩ = some (.int .i64 m.fined) from (blk_cell GM.out 8).trans rfl)
        have u9 := (show wr.cell? ⟨gm, 9, none⟩ = some (.int .i64 m.charged) from (blk_cell GM.out 9).trans rfl)
        have u6 := (show wr.cell? ⟨gm, 6, none⟩ = some (.int .i64 m.cash) from (blk_cell GM.out 6).trans rfl)
        obtain rfl : o = false := ho
        go_wp2_with fail
        go_ret
        exact ⟨by rw [RB.out]; rfl, HB.out⟩
  | some ab =>
    obtain ⟨a, b⟩ := ab
    obtain ⟨ba, bb⟩ := dsum_bd m.dues none 0 0 a b (by decide) (by decide) hds
    rw [mayB_iff] at ba bb
    rw [hds] at hrb DA
    simp only [dueV] at DA
    have RB := Aside0.mk (show r = (true && m.flat.all mayB && decide (-1000000000000000 ≤ m.cash) && decide (m.cash ≤ 1000000000000000) && (m.cash + m.p + m.acc + a + b + m.pen + m.fees == m.un + m.earned + m.fined + m.charged)) from hrb)
    clear hrb hds
    go_enter Tryz.func21, Tryz.ntmps21
    go_wp2_with (first
      | ((with_reducible refine gate_dst (N := 1) rfl ?_); refine box_event ?hg (N := 1) ?hd (cs := mcs m D dc) (t := 31) ?hr ?_; (case hd => rfl); (case hg => rfl); (case hr => first | (go_simp; done) | (go_simp; rfl)); intro gm hg w1_ hb1 hb; clear hg; have GM := Aside0.mk hb1; have HB := Aside0.mk hb; clear hb1 hb; have u2 := (show w1_.cell? ⟨gm, 2, none⟩ = some (.slice D m.dues.length dc) from (blk_cell GM.out 2).trans rfl))
      | (go_at_call 45; (with_reducible refine (DA.out _ HB.out).mono ?_); rintro e w2_ ⟨rfl, hb⟩; have GM := Aside0.mk (Pd.blk_below GM.out hb); have HB := Aside0.mk (below_step HB.out hb); clear hb DA u2; have u0 := (show w2_.cell? ⟨gm, 0, none⟩ = some (.int .i64 m.p) from (blk_cell GM.out 0).trans rfl); have u1 := (show w2_.cell? ⟨gm, 1, none⟩ = some (.int .i64 m.acc) from (blk_cell GM.out 1).trans rfl); have u3 := (show w2_.cell? ⟨gm, 3, none⟩ = some (.int .i64 m.pen) from (blk_cell GM.out 3).trans rfl); have u4 := (show w2_.cell? ⟨gm, 4, none⟩ = some (.int .i64 m.fees) from (blk_cell GM.out 4).trans rfl); have u5 := (show w2_.cell? ⟨gm, 5, none⟩ = some (.int .i64 m.un) from (blk_cell GM.out 5).trans rfl); have u7 := (show w2_.cell? ⟨gm, 7, none⟩ = some (.int .i64 m.earned) from (blk_cell GM.out 7).trans rfl); have u8 := (show w2_.cell? ⟨gm, 8, none⟩ = some (.int .i64 m.fined) from (blk_cell GM.out 8).trans rfl); have u9 := (show w2_.cell? ⟨gm, 9, none⟩ = some (.int .i64 m.charged) from (blk_cell GM.out 9).trans rfl); have u6 := (show w2_.cell? ⟨gm, 6, none⟩ = some (.int .i64 m.cash) from (blk_cell GM.out 6).trans rfl))
      | ((with_reducible refine gate_dst (N := 31) rfl ?_); refine lit_event rfl (N := 31) rfl (cs := #[.int .i64 m.p, .int .i64 m.acc, .int .i64 m.pen, .int .i64 m.fees, .int .i64 m.un, .int .i64 m.earned, .int .i64 m.fined, .int .i64 m.charged]) (t := 2) (n := 8) ?hr ?_; (case hr => first | (go_simp; done) | (go_simp; rfl)); intro gl hg w4_ hb1 hb; clear hg; have GL := Aside0.mk hb1; have HB := Aside0.mk (below_step HB.out hb); have GM := Aside0.mk (Pd.blk_below GM.out hb); clear hb1 hb u0 u1 u3 u4 u5 u6 u7 u8 u9))
    go_loopg [5, 7] 9 (fun gq ov iv w' => ∃ (k : Nat) (o : Bool), k ≤ 8 ∧ iv = .int .i64 (k : Int) ∧ ov = .bool o ∧ Aside0 (gq = 9 - k) ∧ Aside0 (o = (true && (m.flat.take k).all mayB)) ∧ Aside0 (w'.heap[gl]? = some (.cells #[.int .i64 m.p, .int .i64 m.acc, .int .i64 m.pen, .int .i64 m.fees, .int .i64 m.un, .int .i64 m.earned, .int .i64 m.fined, .int .i64 m.charged] 2 (0, 0))) ∧ Aside0 (w'.heap[gm]? = some (.cells (mcs m D dc) 31 (0, 0))) ∧ Aside0 (Below w.heap.size w w'))
    case atStart => exact ⟨0, true, by omega, rfl, rfl, ⟨rfl⟩, ⟨by simp⟩, GL, GM, HB⟩
    case round =>
      obtain ⟨k, o, k8, rfl, rfl, hgq, HO, GL, GM, HB⟩ := hrel
      by_cases hlt : (k : Int) < 8
      · obtain ⟨v, hv⟩ : ∃ v, m.flat[k]? = some v := ⟨_, List.getElem?_eq_getElem (show k < 8 by omega)⟩
        have hcl : wr.cell? ⟨gl, k, none⟩ = some (.int .i64 v) := (blk_cell GL.out k).trans (by
          rcases (by omega : k = 0 ∨ k = 1 ∨ k = 2 ∨ k = 3 ∨ k = 4 ∨ k = 5 ∨ k = 6 ∨ k = 7) with rfl | rfl | rfl | rfl | rfl | rfl | rfl | rfl <;> exact congrArg (Option.map (Value.int .i64)) hv)
        obtain ⟨b, hb⟩ : ∃ b, mayB v = b := ⟨_, rfl⟩
        have MI := Aside0.mk (fun W => rmay_any v b hb W)
        have HN := Aside0.mk (show (o && b) = (true && (m.flat.take (k + 1)).all mayB) by rw [all_succ m hv, HO.out, hb, Bool.and_assoc])
        clear hv hb
        cases o with
        | false =>
          go_wp2_with (go_at_call 46; (with_reducible refine (MI.out _).mono ?_); rintro e w' ⟨rfl, rfl⟩)
          go_roundg (9 - (k + 1))
          case measure => have := hgq.out; omega
          case rel => exact ⟨k + 1, false, by omega, by simp, rfl, ⟨rfl⟩, ⟨by rw [← HN.out]; rfl⟩, GL, GM, HB⟩
        | true =>
          go_wp2_with (go_at_call 46; (with_reducible refine (MI.out _).mono ?_); rintro e w' ⟨rfl, rfl⟩)
          go_roundg (9 - (k + 1))
          case measure => have := hgq.out; omega
          case rel => exact ⟨k + 1, b, by omega, by simp, rfl, ⟨rfl⟩, ⟨by rw [← HN.out, Bool.true_and]⟩, GL, GM, HB⟩
      · obtain rfl : k = 8 := by omega
        have ho : o = (true && m.flat.all mayB) := HO.out
        clear HO GL hlt
        have u0 := (show wr.cell? ⟨gm, 0, none⟩ = some (.int .i64 m.p) from (blk_cell GM.out 0).trans rfl)
        have u1 := (show wr.cell? ⟨gm, 1, none⟩ = some (.int .i64 m.acc) from (blk_cell GM.out 1).trans rfl)
        have u3 := (show wr.cell? ⟨gm, 3, none⟩ = some (.int .i64 m.pen) from (blk_cell GM.out 3).trans rfl)
        have u4 := (show wr.cell? ⟨gm, 4, none⟩ = some (.int .i64 m.fees) from (blk_cell GM.out 4).trans rfl)
        have u5 := (show wr.cell? ⟨gm, 5, none⟩ = some (.int .i64 m.un) from (blk_cell GM.out 5).trans rfl)
        have u7 := (show wr.cell? ⟨gm, 7, none⟩ = some (.int .i64 m.earned) from (blk_cell GM.out 7).trans rfl)
        have u8 := (show wr.cell? ⟨gm, 8, none⟩ = some (.int .i64 m.fined) from (blk_cell GM.out 8).trans rfl)
        have u9 := (show wr.cell? ⟨gm, 9, none⟩ = some (.int .i64 m.charged) from (blk_cell GM.out 9).trans rfl)
        have u6 := (show wr.cell? ⟨gm, 6, none⟩ = some (.int .i64 m.cash) from (blk_cell GM.out 6).trans rfl)
        rw [Bool.true_and] at ho
        cases o with
        | false =>
          have hr : r = false := by rw [RB.out, ← ho]; simp
          subst hr
          clear ho
          go_wp2_with fail
          go_ret
          exact ⟨rfl, HB.out⟩
        | true =>
          rw [← ho] at RB
          have hall := ho.symm
          simp only [Mny.flat, List.all_cons, List.all_nil, Bool.and_true, Bool.and_eq_true, mayB_iff] at hall
          obtain ⟨k1, k2, k3, k4, k5, k6, k7, k9⟩ := hall
          clear ho
          by_cases n1 : -1000000000000000 ≤ m.cash
          · by_cases n2 : m.cash ≤ 1000000000000000
            · have s1 : IntKind.i64.wrap (m.cash + m.p) = m.cash + m.p := IntWalk.i64_in _ (by omega)
              have s2 : IntKind.i64.wrap (m.cash + m.p + m.acc) = m.cash + m.p + m.acc := IntWalk.i64_in _ (by omega)
              have s3 : IntKind.i64.wrap (m.cash + m.p + m.acc + a) = m.cash + m.p + m.acc + a := IntWalk.i64_in _ (by omega)
              have s4 : IntKind.i64.wrap (m.cash + m.p + m.acc + a + b) = m.cash + m.p + m.acc + a + b := IntWalk.i64_in _ (by omega)
              have s5 : IntKind.i64.wrap (m.cash + m.p + m.acc + a + b + m.pen) = m.cash + m.p + m.acc + a + b + m.pen := IntWalk.i64_in _ (by omega)
              obtain ⟨X, hX⟩ : ∃ X, m.cash + m.p + m.acc + a + b + m.pen + m.fees = X := ⟨_, rfl⟩
              have s6 : IntKind.i64.wrap (m.cash + m.p + m.acc + a + b + m.pen + m.fees) = X := by rw [hX]; exact IntWalk.i64_in _ (by omega)
              have r1 : IntKind.i64.wrap (m.un + m.earned) = m.un + m.earned := IntWalk.i64_in _ (by omega)
              have r2 : IntKind.i64.wrap (m.un + m.earned + m.fined) = m.un + m.earned + m.fined := IntWalk.i64_in _ (by omega)
              obtain ⟨Y, hY⟩ : ∃ Y, m.un + m.earned + m.fined + m.charged = Y := ⟨_, rfl⟩
              have r3 : IntKind.i64.wrap (m.un + m.earned + m.fined + m.charged) = Y := by rw [hY]; exact IntWalk.i64_in _ (by omega)
              have e1 := decide_eq_true n1
              have e2 := decide_eq_true n2
              obtain ⟨eq, heq⟩ : ∃ q, (X == Y) = q := ⟨_, rfl⟩
              have RB := Aside0.mk (show r = eq by rw [RB.out, e1, e2, hX, hY, heq]; rfl)
              clear hX hY k1 k2 k3 k4 k5 k6 k7 k9 n1 n2 ba bb
              go_wp2_with fail
              go_ret
              exact ⟨by rw [RB.out]; rfl, HB.out⟩
            · have e1 := decide_eq_true n1
              have e2 := decide_eq_false n2
              have hr : r = false := by rw [RB.out, e2]; simp
              subst hr
              clear k1 k2 k3 k4 k5 k6 k7 k9 n1 n2 ba bb
              go_wp2_with fail
              go_ret
              exact ⟨rfl, HB.out⟩
          · have e1 := decide_eq_false n1
            have hr : r = false := by rw [RB.out, e1]; simp
            subst hr
            clear k1 k2 k3 k4 k5 k6 k7 k9 n1 ba bb
            go_wp2_with fail
            go_ret
            exact ⟨rfl, HB.out⟩
end Go.Proofs.YtbbbjjfecblhpaaGreat.Nt
-- Written by a program of this session (wip/tools/myprint.py) with the help of the printer of the kit; Lean checks it.
namespace Go.Proofs.YtbbbjjfecblhpaaGreat.PRB
open Go.RowKit Go.Proofs.YtbbbjjfecblhpaaGreatW.PrintWords Go.Proofs.YtbbbjjfecblhpaaGreatW.PrintLast Go.Proofs.YtbbbjjfecblhpaaGreatW.PrintMore Go.Proofs.YtbbbjjfecblhpaaGreat.HW
attribute [local go_sem] run_makeFunc_ max2_int min2_int max_two min_two max_three min_three max_four min_four   -- for this text's walks alone
set_option linter.unusedVariables false
set_option linter.unusedSimpArgs false



def errW : Option Int → Value
  | none => .nilIface
  | some c => .iface 0 (.int .i64 c)
theorem errW_none : errW none = .nilIface := rfl
theorem errW_some (c : Int) : errW (some c) = .iface 0 (.int .i64 c) := rfl

theorem info2 : (Tryz.prog.info? 2).map (fun i => (i.zero, i.size, i.bytes)) = some (some (.int .i64 0), 1, 8) := by kernel_rfl
-- the values' own types

end Go.Proofs.YtbbbjjfecblhpaaGreat.PRB
-- Written by a program of this session (wip/tools/myprint.py) with the help of the printer of the kit; Lean checks it.
namespace Go.Proofs.YtbbbjjfecblhpaaGreat.PRB
open Go.RowKit Go.Proofs.YtbbbjjfecblhpaaGreatW.PrintWords Go.Proofs.YtbbbjjfecblhpaaGreatW.PrintLast Go.Proofs.YtbbbjjfecblhpaaGreatW.PrintMore Go.Proofs.YtbbbjjfecblhpaaGreat.HW
attribute [local go_sem] run_makeFunc_ max2_int min2_int max_two min_two max_three min_three max_four min_four   -- for this text's walks alone
set_option linter.unusedVariables false
set_option linter.unusedSimpArgs false

/-! ### quittanceref12_times: function 63 -/
mutual
def quittanceref12_times.l0 : Nat → List Int → Int → List Int → Int → Int → Option (List Int)
  | 0, _, _, _, _, _ => none
  | k + 1, x0, x1, x5, x6, x7 => if x7 < (x0.length : Int) then (if 0 ≤ x7 then (if x5.length < 17592186044416 then (quittanceref12_times.l0 k x0 x1 (x5 ++ [Int.tmod (wrap64 ((wrap64 ((rd x0 x7) * x1)) + x6)) 1000000000]) (wrap64 (Int.tdiv (wrap64 ((wrap64 ((rd x0 x7) * x1)) + x6)) 1000000000)) (wrap64 (x7 + 1))) else (none)) else (none)) else (quittanceref12_times.l1 k x5 x6)
def quittanceref12_times.l1 : Nat → List Int → Int → Option (List Int)
  | 0, _, _ => none
  | k + 1, x5, x6 => if x6 > 0 then (if x5.length < 17592186044416 then (quittanceref12_times.l1 k (x5 ++ [Int.tmod x6 1000000000]) (wrap64 (Int.tdiv x6 1000000000))) else (none)) else (some x5)
end
def quittanceref12_times.f (k : Nat) (l0 : List Int) (a1 : Int) : Option (List Int) := quittanceref12_times.l0 k l0 a1 ([] : List Int) 0 0
theorem quittanceref12_times.mono_l : ∀ k, (∀ y0 y1 y2 y3 y4, LeO (quittanceref12_times.l0 k y0 y1 y2 y3 y4) (quittanceref12_times.l0 (k + 1) y0 y1 y2 y3 y4)) ∧ (∀ y0 y1, LeO (quittanceref12_times.l1 k y0 y1) (quittanceref12_times.l1 (k + 1) y0 y1))
  | 0 => ⟨fun _ _ _ _ _ r h => by simp [quittanceref12_times.l0] at h, fun _ _ r h => by simp [quittanceref12_times.l1] at h⟩
  | k + 1 => by
    obtain ⟨ih0, ih1⟩ := quittanceref12_times.mono_l k
    refine ⟨?_, ?_⟩
    · intro y0 y1 y2 y3 y4
      unfold quittanceref12_times.l0
      repeat' first
      | (with_reducible exact ih0 _ _ _ _ _)
      | (with_reducible exact ih1 _ _)
      | (with_reducible exact LeO.refl _)
      | (with_reducible exact LeO.none _)
      | (with_reducible refine LeO.ite ?_ ?_)
      | (with_reducible refine LeO.bind ?_ (fun _ => ?_))
      | exact ih0 _ _ _ _ _
      | exact ih1 _ _
      | exact LeO.none _
      | refine LeO.ite ?_ ?_
      | refine LeO.bind ?_ (fun _ => ?_)
    · intro y0 y1
      unfold quittanceref12_times.l1
      repeat' first
      | (with_reducible exact ih0 _ _ _ _ _)
      | (with_reducible exact ih1 _ _)
      | (with_reducible exact LeO.refl _)
      | (with_reducible exact LeO.none _)
      | (with_reducible refine LeO.ite ?_ ?_)
      | (with_reducible refine LeO.bind ?_ (fun _ => ?_))
      | exact ih0 _ _ _ _ _
      | exact ih1 _ _
      | exact LeO.none _
      | refine LeO.ite ?_ ?_
      | refine LeO.bind ?_ (fun _ => ?_)
theorem quittanceref12_times.mono : ∀ a0 a1 k, LeO (quittanceref12_times.f k a0 a1) (quittanceref12_times.f (k + 1) a0 a1) := by
  intro a0 a1 k
  obtain ⟨ih0, ih1⟩ := quittanceref12_times.mono_l k
  unfold quittanceref12_times.f
  repeat' first
      | (with_reducible exact ih0 _ _ _ _ _)
      | (with_reducible exact ih1 _ _)
      | (with_reducible exact LeO.refl _)
      | (with_reducible exact LeO.none _)
      | (with_reducible refine LeO.ite ?_ ?_)
      | (with_reducible refine LeO.bind ?_ (fun _ => ?_))
      | exact ih0 _ _ _ _ _
      | exact ih1 _ _
      | exact LeO.none _
      | refine LeO.ite ?_ ?_
      | refine LeO.bind ?_ (fun _ => ?_)
set_option maxHeartbeats 8000000 in
set_option maxRecDepth 100000 in
theorem quittanceref12_times.calls (k : Nat) (A0 : Option Addr) (c0 : Nat) (l0 : List Int) (a1 : Int) (r : List Int) (w : World) (hr0 : Kd.C (Kd.int .i64) w A0 l0.length l0) (hc0 : l0.length ≤ c0) (h : quittanceref12_times.f k l0 a1 = some r) :
    Calls Tryz.prog 63 #[.slice A0 l0.length c0, .int .i64 a1] w fun e w' => ∃ v0_ : Value, e = .returned (v0_) ∧ Kd.R (Kd.int .i64) 2 w' w.heap.size (fun _ => True) v0_ r ∧ Below w.heap.size w w' := by
  have HR0 := Aside0.mk hr0
  have HC0 := Aside0.mk hc0
  clear hr0 hc0
  have HB := Aside0.mk (Below.refl w.heap.size w)
  have H : (quittanceref12_times.l0 k l0 a1 ([] : List Int) 0 0) = some r := h
  clear h
  have H' := Aside0.mk H
  clear H
  go_enter Tryz.func63, Tryz.ntmps63
  go_wp2
  go_loopg [5, 6, 7] k (fun kq v5 v6 v7 w' => ∃ (x5_1 : List Int) (x6_1 : Int) (x7_1 : Int), v6 = .int .i64 x6_1 ∧ v7 = .int .i64 x7_1 ∧ Aside0 (quittanceref12_times.l0 kq l0 a1 x5_1 x6_1 x7_1 = some r) ∧ Aside0 (kq ≤ k) ∧ Aside0 (Kd.R (Kd.int .i64) 2 w' w.heap.size (fun _ => True) v5 x5_1) ∧ Aside0 (Below w.heap.size w w'))
  case atStart => exact ⟨(([] : List Int)), (0), (0), (by first | rfl | (simp; done) | (simp [*]; done)), (by first | rfl | (simp; done) | (simp [*]; done)), H', ⟨Nat.le_refl _⟩, ⟨by first | exact Kd.R_nil _ _ _ _ _ | exact Kd.N_nil _ _ _ _ _ | exact Kd.V_nil _ _ _ _ _ | exact Kd.Q_nil _ _ _ _ _ | exact Kd.S_nil _ _ _ _ _⟩, ⟨by repeat (first | (with_reducible first | exact HB.out | apply below_alloc | apply pw_below_drewN | apply below_drew1) | exact HB.out)⟩⟩
  case round =>
    clear H'
    try clear p2
    obtain ⟨x5_1, x6_1, x7_1, rfl, rfl, HA, HK1, HO_5, HB⟩ := hrel
    cases gk with
    | zero => exact absurd HA.out (by simp [quittanceref12_times.l0])
    | succ k1 =>
      have H := HA.out
      clear HA
      simp only [quittanceref12_times.l0] at H
      by_cases c3 : x7_1 < (l0.length : Int)
      · rw [if_pos c3] at H
        have c3b0 : decide (x7_1 < (l0.length : Int)) = true := decide_eq_true c3
        clear c3
        by_cases c4 : 0 ≤ x7_1
        · rw [if_pos c4] at H
          have c4b0 : decide (0 ≤ x7_1) = true := decide_eq_true c4
          clear c4
          by_cases c5 : x5_1.length < 17592186044416
          · rw [if_pos c5] at H
            have LMc5 := Aside0.mk c5
            clear c5
            obtain ⟨y102, hy102⟩ : ∃ y_ : List Int, y_ = (x5_1 ++ [Int.tmod (wrap64 ((wrap64 ((rd l0 x7_1) * a1)) + x6_1)) 1000000000]) := ⟨_, rfl⟩
            replace H : (quittanceref12_times.l0 k1 l0 a1 y102 (wrap64 (Int.tdiv (wrap64 ((wrap64 ((rd l0 x7_1) * a1)) + x6_1)) 1000000000)) (wrap64 (x7_1 + 1))) = some r := by first | (rw [hy102]; with_reducible exact H) | (have H2_ := (Option.bind_some _ _).symm.trans H; rw [hy102]; with_reducible exact H2_) | (have H2_ := (Option.bind_some _ _).symm.trans H; with_reducible exact H2_) | with_reducible exact H | (rw [hy102]; exact H) | exact H
            have Ny102 := Aside0.mk hy102
            clear hy102
            have H' := Aside0.mk H
            clear H
            have p101 : 0 ≤ (x7_1 : Int) := of_decide_eq_true (by first | (with_reducible assumption) | assumption)
            have q101 : x7_1 < (l0.length : Int) := of_decide_eq_true (by first | (with_reducible assumption) | assumption)
            obtain ⟨ad101, e101, hx101_0⟩ := Kd.at_int HR0.out x7_1 p101 q101
            cases e101
            replace hx101_0 := (HB.out.cell (World.block_lt_of_cell? w _ hx101_0)).trans hx101_0
            replace p101 := eq_true p101
            replace q101 := eq_true q101
            go_wp2_with (first | ((with_reducible refine gate_builtin (b := .append) (xs := #[.tmp 23, .tmp 26]) rfl ?_); at_builtin; refine Kd.R_append (Kd.int .i64) (w0 := w) w.heap.size rfl (.tmp 23) (.tmp 26) 28 2 (.int .i64 0) 8 rfl Tryz.underlying28 info2 rfl (by decide) (by omega) u5 x5_1 (Int.tmod (wrap64 ((wrap64 ((rd l0 x7_1) * a1)) + x6_1)) 1000000000) [.int .i64 (Int.tmod (wrap64 ((wrap64 ((rd l0 x7_1) * a1)) + x6_1)) 1000000000)] (fun _ => True) (fun _ => False) rfl rfl ?aP (fun _ hk => hk.elim) ?aF ?aO ?aB ?aS ?aL ?_; (case aP => exact rfl); (case aB => exact (by repeat (first | (with_reducible first | exact HB.out | apply below_alloc | apply pw_below_drewN | apply below_drew1) | exact HB.out))); (case aF => exact (fun _ _ => trivial)); (case aO => exact (by (with_reducible repeat (first | apply Kd.R_alloc | apply Kd.R_drewN | apply Kd.R_drew)); exact HO_5.out)); (case aS => exact (below_size (by repeat (first | (with_reducible first | exact HB.out | apply below_alloc | apply pw_below_drewN | apply below_drew1) | exact HB.out)))); (case aL => have := LMc5.out; omega); intro v103 w6 ho hb hg hat; rw [← Ny102.out] at ho; have n0_ := Aside0.mk (hb); have n1_ := Aside0.mk (ho); clear HB; clear HO_5; have HB := n0_; have HO104 := n1_; clear n0_ n1_; clear ho hb hg hat))
            go_roundg k1
            case measure => have := HK1.out; omega
            case rel => exact ⟨(y102), (wrap64 (Int.tdiv (wrap64 ((wrap64 ((rd l0 x7_1) * a1)) + x6_1)) 1000000000)), (wrap64 (x7_1 + 1)), (by first | rfl | (simp; done) | (simp [*]; done)), (by first | rfl | (simp; done) | (simp [*]; done)), H', ⟨by have := HK1.out; omega⟩, ⟨by (with_reducible repeat (first | apply Kd.R_alloc | apply Kd.R_drewN | apply Kd.R_drew)); exact HO104.out⟩, ⟨by repeat (first | (with_reducible first | exact HB.out | apply below_alloc | apply pw_below_drewN | apply below_drew1) | exact HB.out)⟩⟩
          · rw [if_neg c5] at H
            exact absurd H (by simp)
        · rw [if_neg c4] at H
          exact absurd H (by simp)
      · rw [if_neg c3] at H
        have c3b0 : decide (x7_1 < (l0.length : Int)) = false := decide_eq_false c3
        clear c3
        have H' := Aside0.mk H
        clear H
        go_wp2
        go_loopg [5, 6] k1 (fun kq v5 v6 w' => ∃ (x5_2 : List Int) (x6_2 : Int), v6 = .int .i64 x6_2 ∧ Aside0 (quittanceref12_times.l1 kq x5_2 x6_2 = some r) ∧ Aside0 (kq ≤ k1) ∧ Aside0 (Kd.R (Kd.int .i64) 2 w' w.heap.size (fun _ => True) v5 x5_2) ∧ Aside0 (Below w.heap.size w w'))
        case atStart => exact ⟨(x5_1), (x6_1), (by first | rfl | (simp; done) | (simp [*]; done)), H', ⟨Nat.le_refl _⟩, ⟨by (with_reducible repeat (first | apply Kd.R_alloc | apply Kd.R_drewN | apply Kd.R_drew)); exact HO_5.out⟩, ⟨by repeat (first | (with_reducible first | exact HB.out | apply below_alloc | apply pw_below_drewN | apply below_drew1) | exact HB.out)⟩⟩
        case round =>
          clear H'
          try clear p1
          try clear q1
          try clear hx1
          try clear p2
          try clear c3
          try clear c3b0
          try clear c4
          try clear c4b0
          try clear c5
          try clear c6
          try clear p6
          try clear hx101_0
          try clear p101
          try clear p2
          try clear q101
          obtain ⟨x5_2, x6_2, rfl, HA, HK2, HO_5, HB⟩ := hrel
          cases gk with
          | zero => exact absurd HA.out (by simp [quittanceref12_times.l1])
          | succ k2 =>
            have H := HA.out
            clear HA
            simp only [quittanceref12_times.l1] at H
            by_cases c7 : x6_2 > 0
            · rw [if_pos c7] at H
              have c7b0 : decide (0 < x6_2) = true := decide_eq_true c7
              clear c7
              by_cases c8 : x5_2.length < 17592186044416
              · rw [if_pos c8] at H
                have LMc8 := Aside0.mk c8
                clear c8
                obtain ⟨y105, hy105⟩ : ∃ y_ : List Int, y_ = (x5_2 ++ [Int.tmod x6_2 1000000000]) := ⟨_, rfl⟩
                replace H : (quittanceref12_times.l1 k2 y105 (wrap64 (Int.tdiv x6_2 1000000000))) = some r := by first | (rw [hy105]; with_reducible exact H) | (have H2_ := (Option.bind_some _ _).symm.trans H; rw [hy105]; with_reducible exact H2_) | (have H2_ := (Option.bind_some _ _).symm.trans H; with_reducible exact H2_) | with_reducible exact H | (rw [hy105]; exact H) | exact H
                have Ny105 := Aside0.mk hy105
                clear hy105
                have H' := Aside0.mk H
                clear H
                go_wp2_with (first | ((with_reducible refine gate_builtin (b := .append) (xs := #[.tmp 32, .tmp 35]) rfl ?_); at_builtin; refine Kd.R_append (Kd.int .i64) (w0 := w) w.heap.size rfl (.tmp 32) (.tmp 35) 28 2 (.int .i64 0) 8 rfl Tryz.underlying28 info2 rfl (by decide) (by omega) u5 x5_2 (Int.tmod x6_2 1000000000) [.int .i64 (Int.tmod x6_2 1000000000)] (fun _ => True) (fun _ => False) rfl rfl ?aP (fun _ hk => hk.elim) ?aF ?aO ?aB ?aS ?aL ?_; (case aP => exact rfl); (case aB => exact (by repeat (first | (with_reducible first | exact HB.out | apply below_alloc | apply pw_below_drewN | apply below_drew1) | exact HB.out))); (case aF => exact (fun _ _ => trivial)); (case aO => exact (by (with_reducible repeat (first | apply Kd.R_alloc | apply Kd.R_drewN | apply Kd.R_drew)); exact HO_5.out)); (case aS => exact (below_size (by repeat (first | (with_reducible first | exact HB.out | apply below_alloc | apply pw_below_drewN | apply below_drew1) | exact HB.out)))); (case aL => have := LMc8.out; omega); intro v106 w9 ho hb hg hat; rw [← Ny105.out] at ho; have n0_ := Aside0.mk (hb); have n1_ := Aside0.mk (ho); clear HB; clear HO_5; have HB := n0_; have HO107 := n1_; clear n0_ n1_; clear ho hb hg hat))
                go_roundg k2
                case measure => have := HK1.out; have := HK2.out; omega
                case rel => exact ⟨(y105), (wrap64 (Int.tdiv x6_2 1000000000)), (by first | rfl | (simp; done) | (simp [*]; done)), H', ⟨by have := HK1.out; have := HK2.out; omega⟩, ⟨by (with_reducible repeat (first | apply Kd.R_alloc | apply Kd.R_drewN | apply Kd.R_drew)); exact HO107.out⟩, ⟨by repeat (first | (with_reducible first | exact HB.out | apply below_alloc | apply pw_below_drewN | apply below_drew1) | exact HB.out)⟩⟩
              · rw [if_neg c8] at H
                exact absurd H (by simp)
            · rw [if_neg c7] at H
              have c7b0 : decide (0 < x6_2) = false := decide_eq_false c7
              clear c7
              obtain rfl := Option.some.inj H
              go_wp2
              go_ret
              exact ⟨_, by first | rfl | (simp [errW_none, errW_some] <;> rfl) | (simp [*, errW_none, errW_some] <;> rfl), by (with_reducible repeat (first | apply Kd.R_alloc | apply Kd.R_drewN | apply Kd.R_drew)); exact HO_5.out, by repeat (first | (with_reducible first | exact HB.out | apply below_alloc | apply pw_below_drewN | apply below_drew1) | exact HB.out)⟩

end Go.Proofs.YtbbbjjfecblhpaaGreat.PRB
/- Plain arithmetic: numbers as1 digits of a thousand million each. -/
namespace Go.Proofs.YtbbbjjfecblhpaaGreat.Dg
/-- The number that digits are, the lowest first. -/
def val : List Int → Int
  | [] => 0
  | d :: ds => d + 1000000000 * val ds
def Dig (l : List Int) : Prop := ∀ d ∈ l, 0 ≤ d ∧ d < 1000000000
theorem Dig.nil : Dig [] := fun d h => by simp at h
theorem Dig.cons {d : Int} {l : List Int} (h1 : 0 ≤ d) (h2 : d < 1000000000) (h : Dig l) : Dig (d :: l) := fun x hx => by
  rcases List.mem_cons.1 hx with rfl | hx
  · exact ⟨h1, h2⟩
  · exact h x hx
theorem Dig.tail {d : Int} {l : List Int} (h : Dig (d :: l)) : Dig l := fun x hx => h x (List.mem_cons_of_mem _ hx)
theorem Dig.head {d : Int} {l : List Int} (h : Dig (d :: l)) : 0 ≤ d ∧ d < 1000000000 := h d List.mem_cons_self
/-- So many times. -/
def tms (n : Int) : Int → List Int → List Int
  | c, [] => if 0 < c then [c] else []
  | c, d :: ds => (d * n + c) % 1000000000 :: tms n ((d * n + c) / 1000000000) ds
theorem step_bd {d n c : Int} (d0 : 0 ≤ d) (d1 : d < 1000000000) (n0 : 0 ≤ n) (n1 : n ≤ 1000000000) (c0 : 0 ≤ c) (c1 : c < 1000000000) : 0 ≤ d * n ∧ d * n ≤ 999999999000000000 ∧ 0 ≤ d * n + c ∧ d * n + c < 1000000000000000000 ∧ (d * n + c) / 1000000000 < 1000000000 := by
  obtain ⟨h1, h2⟩ := Gm.mul_le d0 n0 (show d ≤ 999999999 by omega) n1
  omega
theorem tms_spec {n : Int} (n0 : 0 ≤ n) (n1 : n ≤ 1000000000) (l : List Int) : ∀ c, 0 ≤ c → c < 1000000000 → Dig l → Dig (tms n c l) ∧ val (tms n c l) = val l * n + c ∧ (tms n c l).length ≤ l.length + 1 := by
  induction l with
  | nil =>
    intro c c0 c1 _
    simp only [tms]
    by_cases h : 0 < c
    · rw [if_pos h]; exact ⟨Dig.cons c0 c1 Dig.nil, by simp [val], by simp⟩
    · rw [if_neg h]; exact ⟨Dig.nil, by simp [val]; omega, by simp⟩
  | cons d ds ih =>
    intro c c0 c1 hd
    obtain ⟨h1, h2, h3, h4, h5⟩ := step_bd hd.head.1 hd.head.2 n0 n1 c0 c1
    obtain ⟨i1, i2, i3⟩ := ih ((d * n + c) / 1000000000) (by omega) h5 hd.tail
    simp only [tms]
    refine ⟨Dig.cons (by omega) (by omega) i1, ?_, by simp; omega⟩
    simp only [val]
    rw [i2, Int.add_mul, Int.mul_add, Int.mul_assoc]
    generalize val ds * n = z
    generalize d * n = y at *
    omega
/-- So many more. -/
def pls : Int → List Int → List Int
  | v, [] => if 0 < v then (if 0 < v / 1000000000 then [v % 1000000000, v / 1000000000] else [v % 1000000000]) else []
  | v, d :: ds => if 0 < v then (v + d) % 1000000000 :: pls ((v + d) / 1000000000) ds else d :: ds
theorem pls_zero (l : List Int) : pls 0 l = l := by cases l <;> simp [pls]
theorem pls_spec (l : List Int) : ∀ v, 0 ≤ v → v ≤ 1000000000000000 → Dig l → Dig (pls v l) ∧ val (pls v l) = val l + v ∧ (pls v l).length ≤ l.length + 2 := by
  induction l with
  | nil =>
    intro v v0 v1 _
    simp only [pls]
    by_cases h : 0 < v
    · rw [if_pos h]
      by_cases h2 : 0 < v / 1000000000
      · rw [if_pos h2]; exact ⟨Dig.cons (by omega) (by omega) (Dig.cons (by omega) (by omega) Dig.nil), by simp [val]; omega, by simp⟩
      · rw [if_neg h2]; exact ⟨Dig.cons (by omega) (by omega) Dig.nil, by simp [val]; omega, by simp⟩
    · rw [if_neg h]; exact ⟨Dig.nil, by simp [val]; omega, by simp⟩
  | cons d ds ih =>
    intro v v0 v1 hd
    simp only [pls]
    have := hd.head
    by_cases h : 0 < v
    · rw [if_pos h]
      obtain ⟨i1, i2, i3⟩ := ih ((v + d) / 1000000000) (by omega) (by omega) hd.tail
      refine ⟨Dig.cons (by omega) (by omega) i1, ?_, by simp; omega⟩
      simp only [val]
      rw [i2]
      omega
    · rw [if_neg h]; exact ⟨hd, by omega, by simp⟩
/-- One digit more is divided. -/
theorem div_step {P q r d y : Int} (hP : 0 < P) (hy : y = q * P + r) (r0 : 0 ≤ r) (r1 : r < P) (d0 : 0 ≤ d) (d1 : d < 1000000000) :
    d + 1000000000 * y = (q * 1000000000 + (r * 1000000000 + d) / P) * P + (r * 1000000000 + d) % P ∧ 0 ≤ (r * 1000000000 + d) / P ∧ (r * 1000000000 + d) / P < 1000000000 ∧ 0 ≤ (r * 1000000000 + d) % P ∧ (r * 1000000000 + d) % P < P := by
  have e := Int.emod_add_mul_ediv (r * 1000000000 + d) P
  rw [Int.mul_comm P] at e
  have h1 := Int.emod_nonneg (r * 1000000000 + d) (show P ≠ 0 by omega)
  have h2 := Int.emod_lt_of_pos (r * 1000000000 + d) hP
  have h3 : 0 ≤ (r * 1000000000 + d) / P := Int.ediv_nonneg (by omega) (by omega)
  have h4 : (r * 1000000000 + d) / P < 1000000000 := Int.ediv_lt_of_lt_mul hP (by omega)
  refine ⟨?_, h3, h4, h1, h2⟩
  rw [hy, Int.add_mul, Int.mul_add]
  have e2 : q * 1000000000 * P = 1000000000 * (q * P) := by rw [Int.mul_comm q, Int.mul_assoc]
  rw [e2]
  generalize q * P = z
  generalize (r * 1000000000 + d) / P * P = y at *
  omega
theorem val_drop {l : List Int} (h : Dig l) (i : Nat) (hi : i < l.length) : val (l.drop i) = l.getD i 0 + 1000000000 * val (l.drop (i + 1)) ∧ 0 ≤ l.getD i 0 ∧ l.getD i 0 < 1000000000 := by
  rw [List.drop_eq_getElem_cons hi]
  simp only [val]
  have := h _ (List.getElem_mem hi)
  simp [hi]
  exact this
/-- The number is at least its upper digits. -/
theorem val_ge {l : List Int} (h : Dig l) (i : Nat) : i ≤ l.length → 1000000000 ^ i * val (l.drop i) ≤ val l := by
  induction i with
  | zero => intro _; simp
  | succ i ih =>
    intro hi
    obtain ⟨h1, h2, h3⟩ := val_drop h i (by omega)
    have := ih (by omega)
    have hp : (0 : Int) ≤ 1000000000 ^ i := Int.pow_nonneg (by decide)
    rw [h1, Int.mul_add] at this
    have h4 := Int.mul_nonneg hp h2
    rw [Int.pow_succ, Int.mul_assoc]
    omega
/-- What the document reckons, and what is borne. -/
theorem ends {P W h rest x q r : Int} (hP : 0 < P) (hW : W = 1000000000 * P) (e : x + rest + W = q * W + r) (r0 : 0 ≤ r) (r1 : r < W) (up : Bool) (hh : up = true ∧ W = 2 * h ∨ up = false ∧ h = 0) :
    (up = true ∧ W - r ≤ r → Gm.q W h rest x = q ∧ Gm.r W h rest x = r - W) ∧ (¬ (up = true ∧ W - r ≤ r) → Gm.q W h rest x = q - 1 ∧ Gm.r W h rest x = r) := by
  have hW0 : 0 < W := by omega
  have key : ∀ (s t : Int), x + (rest + h) = s * W + t → 0 ≤ t → t < W → Gm.q W h rest x = s ∧ Gm.r W h rest x = t - h := by
    intro s t e t0 t1
    unfold Gm.q Gm.r
    rw [e, Int.add_comm (s * W), Int.add_mul_ediv_right _ _ (by omega), Int.add_mul_emod_self_right, Int.ediv_eq_zero_of_lt t0 t1, Int.emod_eq_of_lt t0 t1]
    exact ⟨by omega, rfl⟩
  have eq1 : (q - 1) * W = q * W - W := by rw [Int.sub_mul, Int.one_mul]
  constructor
  · rintro ⟨hu, hr⟩
    have hwh : W = 2 * h := by rcases hh with h' | h'; exact h'.2; rw [hu] at h'; cases h'.1
    obtain ⟨g1, g2⟩ := key q (r + h - W) (by omega) (by omega) (by omega)
    exact ⟨g1, by omega⟩
  · intro hn
    rcases hh with ⟨hu, hwh⟩ | ⟨hu, h0⟩
    · have : r < W - r := by
        rcases Int.lt_or_le r (W - r) with h' | h'
        · exact h'
        · exact absurd ⟨hu, h'⟩ hn
      obtain ⟨g1, g2⟩ := key (q - 1) (r + h) (by omega) (by omega) (by omega)
      exact ⟨g1, by omega⟩
    · obtain ⟨g1, g2⟩ := key (q - 1) (r + h) (by omega) (by omega) (by omega)
      exact ⟨g1, by omega⟩
end Go.Proofs.YtbbbjjfecblhpaaGreat.Dg
/- Contracts by hand: the document's digits: so many times, so many more. -/
namespace Go.Proofs.YtbbbjjfecblhpaaGreat.H
open Go.RowKit Go.Proofs.YtbbbjjfecblhpaaGreatW.PrintWords Go.Proofs.YtbbbjjfecblhpaaGreatW.PrintLast Go.Proofs.YtbbbjjfecblhpaaGreatW.PrintMore Go.Proofs.YtbbbjjfecblhpaaGreat.HW
set_option linter.unusedVariables false
set_option linter.unusedSimpArgs false
theorem w64' {x : Int} (h1 : -9223372036854775808 ≤ x) (h2 : x ≤ 9223372036854775807) : wrap64 x = x := by unfold wrap64; omega
theorem rd_nat' (l : List Int) (k : Nat) (h : k < l.length) : rd l (k : Int) = l[k] := by simp [rd, h]
/-- Digits that a call answers. -/
def Digits (w : World) (r : List Int) (e : Ending) (w' : World) : Prop := ∃ A c, e = .returned (.slice A r.length c) ∧ Kd.C (Kd.int .i64) w' A r.length r ∧ r.length ≤ c ∧ (A = none → c = 0) ∧ Below w.heap.size w w'
theorem digits_of_own {w w1 : World} {v : Value} {r : List Int} (h : w1.ownsRow w.heap.size 2 1 v r.length (nums .i64 r)) (hb : Below w.heap.size w w1) : ∃ A c, v = .slice A r.length c ∧ Kd.C (Kd.int .i64) w1 A r.length r ∧ r.length ≤ c ∧ (A = none → c = 0) := by
  have h' : w1.ownsRow w.heap.size 2 1 v r.length (encs (Value.int .i64) r) := h
  obtain ⟨A, c, rfl, hle, hr⟩ := own_reads_of_le (d := (0 : Int)) h'
  refine ⟨A, c, rfl, Kd.C_of_reads hr, hle, fun hA => ?_⟩
  subst hA
  rcases h.2 with ⟨e, _⟩ | ⟨g, cap, cur, e, _⟩
  · injection e
  · injection e with e1 e2
    cases e1
theorem times_l1 (k : Nat) (acc : List Int) (c : Int) (c0 : 0 ≤ c) (c1 : c < 1000000000) (ha : acc.length ≤ 1000000) : PRB.quittanceref12_times.l1 (k + 2) acc c = some (acc ++ (if 0 < c then [c] else [])) := by
  simp only [PRB.quittanceref12_times.l1]
  by_cases h : 0 < c
  · rw [if_pos h, if_pos (by omega), if_pos h, Int.tmod_eq_emod_of_nonneg c0, Int.emod_eq_of_lt c0 c1, Int.tdiv_eq_ediv_of_nonneg c0, Int.ediv_eq_zero_of_lt c0 c1, w64' (by omega) (by omega), if_neg (by decide)]
  · rw [if_neg h, if_neg h, List.append_nil]
theorem times_l0 (l : List Int) (hd : Dg.Dig l) (hl : l.length ≤ 100000) (n : Int) (n0 : 0 ≤ n) (n1 : n ≤ 1000000000) (d : Nat) : ∀ (k i : Nat) (acc : List Int) (c : Int), l.length - i = d → i ≤ l.length → d + 2 < k → acc.length ≤ 100000 + i → 0 ≤ c → c < 1000000000 →
    PRB.quittanceref12_times.l0 k l n acc c (i : Int) = some (acc ++ Dg.tms n c (l.drop i)) := by
  induction d with
  | zero =>
    intro k i acc c h1 h2 h3 h4 c0 c1
    obtain ⟨k, rfl⟩ : ∃ m, k = m + 1 := ⟨k - 1, by omega⟩
    simp only [PRB.quittanceref12_times.l0]
    rw [if_neg (by omega), List.drop_eq_nil_of_le (by omega)]
    obtain ⟨k, rfl⟩ : ∃ m, k = m + 2 := ⟨k - 2, by omega⟩
    exact times_l1 k acc c c0 c1 (by omega)
  | succ d ih =>
    intro k i acc c h1 h2 h3 h4 c0 c1
    obtain ⟨k, rfl⟩ : ∃ m, k = m + 1 := ⟨k - 1, by omega⟩
    have hi : i < l.length := by omega
    have hx := hd _ (List.getElem_mem hi)
    simp only [PRB.quittanceref12_times.l0]
    rw [if_pos (by omega), if_pos (by omega), if_pos (by omega), rd_nat' l i hi]
    obtain ⟨s1, s2, s3, s4, s5⟩ := Dg.step_bd hx.1 hx.2 n0 n1 c0 c1
    rw [w64' (x := l[i] * n) (by omega) (by omega), w64' (x := l[i] * n + c) (by omega) (by omega), Int.tmod_eq_emod_of_nonneg s3, Int.tdiv_eq_ediv_of_nonneg s3, w64' (x := (l[i] * n + c) / 1000000000) (by omega) (by omega), w64' (x := (i : Int) + 1) (by omega) (by omega), show (i : Int) + 1 = ((i + 1 : Nat) : Int) by omega]
    rw [ih k (i + 1) _ _ (by omega) (by omega) (by omega) (by simp; omega) (by omega) s5, List.drop_eq_getElem_cons hi]
    simp only [Dg.tms, List.append_assoc, List.cons_append, List.nil_append]
theorem times_any {A0 : Option Addr} {c0 : Nat} {l : List Int} {n : Int} {w : World} (hr0 : Kd.C (Kd.int .i64) w A0 l.length l) (hc0 : l.length ≤ c0) (hd : Dg.Dig l) (hl : l.length ≤ 1000) (n0 : 0 ≤ n) (n1 : n ≤ 1000000000) :
    Calls Tryz.prog 63 #[.slice A0 l.length c0, .int .i64 n] w (Digits w (Dg.tms n 0 l)) := by
  refine (PRB.quittanceref12_times.calls 2000 A0 c0 l n (Dg.tms n 0 l) w hr0 hc0 ?_).mono ?_
  · have := times_l0 l hd (by omega) n n0 n1 l.length 2000 0 [] 0 (by omega) (by omega) (by omega) (by simp) (by omega) (by omega)
    simpa [PRB.quittanceref12_times.f] using this
  · rintro e w' ⟨v, rfl, hR, hb⟩
    have ho : w'.ownsRow w.heap.size 2 1 v (Dg.tms n 0 l).length (nums .i64 (Dg.tms n 0 l)) := Kd.own_of_R hR
    obtain ⟨A, c, rfl, h1, h2, h3⟩ := digits_of_own ho hb
    exact ⟨A, c, rfl, h1, h2, h3, hb⟩
theorem info_i64 : (Tryz.prog.info? 2).map (fun i => (i.zero, i.size, i.bytes)) = some (some (.int .i64 0), 1, 8) := by kernel_rfl
theorem nums_get' (l : List Int) (j : Nat) (u : Value) (h : (nums .i64 l)[j]? = some u) : j < l.length ∧ u = .int .i64 (rd l (j : Int)) := by
  have hj : j < l.length := by
    rcases Nat.lt_or_ge j l.length with h' | h'
    · exact h'
    · rw [List.getElem?_eq_none (by rw [nums_length]; exact h')] at h; cases h
  refine ⟨hj, ?_⟩
  rw [rd_nat' l j hj]
  simp [nums, hj] at h
  exact h.symm
theorem news_of' {w w1 : World} {ad : Addr} {l : List Int} (hr : Kd.C (Kd.int .i64) w (some ad) l.length l) (hb : Below w.heap.size w w1) : ∀ j u, (nums .i64 l)[j]? = some u → w1.cell? (ad.add j) = some u := by
  intro j u hu
  obtain ⟨hj, rfl⟩ := nums_get' l j u hu
  obtain ⟨ad', e', hc⟩ := Kd.at_int (Kd.C_below hr hb) (j : Int) (by omega) (by omega)
  obtain rfl := Option.some.inj e'
  rw [Int.toNat_natCast] at hc
  exact hc
theorem all_one (l : List Int) : ∀ u ∈ nums .i64 l, u.oneCell' = true := by
  intro u hu
  simp [nums] at hu
  obtain ⟨a, _, rfl⟩ := hu
  rfl
theorem new_one' (w : World) (x : Int) (e : TypeId) : ∀ j u, [Value.int .i64 x][j]? = some u → (w.alloc (.cells #[.int .i64 x] e)).cell? ((⟨w.heap.size, 0, none⟩ : Addr).add j) = some u := by
  intro j u hu
  have hj : j < 1 := by
    rcases Nat.lt_or_ge j 1 with h | h
    · exact h
    · rw [List.getElem?_eq_none (by simpa using h)] at hu; cases hu
  obtain rfl : j = 0 := by omega
  simp at hu
  subst hu
  simp [go_sem, Addr.add]
theorem own_form' {w : World} {base n : Nat} {e : TypeId} {v : Value} {xs : List Value} (h : w.ownsRow base e 1 v n xs) (hn : 0 < n) : ∃ g cap, v = .slice (some ⟨g, 0, none⟩) n cap ∧ base ≤ g ∧ n ≤ cap := by
  rcases h.2 with ⟨_, e0⟩ | ⟨g, cap, cur, e', hb, _, h1, _⟩
  · omega
  · exact ⟨g, cap, e', hb, h1⟩
/-- In the middle of it: some digits are done. -/
structure Mid (w W : World) (v : Value) (done todo : List Int) (k : Nat) : Prop where
  len : done.length = k
  own : W.ownsRow w.heap.size 2 1 v (done ++ todo).length (nums .i64 (done ++ todo))
  below : Below w.heap.size w W
theorem Mid.slice {w W : World} {v : Value} {done todo : List Int} {k : Nat} (h : Mid w W v done todo k) : ∃ A c, v = .slice A (done ++ todo).length c ∧ (done ++ todo).length ≤ c ∧ (A = none → c = 0) := by
  obtain ⟨A, c, h1, _, h3, h4⟩ := digits_of_own h.own h.below
  exact ⟨A, c, h1, h3, h4⟩
theorem Mid.set {w W : World} {g cap : Nat} {done todo : List Int} {d x : Int} {k : Nat} (h : Mid w W (.slice (some ⟨g, 0, none⟩) (done ++ d :: todo).length cap) done (d :: todo) k) (hg : w.heap.size ≤ g) : Mid w (W.setCell ⟨g, k, none⟩ (.int .i64 x)) (.slice (some ⟨g, 0, none⟩) (done ++ d :: todo).length cap) (done ++ [x]) todo (k + 1) := by
  have hl := h.len
  refine ⟨by simp [hl], ?_, h.below.setCell (by exact hg) _⟩
  have h1 := (World.ownsRow.stored h.own k (.int .i64 x)).1
  have e : (nums .i64 (done ++ d :: todo)).set k (.int .i64 x) = nums .i64 ((done ++ [x]) ++ todo) := by
    simp only [nums, List.map_append, List.map_cons, List.append_assoc, List.cons_append, List.nil_append]
    rw [List.set_append_right _ _ (by simp [hl])]
    simp [hl]
  rw [e] at h1
  have e2 : ((done ++ [x]) ++ todo).length = (done ++ d :: todo).length := by simp
  rw [e2]
  exact h1
theorem Mid.cell {w W : World} {g cap : Nat} {done todo : List Int} {d : Int} {k : Nat} (h : Mid w W (.slice (some ⟨g, 0, none⟩) (done ++ d :: todo).length cap) done (d :: todo) k) : W.cell? ⟨g, k, none⟩ = some (.int .i64 d) ∧ W.frozen? ⟨g, k, none⟩ = false := by
  refine ⟨?_, World.ownsRow.frozenAt h.own k⟩
  rw [World.ownsRow.cellAt h.own k (by have := h.len; simp; omega)]
  simp [nums, List.getElem?_append_right, h.len]
theorem Mid.more {w W w1 : World} {v v' : Value} {done : List Int} {k : Nat} (h : Mid w W v done [] k) (hown : w1.ownsRow w.heap.size 2 1 v' ((done ++ []).length + 1) (nums .i64 (done ++ []) ++ [.int .i64 0])) (hg : (W.alloc (.cells #[.int .i64 0] 2)).grownBy w1 v.ownBlock) : Mid w w1 v' done [0] k :=
  ⟨h.len, by simpa [nums] using hown, (h.below.alloc h.below.size _).grown hg (by have := h.below.size; simp; omega) (own_base h.own)⟩
def dgs (x : Int) : Nat := if x ≤ 0 then 0 else if x < 1000000000 then 1 else 2
theorem pls_nil {x : Int} (h : 0 < x) (h1 : x ≤ 1000000000000000) : Dg.pls x [] = x % 1000000000 :: Dg.pls (x / 1000000000) [] ∧ dgs (x / 1000000000) + 1 ≤ dgs x := by
  refine ⟨?_, ?_⟩
  · simp only [Dg.pls]
    rw [if_pos h]
    by_cases h2 : 0 < x / 1000000000
    · rw [if_pos h2, if_pos h2, if_neg (show ¬ 0 < x / 1000000000 / 1000000000 by omega), Int.emod_eq_of_lt (a := x / 1000000000) (b := 1000000000) (by omega) (by omega)]
    · rw [if_neg h2, if_neg h2]
  · unfold dgs
    rw [if_neg (show ¬ x ≤ 0 by omega)]
    by_cases h2 : x < 1000000000
    · rw [if_pos h2, if_pos (show x / 1000000000 ≤ 0 by omega)]; decide
    · rw [if_neg h2, if_neg (show ¬ x / 1000000000 ≤ 0 by omega), if_pos (by omega)]; decide
theorem dgs_cons {x d : Int} (h : 0 < x) (h1 : x ≤ 1000000000000000) (d0 : 0 ≤ d) (d1 : d < 1000000000) : dgs ((x + d) / 1000000000) ≤ dgs x ∧ 1 ≤ dgs x := by
  unfold dgs
  rw [if_neg (show ¬ x ≤ 0 by omega)]
  by_cases h2 : x < 1000000000
  · rw [if_pos h2]
    by_cases h3 : (x + d) / 1000000000 ≤ 0
    · rw [if_pos h3]; decide
    · rw [if_neg h3, if_pos (by omega)]; decide
  · rw [if_neg h2]
    by_cases h3 : (x + d) / 1000000000 ≤ 0
    · rw [if_pos h3]; decide
    · rw [if_neg h3]; split <;> decide
set_option maxHeartbeats 2000000 in
set_option maxRecDepth 100000 in
theorem plus_any {A0 : Option Addr} {c0 : Nat} {l : List Int} {v : Int} {w : World} (hr0 : Kd.C (Kd.int .i64) w A0 l.length l) (hc0 : l.length ≤ c0) (hn0 : A0 = none → c0 = 0) (hd : Dg.Dig l) (hl : l.length ≤ 1000) (v0 : 0 ≤ v) (v1 : v ≤ 1000000000000000) :
    Calls Tryz.prog 64 #[.slice A0 l.length c0, .int .i64 v] w (Digits w (Dg.pls v l)) := by
  have HD := Aside0.mk hd
  obtain ⟨i0, hi, hz0, hz1, hz2⟩ := info_parts info_i64
  obtain ⟨r, hr⟩ : ∃ r, Dg.pls v l = r := ⟨_, rfl⟩
  have HR := Aside0.mk hr
  rw [hr]
  clear hr hd
  cases A0 with
  | none =>
    obtain rfl := hn0 rfl
    obtain rfl : l = [] := List.eq_nil_of_length_eq_zero (by omega)
    have M0 := Aside0.mk (show Mid w w (.slice none 0 0) [] [] 0 from ⟨rfl, ⟨rfl, Or.inl ⟨rfl, rfl⟩⟩, Below.refl _ _⟩)
    clear hr0 hn0
    go_enter Tryz.func64, Tryz.ntmps64
    go_wp2_with fail
    go_loopg [1, 5, 6] 3 (fun gq vv sv iv w' => ∃ (done todo : List Int) (x : Int) (k : Nat), vv = .int .i64 x ∧ iv = .int .i64 (k : Int) ∧ 0 ≤ x ∧ x ≤ 1000000000000000 ∧ k + gq ≤ 1010 ∧ Aside0 (todo.length + dgs x ≤ gq) ∧ Aside0 (Dg.Dig todo) ∧ Aside0 (Mid w w' sv done todo k) ∧ Aside0 (done ++ Dg.pls x todo = r))
    case atStart => exact ⟨[], [], v, 0, rfl, rfl, v0, v1, by omega, ⟨by have : dgs v ≤ 2 := (by unfold dgs; split; decide; split <;> decide); simp; omega⟩, HD, M0, ⟨HR.out⟩⟩
    case round =>
      obtain ⟨done, todo, x, k, rfl, rfl, x0, x1, hk, hg, hD, hM, hq⟩ := hrel
      obtain ⟨A, c, rfl, hle, hA⟩ := hM.out.slice
      have HA := Aside0.mk hA
      clear hA
      by_cases hx : 0 < x
      · cases todo with
        | nil =>
          obtain ⟨p1, p2⟩ := pls_nil hx x1
          have HQ := Aside0.mk (show (done ++ [x % 1000000000]) ++ Dg.pls (x / 1000000000) [] = r by rw [← hq.out, p1]; simp)
          have HG := Aside0.mk p2
          clear p1 p2 hq
          have hlen : (done ++ []).length = k := by have := hM.out.len; simp; exact this
          rw [hlen] at hle ⊢
          have M1 := Aside0.mk (show Mid w wr (.slice A k c) done [] k by have := hM.out; rw [hlen] at this; exact this)
          have HO := Aside0.mk (show wr.ownsRow w.heap.size 2 1 (.slice A k c) k (nums .i64 (done ++ [])) by have := M1.out.own; rw [hlen] at this; exact this)
          have HLEN := Aside0.mk hlen
          clear hM hlen
          go_wp2_with ((at_builtin; refine wpList_append_own _ rfl _ _ 28 rfl w.heap.size 2 i0 (.int .i64 0) 1 8 Tryz.underlying28 hi hz0 hz1 hz2 rfl (by decide) _ _ _ rfl (HO.out.alloc _) ⟨wr.heap.size, 0, none⟩ 1 1 [.int .i64 0] rfl rfl (new_one' wr 0 2) (all_one [0]) (by unfold maxLen; omega) (by omega) (by have := M1.out.below.size; simp; omega) ?_); intro v' w1 hown1 hgrow _; have M2 := Mid.more (v := .slice A k c) M1.out (by rw [HLEN.out]; exact hown1) hgrow; obtain ⟨g, cap, rfl, hgb, hcap⟩ := own_form' M2.own (by simp); have hN : (done ++ [(0 : Int)]).length = k + 1 := (by have := M1.out.len; simp; exact this); obtain ⟨hc1, hc2⟩ := M2.cell; have M3 := Aside0.mk (M2.set (x := x % 1000000000) hgb); clear hown1 hgrow M2 M1 HO; rw [hN]; obtain ⟨N, hN1⟩ : ∃ N, k + 1 = N := ⟨_, rfl⟩; rw [hN1]; have hkN : k < N := (by omega); have HN2 := Aside0.mk (hN.trans hN1); clear hN hN1)
          go_roundg (gk - 1)
          case measure => have := hg.out; have := HG.out; omega
          case rel => exact ⟨done ++ [x % 1000000000], [], x / 1000000000, k + 1, rfl, by simp, by omega, by omega, by have := hg.out; have := HG.out; omega, ⟨by have := hg.out; have := HG.out; simp at *; omega⟩, ⟨Dg.Dig.nil⟩, ⟨by have := M3.out; rw [HN2.out] at this; exact this⟩, HQ⟩
        | cons d ds =>
          obtain ⟨d0, d1⟩ := hD.out.head
          obtain ⟨p1, p2⟩ := dgs_cons hx x1 d0 d1
          have HQ := Aside0.mk (show (done ++ [(x + d) % 1000000000]) ++ Dg.pls ((x + d) / 1000000000) ds = r by rw [← hq.out]; simp only [Dg.pls]; rw [if_pos hx]; simp)
          have HG := Aside0.mk (And.intro p1 p2)
          clear p1 p2 hq
          obtain ⟨g, cap, e, hgb, hcap⟩ := own_form' hM.out.own (by simp; omega)
          injection e with e1 e2 e3
          subst e1 e3
          obtain ⟨hc1, hc2⟩ := hM.out.cell
          have M3 := Aside0.mk (hM.out.set (x := (x + d) % 1000000000) hgb)
          obtain ⟨N, hN⟩ : ∃ N, (done ++ d :: ds).length = N := ⟨_, rfl⟩
          have hkN : k < N := by rw [← hN]; have := hM.out.len; simp; omega
          rw [hN]
          have HN2 := Aside0.mk hN
          have hkne : ¬ k = N := by omega
          clear hN hM
          go_wp2_with fail
          go_roundg (gk - 1)
          case measure => have := hg.out; simp at this; omega
          case rel => exact ⟨done ++ [(x + d) % 1000000000], ds, (x + d) / 1000000000, k + 1, rfl, by simp, by omega, by omega, by have := hg.out; simp at this; omega, ⟨by have := hg.out; have := HG.out; simp at *; omega⟩, ⟨hD.out.tail⟩, ⟨by have := M3.out; rw [HN2.out] at this; exact this⟩, HQ⟩
      · obtain rfl : x = 0 := by omega
        have HQ := Aside0.mk (show done ++ todo = r by rw [← hq.out, Dg.pls_zero])
        have HF := Aside0.mk (digits_of_own hM.out.own hM.out.below)
        have HBB := Aside0.mk hM.out.below
        obtain rfl := HQ.out
        obtain ⟨N, hN⟩ : ∃ N, (done ++ todo).length = N := ⟨_, rfl⟩
        rw [hN]
        have HN2 := Aside0.mk hN
        clear hq HQ hM hN
        go_wp2_with fail
        go_ret
        obtain ⟨A', c', e, h1, h2, h3⟩ := HF.out
        injection e with e1 e2 e3
        subst e1 e3
        exact ⟨_, _, by rw [HN2.out]; rfl, h1, h2, h3, HBB.out⟩
  | some ad =>
    have HN := Aside0.mk (news_of' hr0 (Below.refl w.heap.size w))
    have hnil : w.ownsRow w.heap.size 2 1 (.slice none 0 0) 0 [] := ⟨rfl, Or.inl ⟨rfl, rfl⟩⟩
    have HNL := Aside0.mk hnil
    clear hr0 hn0 hnil
    go_enter Tryz.func64, Tryz.ntmps64
    go_wp2_with ((at_builtin; refine wpList_append_own _ rfl _ _ 28 rfl w.heap.size 2 i0 (.int .i64 0) 1 8 Tryz.underlying28 hi hz0 hz1 hz2 rfl (by decide) _ 0 [] rfl HNL.out ad l.length c0 (nums .i64 l) rfl (by simp [nums]) HN.out (all_one l) (by unfold maxLen; omega) (by omega) (Nat.le_refl _) ?_); intro v' w1 hown1 hgrow _)
    have M0 := Aside0.mk (show Mid w w1 v' [] l 0 from ⟨rfl, by simpa [nums] using hown1, (Below.refl _ _).grown hgrow (Nat.le_refl _) (fun k hk => by cases hk)⟩)
    clear hown1 hgrow
    go_wp2_with fail
    go_loopg [1, 5, 6] (l.length + 3) (fun gq vv sv iv w' => ∃ (done todo : List Int) (x : Int) (k : Nat), vv = .int .i64 x ∧ iv = .int .i64 (k : Int) ∧ 0 ≤ x ∧ x ≤ 1000000000000000 ∧ k + gq ≤ 1010 ∧ Aside0 (todo.length + dgs x ≤ gq) ∧ Aside0 (Dg.Dig todo) ∧ Aside0 (Mid w w' sv done todo k) ∧ Aside0 (done ++ Dg.pls x todo = r))
    case atStart => exact ⟨[], l, v, 0, rfl, rfl, v0, v1, by omega, ⟨by have : dgs v ≤ 2 := (by unfold dgs; split; decide; split <;> decide); simp; omega⟩, HD, M0, ⟨HR.out⟩⟩
    case round =>
      obtain ⟨done, todo, x, k, rfl, rfl, x0, x1, hk, hg, hD, hM, hq⟩ := hrel
      obtain ⟨A, c, rfl, hle, hA⟩ := hM.out.slice
      have HA := Aside0.mk hA
      clear hA
      by_cases hx : 0 < x
      · cases todo with
        | nil =>
          obtain ⟨p1, p2⟩ := pls_nil hx x1
          have HQ := Aside0.mk (show (done ++ [x % 1000000000]) ++ Dg.pls (x / 1000000000) [] = r by rw [← hq.out, p1]; simp)
          have HG := Aside0.mk p2
          clear p1 p2 hq
          have hlen : (done ++ []).length = k := by have := hM.out.len; simp; exact this
          rw [hlen] at hle ⊢
          have M1 := Aside0.mk (show Mid w wr (.slice A k c) done [] k by have := hM.out; rw [hlen] at this; exact this)
          have HO := Aside0.mk (show wr.ownsRow w.heap.size 2 1 (.slice A k c) k (nums .i64 (done ++ [])) by have := M1.out.own; rw [hlen] at this; exact this)
          have HLEN := Aside0.mk hlen
          clear hM hlen
          go_wp2_with ((at_builtin; refine wpList_append_own _ rfl _ _ 28 rfl w.heap.size 2 i0 (.int .i64 0) 1 8 Tryz.underlying28 hi hz0 hz1 hz2 rfl (by decide) _ _ _ rfl (HO.out.alloc _) ⟨wr.heap.size, 0, none⟩ 1 1 [.int .i64 0] rfl rfl (new_one' wr 0 2) (all_one [0]) (by unfold maxLen; omega) (by omega) (by have := M1.out.below.size; simp; omega) ?_); intro v' w1 hown1 hgrow _; have M2 := Mid.more (v := .slice A k c) M1.out (by rw [HLEN.out]; exact hown1) hgrow; obtain ⟨g, cap, rfl, hgb, hcap⟩ := own_form' M2.own (by simp); have hN : (done ++ [(0 : Int)]).length = k + 1 := (by have := M1.out.len; simp; exact this); obtain ⟨hc1, hc2⟩ := M2.cell; have M3 := Aside0.mk (M2.set (x := x % 1000000000) hgb); clear hown1 hgrow M2 M1 HO; rw [hN]; obtain ⟨N, hN1⟩ : ∃ N, k + 1 = N := ⟨_, rfl⟩; rw [hN1]; have hkN : k < N := (by omega); have HN2 := Aside0.mk (hN.trans hN1); clear hN hN1)
          go_roundg (gk - 1)
          case measure => have := hg.out; have := HG.out; omega
          case rel => exact ⟨done ++ [x % 1000000000], [], x / 1000000000, k + 1, rfl, by simp, by omega, by omega, by have := hg.out; have := HG.out; omega, ⟨by have := hg.out; have := HG.out; simp at *; omega⟩, ⟨Dg.Dig.nil⟩, ⟨by have := M3.out; rw [HN2.out] at this; exact this⟩, HQ⟩
        | cons d ds =>
          obtain ⟨d0, d1⟩ := hD.out.head
          obtain ⟨p1, p2⟩ := dgs_cons hx x1 d0 d1
          have HQ := Aside0.mk (show (done ++ [(x + d) % 1000000000]) ++ Dg.pls ((x + d) / 1000000000) ds = r by rw [← hq.out]; simp only [Dg.pls]; rw [if_pos hx]; simp)
          have HG := Aside0.mk (And.intro p1 p2)
          clear p1 p2 hq
          obtain ⟨g, cap, e, hgb, hcap⟩ := own_form' hM.out.own (by simp; omega)
          injection e with e1 e2 e3
          subst e1 e3
          obtain ⟨hc1, hc2⟩ := hM.out.cell
          have M3 := Aside0.mk (hM.out.set (x := (x + d) % 1000000000) hgb)
          obtain ⟨N, hN⟩ : ∃ N, (done ++ d :: ds).length = N := ⟨_, rfl⟩
          have hkN : k < N := by rw [← hN]; have := hM.out.len; simp; omega
          rw [hN]
          have HN2 := Aside0.mk hN
          have hkne : ¬ k = N := by omega
          clear hN hM
          go_wp2_with fail
          go_roundg (gk - 1)
          case measure => have := hg.out; simp at this; omega
          case rel => exact ⟨done ++ [(x + d) % 1000000000], ds, (x + d) / 1000000000, k + 1, rfl, by simp, by omega, by omega, by have := hg.out; simp at this; omega, ⟨by have := hg.out; have := HG.out; simp at *; omega⟩, ⟨hD.out.tail⟩, ⟨by have := M3.out; rw [HN2.out] at this; exact this⟩, HQ⟩
      · obtain rfl : x = 0 := by omega
        have HQ := Aside0.mk (show done ++ todo = r by rw [← hq.out, Dg.pls_zero])
        have HF := Aside0.mk (digits_of_own hM.out.own hM.out.below)
        have HBB := Aside0.mk hM.out.below
        obtain rfl := HQ.out
        obtain ⟨N, hN⟩ : ∃ N, (done ++ todo).length = N := ⟨_, rfl⟩
        rw [hN]
        have HN2 := Aside0.mk hN
        clear hq HQ hM hN
        go_wp2_with fail
        go_ret
        obtain ⟨A', c', e, h1, h2, h3⟩ := HF.out
        injection e with e1 e2 e3
        subst e1 e3
        exact ⟨_, _, by rw [HN2.out]; rfl, h1, h2, h3, HBB.out⟩
end Go.Proofs.YtbbbjjfecblhpaaGreat.H
/- Contracts by hand: the document's bearer, made. -/
namespace Go.Proofs.YtbbbjjfecblhpaaGreat.H
open Go.RowKit Go.Proofs.YtbbbjjfecblhpaaGreatW.PrintWords Go.Proofs.YtbbbjjfecblhpaaGreatW.PrintLast Go.Proofs.YtbbbjjfecblhpaaGreatW.PrintMore Go.Proofs.YtbbbjjfecblhpaaGreat.HW
set_option linter.unusedVariables false
set_option linter.unusedSimpArgs false
/-- The document's bearer lies in block gb. -/
structure RefAt (w : World) (gb : Nat) (P : Int) (up : Bool) (rest : Int) : Prop where
  c0 : w.cell? ⟨gb, 0, none⟩ = some (.int .i64 P)
  c1 : w.cell? ⟨gb, 1, none⟩ = some (.bool up)
  c2 : w.cell? ⟨gb, 2, none⟩ = some (.int .i64 rest)
  f2 : w.frozen? ⟨gb, 2, none⟩ = false
  lt : gb < w.heap.size
theorem RefAt.below {w w1 : World} {gb : Nat} {P rest : Int} {up : Bool} (H : RefAt w gb P up rest) (hb : Below w.heap.size w w1) : RefAt w1 gb P up rest :=
  ⟨by rw [hb.cell (by exact H.lt)]; exact H.c0, by rw [hb.cell (by exact H.lt)]; exact H.c1, by rw [hb.cell (by exact H.lt)]; exact H.c2, by rw [hb.frozen (by exact H.lt)]; exact H.f2, Nat.lt_of_lt_of_le H.lt hb.size⟩
theorem rparts_any (c : Int) (w : World) : Calls Tryz.prog 62 #[.int .i64 c] w fun e w' => e = .returned (.tuple #[.int .i64 (Fr.parts c).1, .int .i64 (Fr.parts c).2]) ∧ Drawn0 w w' := by
  have hcs : c = 1 ∨ c = 2 ∨ c = 3 ∨ (Fr.parts c = (0, 1) ∧ (c == 1) = false ∧ (c == 2) = false ∧ (c == 3) = false) := by
    rcases Fr.parts_cases c with ⟨v, _, rfl | rfl | rfl⟩ | h
    · exact Or.inl rfl
    · exact Or.inr (Or.inl rfl)
    · exact Or.inr (Or.inr (Or.inl rfl))
    · exact Or.inr (Or.inr (Or.inr h))
  rcases hcs with rfl | rfl | rfl | ⟨hp, h1, h2, h3⟩
  · go_enter Tryz.func62, Tryz.ntmps62
    go_wp2
    go_ret2
    exact ⟨rfl, Drawn0.refl _⟩
  · go_enter Tryz.func62, Tryz.ntmps62
    go_wp2
    go_ret2
    exact ⟨rfl, Drawn0.refl _⟩
  · go_enter Tryz.func62, Tryz.ntmps62
    go_wp2
    go_ret2
    exact ⟨rfl, Drawn0.refl _⟩
  · rw [hp]
    clear hp
    go_enter Tryz.func62, Tryz.ntmps62
    go_wp2
    go_ret2
    exact ⟨rfl, Drawn0.refl _⟩
/-- The document's bearer, made new. -/
def RNewly (c : Int) (up : Bool) (w : World) (e : Ending) (w' : World) : Prop := Below w.heap.size w w' ∧ ∃ gb, w.heap.size ≤ gb ∧ e = .returned (.tuple #[.pointer (some ⟨gb, 0, none⟩), .int .i64 0]) ∧ RefAt w' gb (Gm.gp c) up 0
theorem rnew_any {c r : Int} {up : Bool} (hc : c = 1 ∨ c = 2 ∨ c = 3) (hr : r = 1 ∧ up = true ∨ r = 3 ∧ up = false) (w : World) : Calls Tryz.prog 43 #[.int .i64 c, .int .i64 r] w (RNewly c up w) := by
  have hp : Fr.parts c = (Gm.gp c, 0) := by rcases hc with rfl | rfl | rfl <;> rfl
  have HP := Aside0.mk (fun w => by have := rparts_any c w; rw [hp] at this; exact this)
  clear hp hc
  generalize hv : Gm.gp c = v at *
  have HV := Aside0.mk hv
  clear hv
  rcases hr with ⟨rfl, rfl⟩ | ⟨rfl, rfl⟩
  all_goals
    go_enter Tryz.func43, Tryz.ntmps43
    go_wp2_with fail
    refine (HP.out _).mono ?_
    rintro e w1 ⟨rfl, ⟨m1, rfl⟩⟩
    go_wp2_with fail
    go_ret2
    refine ⟨(pw_below_drewN (Below.refl w.heap.size w) m1).alloc (by simp) _, w.heap.size, Nat.le_refl _, rfl, ?_⟩
    rw [HV.out]
    have e : w.heap.size = (w.drewN m1).heap.size := by simp
    rw [e]
    generalize w.drewN m1 = w1
    constructor <;> simp [go_sem]
theorem rwhole_any {gb : Nat} {P rest : Int} {up : Bool} {w : World} (A : RefAt w gb P up rest) (p0 : 0 ≤ P) (p1 : P ≤ 133590) : Calls Tryz.prog 59 #[.pointer (some ⟨gb, 0, none⟩)] w fun e w' => e = .returned (.int .i64 (1000000000 * P)) ∧ w' = w := by
  obtain ⟨c0, c1, c2, f2, lt⟩ := A
  go_enter Tryz.func59, Tryz.ntmps59
  go_wp2
  go_ret
  exact ⟨rfl, rfl⟩
end Go.Proofs.YtbbbjjfecblhpaaGreat.H
/- Contracts by hand: what the document's bearer bears. -/
namespace Go.Proofs.YtbbbjjfecblhpaaGreat.H
open Go.RowKit Go.Proofs.YtbbbjjfecblhpaaGreatW.PrintWords Go.Proofs.YtbbbjjfecblhpaaGreatW.PrintLast Go.Proofs.YtbbbjjfecblhpaaGreatW.PrintMore Go.Proofs.YtbbbjjfecblhpaaGreat.HW
set_option linter.unusedVariables false
set_option linter.unusedSimpArgs false
/-- What the document's Bear does. -/
def RBore (gb : Nat) (P : Int) (up : Bool) (x : Int × Int × Int) (w : World) (e : Ending) (w' : World) : Prop :=
  e = .returned (.tuple #[.int .i64 x.1, .int .i64 x.2.1]) ∧ RefAt w' gb P up x.2.2 ∧ But gb w w'
theorem rbear_arg {gb : Nat} {bal rate n : Int} (hm : ¬ Gm.may bal rate n) (w : World) : Calls Tryz.prog 44 #[.pointer (some ⟨gb, 0, none⟩), .int .i64 bal, .int .i64 rate, .int .i64 n] w fun e w' => e = .returned (.tuple #[.int .i64 0, .int .i64 1]) ∧ w' = w := by
  have hno : bal < 0 ∨ (0 ≤ bal ∧ 1000000000000000 < bal) ∨ (0 ≤ bal ∧ bal ≤ 1000000000000000 ∧ rate < 0) ∨ (0 ≤ bal ∧ bal ≤ 1000000000000000 ∧ 0 ≤ rate ∧ 1000000000 < rate) ∨ (0 ≤ bal ∧ bal ≤ 1000000000000000 ∧ 0 ≤ rate ∧ rate ≤ 1000000000 ∧ n < 0) ∨ (0 ≤ bal ∧ bal ≤ 1000000000000000 ∧ 0 ≤ rate ∧ rate ≤ 1000000000 ∧ 0 ≤ n ∧ 53436000 < n) := by
    unfold Gm.may at hm
    omega
  clear hm
  rcases hno with h1 | ⟨h1, h2⟩ | ⟨h1, h2, h3⟩ | ⟨h1, h2, h3, h4⟩ | ⟨h1, h2, h3, h4, h5⟩ | ⟨h1, h2, h3, h4, h5, h6⟩
  all_goals
    go_enter Tryz.func44, Tryz.ntmps44
    go_wp2_with fail
    go_ret2
    exact ⟨rfl, rfl⟩
theorem RefAt.put {w : World} {gb : Nat} {P rest : Int} {up : Bool} (A : RefAt w gb P up rest) (v : Int) : RefAt (w.setCell ⟨gb, 2, none⟩ (.int .i64 v)) gb P up v := by
  obtain ⟨c0, c1, c2, f2, lt⟩ := A
  refine ⟨?_, ?_, ?_, ?_, ?_⟩
  · rw [World.cell?_setCell_other _ _ _ _ (by simp)]; exact c0
  · rw [World.cell?_setCell_other _ _ _ _ (by simp)]; exact c1
  · simp [World.cell?_setCell_same, c2]
  · simp [go_sem, f2]
  · simp [go_sem]; exact lt
/-- Too much: what the upper digits tell already. -/
theorem too_much {l : List Int} (hd : Dg.Dig l) {k : Nat} (hk : 1 ≤ k) (hkl : k < l.length) {P q r V h rest x : Int} (hP : 360 ≤ P) (hV : Dg.val l = x + rest + 1000000000 * P) (hy : Dg.val (l.drop (k + 1)) = q * P + r) (r0 : 0 ≤ r) (hq : 4000000 < q) (h0 : 0 ≤ h) : 1000000000000000 < Gm.q (1000000000 * P) h rest x := by
  have h1 := Dg.val_ge hd (k + 1) (by omega)
  rw [hy] at h1
  have h2 : (1000000000000000000 : Int) ≤ 1000000000 ^ (k + 1) := by
    obtain ⟨j, rfl⟩ : ∃ j, k = j + 1 := ⟨k - 1, by omega⟩
    rw [Int.pow_succ, Int.pow_succ]
    have : (0 : Int) < 1000000000 ^ j := Int.pow_pos (by decide)
    omega
  have h3 : 4000001 * P ≤ q * P + r := by
    have := Int.mul_le_mul_of_nonneg_right (show 4000001 ≤ q by omega) (show 0 ≤ P by omega)
    omega
  have h4 : 1000000000000000000 * (4000001 * P) ≤ 1000000000 ^ (k + 1) * (q * P + r) := Int.mul_le_mul h2 h3 (by omega) (by omega)
  unfold Gm.q
  have h5 : 1000000000000001 * (1000000000 * P) ≤ x + (rest + h) := by omega
  have := (Int.le_ediv_iff_mul_le (show 0 < 1000000000 * P by omega)).2 h5
  omega
set_option maxHeartbeats 4000000 in
set_option maxRecDepth 100000 in
theorem rbear_may {gb : Nat} {P W h rest bal rate n : Int} {up : Bool} {w : World} (A : RefAt w gb P up rest) (p0 : 360 ≤ P) (p1 : P ≤ 133590) (hW : W = 1000000000 * P) (hh : up = true ∧ W = 2 * h ∨ up = false ∧ h = 0) (G : Good W h rest) (hm : Gm.may bal rate n) (x : Int × Int × Int) (hx : Gm.bear W h rest bal rate n = x) :
    Calls Tryz.prog 44 #[.pointer (some ⟨gb, 0, none⟩), .int .i64 bal, .int .i64 rate, .int .i64 n] w (RBore gb P up x w) := by
  subst hW
  obtain ⟨a0, a1, b0, b1, n0, n1⟩ := hm
  have AA := Aside0.mk A
  have GG := Aside0.mk G
  have HH := Aside0.mk hh
  have HX := Aside0.mk hx
  have hrest := And.intro G.r0 G.r1
  obtain ⟨g1, g2, g3, g4, g5, g6⟩ := G
  have dg0 : Dg.Dig [bal % 1000000000, bal / 1000000000] := Dg.Dig.cons (by omega) (by omega) (Dg.Dig.cons (by omega) (by omega) Dg.Dig.nil)
  have v0 : Dg.val [bal % 1000000000, bal / 1000000000] = bal := by simp [Dg.val]; omega
  obtain ⟨d1, v1, l1⟩ := Dg.tms_spec b0 b1 [bal % 1000000000, bal / 1000000000] 0 (by omega) (by omega) dg0
  obtain ⟨d2, v2, l2⟩ := Dg.tms_spec n0 (by omega) (Dg.tms rate 0 [bal % 1000000000, bal / 1000000000]) 0 (by omega) (by omega) d1
  rw [v1, v0, Int.add_zero, Int.add_zero] at v2
  obtain ⟨d3, v3, l3⟩ := Dg.pls_spec (Dg.tms n 0 (Dg.tms rate 0 [bal % 1000000000, bal / 1000000000])) (rest + 1000000000 * P) (by omega) (by omega) d2
  rw [v2] at v3
  have HD0 := Aside0.mk dg0
  have HD1 := Aside0.mk d1
  have HD2 := Aside0.mk d2
  have L1 : (Dg.tms rate 0 [bal % 1000000000, bal / 1000000000]).length ≤ 3 := by simpa using l1
  have L2 : (Dg.tms n 0 (Dg.tms rate 0 [bal % 1000000000, bal / 1000000000])).length ≤ 4 := by omega
  have hread : Kd.C (Kd.int .i64) (w.alloc (.cells #[.int .i64 (bal % 1000000000), .int .i64 (bal / 1000000000)] 2)) (some ⟨w.heap.size, 0, none⟩) [bal % 1000000000, bal / 1000000000].length [bal % 1000000000, bal / 1000000000] := by
    refine Kd.C_of_reads (d := (0 : Int)) ⟨rfl, by simp, fun _ => ⟨_, rfl, fun j hj => ?_⟩⟩
    simp at hj
    rcases (by omega : j = 0 ∨ j = 1) with rfl | rfl <;> simp [go_sem, Addr.add]
  have HRD := Aside0.mk hread
  have hpos := Int.mul_nonneg (Int.mul_nonneg a0 b0) n0
  have V3 := Aside0.mk (show Dg.val (Dg.pls (rest + 1000000000 * P) (Dg.tms n 0 (Dg.tms rate 0 [bal % 1000000000, bal / 1000000000]))) = bal * rate * n + rest + 1000000000 * P by rw [v3]; omega)
  have HD3 := Aside0.mk d3
  have HPOS := Aside0.mk hpos
  clear dg0 d1 d2 d3 v0 v1 v2 v3 l1 l2 hread hh hx A hpos
  go_enter Tryz.func44, Tryz.ntmps44
  go_wp2_with fail
  refine (times_any (l := [bal % 1000000000, bal / 1000000000]) (c0 := 2) HRD.out (by simp) HD0.out (by simp) b0 b1).mono ?_
  rintro e w1 ⟨A1, c1, rfl, hc1, hle1, hA1, hb1⟩
  have HC1 := Aside0.mk hc1
  have HB1 := Aside0.mk (((Below.refl w.heap.size w).alloc (Nat.le_refl _) (.cells #[.int .i64 (bal % 1000000000), .int .i64 (bal / 1000000000)] 2)).trans (hb1.mono (by simp)))
  clear hc1 hb1 hA1 HRD
  generalize Dg.tms rate 0 [bal % 1000000000, bal / 1000000000] = t1 at *
  go_wp2_with fail
  refine (times_any HC1.out hle1 HD1.out (by omega) n0 (by omega)).mono ?_
  rintro e w2 ⟨A2, c2, rfl, hc2, hle2, hA2, hb2⟩
  have HC2 := Aside0.mk hc2
  have HA2 := Aside0.mk hA2
  have HB2 := Aside0.mk (below_step HB1.out hb2)
  clear hc2 hb2 hA2 HC1 HB1
  generalize Dg.tms n 0 t1 = t2 at *
  have R2 := Aside0.mk (AA.out.below HB2.out)
  go_wp2_with fail
  have k0 := R2.out.c0
  have k2 := R2.out.c2
  go_still_tail 8, (by kernel_rfl)
  have R2d := R2.out.below (Below.drew (Below.refl _ _))
  have HC2d := Aside0.mk (Kd.C_drew HC2.out)
  have HB2d := Aside0.mk HB2.out.drew
  have RD := Aside0.mk R2d
  still_call (rwhole_any R2d (by omega) p1)
  still_step
  refine wpStill_nil ?_
  clear R2d k0 k2 R2 HC2 HB2
  go_wp2_with fail
  refine (plus_any HC2d.out hle2 HA2.out HD2.out (by omega) (v := rest + 1000000000 * P) (by omega) (by omega)).mono ?_
  rintro e w4 ⟨A3, c3, rfl, hc3, hle3, hA3, hb3⟩
  have HC3 := Aside0.mk hc3
  have HB3 := Aside0.mk (below_step HB2d.out hb3)
  have R3 := Aside0.mk (RD.out.below hb3)
  clear hc3 hb3 hA3 HC2d HB2d RD
  generalize Dg.pls (rest + 1000000000 * P) t2 = l at *
  have k0 := R3.out.c0
  go_wp2_with fail
  have hl0 : 0 < l.length := by
    rcases Nat.eq_zero_or_pos l.length with h' | h'
    · have hv := V3.out
      rw [List.eq_nil_of_length_eq_zero h'] at hv
      have := HPOS.out
      simp only [Dg.val] at hv
      omega
    · exact h'
  have hl10 : l.length ≤ 10 := by omega
  have hp2 : (P == 0) = false := by simp; omega
  have hp3 : (P == -1) = false := by simp; omega
  clear k0 l3
  go_loopg [11, 12, 13] l.length (fun gq qv rv iv w' => ∃ (k : Nat) (q r : Int), k < l.length ∧ iv = .int .i64 (k : Int) ∧ qv = .int .i64 q ∧ rv = .int .i64 r ∧ 0 ≤ q ∧ q ≤ 4100000000000000 ∧ 0 ≤ r ∧ r < P ∧ Aside0 (gq = k + 1) ∧ Aside0 (Dg.val (l.drop (k + 1)) = q * P + r) ∧ Drawn0 w4 w')
  case atStart => exact ⟨l.length - 1, 0, 0, by omega, by congr 1; omega, rfl, rfl, by omega, by omega, by omega, by omega, ⟨by omega⟩, ⟨by rw [show l.length - 1 + 1 = l.length by omega, List.drop_length]; simp [Dg.val]⟩, Drawn0.refl _⟩
  case round =>
    obtain ⟨k, q, r, kl, rfl, rfl, rfl, q0, q1, r0, r1, hg, hy, ⟨m1, rfl⟩⟩ := hrel
    have RK := Aside0.mk (R3.out.below (w1 := w4.drewN m1) (Drawn0.below ⟨_, rfl⟩))
    have c0 := R3.out.c0
    obtain ⟨ad, e0, hx0⟩ := Kd.at_int HC3.out (k : Int) (by omega) (by omega)
    subst e0
    rw [Int.toNat_natCast] at hx0
    obtain ⟨hdv, hdd0, hdd1⟩ := Dg.val_drop HD3.out k kl
    have hrd : rd l (k : Int) = l.getD k 0 := by simp [rd]
    rw [hrd] at hx0
    generalize l.getD k 0 = d at *
    have HDV := Aside0.mk hdv
    clear hdv hrd
    by_cases hk : 1 ≤ k
    · by_cases hq : 4000000 < q
      · have hbig := too_much (V := 0) HD3.out hk kl p0 V3.out hy.out r0 hq g3
        have ex : x = (0, 3, rest) := by
          rw [← HX.out]
          unfold Gm.bear
          rw [if_pos ⟨a0, a1, b0, b1, n0, n1⟩, if_neg (by omega)]
        subst ex
        have BUT := Aside0.mk (But.of (gb := gb) (pw_below_drewN HB3.out m1))
        clear hx0 hbig c0
        go_wp2_with fail
        go_ret2
        exact ⟨rfl, RK.out, BUT.out⟩
      · obtain ⟨s1, s2, s3, s4, s5⟩ := Dg.div_step (P := P) (by omega) hy.out r0 r1 hdd0 hdd1
        have HY := Aside0.mk (HDV.out.trans s1)
        obtain ⟨vv, hvv⟩ : ∃ vv, r * 1000000000 + d = vv := ⟨_, rfl⟩
        rw [hvv] at s1 s2 s3 s4 s5 HY
        have vv0 : 0 ≤ vv := by omega
        have vv1 : vv ≤ 140000000000000 := by omega
        obtain ⟨dq, hdq⟩ : ∃ dq, vv / P = dq := ⟨_, rfl⟩
        obtain ⟨dr, hdr⟩ : ∃ dr, vv % P = dr := ⟨_, rfl⟩
        have t1 : Int.tdiv vv P = dq := by rw [Int.tdiv_eq_ediv_of_nonneg vv0]; exact hdq
        have t2 : Int.tmod vv P = dr := by rw [Int.tmod_eq_emod_of_nonneg vv0]; exact hdr
        rw [hdq, hdr] at HY
        rw [hdq] at s2 s3
        rw [hdr] at s4 s5
        have w1 : IntKind.i64.wrap (q * 1000000000) = q * 1000000000 := IntWalk.i64_in _ (by omega)
        have w2 : IntKind.i64.wrap dq = dq := IntWalk.i64_in _ (by omega)
        have w3 : IntKind.i64.wrap dr = dr := IntWalk.i64_in _ (by omega)
        have w4 : IntKind.i64.wrap (q * 1000000000 + dq) = q * 1000000000 + dq := IntWalk.i64_in _ (by omega)
        have hvv2 : IntKind.i64.wrap (r * 1000000000 + d) = vv := by rw [hvv]; exact IntWalk.i64_in _ (by omega)
        have W1 := Aside0.mk w1
        have W2 := Aside0.mk w2
        have W3 := Aside0.mk w3
        have W4 := Aside0.mk w4
        clear s1 hdq hdr w1 w2 w3 w4
        go_wp2_with fail
        have w1 := W1.out
        have w2 := W2.out
        have w3 := W3.out
        have w4 := W4.out
        go_quiet (fail)
        clear w1 w2 w3 w4 t1 t2 hvv hvv2
        go_wp2_with fail
        go_roundg k
        case measure => have := hg.out; omega
        case rel => exact ⟨k - 1, q * 1000000000 + dq, dr, by omega, by congr 1; omega, rfl, rfl, by omega, by omega, by omega, by omega, ⟨by omega⟩, ⟨by rw [show k - 1 + 1 = k by omega]; exact HY.out⟩, ⟨_, by first | rfl | (simp only [World.drewN_drewN]; rfl)⟩⟩
    · obtain rfl : k = 0 := by omega
      have hx1 : w4.cell? ad = some (.int .i64 d) := by simpa [Addr.add] using hx0
      have hV := V3.out
      have hdv := HDV.out
      have hyo := hy.out
      rw [List.drop_zero] at hdv
      have hvl : bal * rate * n + rest + 1000000000 * P = q * (1000000000 * P) + (r * 1000000000 + d) := by
        rw [← hV, hdv, hyo, Int.mul_add, show q * (1000000000 * P) = 1000000000 * (q * P) by rw [← Int.mul_assoc, Int.mul_comm q, Int.mul_assoc]]
        omega
      obtain ⟨en1, en2⟩ := Dg.ends (P := P) (W := 1000000000 * P) (h := h) (by omega) rfl hvl (by omega) (by omega) up HH.out
      have kc0 := RK.out.c0
      have kc1 := RK.out.c1
      clear hx0 c0 hV hdv hyo hvl
      cases up with
      | true =>
        by_cases hge : 1000000000 * P - (r * 1000000000 + d) ≤ r * 1000000000 + d
        · obtain ⟨e1, e2⟩ := en1 ⟨rfl, hge⟩
          clear en1 en2
          by_cases hmost : q ≤ 1000000000000000
          · have ex : x = (q, 0, r * 1000000000 + d - 1000000000 * P) := by
              rw [← HX.out]
              unfold Gm.bear
              rw [if_pos ⟨a0, a1, b0, b1, n0, n1⟩, e1, e2, if_pos hmost]
            subst ex
            have BUT := Aside0.mk ((But.of (gb := gb) (pw_below_drewN HB3.out m1)).setCell (p := ⟨gb, 2, none⟩) (Or.inl rfl) (.int .i64 (r * 1000000000 + d - 1000000000 * P)))
            have RKo := RK.out
            have k2 := RKo.c2
            have kf := RKo.f2
            have RN := Aside0.mk (RefAt.put RKo (r * 1000000000 + d - 1000000000 * P))
            clear e1 e2 RKo
            go_wp2_with fail
            refine (rwhole_any RK.out (by omega) p1).mono ?_
            rintro e _ ⟨rfl, rfl⟩
            go_wp2_with fail
            refine (rwhole_any RK.out (by omega) p1).mono ?_
            rintro e _ ⟨rfl, rfl⟩
            go_wp2_with fail
            go_ret2
            exact ⟨rfl, RN.out, BUT.out⟩
          · have ex : x = (0, 3, rest) := by
              rw [← HX.out]
              unfold Gm.bear
              rw [if_pos ⟨a0, a1, b0, b1, n0, n1⟩, e1, if_neg hmost]
            subst ex
            have BUT := Aside0.mk (But.of (gb := gb) (pw_below_drewN HB3.out m1))
            clear e1 e2
            go_wp2_with fail
            refine (rwhole_any RK.out (by omega) p1).mono ?_
            rintro e _ ⟨rfl, rfl⟩
            go_wp2_with fail
            refine (rwhole_any RK.out (by omega) p1).mono ?_
            rintro e _ ⟨rfl, rfl⟩
            go_wp2_with fail
            go_ret2
            exact ⟨rfl, RK.out, BUT.out⟩
        · obtain ⟨e1, e2⟩ := en2 (fun h' => hge h'.2)
          have hge2 : r * 1000000000 + d < 1000000000 * P - (r * 1000000000 + d) := by omega
          clear en1 en2 hge
          by_cases hmost : q - 1 ≤ 1000000000000000
          · have ex : x = (q - 1, 0, r * 1000000000 + d) := by
              rw [← HX.out]
              unfold Gm.bear
              rw [if_pos ⟨a0, a1, b0, b1, n0, n1⟩, e1, e2, if_pos hmost]
            subst ex
            have BUT := Aside0.mk ((But.of (gb := gb) (pw_below_drewN HB3.out m1)).setCell (p := ⟨gb, 2, none⟩) (Or.inl rfl) (.int .i64 (r * 1000000000 + d)))
            have RKo := RK.out
            have k2 := RKo.c2
            have kf := RKo.f2
            have RN := Aside0.mk (RefAt.put RKo (r * 1000000000 + d))
            clear e1 e2 RKo
            go_wp2_with fail
            refine (rwhole_any RK.out (by omega) p1).mono ?_
            rintro e _ ⟨rfl, rfl⟩
            go_wp2_with fail
            go_ret2
            exact ⟨rfl, RN.out, BUT.out⟩
          · have ex : x = (0, 3, rest) := by
              rw [← HX.out]
              unfold Gm.bear
              rw [if_pos ⟨a0, a1, b0, b1, n0, n1⟩, e1, if_neg hmost]
            subst ex
            have BUT := Aside0.mk (But.of (gb := gb) (pw_below_drewN HB3.out m1))
            clear e1 e2
            go_wp2_with fail
            refine (rwhole_any RK.out (by omega) p1).mono ?_
            rintro e _ ⟨rfl, rfl⟩
            go_wp2_with fail
            go_ret2
            exact ⟨rfl, RK.out, BUT.out⟩
      | false =>
        obtain ⟨e1, e2⟩ := en2 (fun h' => by cases h'.1)
        clear en1 en2
        by_cases hmost : q - 1 ≤ 1000000000000000
        · have ex : x = (q - 1, 0, r * 1000000000 + d) := by
            rw [← HX.out]
            unfold Gm.bear
            rw [if_pos ⟨a0, a1, b0, b1, n0, n1⟩, e1, e2, if_pos hmost]
          subst ex
          have BUT := Aside0.mk ((But.of (gb := gb) (pw_below_drewN HB3.out m1)).setCell (p := ⟨gb, 2, none⟩) (Or.inl rfl) (.int .i64 (r * 1000000000 + d)))
          have RKo := RK.out
          have k2 := RKo.c2
          have kf := RKo.f2
          have RN := Aside0.mk (RefAt.put RKo (r * 1000000000 + d))
          clear e1 e2 RKo
          go_wp2_with fail
          go_ret2
          exact ⟨rfl, RN.out, BUT.out⟩
        · have ex : x = (0, 3, rest) := by
            rw [← HX.out]
            unfold Gm.bear
            rw [if_pos ⟨a0, a1, b0, b1, n0, n1⟩, e1, if_neg hmost]
          subst ex
          have BUT := Aside0.mk (But.of (gb := gb) (pw_below_drewN HB3.out m1))
          clear e1 e2
          go_wp2_with fail
          go_ret2
          exact ⟨rfl, RK.out, BUT.out⟩
theorem rbear_any {gb : Nat} {P W h rest bal rate n : Int} {up : Bool} {w : World} (A : RefAt w gb P up rest) (p0 : 360 ≤ P) (p1 : P ≤ 133590) (hW : W = 1000000000 * P) (hh : up = true ∧ W = 2 * h ∨ up = false ∧ h = 0) (G : Good W h rest) :
    Calls Tryz.prog 44 #[.pointer (some ⟨gb, 0, none⟩), .int .i64 bal, .int .i64 rate, .int .i64 n] w (RBore gb P up (Gm.bear W h rest bal rate n) w) := by
  by_cases hm : Gm.may bal rate n
  · exact rbear_may A p0 p1 hW hh G hm _ rfl
  · unfold Gm.bear
    rw [if_neg hm]
    exact (rbear_arg hm w).mono fun e w' ⟨h1, h2⟩ => by subst h2; exact ⟨h1, A, But.of (Below.refl _ _)⟩
end Go.Proofs.YtbbbjjfecblhpaaGreat.H
/- Contracts by hand: the document's rest, bear and Errors of a night. -/
namespace Go.Proofs.YtbbbjjfecblhpaaGreat.Nt
open Go.RowKit Go.Proofs.YtbbbjjfecblhpaaGreatW.PrintWords Go.Proofs.YtbbbjjfecblhpaaGreatW.PrintLast Go.Proofs.YtbbbjjfecblhpaaGreatW.PrintMore Go.Proofs.YtbbbjjfecblhpaaGreat.HW
open Go.Proofs.YtbbbjjfecblhpaaGreat.Math Go.Proofs.YtbbbjjfecblhpaaGreat.H Go.Proofs.YtbbbjjfecblhpaaGreat.Pd Go.Proofs.YtbbbjjfecblhpaaGreat.Du Go.Proofs.YtbbbjjfecblhpaaGreat.Lv Pm
set_option linter.unusedVariables false
set_option linter.unusedSimpArgs false
attribute [local go_sem] max2_int min2_int max_two min_two
theorem good20 (P : Pm.Prod) {rest : Int} (h : restOk P rest = true) : H.Good (Gm.whole P.count) (Gm.half P.count P.round) rest := by
  obtain ⟨k1, k2⟩ := restOk_bd h
  have hW := Gm.whole_bd P.count
  have hH := Gm.half_bd P.count P.round
  constructor <;> omega
theorem ref_put {w : World} {gb : Nat} {P rest : Int} {up : Bool} (A : RefAt w gb P up rest) (r : Int) : RefAt (w.setCell ⟨gb, 2, none⟩ (.int .i64 r)) gb P up r := by
  obtain ⟨k0, k1, k2, k3, k4⟩ := A
  refine ⟨?_, ?_, ?_, ?_, ?_⟩
  · rw [World.cell?_setCell_other _ _ _ _ (by simp)]; exact k0
  · rw [World.cell?_setCell_other _ _ _ _ (by simp)]; exact k1
  · simp [World.cell?_setCell_same, k2]
  · simp [go_sem, k3]
  · simp [go_sem]; exact k4
theorem up_of {P : Pm.Prod} (hr : P.round = 1 ∨ P.round = 3) : ∃ up : Bool, (P.round = 1 ∧ up = true ∨ P.round = 3 ∧ up = false) ∧ (up = true ∧ Gm.whole P.count = 2 * Gm.half P.count P.round ∨ up = false ∧ Gm.half P.count P.round = 0) ∧ (P.round == 1) = up := by
  rcases hr with h | h
  · refine ⟨true, Or.inl ⟨h, rfl⟩, Or.inl ⟨rfl, ?_⟩, by simp [h]⟩
    rw [h]
    exact (Gm.half_one P.count).symm
  · refine ⟨false, Or.inr ⟨h, rfl⟩, Or.inr ⟨rfl, Gm.half_no (by omega)⟩, by simp [h]⟩
set_option maxRecDepth 100000 in
set_option maxHeartbeats 8000000 in
theorem rrest_any (P : Pm.Prod) (A1 : Option Addr) (c1 : Nat) (A2 : Option Addr) (c2 : Nat) (A3 : Option Addr) (c3 : Nat) (v : Int) (w : World) (hc : P.count = 1 ∨ P.count = 2 ∨ P.count = 3) (hr : P.round = 1 ∨ P.round = 3) :
    Calls Tryz.prog 38 #[pv P A1 c1 A2 c2 A3 c3, .int .i64 v] w fun e w' => e = .returned (.bool (restOk P v)) ∧ Below w.heap.size w w' := by
  obtain ⟨up, h1, h2, h3⟩ := up_of hr
  have NW := Aside0.mk (fun W => rnew_any hc h1 W)
  obtain ⟨G, hG⟩ : ∃ x, Gm.gp P.count = x := ⟨_, rfl⟩
  have hGb := gp_pos P.count
  have eW : Gm.whole P.count = 1000000000 * Gm.gp P.count := rfl
  have eW' := eW
  have hGb' := hGb
  rw [hG] at hGb eW
  obtain ⟨W, hWW⟩ : ∃ x, Gm.whole P.count = x := ⟨_, rfl⟩
  obtain ⟨H, hHH⟩ : ∃ x, Gm.half P.count P.round = x := ⟨_, rfl⟩
  have WA := Aside0.mk (fun (V : World) (gb : Nat) (A : RefAt V gb (Gm.gp P.count) up 0) => by have h := rwhole_any A (by omega) (by omega); rw [← eW', hWW] at h; exact h)
  have RB := Aside0.mk (show restOk P v = (decide (-H ≤ v) && decide (v < W - H)) by unfold restOk; rw [hWW, hHH])
  rw [hWW, hHH] at h2
  rw [hWW] at eW
  rw [RB.out]
  clear RB
  clear hc hr h1 hG hHH hWW eW' hGb'
  rcases h2 with ⟨rfl, h2⟩ | ⟨rfl, h2⟩
  · have s5 : IntKind.i64.wrap (-W) = -W := IntWalk.i64_in _ (by omega)
    have s8 : Int.tdiv W 2 = H := by rw [Int.tdiv_eq_ediv_of_nonneg (by omega)]; omega
    have s9 : Int.tdiv (-W) 2 = -H := by rw [Int.neg_tdiv, s8]
    have s10 : IntKind.i64.wrap H = H := IntWalk.i64_in _ (by omega)
    have s11 : IntKind.i64.wrap (-H) = -H := IntWalk.i64_in _ (by omega)
    rw [show W - H = H by omega]
    clear h2 hGb eW
    by_cases k1 : -H ≤ v
    · have k1 := decide_eq_true k1
      rw [k1]
      go_enter Tryz.func38, Tryz.ntmps38
      go_wp2_with (first
        | ((with_reducible refine gate_dst (N := 2) rfl ?_); refine box_event ?hg (N := 2) ?hd (cs := pcs P A1 c1 A2 c2 A3 c3) (t := 27) ?hr ?_; (case hd => rfl); (case hg => rfl); (case hr => first | (go_simp; done) | (go_simp; rfl)); intro gp hg w1_ hb1 hb; clear hg; have GP := Aside0.mk hb1; have HB := Aside0.mk hb; clear hb1 hb; have u1 := (show w1_.cell? ⟨gp, 1, none⟩ = some (.int .i64 P.count) from (blk_cell GP.out 1).trans rfl); have u2 := (show w1_.cell? ⟨gp, 2, none⟩ = some (.int .i64 P.round) from (blk_cell GP.out 2).trans rfl))
        | (go_at_call 43; (with_reducible refine (NW.out _).mono ?_); rintro e w2_ ⟨hb, gb, gbge, rfl, hA⟩; have A := Aside0.mk hA; have GP := Aside0.mk (Pd.blk_below GP.out hb); have HB := Aside0.mk (below_step HB.out hb); clear hb hA u1 u2; have u2 := (show w2_.cell? ⟨gp, 2, none⟩ = some (.int .i64 P.round) from (blk_cell GP.out 2).trans rfl))
        | (go_at_call 59; (with_reducible refine (WA.out _ _ A.out).mono ?_); rintro e w' ⟨rfl, rfl⟩))
      go_ret
      exact ⟨by simp, HB.out⟩
    · have k1 := decide_eq_false k1
      rw [k1]
      go_enter Tryz.func38, Tryz.ntmps38
      go_wp2_with (first
        | ((with_reducible refine gate_dst (N := 2) rfl ?_); refine box_event ?hg (N := 2) ?hd (cs := pcs P A1 c1 A2 c2 A3 c3) (t := 27) ?hr ?_; (case hd => rfl); (case hg => rfl); (case hr => first | (go_simp; done) | (go_simp; rfl)); intro gp hg w1_ hb1 hb; clear hg; have GP := Aside0.mk hb1; have HB := Aside0.mk hb; clear hb1 hb; have u1 := (show w1_.cell? ⟨gp, 1, none⟩ = some (.int .i64 P.count) from (blk_cell GP.out 1).trans rfl); have u2 := (show w1_.cell? ⟨gp, 2, none⟩ = some (.int .i64 P.round) from (blk_cell GP.out 2).trans rfl))
        | (go_at_call 43; (with_reducible refine (NW.out _).mono ?_); rintro e w2_ ⟨hb, gb, gbge, rfl, hA⟩; have A := Aside0.mk hA; have GP := Aside0.mk (Pd.blk_below GP.out hb); have HB := Aside0.mk (below_step HB.out hb); clear hb hA u1 u2; have u2 := (show w2_.cell? ⟨gp, 2, none⟩ = some (.int .i64 P.round) from (blk_cell GP.out 2).trans rfl))
        | (go_at_call 59; (with_reducible refine (WA.out _ _ A.out).mono ?_); rintro e w' ⟨rfl, rfl⟩))
      go_ret
      exact ⟨by simp, HB.out⟩
  · subst h2
    rw [show (-(0 : Int)) = 0 from rfl, Int.sub_zero]
    clear hGb eW
    by_cases k1 : 0 ≤ v
    · have k1 := decide_eq_true k1
      rw [k1]
      go_enter Tryz.func38, Tryz.ntmps38
      go_wp2_with (first
        | ((with_reducible refine gate_dst (N := 2) rfl ?_); refine box_event ?hg (N := 2) ?hd (cs := pcs P A1 c1 A2 c2 A3 c3) (t := 27) ?hr ?_; (case hd => rfl); (case hg => rfl); (case hr => first | (go_simp; done) | (go_simp; rfl)); intro gp hg w1_ hb1 hb; clear hg; have GP := Aside0.mk hb1; have HB := Aside0.mk hb; clear hb1 hb; have u1 := (show w1_.cell? ⟨gp, 1, none⟩ = some (.int .i64 P.count) from (blk_cell GP.out 1).trans rfl); have u2 := (show w1_.cell? ⟨gp, 2, none⟩ = some (.int .i64 P.round) from (blk_cell GP.out 2).trans rfl))
        | (go_at_call 43; (with_reducible refine (NW.out _).mono ?_); rintro e w2_ ⟨hb, gb, gbge, rfl, hA⟩; have A := Aside0.mk hA; have GP := Aside0.mk (Pd.blk_below GP.out hb); have HB := Aside0.mk (below_step HB.out hb); clear hb hA u1 u2; have u2 := (show w2_.cell? ⟨gp, 2, none⟩ = some (.int .i64 P.round) from (blk_cell GP.out 2).trans rfl))
        | (go_at_call 59; (with_reducible refine (WA.out _ _ A.out).mono ?_); rintro e w' ⟨rfl, rfl⟩))
      go_ret
      exact ⟨by simp, HB.out⟩
    · have k1 := decide_eq_false k1
      rw [k1]
      go_enter Tryz.func38, Tryz.ntmps38
      go_wp2_with (first
        | ((with_reducible refine gate_dst (N := 2) rfl ?_); refine box_event ?hg (N := 2) ?hd (cs := pcs P A1 c1 A2 c2 A3 c3) (t := 27) ?hr ?_; (case hd => rfl); (case hg => rfl); (case hr => first | (go_simp; done) | (go_simp; rfl)); intro gp hg w1_ hb1 hb; clear hg; have GP := Aside0.mk hb1; have HB := Aside0.mk hb; clear hb1 hb; have u1 := (show w1_.cell? ⟨gp, 1, none⟩ = some (.int .i64 P.count) from (blk_cell GP.out 1).trans rfl); have u2 := (show w1_.cell? ⟨gp, 2, none⟩ = some (.int .i64 P.round) from (blk_cell GP.out 2).trans rfl))
        | (go_at_call 43; (with_reducible refine (NW.out _).mono ?_); rintro e w2_ ⟨hb, gb, gbge, rfl, hA⟩; have A := Aside0.mk hA; have GP := Aside0.mk (Pd.blk_below GP.out hb); have HB := Aside0.mk (below_step HB.out hb); clear hb hA u1 u2; have u2 := (show w2_.cell? ⟨gp, 2, none⟩ = some (.int .i64 P.round) from (blk_cell GP.out 2).trans rfl))
        | (go_at_call 59; (with_reducible refine (WA.out _ _ A.out).mono ?_); rintro e w' ⟨rfl, rfl⟩))
      go_ret
      exact ⟨by simp, HB.out⟩
set_option maxRecDepth 100000 in
set_option maxHeartbeats 8000000 in
theorem rbear20 (P : Pm.Prod) (A1 : Option Addr) (c1 : Nat) (A2 : Option Addr) (c2 : Nat) (A3 : Option Addr) (c3 : Nat) (bal rate n rest v cd r2 : Int) (w : World) (hc : P.count = 1 ∨ P.count = 2 ∨ P.count = 3) (hr : P.round = 1 ∨ P.round = 3) (hro : restOk P rest = true) (hz : Gm.bear (Gm.whole P.count) (Gm.half P.count P.round) rest bal rate n = (v, cd, r2)) :
    Calls Tryz.prog 19 #[pv P A1 c1 A2 c2 A3 c3, .int .i64 bal, .int .i64 rate, .int .i64 n, .int .i64 rest] w fun e w' => e = .returned (.tuple #[.int .i64 v, .int .i64 r2, .int .i64 cd]) ∧ Below w.heap.size w w' := by
  obtain ⟨up, h1, h2, h3⟩ := up_of hr
  have NW := Aside0.mk (fun W => rnew_any hc h1 W)
  have hGb := gp_pos P.count
  obtain ⟨k1, k2⟩ := restOk_bd hro
  have hW := Gm.whole_bd P.count
  have hH := Gm.half_bd P.count P.round
  have GD : H.Good (Gm.whole P.count) (Gm.half P.count P.round) rest := good20 P hro
  have BA := Aside0.mk (fun (V : World) (gb : Nat) (A : RefAt V gb (Gm.gp P.count) up rest) => by have h := rbear_any (bal := bal) (rate := rate) (n := n) A (by omega) (by omega) (show Gm.whole P.count = 1000000000 * Gm.gp P.count from rfl) h2 GD; rw [hz] at h; exact h)
  clear hc hr h1 h2 hro hz k1 k2 hW hH GD hGb
  go_enter Tryz.func19, Tryz.ntmps19
  go_wp2_with (first
    | ((with_reducible refine gate_dst (N := 5) rfl ?_); refine box_event ?hg (N := 5) ?hd (cs := pcs P A1 c1 A2 c2 A3 c3) (t := 27) ?hr ?_; (case hd => rfl); (case hg => rfl); (case hr => first | (go_simp; done) | (go_simp; rfl)); intro gp hg w1_ hb1 hb; clear hg; have GP := Aside0.mk hb1; have HB := Aside0.mk hb; clear hb1 hb; have u1 := (show w1_.cell? ⟨gp, 1, none⟩ = some (.int .i64 P.count) from (blk_cell GP.out 1).trans rfl); have u2 := (show w1_.cell? ⟨gp, 2, none⟩ = some (.int .i64 P.round) from (blk_cell GP.out 2).trans rfl))
    | (go_at_call 43; (with_reducible refine (NW.out _).mono ?_); rintro e w2_ ⟨hb, gb, gbge, rfl, hA⟩; have gge := (show w.heap.size ≤ gb from Nat.le_trans HB.out.size gbge); have A := Aside0.mk hA; have HB := Aside0.mk (below_step HB.out hb); have c2 := hA.c2; have f2 := hA.f2; clear hb hA u1 u2 GP; refine Hid.out ?_))
  refine Lib.hid ?_
  go_upto_region 3 with (fail)
  obtain ⟨w3_, hw3⟩ : ∃ x, w2_.setCell ⟨gb, 2, none⟩ (.int .i64 rest) = x := ⟨_, rfl⟩
  have A3 := Aside0.mk (show RefAt w3_ gb (Gm.gp P.count) up rest by rw [← hw3]; exact ref_put A.out rest)
  have HB := Aside0.mk (show Below w.heap.size w w3_ by rw [← hw3]; exact Below.setCell HB.out gge _)
  rw [hw3]
  clear hw3 c2 f2 A
  go_wp2_with (first
    | (go_at_call 44; (with_reducible refine (BA.out _ _ A3.out).mono ?_); rintro e w4_ ⟨rfl, hA, hbut⟩; have HB := Aside0.mk (But.below HB.out HB.out.size gge hbut); have c2 := hA.c2; clear hA hbut))
  go_quiet (fail)
  go_wp2_with fail
  go_ret3
  exact ⟨rfl, by first | exact HB.out | exact Below.drew HB.out | exact pw_below_drewN HB.out _⟩
set_option maxRecDepth 100000 in
set_option maxHeartbeats 8000000 in
theorem rerrors_any (P : Pm.Prod) (A1 : Option Addr) (c1 : Nat) (A2 : Option Addr) (c2 : Nat) (A3 : Option Addr) (c3 : Nat) (s : St) (L : Option Addr) (lc : Nat) (D : Option Addr) (dc : Nat) (w : World) (hp : ProdAt w P A1 c1 A2 c2 A3 c3) (hh : Held P) (hm : MAt w s.m D) :
    Calls Tryz.prog 17 #[pv P A1 c1 A2 c2 A3 c3, sv s L lc D dc] w fun e w' => e = .returned (.int .i64 (mayE P s)) ∧ Below w.heap.size w w' := by
  have CK := Aside0.mk (fun (W : World) (hb : Below w.heap.size w W) => rcheck_any P A1 c1 A2 c2 A3 c3 W (hp.below hb) hh)
  have RI := Aside0.mk (fun (W : World) (hb : Below w.heap.size w W) => rright_any s.m D dc W (hm.below hb))
  have IS := Aside0.mk (fun (W : World) => quittanceref03_Is.calls s.day (decide (isDay s.day)) W rfl)
  obtain ⟨c, hcd⟩ : ∃ c, mayE P s = c := ⟨_, rfl⟩
  have hcase : err P ≠ 0 ∧ c = 9 ∨ err P = 0 ∧ ((readM s.m).isSome = false ∧ c = 1 ∨ (readM s.m).isSome = true ∧ (decide (s.rate < 0) = true ∧ c = 1 ∨ decide (s.rate < 0) = false ∧ (decide (1000000000 < s.rate) = true ∧ c = 1 ∨ decide (1000000000 < s.rate) = false ∧ (restOk P s.residue = false ∧ c = 1 ∨ restOk P s.residue = true ∧ (restOk P s.fine = false ∧ c = 1 ∨ restOk P s.fine = true ∧ (decide (isDay s.day) = false ∧ c = 5 ∨ decide (isDay s.day) = true ∧ ((s.day == 84370) = true ∧ c = 5 ∨ (s.day == 84370) = false ∧ c = 0))))))) := by
    subst hcd
    unfold mayE
    by_cases h0 : err P = 0
    · rw [if_neg (fun h => h h0)]
      refine Or.inr ⟨h0, ?_⟩
      cases h1 : (readM s.m).isSome with
      | false => exact Or.inl ⟨rfl, by simp⟩
      | true =>
        refine Or.inr ⟨rfl, ?_⟩
        by_cases h2 : s.rate < 0
        · exact Or.inl ⟨decide_eq_true h2, by simp [show ¬ 0 ≤ s.rate by omega]⟩
        · refine Or.inr ⟨decide_eq_false h2, ?_⟩
          by_cases h3 : 1000000000 < s.rate
          · exact Or.inl ⟨decide_eq_true h3, by simp [show ¬ s.rate ≤ 1000000000 by omega]⟩
          · refine Or.inr ⟨decide_eq_false h3, ?_⟩
            cases h4 : restOk P s.residue with
            | false => exact Or.inl ⟨rfl, by simp⟩
            | true =>
              refine Or.inr ⟨rfl, ?_⟩
              cases h5 : restOk P s.fine with
              | false => exact Or.inl ⟨rfl, by simp⟩
              | true =>
                refine Or.inr ⟨rfl, ?_⟩
                rw [if_pos (by simp [show 0 ≤ s.rate by omega, show s.rate ≤ 1000000000 by omega])]
                by_cases h6 : isDay s.day
                · refine Or.inr ⟨decide_eq_true h6, ?_⟩
                  have h6' := id h6
                  obtain ⟨a1, a2⟩ := h6'
                  by_cases h7 : s.day = 84370
                  · exact Or.inl ⟨by simp [h7], by rw [if_neg (by omega)]⟩
                  · exact Or.inr ⟨by simp [h7], by rw [if_pos (by omega)]⟩
                · refine Or.inl ⟨decide_eq_false h6, ?_⟩
                  rw [if_neg]
                  intro h
                  exact h6 ⟨by omega, by omega⟩
    · rw [if_pos h0]
      exact Or.inl ⟨h0, by rcases err_or P with h | h; exact absurd h h0; exact h⟩
  rw [hcd]
  clear hcd
  have RR := Aside0.mk (fun (h : err P = 0) (v : Int) (W : World) => rrest_any P A1 c1 A2 c2 A3 c3 v W (err_shape h).1 (err_shape h).2.1)
  rcases hcase with ⟨h0, rfl⟩ | ⟨h0, hcase⟩
  · have e0 : err P = 9 := by rcases err_or P with h | h; exact absurd h h0; exact h
    rw [e0] at CK
    clear hp hh hm h0 RR e0
    go_enter Tryz.func17, Tryz.ntmps17
    go_wp2_with (first
      | ((with_reducible refine gate_dst (N := 2) rfl ?_); refine box_event ?hg (N := 2) ?hd (cs := pcs P A1 c1 A2 c2 A3 c3) (t := 27) ?hr ?_; (case hd => rfl); (case hg => rfl); (case hr => first | (go_simp; done) | (go_simp; rfl)); intro gp hg w1_ hb1 hb; clear hg; have GP := Aside0.mk hb1; have HB := Aside0.mk hb; clear hb1 hb)
      | ((with_reducible refine gate_dst (N := 3) rfl ?_); refine box_event ?hg (N := 3) ?hd (cs := scs s L lc D dc) (t := 33) ?hr ?_; (case hd => rfl); (case hg => rfl); (case hr => first | (go_simp; done) | (go_simp; rfl)); intro gs hg w2_ hb1 hb; clear hg; have GS := Aside0.mk hb1; have GP := Aside0.mk (Pd.blk_below GP.out hb); have HB := Aside0.mk (below_step HB.out hb); clear hb1 hb)
      | ((with_reducible refine gate_dst (N := 6) rfl ?_); refine wpList_load_row rfl 27 (.tmp 2) rfl gp rfl 27 _ (0, 0) _ GP.out Tryz.underlying27 rfl info_prod ?_)
      | (go_at_call 15; (with_reducible refine (CK.out _ HB.out).mono ?_); rintro e w3_ ⟨rfl, hb⟩; have GS := Aside0.mk (Pd.blk_below GS.out hb); have GP := Aside0.mk (Pd.blk_below GP.out hb); have HB := Aside0.mk (below_step HB.out hb); clear hb; have s5 := (show w3_.cell? ⟨gs, 5, none⟩ = some (.int .i64 s.rate) from (blk_cell GS.out 5).trans rfl); have s17 := (show w3_.cell? ⟨gs, 17, none⟩ = some (.int .i64 s.residue) from (blk_cell GS.out 17).trans rfl); have s18 := (show w3_.cell? ⟨gs, 18, none⟩ = some (.int .i64 s.fine) from (blk_cell GS.out 18).trans rfl); have s0 := (show w3_.cell? ⟨gs, 0, none⟩ = some (.int .i64 s.day) from (blk_cell GS.out 0).trans rfl))
      | ((with_reducible refine gate_dst (N := 11) rfl ?_); refine wpList_load_mid rfl 31 (.tmp 10) rfl gs 6 ?hx (mcs s.m D dc).toList _ (mny_range GS.out) Tryz.underlying31 rfl info_mny ?_; (case hx => first | rfl | (go_simp; done) | (go_simp; rfl)))
      | (go_at_call 21; (with_reducible refine (RI.out _ HB.out).mono ?_); rintro e w4_ ⟨rfl, hb⟩; have GS := Aside0.mk (Pd.blk_below GS.out hb); have GP := Aside0.mk (Pd.blk_below GP.out hb); have HB := Aside0.mk (below_step HB.out hb); clear hb; clear s5 s17 s18 s0; have s5 := (show w4_.cell? ⟨gs, 5, none⟩ = some (.int .i64 s.rate) from (blk_cell GS.out 5).trans rfl); have s17 := (show w4_.cell? ⟨gs, 17, none⟩ = some (.int .i64 s.residue) from (blk_cell GS.out 17).trans rfl); have s18 := (show w4_.cell? ⟨gs, 18, none⟩ = some (.int .i64 s.fine) from (blk_cell GS.out 18).trans rfl); have s0 := (show w4_.cell? ⟨gs, 0, none⟩ = some (.int .i64 s.day) from (blk_cell GS.out 0).trans rfl))
      | ((with_reducible refine gate_dst (N := 25) rfl ?_); refine mid_want rfl 27 (.tmp 2) rfl gp 0 ?hx (pcs P A1 c1 A2 c2 A3 c3).toList _ (blk_rangeN GP.out) Tryz.underlying27 rfl info_prod ?_; (case hx => first | rfl | (go_simp; done) | (go_simp; rfl)))
      | ((with_reducible refine gate_dst (N := 32) rfl ?_); refine mid_want rfl 27 (.tmp 2) rfl gp 0 ?hx (pcs P A1 c1 A2 c2 A3 c3).toList _ (blk_rangeN GP.out) Tryz.underlying27 rfl info_prod ?_; (case hx => first | rfl | (go_simp; done) | (go_simp; rfl)))
      | (go_at_call 38; (with_reducible refine (RA.out _).mono ?_); rintro e w5_ ⟨rfl, hb⟩; have GS := Aside0.mk (Pd.blk_below GS.out hb); have GP := Aside0.mk (Pd.blk_below GP.out hb); have HB := Aside0.mk (below_step HB.out hb); clear hb; clear s5 s17 s18 s0; have s5 := (show w5_.cell? ⟨gs, 5, none⟩ = some (.int .i64 s.rate) from (blk_cell GS.out 5).trans rfl); have s17 := (show w5_.cell? ⟨gs, 17, none⟩ = some (.int .i64 s.residue) from (blk_cell GS.out 17).trans rfl); have s18 := (show w5_.cell? ⟨gs, 18, none⟩ = some (.int .i64 s.fine) from (blk_cell GS.out 18).trans rfl); have s0 := (show w5_.cell? ⟨gs, 0, none⟩ = some (.int .i64 s.day) from (blk_cell GS.out 0).trans rfl))
      | (go_at_call 38; (with_reducible refine (RF.out _).mono ?_); rintro e w6_ ⟨rfl, hb⟩; have GS := Aside0.mk (Pd.blk_below GS.out hb); have GP := Aside0.mk (Pd.blk_below GP.out hb); have HB := Aside0.mk (below_step HB.out hb); clear hb; clear s5 s17 s18 s0; have s5 := (show w6_.cell? ⟨gs, 5, none⟩ = some (.int .i64 s.rate) from (blk_cell GS.out 5).trans rfl); have s17 := (show w6_.cell? ⟨gs, 17, none⟩ = some (.int .i64 s.residue) from (blk_cell GS.out 17).trans rfl); have s18 := (show w6_.cell? ⟨gs, 18, none⟩ = some (.int .i64 s.fine) from (blk_cell GS.out 18).trans rfl); have s0 := (show w6_.cell? ⟨gs, 0, none⟩ = some (.int .i64 s.day) from (blk_cell GS.out 0).trans rfl))
      | (go_at_call 39; (with_reducible refine (IS.out _).mono ?_); rintro e w7_ ⟨rfl, hd⟩; have hb := hd.below; clear hd; have GS := Aside0.mk (Pd.blk_below GS.out hb); have GP := Aside0.mk (Pd.blk_below GP.out hb); have HB := Aside0.mk (below_step HB.out hb); clear hb; clear s5 s17 s18 s0; have s5 := (show w7_.cell? ⟨gs, 5, none⟩ = some (.int .i64 s.rate) from (blk_cell GS.out 5).trans rfl); have s17 := (show w7_.cell? ⟨gs, 17, none⟩ = some (.int .i64 s.residue) from (blk_cell GS.out 17).trans rfl); have s18 := (show w7_.cell? ⟨gs, 18, none⟩ = some (.int .i64 s.fine) from (blk_cell GS.out 18).trans rfl); have s0 := (show w7_.cell? ⟨gs, 0, none⟩ = some (.int .i64 s.day) from (blk_cell GS.out 0).trans rfl)))
    go_ret
    exact ⟨rfl, HB.out⟩
  · rw [h0] at CK
    have RA := Aside0.mk (fun W => RR.out h0 s.residue W)
    have RF := Aside0.mk (fun W => RR.out h0 s.fine W)
    clear hp hh hm h0 RR
    obtain ⟨rr, hrr⟩ : ∃ x, (readM s.m).isSome = x := ⟨_, rfl⟩
    obtain ⟨ra, hra⟩ : ∃ x, restOk P s.residue = x := ⟨_, rfl⟩
    obtain ⟨rf, hrf⟩ : ∃ x, restOk P s.fine = x := ⟨_, rfl⟩
    obtain ⟨rd, hrd⟩ : ∃ x, decide (isDay s.day) = x := ⟨_, rfl⟩
    rw [hrr] at hcase RI
    rw [hra] at hcase RA
    rw [hrf] at hcase RF
    rw [hrd] at hcase IS
    clear hrr hra hrf hrd
    rcases hcase with ⟨rfl, rfl⟩ | ⟨rfl, ⟨k1, rfl⟩ | ⟨k1, ⟨k2, rfl⟩ | ⟨k2, ⟨rfl, rfl⟩ | ⟨rfl, ⟨rfl, rfl⟩ | ⟨rfl, ⟨rfl, rfl⟩ | ⟨rfl, ⟨k3, rfl⟩ | ⟨k3, rfl⟩⟩⟩⟩⟩⟩⟩
    all_goals
      go_enter Tryz.func17, Tryz.ntmps17
      go_wp2_with (first
        | ((with_reducible refine gate_dst (N := 2) rfl ?_); refine box_event ?hg (N := 2) ?hd (cs := pcs P A1 c1 A2 c2 A3 c3) (t := 27) ?hr ?_; (case hd => rfl); (case hg => rfl); (case hr => first | (go_simp; done) | (go_simp; rfl)); intro gp hg w1_ hb1 hb; clear hg; have GP := Aside0.mk hb1; have HB := Aside0.mk hb; clear hb1 hb)
        | ((with_reducible refine gate_dst (N := 3) rfl ?_); refine box_event ?hg (N := 3) ?hd (cs := scs s L lc D dc) (t := 33) ?hr ?_; (case hd => rfl); (case hg => rfl); (case hr => first | (go_simp; done) | (go_simp; rfl)); intro gs hg w2_ hb1 hb; clear hg; have GS := Aside0.mk hb1; have GP := Aside0.mk (Pd.blk_below GP.out hb); have HB := Aside0.mk (below_step HB.out hb); clear hb1 hb)
        | ((with_reducible refine gate_dst (N := 6) rfl ?_); refine wpList_load_row rfl 27 (.tmp 2) rfl gp rfl 27 _ (0, 0) _ GP.out Tryz.underlying27 rfl info_prod ?_)
        | (go_at_call 15; (with_reducible refine (CK.out _ HB.out).mono ?_); rintro e w3_ ⟨rfl, hb⟩; have GS := Aside0.mk (Pd.blk_below GS.out hb); have GP := Aside0.mk (Pd.blk_below GP.out hb); have HB := Aside0.mk (below_step HB.out hb); clear hb; have s5 := (show w3_.cell? ⟨gs, 5, none⟩ = some (.int .i64 s.rate) from (blk_cell GS.out 5).trans rfl); have s17 := (show w3_.cell? ⟨gs, 17, none⟩ = some (.int .i64 s.residue) from (blk_cell GS.out 17).trans rfl); have s18 := (show w3_.cell? ⟨gs, 18, none⟩ = some (.int .i64 s.fine) from (blk_cell GS.out 18).trans rfl); have s0 := (show w3_.cell? ⟨gs, 0, none⟩ = some (.int .i64 s.day) from (blk_cell GS.out 0).trans rfl))
        | ((with_reducible refine gate_dst (N := 11) rfl ?_); refine wpList_load_mid rfl 31 (.tmp 10) rfl gs 6 ?hx (mcs s.m D dc).toList _ (mny_range GS.out) Tryz.underlying31 rfl info_mny ?_; (case hx => first | rfl | (go_simp; done) | (go_simp; rfl)))
        | (go_at_call 21; (with_reducible refine (RI.out _ HB.out).mono ?_); rintro e w4_ ⟨rfl, hb⟩; have GS := Aside0.mk (Pd.blk_below GS.out hb); have GP := Aside0.mk (Pd.blk_below GP.out hb); have HB := Aside0.mk (below_step HB.out hb); clear hb; clear s5 s17 s18 s0; have s5 := (show w4_.cell? ⟨gs, 5, none⟩ = some (.int .i64 s.rate) from (blk_cell GS.out 5).trans rfl); have s17 := (show w4_.cell? ⟨gs, 17, none⟩ = some (.int .i64 s.residue) from (blk_cell GS.out 17).trans rfl); have s18 := (show w4_.cell? ⟨gs, 18, none⟩ = some (.int .i64 s.fine) from (blk_cell GS.out 18).trans rfl); have s0 := (show w4_.cell? ⟨gs, 0, none⟩ = some (.int .i64 s.day) from (blk_cell GS.out 0).trans rfl))
        | ((with_reducible refine gate_dst (N := 25) rfl ?_); refine mid_want rfl 27 (.tmp 2) rfl gp 0 ?hx (pcs P A1 c1 A2 c2 A3 c3).toList _ (blk_rangeN GP.out) Tryz.underlying27 rfl info_prod ?_; (case hx => first | rfl | (go_simp; done) | (go_simp; rfl)))
        | ((with_reducible refine gate_dst (N := 32) rfl ?_); refine mid_want rfl 27 (.tmp 2) rfl gp 0 ?hx (pcs P A1 c1 A2 c2 A3 c3).toList _ (blk_rangeN GP.out) Tryz.underlying27 rfl info_prod ?_; (case hx => first | rfl | (go_simp; done) | (go_simp; rfl)))
        | (go_at_call 38; (with_reducible refine (RA.out _).mono ?_); rintro e w5_ ⟨rfl, hb⟩; have GS := Aside0.mk (Pd.blk_below GS.out hb); have GP := Aside0.mk (Pd.blk_below GP.out hb); have HB := Aside0.mk (below_step HB.out hb); clear hb; clear s5 s17 s18 s0; have s5 := (show w5_.cell? ⟨gs, 5, none⟩ = some (.int .i64 s.rate) from (blk_cell GS.out 5).trans rfl); have s17 := (show w5_.cell? ⟨gs, 17, none⟩ = some (.int .i64 s.residue) from (blk_cell GS.out 17).trans rfl); have s18 := (show w5_.cell? ⟨gs, 18, none⟩ = some (.int .i64 s.fine) from (blk_cell GS.out 18).trans rfl); have s0 := (show w5_.cell? ⟨gs, 0, none⟩ = some (.int .i64 s.day) from (blk_cell GS.out 0).trans rfl))
        | (go_at_call 38; (with_reducible refine (RF.out _).mono ?_); rintro e w6_ ⟨rfl, hb⟩; have GS := Aside0.mk (Pd.blk_below GS.out hb); have GP := Aside0.mk (Pd.blk_below GP.out hb); have HB := Aside0.mk (below_step HB.out hb); clear hb; clear s5 s17 s18 s0; have s5 := (show w6_.cell? ⟨gs, 5, none⟩ = some (.int .i64 s.rate) from (blk_cell GS.out 5).trans rfl); have s17 := (show w6_.cell? ⟨gs, 17, none⟩ = some (.int .i64 s.residue) from (blk_cell GS.out 17).trans rfl); have s18 := (show w6_.cell? ⟨gs, 18, none⟩ = some (.int .i64 s.fine) from (blk_cell GS.out 18).trans rfl); have s0 := (show w6_.cell? ⟨gs, 0, none⟩ = some (.int .i64 s.day) from (blk_cell GS.out 0).trans rfl))
        | (go_at_call 39; (with_reducible refine (IS.out _).mono ?_); rintro e w7_ ⟨rfl, hd⟩; have hb := hd.below; clear hd; have GS := Aside0.mk (Pd.blk_below GS.out hb); have GP := Aside0.mk (Pd.blk_below GP.out hb); have HB := Aside0.mk (below_step HB.out hb); clear hb; clear s5 s17 s18 s0; have s5 := (show w7_.cell? ⟨gs, 5, none⟩ = some (.int .i64 s.rate) from (blk_cell GS.out 5).trans rfl); have s17 := (show w7_.cell? ⟨gs, 17, none⟩ = some (.int .i64 s.residue) from (blk_cell GS.out 17).trans rfl); have s18 := (show w7_.cell? ⟨gs, 18, none⟩ = some (.int .i64 s.fine) from (blk_cell GS.out 18).trans rfl); have s0 := (show w7_.cell? ⟨gs, 0, none⟩ = some (.int .i64 s.day) from (blk_cell GS.out 0).trans rfl)))
      go_ret
      exact ⟨rfl, HB.out⟩
end Go.Proofs.YtbbbjjfecblhpaaGreat.Nt
