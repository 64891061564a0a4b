/- Texts of this claim, joined in build order. -/
import Derived.RowKit
import Derived.Below
import Derived.Test.YtbbbjjfecblhpaaProg
import Derived.Deep.Draws
import Derived.Deep.AppendLies
import Derived.Maps.AppendAt
import Derived.OwnWalk
import Derived.Laws.BytesArg
import Derived.Laws.MakeOwn
import Derived.Laws.OwnMore
import Derived.Tactics
import Derived.Lib.ConvBytes
import Derived.Laws.Slices
import Derived.WalkKit
import Derived.KernelRfl
import Derived.RowKit3
import Derived.Deep.LoopGhost
import Derived.Deep.QuietTactic
import Derived.BigQuiet
import Derived.WideLaws
import Derived.Deep.DeepCutAuto
import Derived.Deep.CutBlock
import Derived.Deep.RegionHeld3
import Derived.Lib.AppendStr
import Derived.ArgAppend
import Derived.Laws.IdiomCopy
import Derived.OrdersHeld
import Derived.Laws.BitsLemmas
import Derived.Laws.StructEq
import Derived.WalkLawsBesides
import Derived.WalkSpells
import Derived.Lib.IndexMore
import Derived.Deep.Slices
import Derived.Deep.Fields
import Derived.ChangeSame
import Derived.Lib.SmallJoins
import Derived.ProofKit
import Derived.Defers
import Derived.Laws.Tables
import Derived.Deep.WholeRow
import Derived.Recover
import Derived.StillTailTactics
import Derived.IntWalk
import Derived.Shelf.Small.Bits
import Derived.Shelf.Small.Wraps
import Derived.Shelf.Strconv.Itoa0
import Derived.Shelf.Strings.Search1
import Derived.Shelf.Strings.Search2
import Derived.Shelf.Strings.Search3
import Derived.Shelf.LaysM
import Derived.Shelf.Strings.Shaped
import Derived.Shelf.Bits.Mul64
import Derived.Ground.Names2Prog
import Derived.Shelf.Slices.Clone
import Derived.Shelf.Slices.SearchI
import Derived.Shelf.Slices.Empties
import Derived.Lib.SlBytesConst
import Derived.Deep.RegionWith
import Derived.Lib.Hide
import Derived.BigFrame
import Derived.Deep.MidRow
import Derived.Lib.BitFns
import Derived.Laws.BitsAllLaws
import Derived.Laws.Externs
import Derived.RegionTactic
import Derived.Laws.AppendOwnNone
import Derived.OpenShut
import Derived.ShutString
import Derived.ChangeOld
import Derived.Laws.IdiomArrays
import Derived.SizedLaws
import Derived.HandedShaped
import Derived.Shelf.Vars
import Derived.Test.YtbbbjjfecblhpaaJM1
set_option linter.unusedVariables false
set_option linter.unusedSimpArgs false
namespace Go.Proofs.Ytbbbjjfecblhpaa.PB
open Go.RowKit Go.Proofs.YtbbbjjfecblhpaaW.PrintWords Go.Proofs.YtbbbjjfecblhpaaW.PrintLast Go.Proofs.YtbbbjjfecblhpaaW.PrintMore Go.Proofs.Ytbbbjjfecblhpaa.HW
attribute [local go_sem] run_makeFunc_ max2_int min2_int max_two min_two max_three min_three max_four min_four   -- for this text's walks alone
set_option linter.unusedVariables false
set_option linter.unusedSimpArgs false
/-! ### civil_Number: function 107 -/
mutual
def civil_Number.j0 : Nat → Bool → Int → Int → Int → Option (Int × Int)
 | 0, _, _, _, _ => none
 | k + 1, x28, x102000, x102001, x102002 => if x28 = true then (some (0, 5)) else ((Go.Proofs.Ytbbbjjfecblhpaa.H.civil_Opens.f x102000).bind fun t103 => (civil_Number.l0 k (wrap64 ((wrap64 (t103 + x102002)) - 1)) 1 x102000 x102001 x102002))
def civil_Number.l0 : Nat → Int → Int → Int → Int → Int → Option (Int × Int)
 | 0, _, _, _, _, _ => none
 | k + 1, x4, x5, x102000, x102001, x102002 => if x5 < x102001 then ((Go.Proofs.Ytbbbjjfecblhpaa.H.civil_Month.f x102000 x5).bind fun t104 => (civil_Number.l0 k (wrap64 (x4 + t104)) (wrap64 (x5 + 1)) x102000 x102001 x102002)) else (some (x4, 0))
end
def civil_Number.f (k : Nat) (a0_0 : Int) (a0_1 : Int) (a0_2 : Int) : Option (Int × Int) := if a0_0 < 1900 then (civil_Number.j0 k true a0_0 a0_1 a0_2) else (if a0_0 > 2200 then (civil_Number.j0 k true a0_0 a0_1 a0_2) else (if a0_2 < 1 then (civil_Number.j0 k true a0_0 a0_1 a0_2) else ((Go.Proofs.Ytbbbjjfecblhpaa.H.civil_Month.f a0_0 a0_1).bind fun t102 => (civil_Number.j0 k (decide (a0_2 > t102)) a0_0 a0_1 a0_2))))
theorem civil_Number.mono_l : ∀ k, (∀ y0 y1 y2 y3, LeO (civil_Number.j0 k y0 y1 y2 y3) (civil_Number.j0 (k + 1) y0 y1 y2 y3)) ∧ (∀ y0 y1 y2 y3 y4, LeO (civil_Number.l0 k y0 y1 y2 y3 y4) (civil_Number.l0 (k + 1) y0 y1 y2 y3 y4))
 | 0 => ⟨fun _ _ _ _ r h => by simp [civil_Number.j0] at h, fun _ _ _ _ _ r h => by simp [civil_Number.l0] at h⟩
 | k + 1 => by
  obtain ⟨ih0, ih1⟩ := civil_Number.mono_l k
  refine ⟨?_, ?_⟩
  ·intro y0 y1 y2 y3
   unfold civil_Number.j0
   repeat' first
   | (with_reducible exact ih0 _ _ _ _)
   | (with_reducible exact ih1 _ _ _ _ _)
   | (with_reducible exact LeO.refl _)
   | (with_reducible exact LeO.none _)
   | (with_reducible refine LeO.ite ?_ ?_)
   | (with_reducible refine LeO.bind ?_ (fun _ => ?_))
   | exact ih0 _ _ _ _
   | exact ih1 _ _ _ _ _
   | exact LeO.none _
   | refine LeO.ite ?_ ?_
   | refine LeO.bind ?_ (fun _ => ?_)
  ·intro y0 y1 y2 y3 y4
   unfold civil_Number.l0
   repeat' first
   | (with_reducible exact ih0 _ _ _ _)
   | (with_reducible exact ih1 _ _ _ _ _)
   | (with_reducible exact LeO.refl _)
   | (with_reducible exact LeO.none _)
   | (with_reducible refine LeO.ite ?_ ?_)
   | (with_reducible refine LeO.bind ?_ (fun _ => ?_))
   | exact ih0 _ _ _ _
   | exact ih1 _ _ _ _ _
   | exact LeO.none _
   | refine LeO.ite ?_ ?_
   | refine LeO.bind ?_ (fun _ => ?_)
theorem civil_Number.mono : ∀ a0 a1 a2 k, LeO (civil_Number.f k a0 a1 a2) (civil_Number.f (k + 1) a0 a1 a2) := by
 intro a0 a1 a2 k
 obtain ⟨ih0, ih1⟩ := civil_Number.mono_l k
 unfold civil_Number.f
 repeat' first
   | (with_reducible exact ih0 _ _ _ _)
   | (with_reducible exact ih1 _ _ _ _ _)
   | (with_reducible exact LeO.refl _)
   | (with_reducible exact LeO.none _)
   | (with_reducible refine LeO.ite ?_ ?_)
   | (with_reducible refine LeO.bind ?_ (fun _ => ?_))
   | exact ih0 _ _ _ _
   | exact ih1 _ _ _ _ _
   | exact LeO.none _
   | refine LeO.ite ?_ ?_
   | refine LeO.bind ?_ (fun _ => ?_)
set_option maxHeartbeats 8000000 in
set_option maxRecDepth 100000 in
theorem civil_Number.calls (k : Nat) (a0_0 : Int) (a0_1 : Int) (a0_2 : Int) (r1 : Int) (r2 : Int) (w : World) (h : civil_Number.f k a0_0 a0_1 a0_2 = some (r1, r2)) :
  Calls Try.prog 107 #[.agg #[.int .i64 a0_0, .int .i64 a0_1, .int .i64 a0_2]] w fun e w' => e = .returned (.tuple #[.int .i64 r1, .int .i64 r2]) ∧ Below w.heap.size w w' := by
 have hu115 := Try.underlying115
 have HB := Aside0.mk (Below.refl w.heap.size w)
 have H : (if a0_0 < 1900 then (civil_Number.j0 k true a0_0 a0_1 a0_2) else (if a0_0 > 2200 then (civil_Number.j0 k true a0_0 a0_1 a0_2) else (if a0_2 < 1 then (civil_Number.j0 k true a0_0 a0_1 a0_2) else ((Go.Proofs.Ytbbbjjfecblhpaa.H.civil_Month.f a0_0 a0_1).bind fun t102 => (civil_Number.j0 k (decide (a0_2 > t102)) a0_0 a0_1 a0_2))))) = some (r1, r2) := h
 clear h
 have HC2 := Aside0.mk H
 clear H
 go_enter Try.func107, Try.ntmps107
 go_upto_region 1 with (first | ((with_reducible refine gate_dst (N := 1) rfl ?_); refine box_event ?hg (N := 1) ?hd (cs := #[.int .i64 a0_0, .int .i64 a0_1, .int .i64 a0_2]) (t := 115) ?hr ?_; (case hd => rfl); (case hg => rfl); (case hr => first | (go_simp; done) | (go_simp; rfl)); intro gb101 hg w3 hbox hb; have n0_ := Aside0.mk (below_step (by repeat (first | (with_reducible first | exact HB.out | apply below_alloc | apply pw_below_drewN | apply below_drew1) | exact HB.out)) hb); have n1_ := Aside0.mk (hbox); have n2_ := Aside0.mk ((by rw [hg]; exact (below_size (by repeat (first | (with_reducible first | exact HB.out | apply below_alloc | apply pw_below_drewN | apply below_drew1) | exact HB.out))) : w.heap.size ≤ gb101)); have n3_ := Aside0.mk ((by rw [hg]; exact (below_size (by repeat (first | (with_reducible first | exact HB.out | apply below_alloc | apply pw_below_drewN | apply below_drew1) | exact HB.out))) : w.heap.size ≤ gb101)); clear HB; have HB := n0_; have BK101 := n1_; have GW101 := n2_; have GE101 := n3_; clear n0_ n1_ n2_ n3_; clear hb hbox hg; (try have hu101_0 : w3.cell? ⟨gb101, 0, none⟩ = some (.int .i64 a0_0) := (blk_cell BK101.out 0).trans rfl); (try have hu101_1 : w3.cell? ⟨gb101, 1, none⟩ = some (.int .i64 a0_1) := (blk_cell BK101.out 1).trans rfl); (try have hu101_2 : w3.cell? ⟨gb101, 2, none⟩ = some (.int .i64 a0_2) := (blk_cell BK101.out 2).trans rfl); (try have hv101_0 := blk_frozen BK101.out 0); (try have hv101_1 := blk_frozen BK101.out 1); (try have hv101_2 := blk_frozen BK101.out 2)))
 repeat (go_quiet (first | ((with_reducible refine gate_dst (N := 1) rfl ?_); refine box_event ?hg (N := 1) ?hd (cs := #[.int .i64 a0_0, .int .i64 a0_1, .int .i64 a0_2]) (t := 115) ?hr ?_; (case hd => rfl); (case hg => rfl); (case hr => first | (go_simp; done) | (go_simp; rfl)); intro gb101 hg w3 hbox hb; have n0_ := Aside0.mk (below_step (by repeat (first | (with_reducible first | exact HB.out | apply below_alloc | apply pw_below_drewN | apply below_drew1) | exact HB.out)) hb); have n1_ := Aside0.mk (hbox); have n2_ := Aside0.mk ((by rw [hg]; exact (below_size (by repeat (first | (with_reducible first | exact HB.out | apply below_alloc | apply pw_below_drewN | apply below_drew1) | exact HB.out))) : w.heap.size ≤ gb101)); have n3_ := Aside0.mk ((by rw [hg]; exact (below_size (by repeat (first | (with_reducible first | exact HB.out | apply below_alloc | apply pw_below_drewN | apply below_drew1) | exact HB.out))) : w.heap.size ≤ gb101)); clear HB; have HB := n0_; have BK101 := n1_; have GW101 := n2_; have GE101 := n3_; clear n0_ n1_ n2_ n3_; clear hb hbox hg; (try have hu101_0 : w3.cell? ⟨gb101, 0, none⟩ = some (.int .i64 a0_0) := (blk_cell BK101.out 0).trans rfl); (try have hu101_1 : w3.cell? ⟨gb101, 1, none⟩ = some (.int .i64 a0_1) := (blk_cell BK101.out 1).trans rfl); (try have hu101_2 : w3.cell? ⟨gb101, 2, none⟩ = some (.int .i64 a0_2) := (blk_cell BK101.out 2).trans rfl); (try have hv101_0 := blk_frozen BK101.out 0); (try have hv101_1 := blk_frozen BK101.out 1); (try have hv101_2 := blk_frozen BK101.out 2))); go_upto_region 1 with (first | ((with_reducible refine gate_dst (N := 1) rfl ?_); refine box_event ?hg (N := 1) ?hd (cs := #[.int .i64 a0_0, .int .i64 a0_1, .int .i64 a0_2]) (t := 115) ?hr ?_; (case hd => rfl); (case hg => rfl); (case hr => first | (go_simp; done) | (go_simp; rfl)); intro gb101 hg w3 hbox hb; have n0_ := Aside0.mk (below_step (by repeat (first | (with_reducible first | exact HB.out | apply below_alloc | apply pw_below_drewN | apply below_drew1) | exact HB.out)) hb); have n1_ := Aside0.mk (hbox); have n2_ := Aside0.mk ((by rw [hg]; exact (below_size (by repeat (first | (with_reducible first | exact HB.out | apply below_alloc | apply pw_below_drewN | apply below_drew1) | exact HB.out))) : w.heap.size ≤ gb101)); have n3_ := Aside0.mk ((by rw [hg]; exact (below_size (by repeat (first | (with_reducible first | exact HB.out | apply below_alloc | apply pw_below_drewN | apply below_drew1) | exact HB.out))) : w.heap.size ≤ gb101)); clear HB; have HB := n0_; have BK101 := n1_; have GW101 := n2_; have GE101 := n3_; clear n0_ n1_ n2_ n3_; clear hb hbox hg; (try have hu101_0 : w3.cell? ⟨gb101, 0, none⟩ = some (.int .i64 a0_0) := (blk_cell BK101.out 0).trans rfl); (try have hu101_1 : w3.cell? ⟨gb101, 1, none⟩ = some (.int .i64 a0_1) := (blk_cell BK101.out 1).trans rfl); (try have hu101_2 : w3.cell? ⟨gb101, 2, none⟩ = some (.int .i64 a0_2) := (blk_cell BK101.out 2).trans rfl); (try have hv101_0 := blk_frozen BK101.out 0); (try have hv101_1 := blk_frozen BK101.out 1); (try have hv101_2 := blk_frozen BK101.out 2))))
 (try simp only [Act.put, List.setIfInBounds_toArray, List.set_cons_zero, List.set_cons_succ])
 go_cut [28] (fun v28 wc => ∃ (kq : Nat) (x28_1 : Bool), v28 = .bool x28_1 ∧ Aside0 (civil_Number.j0 kq x28_1 a0_0 a0_1 a0_2 = some (r1, r2)) ∧ Aside0 (kq ≤ k) ∧ Aside0 (wc.heap[gb101]? = some (.cells #[.int .i64 a0_0, .int .i64 a0_1, .int .i64 a0_2] 115 (0, 0))) ∧ Aside0 (Below w.heap.size w wc))
 case first =>
  have H := HC2.out
  clear HC2
  by_cases c4 : a0_0 < 1900
  ·rw [if_pos c4] at H
   have c4b0 : decide (a0_0 < 1900) = true := decide_eq_true c4
   clear c4
   (first | rw [c4b0] | (simp only [i64_w, i32_w]; rw [c4b0]) | skip)
   have H' := Aside0.mk H
   clear H
   have hcz5_0 : w3.cell? ⟨gb101, 0, none⟩ = some (.int .i64 a0_0) := (blk_cell BK101.out 0).trans rfl
   have hcz5_1 : w3.cell? ⟨gb101, 1, none⟩ = some (.int .i64 a0_1) := (blk_cell BK101.out 1).trans rfl
   have hcz5_2 : w3.cell? ⟨gb101, 2, none⟩ = some (.int .i64 a0_2) := (blk_cell BK101.out 2).trans rfl
   have hfz5_0 := blk_frozen BK101.out 0
   have hfz5_1 := blk_frozen BK101.out 1
   have hfz5_2 := blk_frozen BK101.out 2
   go_wp2
   repeat (go_quiet (fail); try go_wp2)
   go_meet
   case rel => exact ⟨_, (true), (by first | rfl | (simp; done) | (simp [*]; done)), H', ⟨by first | omega | exact Nat.le_refl _⟩, ⟨by (with_reducible repeat (first | refine blk_drewN ?_ _ | refine blk_drew ?_ | refine blk_alloc ?_ _)); exact BK101.out⟩, ⟨by repeat (first | (with_reducible first | exact HB.out | apply below_alloc | apply pw_below_drewN | apply below_drew1 | refine below_set ?_ GE101.out) | exact HB.out)⟩⟩
  ·rw [if_neg c4] at H
   have c4b0 : decide (a0_0 < 1900) = false := decide_eq_false c4
   clear c4
   (first | rw [c4b0] | (simp only [i64_w, i32_w]; rw [c4b0]) | skip)
   by_cases c6 : a0_0 > 2200
   ·rw [if_pos c6] at H
    have c6b0 : decide (2200 < a0_0) = true := decide_eq_true c6
    clear c6
    have H' := Aside0.mk H
    clear H
    have hcz7_0 : w3.cell? ⟨gb101, 0, none⟩ = some (.int .i64 a0_0) := (blk_cell BK101.out 0).trans rfl
    have hcz7_1 : w3.cell? ⟨gb101, 1, none⟩ = some (.int .i64 a0_1) := (blk_cell BK101.out 1).trans rfl
    have hcz7_2 : w3.cell? ⟨gb101, 2, none⟩ = some (.int .i64 a0_2) := (blk_cell BK101.out 2).trans rfl
    have hfz7_0 := blk_frozen BK101.out 0
    have hfz7_1 := blk_frozen BK101.out 1
    have hfz7_2 := blk_frozen BK101.out 2
    go_wp2
    repeat (go_quiet (fail); try go_wp2)
    go_meet
    case rel => exact ⟨_, (true), (by first | rfl | (simp; done) | (simp [*]; done)), H', ⟨by first | omega | exact Nat.le_refl _⟩, ⟨by (with_reducible repeat (first | refine blk_drewN ?_ _ | refine blk_drew ?_ | refine blk_alloc ?_ _)); exact BK101.out⟩, ⟨by repeat (first | (with_reducible first | exact HB.out | apply below_alloc | apply pw_below_drewN | apply below_drew1 | refine below_set ?_ GE101.out) | exact HB.out)⟩⟩
   ·rw [if_neg c6] at H
    have c6b0 : decide (2200 < a0_0) = false := decide_eq_false c6
    clear c6
    by_cases c8 : a0_2 < 1
    ·rw [if_pos c8] at H
     have c8b0 : decide (a0_2 < 1) = true := decide_eq_true c8
     clear c8
     have H' := Aside0.mk H
     clear H
     have hcz9_0 : w3.cell? ⟨gb101, 0, none⟩ = some (.int .i64 a0_0) := (blk_cell BK101.out 0).trans rfl
     have hcz9_1 : w3.cell? ⟨gb101, 1, none⟩ = some (.int .i64 a0_1) := (blk_cell BK101.out 1).trans rfl
     have hcz9_2 : w3.cell? ⟨gb101, 2, none⟩ = some (.int .i64 a0_2) := (blk_cell BK101.out 2).trans rfl
     have hfz9_0 := blk_frozen BK101.out 0
     have hfz9_1 := blk_frozen BK101.out 1
     have hfz9_2 := blk_frozen BK101.out 2
     go_wp2
     repeat (go_quiet (fail); try go_wp2)
     go_meet
     case rel => exact ⟨_, (true), (by first | rfl | (simp; done) | (simp [*]; done)), H', ⟨by first | omega | exact Nat.le_refl _⟩, ⟨by (with_reducible repeat (first | refine blk_drewN ?_ _ | refine blk_drew ?_ | refine blk_alloc ?_ _)); exact BK101.out⟩, ⟨by repeat (first | (with_reducible first | exact HB.out | apply below_alloc | apply pw_below_drewN | apply below_drew1 | refine below_set ?_ GE101.out) | exact HB.out)⟩⟩
    ·rw [if_neg c8] at H
     have c8b0 : decide (a0_2 < 1) = false := decide_eq_false c8
     clear c8
     replace H := Option.bind_eq_some_iff.mp H
     obtain ⟨t102, A100, H⟩ := H
     replace H : (civil_Number.j0 k (decide (a0_2 > t102)) a0_0 a0_1 a0_2) = some (r1, r2) := H
     have A10 := Aside0.mk A100
     clear A100
     have H' := Aside0.mk H
     clear H
     have hcz11_0 : w3.cell? ⟨gb101, 0, none⟩ = some (.int .i64 a0_0) := (blk_cell BK101.out 0).trans rfl
     have hcz11_1 : w3.cell? ⟨gb101, 1, none⟩ = some (.int .i64 a0_1) := (blk_cell BK101.out 1).trans rfl
     have hcz11_2 : w3.cell? ⟨gb101, 2, none⟩ = some (.int .i64 a0_2) := (blk_cell BK101.out 2).trans rfl
     have hfz11_0 := blk_frozen BK101.out 0
     have hfz11_1 := blk_frozen BK101.out 1
     have hfz11_2 := blk_frozen BK101.out 2
     go_wp2_with (first | (go_at_call 106; (with_reducible refine (Go.Proofs.Ytbbbjjfecblhpaa.H.civil_Month.calls a0_0 a0_1 t102 _ A10.out).mono ?_); rintro e w' ⟨rfl, ⟨nd, rfl⟩⟩; (try first | exact ⟨rfl, _, World.drewN_drewN _ _ _⟩ | exact ⟨rfl, _, Eq.trans (World.drewN_drewN _ _ _) (congrArg (World.drewN _) (Nat.add_assoc _ _ _))⟩)))
     repeat (go_quiet (first | (go_at_call 106; (with_reducible refine (Go.Proofs.Ytbbbjjfecblhpaa.H.civil_Month.calls a0_0 a0_1 t102 _ A10.out).mono ?_); rintro e w' ⟨rfl, ⟨nd, rfl⟩⟩; (try first | exact ⟨rfl, _, World.drewN_drewN _ _ _⟩ | exact ⟨rfl, _, Eq.trans (World.drewN_drewN _ _ _) (congrArg (World.drewN _) (Nat.add_assoc _ _ _))⟩))); try go_wp2_with (first | (go_at_call 106; (with_reducible refine (Go.Proofs.Ytbbbjjfecblhpaa.H.civil_Month.calls a0_0 a0_1 t102 _ A10.out).mono ?_); rintro e w' ⟨rfl, ⟨nd, rfl⟩⟩; (try first | exact ⟨rfl, _, World.drewN_drewN _ _ _⟩ | exact ⟨rfl, _, Eq.trans (World.drewN_drewN _ _ _) (congrArg (World.drewN _) (Nat.add_assoc _ _ _))⟩))))
     go_meet
     case rel => exact ⟨_, (decide (a0_2 > t102)), (by first | rfl | (simp; done) | (simp [*]; done)), H', ⟨by first | omega | exact Nat.le_refl _⟩, ⟨by (with_reducible repeat (first | refine blk_drewN ?_ _ | refine blk_drew ?_ | refine blk_alloc ?_ _)); exact BK101.out⟩, ⟨by repeat (first | (with_reducible first | exact HB.out | apply below_alloc | apply pw_below_drewN | apply below_drew1 | refine below_set ?_ GE101.out) | exact HB.out)⟩⟩
 case rest =>
  clear HC2
  try clear c1
  try clear p2
  try clear c4
  try clear c4b0
  try clear c6
  try clear c6b0
  try clear c8
  try clear c8b0
  try clear c10
  try clear hcz11_0
  try clear hcz11_1
  try clear hcz11_2
  try clear hcz5_0
  try clear hcz5_1
  try clear hcz5_2
  try clear hcz7_0
  try clear hcz7_1
  try clear hcz7_2
  try clear hcz9_0
  try clear hcz9_1
  try clear hcz9_2
  try clear hfz11_0
  try clear hfz11_1
  try clear hfz11_2
  try clear hfz5_0
  try clear hfz5_1
  try clear hfz5_2
  try clear hfz7_0
  try clear hfz7_1
  try clear hfz7_2
  try clear hfz9_0
  try clear hfz9_1
  try clear hfz9_2
  obtain ⟨kq, x28_1, rfl, HA, HJ1, BK101, HB⟩ := hcut
  cases kq with
  | zero => exact absurd HA.out (by simp [civil_Number.j0])
  | succ kj1 =>
   have H := HA.out
   clear HA
   simp only [civil_Number.j0] at H
   by_cases c12 : x28_1 = true
   ·subst c12
    have H1 : (some (0, 5)) = some (r1, r2) := by rw [if_pos rfl] at H; exact H
    clear H
    have H := H1
    clear H1
    simp only [Option.some.injEq, Prod.mk.injEq] at H
    obtain ⟨rfl, rfl⟩ := H
    go_wp2
    repeat (go_quiet (fail); try go_wp2)
    go_ret2
    exact ⟨by first | rfl | (simp [errW_none, errW_some] <;> rfl) | (simp [*, errW_none, errW_some] <;> rfl), by repeat (first | (with_reducible first | exact HB.out | apply below_alloc | apply pw_below_drewN | apply below_drew1 | refine below_set ?_ GE101.out) | exact HB.out)⟩
   ·replace c12 := Bool.eq_false_iff.mpr c12
    subst c12
    have H1 : ((Go.Proofs.Ytbbbjjfecblhpaa.H.civil_Opens.f a0_0).bind fun t103 => (civil_Number.l0 kj1 (wrap64 ((wrap64 (t103 + a0_2)) - 1)) 1 a0_0 a0_1 a0_2)) = some (r1, r2) := by rw [if_neg (show ¬ (false = true) by decide)] at H; exact H
    clear H
    have H := H1
    clear H1
    replace H := Option.bind_eq_some_iff.mp H
    obtain ⟨t103, A130, H⟩ := H
    replace H : (civil_Number.l0 kj1 (wrap64 ((wrap64 (t103 + a0_2)) - 1)) 1 a0_0 a0_1 a0_2) = some (r1, r2) := H
    have A13 := Aside0.mk A130
    clear A130
    have H' := Aside0.mk H
    clear H
    have hcz14_0 : wc.cell? ⟨gb101, 0, none⟩ = some (.int .i64 a0_0) := (blk_cell BK101.out 0).trans rfl
    have hcz14_1 : wc.cell? ⟨gb101, 1, none⟩ = some (.int .i64 a0_1) := (blk_cell BK101.out 1).trans rfl
    have hcz14_2 : wc.cell? ⟨gb101, 2, none⟩ = some (.int .i64 a0_2) := (blk_cell BK101.out 2).trans rfl
    have hfz14_0 := blk_frozen BK101.out 0
    have hfz14_1 := blk_frozen BK101.out 1
    have hfz14_2 := blk_frozen BK101.out 2
    go_wp2_with (first | (go_at_call 98; (with_reducible refine (Go.Proofs.Ytbbbjjfecblhpaa.H.civil_Opens.calls a0_0 t103 _ A13.out).mono ?_); rintro e w' ⟨rfl, ⟨nd, rfl⟩⟩; (try first | exact ⟨rfl, _, World.drewN_drewN _ _ _⟩ | exact ⟨rfl, _, Eq.trans (World.drewN_drewN _ _ _) (congrArg (World.drewN _) (Nat.add_assoc _ _ _))⟩)))
    repeat (go_quiet (first | (go_at_call 98; (with_reducible refine (Go.Proofs.Ytbbbjjfecblhpaa.H.civil_Opens.calls a0_0 t103 _ A13.out).mono ?_); rintro e w' ⟨rfl, ⟨nd, rfl⟩⟩; (try first | exact ⟨rfl, _, World.drewN_drewN _ _ _⟩ | exact ⟨rfl, _, Eq.trans (World.drewN_drewN _ _ _) (congrArg (World.drewN _) (Nat.add_assoc _ _ _))⟩))); try go_wp2_with (first | (go_at_call 98; (with_reducible refine (Go.Proofs.Ytbbbjjfecblhpaa.H.civil_Opens.calls a0_0 t103 _ A13.out).mono ?_); rintro e w' ⟨rfl, ⟨nd, rfl⟩⟩; (try first | exact ⟨rfl, _, World.drewN_drewN _ _ _⟩ | exact ⟨rfl, _, Eq.trans (World.drewN_drewN _ _ _) (congrArg (World.drewN _) (Nat.add_assoc _ _ _))⟩))))
    go_loopg [4, 5] kj1 (fun kq v4 v5 w' => ∃ (x4_2 : Int) (x5_2 : Int), v4 = .int .i64 x4_2 ∧ v5 = .int .i64 x5_2 ∧ Aside0 (civil_Number.l0 kq x4_2 x5_2 a0_0 a0_1 a0_2 = some (r1, r2)) ∧ Aside0 (kq ≤ kj1) ∧ Aside0 (w'.heap[gb101]? = some (.cells #[.int .i64 a0_0, .int .i64 a0_1, .int .i64 a0_2] 115 (0, 0))) ∧ Aside0 (Below w.heap.size w w'))
    case atStart => exact ⟨(wrap64 ((wrap64 (t103 + a0_2)) - 1)), (1), (by first | rfl | (simp; done) | (simp [*]; done)), (by first | rfl | (simp; done) | (simp [*]; done)), H', ⟨Nat.le_refl _⟩, ⟨by (with_reducible repeat (first | refine blk_drewN ?_ _ | refine blk_drew ?_ | refine blk_alloc ?_ _)); exact BK101.out⟩, ⟨by repeat (first | (with_reducible first | exact HB.out | apply below_alloc | apply pw_below_drewN | apply below_drew1 | refine below_set ?_ GE101.out) | exact HB.out)⟩⟩
    case round =>
     clear H'
     try clear c1
     try clear p2
     try clear c4
     try clear c4b0
     try clear c6
     try clear c6b0
     try clear p6
     try clear c8
     try clear c8b0
     try clear c10
     try clear c12
     try clear hcz11_0
     try clear hcz11_1
     try clear hcz11_2
     try clear hcz14_0
     try clear hcz14_1
     try clear hcz14_2
     try clear hcz5_0
     try clear hcz5_1
     try clear hcz5_2
     try clear hcz7_0
     try clear hcz7_1
     try clear hcz7_2
     try clear hcz9_0
     try clear hcz9_1
     try clear hcz9_2
     try clear hfz11_0
     try clear hfz11_1
     try clear hfz11_2
     try clear hfz14_0
     try clear hfz14_1
     try clear hfz14_2
     try clear hfz5_0
     try clear hfz5_1
     try clear hfz5_2
     try clear hfz7_0
     try clear hfz7_1
     try clear hfz7_2
     try clear hfz9_0
     try clear hfz9_1
     try clear hfz9_2
     try clear p2
     obtain ⟨x4_2, x5_2, rfl, rfl, HA, HK2, BK101, HB⟩ := hrel
     cases gk with
     | zero => exact absurd HA.out (by simp [civil_Number.l0])
     | succ k2 =>
      have H := HA.out
      clear HA
      simp only [civil_Number.l0] at H
      by_cases c15 : x5_2 < a0_1
      ·rw [if_pos c15] at H
       have c15b0 : decide (x5_2 < a0_1) = true := decide_eq_true c15
       clear c15
       replace H := Option.bind_eq_some_iff.mp H
       obtain ⟨t104, A160, H⟩ := H
       replace H : (civil_Number.l0 k2 (wrap64 (x4_2 + t104)) (wrap64 (x5_2 + 1)) a0_0 a0_1 a0_2) = some (r1, r2) := H
       have A16 := Aside0.mk A160
       clear A160
       have H' := Aside0.mk H
       clear H
       have hcz17_0 : wr.cell? ⟨gb101, 0, none⟩ = some (.int .i64 a0_0) := (blk_cell BK101.out 0).trans rfl
       have hcz17_1 : wr.cell? ⟨gb101, 1, none⟩ = some (.int .i64 a0_1) := (blk_cell BK101.out 1).trans rfl
       have hcz17_2 : wr.cell? ⟨gb101, 2, none⟩ = some (.int .i64 a0_2) := (blk_cell BK101.out 2).trans rfl
       have hfz17_0 := blk_frozen BK101.out 0
       have hfz17_1 := blk_frozen BK101.out 1
       have hfz17_2 := blk_frozen BK101.out 2
       go_wp2_with (first | (go_at_call 106; (with_reducible refine (Go.Proofs.Ytbbbjjfecblhpaa.H.civil_Month.calls a0_0 x5_2 t104 _ A16.out).mono ?_); rintro e w' ⟨rfl, ⟨nd, rfl⟩⟩; (try first | exact ⟨rfl, _, World.drewN_drewN _ _ _⟩ | exact ⟨rfl, _, Eq.trans (World.drewN_drewN _ _ _) (congrArg (World.drewN _) (Nat.add_assoc _ _ _))⟩)))
       repeat (go_quiet (first | (go_at_call 106; (with_reducible refine (Go.Proofs.Ytbbbjjfecblhpaa.H.civil_Month.calls a0_0 x5_2 t104 _ A16.out).mono ?_); rintro e w' ⟨rfl, ⟨nd, rfl⟩⟩; (try first | exact ⟨rfl, _, World.drewN_drewN _ _ _⟩ | exact ⟨rfl, _, Eq.trans (World.drewN_drewN _ _ _) (congrArg (World.drewN _) (Nat.add_assoc _ _ _))⟩))); try go_wp2_with (first | (go_at_call 106; (with_reducible refine (Go.Proofs.Ytbbbjjfecblhpaa.H.civil_Month.calls a0_0 x5_2 t104 _ A16.out).mono ?_); rintro e w' ⟨rfl, ⟨nd, rfl⟩⟩; (try first | exact ⟨rfl, _, World.drewN_drewN _ _ _⟩ | exact ⟨rfl, _, Eq.trans (World.drewN_drewN _ _ _) (congrArg (World.drewN _) (Nat.add_assoc _ _ _))⟩))))
       go_roundg k2
       case measure => have := HJ1.out; have := HK2.out; omega
       case rel => exact ⟨(wrap64 (x4_2 + t104)), (wrap64 (x5_2 + 1)), (by first | rfl | (simp; done) | (simp [*]; done)), (by first | rfl | (simp; done) | (simp [*]; done)), H', ⟨by have := HJ1.out; have := HK2.out; omega⟩, ⟨by (with_reducible repeat (first | refine blk_drewN ?_ _ | refine blk_drew ?_ | refine blk_alloc ?_ _)); exact BK101.out⟩, ⟨by repeat (first | (with_reducible first | exact HB.out | apply below_alloc | apply pw_below_drewN | apply below_drew1 | refine below_set ?_ GE101.out) | exact HB.out)⟩⟩
      ·rw [if_neg c15] at H
       have c15b0 : decide (x5_2 < a0_1) = false := decide_eq_false c15
       clear c15
       simp only [Option.some.injEq, Prod.mk.injEq] at H
       obtain ⟨rfl, rfl⟩ := H
       have hcz18_0 : wr.cell? ⟨gb101, 0, none⟩ = some (.int .i64 a0_0) := (blk_cell BK101.out 0).trans rfl
       have hcz18_1 : wr.cell? ⟨gb101, 1, none⟩ = some (.int .i64 a0_1) := (blk_cell BK101.out 1).trans rfl
       have hcz18_2 : wr.cell? ⟨gb101, 2, none⟩ = some (.int .i64 a0_2) := (blk_cell BK101.out 2).trans rfl
       have hfz18_0 := blk_frozen BK101.out 0
       have hfz18_1 := blk_frozen BK101.out 1
       have hfz18_2 := blk_frozen BK101.out 2
       go_wp2
       repeat (go_quiet (fail); try go_wp2)
       go_ret2
       exact ⟨by first | rfl | (simp [errW_none, errW_some] <;> rfl) | (simp [*, errW_none, errW_some] <;> rfl), by repeat (first | (with_reducible first | exact HB.out | apply below_alloc | apply pw_below_drewN | apply below_drew1 | refine below_set ?_ GE101.out) | exact HB.out)⟩
/-! ### civil_Date: function 96 -/
mutual
def civil_Date.j0 : Nat → Int → Bool → Option (Int × Int × Int × Int)
 | 0, _, _ => none
 | k + 1, x0, x12 => if x12 = true then (some (0, 0, 0, 5)) else (civil_Date.l0 k x0 (wrap64 (1900 + (wrap64 (Int.tdiv (wrap64 (x0 + 25567)) 366)))))
def civil_Date.j2 : Nat → Int → Int → Option (Int × Int × Int × Int)
 | 0, _, _ => none
 | k + 1, x0, x4 => (Go.Proofs.Ytbbbjjfecblhpaa.H.civil_Opens.f x4).bind fun t107 => (civil_Date.l1 k x4 (wrap64 (x0 - t107)) 1)
def civil_Date.l1 : Nat → Int → Int → Int → Option (Int × Int × Int × Int)
 | 0, _, _, _ => none
 | k + 1, x4, x5, x6 => (Go.Proofs.Ytbbbjjfecblhpaa.H.civil_Month.f x4 x6).bind fun t108 => (if x5 ≥ t108 then ((Go.Proofs.Ytbbbjjfecblhpaa.H.civil_Month.f x4 x6).bind fun t109 => (civil_Date.l1 k x4 (wrap64 (x5 - t109)) (wrap64 (x6 + 1)))) else (some (x4, x6, wrap64 (x5 + 1), 0)))
def civil_Date.l0 : Nat → Int → Int → Option (Int × Int × Int × Int)
 | 0, _, _ => none
 | k + 1, x0, x4 => if x4 < 2200 then ((Go.Proofs.Ytbbbjjfecblhpaa.H.civil_Opens.f (wrap64 (x4 + 1))).bind fun t106 => (if t106 ≤ x0 then (civil_Date.l0 k x0 (wrap64 (x4 + 1))) else (civil_Date.j2 k x0 x4))) else (civil_Date.j2 k x0 x4)
end
def civil_Date.f (k : Nat) (a0 : Int) : Option (Int × Int × Int × Int) := if a0 < (-25567) then (civil_Date.j0 k a0 true) else (civil_Date.j0 k a0 (decide (a0 > 84370)))
theorem civil_Date.mono_l : ∀ k, (∀ y0 y1, LeO (civil_Date.j0 k y0 y1) (civil_Date.j0 (k + 1) y0 y1)) ∧ (∀ y0 y1, LeO (civil_Date.j2 k y0 y1) (civil_Date.j2 (k + 1) y0 y1)) ∧ (∀ y0 y1 y2, LeO (civil_Date.l1 k y0 y1 y2) (civil_Date.l1 (k + 1) y0 y1 y2)) ∧ (∀ y0 y1, LeO (civil_Date.l0 k y0 y1) (civil_Date.l0 (k + 1) y0 y1))
 | 0 => ⟨fun _ _ r h => by simp [civil_Date.j0] at h, fun _ _ r h => by simp [civil_Date.j2] at h, fun _ _ _ r h => by simp [civil_Date.l1] at h, fun _ _ r h => by simp [civil_Date.l0] at h⟩
 | k + 1 => by
  obtain ⟨ih0, ih1, ih2, ih3⟩ := civil_Date.mono_l k
  refine ⟨?_, ?_, ?_, ?_⟩
  ·intro y0 y1
   unfold civil_Date.j0
   repeat' first
   | (with_reducible exact ih0 _ _)
   | (with_reducible exact ih1 _ _)
   | (with_reducible exact ih2 _ _ _)
   | (with_reducible exact ih3 _ _)
   | (with_reducible exact LeO.refl _)
   | (with_reducible exact LeO.none _)
   | (with_reducible refine LeO.ite ?_ ?_)
   | (with_reducible refine LeO.bind ?_ (fun _ => ?_))
   | exact ih0 _ _
   | exact ih1 _ _
   | exact ih2 _ _ _
   | exact ih3 _ _
   | exact LeO.none _
   | refine LeO.ite ?_ ?_
   | refine LeO.bind ?_ (fun _ => ?_)
  ·intro y0 y1
   unfold civil_Date.j2
   repeat' first
   | (with_reducible exact ih0 _ _)
   | (with_reducible exact ih1 _ _)
   | (with_reducible exact ih2 _ _ _)
   | (with_reducible exact ih3 _ _)
   | (with_reducible exact LeO.refl _)
   | (with_reducible exact LeO.none _)
   | (with_reducible refine LeO.ite ?_ ?_)
   | (with_reducible refine LeO.bind ?_ (fun _ => ?_))
   | exact ih0 _ _
   | exact ih1 _ _
   | exact ih2 _ _ _
   | exact ih3 _ _
   | exact LeO.none _
   | refine LeO.ite ?_ ?_
   | refine LeO.bind ?_ (fun _ => ?_)
  ·intro y0 y1 y2
   unfold civil_Date.l1
   repeat' first
   | (with_reducible exact ih0 _ _)
   | (with_reducible exact ih1 _ _)
   | (with_reducible exact ih2 _ _ _)
   | (with_reducible exact ih3 _ _)
   | (with_reducible exact LeO.refl _)
   | (with_reducible exact LeO.none _)
   | (with_reducible refine LeO.ite ?_ ?_)
   | (with_reducible refine LeO.bind ?_ (fun _ => ?_))
   | exact ih0 _ _
   | exact ih1 _ _
   | exact ih2 _ _ _
   | exact ih3 _ _
   | exact LeO.none _
   | refine LeO.ite ?_ ?_
   | refine LeO.bind ?_ (fun _ => ?_)
  ·intro y0 y1
   unfold civil_Date.l0
   repeat' first
   | (with_reducible exact ih0 _ _)
   | (with_reducible exact ih1 _ _)
   | (with_reducible exact ih2 _ _ _)
   | (with_reducible exact ih3 _ _)
   | (with_reducible exact LeO.refl _)
   | (with_reducible exact LeO.none _)
   | (with_reducible refine LeO.ite ?_ ?_)
   | (with_reducible refine LeO.bind ?_ (fun _ => ?_))
   | exact ih0 _ _
   | exact ih1 _ _
   | exact ih2 _ _ _
   | exact ih3 _ _
   | exact LeO.none _
   | refine LeO.ite ?_ ?_
   | refine LeO.bind ?_ (fun _ => ?_)
theorem civil_Date.mono : ∀ a0 k, LeO (civil_Date.f k a0) (civil_Date.f (k + 1) a0) := by
 intro a0 k
 obtain ⟨ih0, ih1, ih2, ih3⟩ := civil_Date.mono_l k
 unfold civil_Date.f
 repeat' first
   | (with_reducible exact ih0 _ _)
   | (with_reducible exact ih1 _ _)
   | (with_reducible exact ih2 _ _ _)
   | (with_reducible exact ih3 _ _)
   | (with_reducible exact LeO.refl _)
   | (with_reducible exact LeO.none _)
   | (with_reducible refine LeO.ite ?_ ?_)
   | (with_reducible refine LeO.bind ?_ (fun _ => ?_))
   | exact ih0 _ _
   | exact ih1 _ _
   | exact ih2 _ _ _
   | exact ih3 _ _
   | exact LeO.none _
   | refine LeO.ite ?_ ?_
   | refine LeO.bind ?_ (fun _ => ?_)
set_option maxHeartbeats 8000000 in
set_option maxRecDepth 100000 in
theorem civil_Date.calls (k : Nat) (a0 : Int) (r1 : Int) (r2 : Int) (r3 : Int) (r4 : Int) (w : World) (h : civil_Date.f k a0 = some (r1, r2, r3, r4)) :
  Calls Try.prog 96 #[.int .i64 a0] w fun e w' => e = .returned (.tuple #[.agg #[.int .i64 r1, .int .i64 r2, .int .i64 r3], .int .i64 r4]) ∧ Below w.heap.size w w' := by
 have hu115 := Try.underlying115
 have HB := Aside0.mk (Below.refl w.heap.size w)
 have H : (if a0 < (-25567) then (civil_Date.j0 k a0 true) else (civil_Date.j0 k a0 (decide (a0 > 84370)))) = some (r1, r2, r3, r4) := h
 clear h
 have HC2 := Aside0.mk H
 clear H
 go_enter Try.func96, Try.ntmps96
 go_upto_region 1 with (first | ((with_reducible refine gate_dst (N := 2) rfl ?_); refine box_event ?hg (N := 2) ?hd (cs := #[.int .i64 0, .int .i64 0, .int .i64 0]) (t := 115) ?hr ?_; (case hd => rfl); (case hg => rfl); (case hr => first | (go_simp; done) | (go_simp; rfl)); intro gb105 hg w3 hbox hb; have n0_ := Aside0.mk (below_step (by repeat (first | (with_reducible first | exact HB.out | apply below_alloc | apply pw_below_drewN | apply below_drew1) | exact HB.out)) hb); have n1_ := Aside0.mk (hbox); have n2_ := Aside0.mk ((by rw [hg]; exact (below_size (by repeat (first | (with_reducible first | exact HB.out | apply below_alloc | apply pw_below_drewN | apply below_drew1) | exact HB.out))) : w.heap.size ≤ gb105)); have n3_ := Aside0.mk ((by rw [hg]; exact (below_size (by repeat (first | (with_reducible first | exact HB.out | apply below_alloc | apply pw_below_drewN | apply below_drew1) | exact HB.out))) : w.heap.size ≤ gb105)); clear HB; have HB := n0_; have BK105 := n1_; have GW105 := n2_; have GE105 := n3_; clear n0_ n1_ n2_ n3_; clear hb hbox hg; (try have hu105_0 : w3.cell? ⟨gb105, 0, none⟩ = some (.int .i64 0) := (blk_cell BK105.out 0).trans rfl); (try have hu105_1 : w3.cell? ⟨gb105, 1, none⟩ = some (.int .i64 0) := (blk_cell BK105.out 1).trans rfl); (try have hu105_2 : w3.cell? ⟨gb105, 2, none⟩ = some (.int .i64 0) := (blk_cell BK105.out 2).trans rfl); (try have hv105_0 := blk_frozen BK105.out 0); (try have hv105_1 := blk_frozen BK105.out 1); (try have hv105_2 := blk_frozen BK105.out 2)))
 (try simp only [Act.put, List.setIfInBounds_toArray, List.set_cons_zero, List.set_cons_succ])
 go_cut [12] (fun v12 wc => ∃ (kq : Nat) (x12_1 : Bool), v12 = .bool x12_1 ∧ Aside0 (civil_Date.j0 kq a0 x12_1 = some (r1, r2, r3, r4)) ∧ Aside0 (kq ≤ k) ∧ Aside0 (wc.heap[gb105]? = some (.cells #[.int .i64 0, .int .i64 0, .int .i64 0] 115 (0, 0))) ∧ Aside0 (Below w.heap.size w wc))
 case first =>
  have H := HC2.out
  clear HC2
  by_cases c4 : a0 < (-25567)
  ·rw [if_pos c4] at H
   have c4b0 : decide (a0 < (-25567)) = true := decide_eq_true c4
   clear c4
   (first | rw [c4b0] | (simp only [i64_w, i32_w]; rw [c4b0]) | skip)
   have H' := Aside0.mk H
   clear H
   go_wp2
   go_meet
   case rel => exact ⟨_, (true), (by first | rfl | (simp; done) | (simp [*]; done)), H', ⟨by first | omega | exact Nat.le_refl _⟩, ⟨by (with_reducible repeat (first | refine blk_drewN ?_ _ | refine blk_drew ?_ | refine blk_alloc ?_ _)); exact BK105.out⟩, ⟨by repeat (first | (with_reducible first | exact HB.out | apply below_alloc | apply pw_below_drewN | apply below_drew1 | refine below_set ?_ GE105.out) | exact HB.out)⟩⟩
  ·rw [if_neg c4] at H
   have c4b0 : decide (a0 < (-25567)) = false := decide_eq_false c4
   clear c4
   (first | rw [c4b0] | (simp only [i64_w, i32_w]; rw [c4b0]) | skip)
   have H' := Aside0.mk H
   clear H
   go_wp2
   go_meet
   case rel => exact ⟨_, (decide (a0 > 84370)), (by first | rfl | (simp; done) | (simp [*]; done)), H', ⟨by first | omega | exact Nat.le_refl _⟩, ⟨by (with_reducible repeat (first | refine blk_drewN ?_ _ | refine blk_drew ?_ | refine blk_alloc ?_ _)); exact BK105.out⟩, ⟨by repeat (first | (with_reducible first | exact HB.out | apply below_alloc | apply pw_below_drewN | apply below_drew1 | refine below_set ?_ GE105.out) | exact HB.out)⟩⟩
 case rest =>
  clear HC2
  try clear p2
  try clear c4
  try clear c4b0
  obtain ⟨kq, x12_1, rfl, HA, HJ1, BK105, HB⟩ := hcut
  cases kq with
  | zero => exact absurd HA.out (by simp [civil_Date.j0])
  | succ kj1 =>
   have H := HA.out
   clear HA
   simp only [civil_Date.j0] at H
   by_cases c5 : x12_1 = true
   ·subst c5
    have H1 : (some (0, 0, 0, 5)) = some (r1, r2, r3, r4) := by rw [if_pos rfl] at H; exact H
    clear H
    have H := H1
    clear H1
    simp only [Option.some.injEq, Prod.mk.injEq] at H
    obtain ⟨rfl, rfl, rfl, rfl⟩ := H
    have hcz6_0 : wc.cell? ⟨gb105, 0, none⟩ = some (.int .i64 0) := (blk_cell BK105.out 0).trans rfl
    have hcz6_1 : wc.cell? ⟨gb105, 1, none⟩ = some (.int .i64 0) := (blk_cell BK105.out 1).trans rfl
    have hcz6_2 : wc.cell? ⟨gb105, 2, none⟩ = some (.int .i64 0) := (blk_cell BK105.out 2).trans rfl
    have hfz6_0 := blk_frozen BK105.out 0
    have hfz6_1 := blk_frozen BK105.out 1
    have hfz6_2 := blk_frozen BK105.out 2
    go_wp2
    refine bodyPost_ret (results_ct rfl _ _ gb105 115 #[.int .i64 0, .int .i64 0, .int .i64 0] (0, 0) _ rfl (by (with_reducible repeat (first | refine blk_drewN ?_ _ | refine blk_drew ?_ | refine blk_alloc ?_ _)); refine blk_put (cs := #[.int .i64 0, .int .i64 0, .int .i64 0]) ?_ 2 _ rfl; (with_reducible repeat (first | refine blk_drewN ?_ _ | refine blk_drew ?_ | refine blk_alloc ?_ _)); refine blk_put (cs := #[.int .i64 0, .int .i64 0, .int .i64 0]) ?_ 1 _ rfl; (with_reducible repeat (first | refine blk_drewN ?_ _ | refine blk_drew ?_ | refine blk_alloc ?_ _)); refine blk_put (cs := #[.int .i64 0, .int .i64 0, .int .i64 0]) ?_ 0 _ rfl; (with_reducible repeat (first | refine blk_drewN ?_ _ | refine blk_drew ?_ | refine blk_alloc ?_ _)); exact BK105.out) Try.underlying115 rfl (by kernel_rfl)) rfl ?_
    exact ⟨by first | rfl | (simp [errW_none, errW_some] <;> rfl) | (simp [*, errW_none, errW_some] <;> rfl), by repeat (first | (with_reducible first | exact HB.out | apply below_alloc | apply pw_below_drewN | apply below_drew1 | refine below_set ?_ GE105.out) | exact HB.out)⟩
   ·replace c5 := Bool.eq_false_iff.mpr c5
    subst c5
    have H1 : (civil_Date.l0 kj1 a0 (wrap64 (1900 + (wrap64 (Int.tdiv (wrap64 (a0 + 25567)) 366))))) = some (r1, r2, r3, r4) := by rw [if_neg (show ¬ (false = true) by decide)] at H; exact H
    clear H
    have H := H1
    clear H1
    have HC7 := Aside0.mk H
    clear H
    go_upto_block 0 with (fail)
    go_cut [4] (fun v4 wc => ∃ (kq : Nat) (x4_6 : Int), v4 = .int .i64 x4_6 ∧ Aside0 (civil_Date.j2 kq a0 x4_6 = some (r1, r2, r3, r4)) ∧ Aside0 (kq ≤ kj1) ∧ Aside0 (wc.heap[gb105]? = some (.cells #[.int .i64 0, .int .i64 0, .int .i64 0] 115 (0, 0))) ∧ Aside0 (Below w.heap.size w wc))
    case first =>
     have H := HC7.out
     clear HC7
     have H' := Aside0.mk H
     clear H
     go_wp2
     go_loopg [4] kj1 (fun kq v4 w' => ∃ (x4_2 : Int), v4 = .int .i64 x4_2 ∧ Aside0 (civil_Date.l0 kq a0 x4_2 = some (r1, r2, r3, r4)) ∧ Aside0 (kq ≤ kj1) ∧ Aside0 (w'.heap[gb105]? = some (.cells #[.int .i64 0, .int .i64 0, .int .i64 0] 115 (0, 0))) ∧ Aside0 (Below w.heap.size w w'))
     case atStart => exact ⟨(wrap64 (1900 + (wrap64 (Int.tdiv (wrap64 (a0 + 25567)) 366)))), (by first | rfl | (simp; done) | (simp [*]; done)), H', ⟨Nat.le_refl _⟩, ⟨by (with_reducible repeat (first | refine blk_drewN ?_ _ | refine blk_drew ?_ | refine blk_alloc ?_ _)); exact BK105.out⟩, ⟨by repeat (first | (with_reducible first | exact HB.out | apply below_alloc | apply pw_below_drewN | apply below_drew1 | refine below_set ?_ GE105.out) | exact HB.out)⟩⟩
     case round =>
      clear H'
      try clear p2
      try clear c4
      try clear c4b0
      try clear c5
      try clear p6
      try clear hcz6_0
      try clear hcz6_1
      try clear hcz6_2
      try clear hfz6_0
      try clear hfz6_1
      try clear hfz6_2
      try clear p2
      obtain ⟨x4_2, rfl, HA, HK2, BK105, HB⟩ := hrel
      cases gk with
      | zero => exact absurd HA.out (by simp [civil_Date.l0])
      | succ k2 =>
       have H := HA.out
       clear HA
       simp only [civil_Date.l0] at H
       by_cases c8 : x4_2 < 2200
       ·rw [if_pos c8] at H
        have c8b0 : decide (x4_2 < 2200) = true := decide_eq_true c8
        clear c8
        (first | rw [c8b0] | (simp only [i64_w, i32_w]; rw [c8b0]) | skip)
        replace H := Option.bind_eq_some_iff.mp H
        obtain ⟨t106, A90, H⟩ := H
        replace H : (if t106 ≤ a0 then (civil_Date.l0 k2 a0 (wrap64 (x4_2 + 1))) else (civil_Date.j2 k2 a0 x4_2)) = some (r1, r2, r3, r4) := H
        have A9 := Aside0.mk A90
        clear A90
        by_cases c10 : t106 ≤ a0
        ·rw [if_pos c10] at H
         have c10b0 : decide (t106 ≤ a0) = true := decide_eq_true c10
         clear c10
         have H' := Aside0.mk H
         clear H
         go_wp2_with (first | (go_at_call 98; (with_reducible refine (Go.Proofs.Ytbbbjjfecblhpaa.H.civil_Opens.calls (wrap64 (x4_2 + 1)) t106 _ A9.out).mono ?_); rintro e w' ⟨rfl, ⟨nd, rfl⟩⟩))
         go_roundg k2
         case measure => have := HJ1.out; have := HK2.out; omega
         case rel => exact ⟨(wrap64 (x4_2 + 1)), (by first | rfl | (simp; done) | (simp [*]; done)), H', ⟨by have := HJ1.out; have := HK2.out; omega⟩, ⟨by (with_reducible repeat (first | refine blk_drewN ?_ _ | refine blk_drew ?_ | refine blk_alloc ?_ _)); exact BK105.out⟩, ⟨by repeat (first | (with_reducible first | exact HB.out | apply below_alloc | apply pw_below_drewN | apply below_drew1 | refine below_set ?_ GE105.out) | exact HB.out)⟩⟩
        ·rw [if_neg c10] at H
         have c10b0 : decide (t106 ≤ a0) = false := decide_eq_false c10
         clear c10
         have H' := Aside0.mk H
         clear H
         go_wp2_with (first | (go_at_call 98; (with_reducible refine (Go.Proofs.Ytbbbjjfecblhpaa.H.civil_Opens.calls (wrap64 (x4_2 + 1)) t106 _ A9.out).mono ?_); rintro e w' ⟨rfl, ⟨nd, rfl⟩⟩))
         go_meet
         case rel => exact ⟨_, (x4_2), (by first | rfl | (simp; done) | (simp [*]; done)), H', ⟨by have := HJ1.out; have := HK2.out; first | omega | exact Nat.le_refl _⟩, ⟨by (with_reducible repeat (first | refine blk_drewN ?_ _ | refine blk_drew ?_ | refine blk_alloc ?_ _)); exact BK105.out⟩, ⟨by repeat (first | (with_reducible first | exact HB.out | apply below_alloc | apply pw_below_drewN | apply below_drew1 | refine below_set ?_ GE105.out) | exact HB.out)⟩⟩
       ·rw [if_neg c8] at H
        have c8b0 : decide (x4_2 < 2200) = false := decide_eq_false c8
        clear c8
        (first | rw [c8b0] | (simp only [i64_w, i32_w]; rw [c8b0]) | skip)
        have H' := Aside0.mk H
        clear H
        go_wp2
        go_meet
        case rel => exact ⟨_, (x4_2), (by first | rfl | (simp; done) | (simp [*]; done)), H', ⟨by have := HJ1.out; have := HK2.out; first | omega | exact Nat.le_refl _⟩, ⟨by (with_reducible repeat (first | refine blk_drewN ?_ _ | refine blk_drew ?_ | refine blk_alloc ?_ _)); exact BK105.out⟩, ⟨by repeat (first | (with_reducible first | exact HB.out | apply below_alloc | apply pw_below_drewN | apply below_drew1 | refine below_set ?_ GE105.out) | exact HB.out)⟩⟩
    case rest =>
     clear HC7
     try clear c1
     try clear p2
     try clear c4
     try clear c4b0
     try clear c5
     try clear p6
     try clear c8
     try clear c8b0
     try clear c9
     try clear c10
     try clear c10b0
     try clear hcz6_0
     try clear hcz6_1
     try clear hcz6_2
     try clear hfz6_0
     try clear hfz6_1
     try clear hfz6_2
     try clear p2
     try clear p6
     obtain ⟨kq, x4_6, rfl, HA, HJ6, BK105, HB⟩ := hcut
     cases kq with
     | zero => exact absurd HA.out (by simp [civil_Date.j2])
     | succ kj6 =>
      have H := HA.out
      clear HA
      simp only [civil_Date.j2] at H
      replace H := Option.bind_eq_some_iff.mp H
      obtain ⟨t107, A110, H⟩ := H
      replace H : (civil_Date.l1 kj6 x4_6 (wrap64 (a0 - t107)) 1) = some (r1, r2, r3, r4) := H
      have A11 := Aside0.mk A110
      clear A110
      have H' := Aside0.mk H
      clear H
      go_wp2_with (first | ((with_reducible refine gate_callee (f := 98) rfl ?_); refine goesL_ (some 31) rfl rfl Try.func98 (by kernel_rfl) rfl #[.int .i64 x4_6] rfl (by (try simp only [List.map_toArray, List.map_cons, List.map_nil]); first | done | rfl | (simp only [List.length_drop, List.length_take]; rfl)) ?_; (with_reducible refine (Go.Proofs.Ytbbbjjfecblhpaa.H.civil_Opens.calls x4_6 t107 _ A11.out).mono ?_); rintro e w' ⟨rfl, ⟨nd, rfl⟩⟩; refine ⟨_, rfl, ?_⟩))
      go_loopg [5, 6] kj6 (fun kq v5 v6 w' => ∃ (x5_3 : Int) (x6_3 : Int), v5 = .int .i64 x5_3 ∧ v6 = .int .i64 x6_3 ∧ Aside0 (civil_Date.l1 kq x4_6 x5_3 x6_3 = some (r1, r2, r3, r4)) ∧ Aside0 (kq ≤ kj6) ∧ Aside0 (w'.heap[gb105]? = some (.cells #[.int .i64 0, .int .i64 0, .int .i64 0] 115 (0, 0))) ∧ Aside0 (Below w.heap.size w w'))
      case atStart => exact ⟨(wrap64 (a0 - t107)), (1), (by first | rfl | (simp; done) | (simp [*]; done)), (by first | rfl | (simp; done) | (simp [*]; done)), H', ⟨Nat.le_refl _⟩, ⟨by (with_reducible repeat (first | refine blk_drewN ?_ _ | refine blk_drew ?_ | refine blk_alloc ?_ _)); exact BK105.out⟩, ⟨by repeat (first | (with_reducible first | exact HB.out | apply below_alloc | apply pw_below_drewN | apply below_drew1 | refine below_set ?_ GE105.out) | exact HB.out)⟩⟩
      case round =>
       clear H'
       try clear c1
       try clear p2
       try clear c4
       try clear c4b0
       try clear c5
       try clear p6
       try clear c8
       try clear c8b0
       try clear c9
       try clear c10
       try clear c10b0
       try clear hcz6_0
       try clear hcz6_1
       try clear hcz6_2
       try clear hfz6_0
       try clear hfz6_1
       try clear hfz6_2
       try clear p2
       try clear p6
       obtain ⟨x5_3, x6_3, rfl, rfl, HA, HK3, BK105, HB⟩ := hrel
       cases gk with
       | zero => exact absurd HA.out (by simp [civil_Date.l1])
       | succ k3 =>
        have H := HA.out
        clear HA
        simp only [civil_Date.l1] at H
        replace H := Option.bind_eq_some_iff.mp H
        obtain ⟨t108, A120, H⟩ := H
        replace H : (if x5_3 ≥ t108 then ((Go.Proofs.Ytbbbjjfecblhpaa.H.civil_Month.f x4_6 x6_3).bind fun t109 => (civil_Date.l1 k3 x4_6 (wrap64 (x5_3 - t109)) (wrap64 (x6_3 + 1)))) else (some (x4_6, x6_3, wrap64 (x5_3 + 1), 0))) = some (r1, r2, r3, r4) := H
        have A12 := Aside0.mk A120
        clear A120
        by_cases c13 : x5_3 ≥ t108
        ·rw [if_pos c13] at H
         have c13b0 : decide (t108 ≤ x5_3) = true := decide_eq_true c13
         clear c13
         replace H := Option.bind_eq_some_iff.mp H
         obtain ⟨t109, A140, H⟩ := H
         replace H : (civil_Date.l1 k3 x4_6 (wrap64 (x5_3 - t109)) (wrap64 (x6_3 + 1))) = some (r1, r2, r3, r4) := H
         have A14 := Aside0.mk A140
         clear A140
         have H' := Aside0.mk H
         clear H
         go_wp2_with (first | ((with_reducible refine gate_callee (f := 106) rfl ?_); refine goesL_ (some 36) rfl rfl Try.func106 (by kernel_rfl) rfl #[.int .i64 x4_6, .int .i64 x6_3] rfl (by (try simp only [List.map_toArray, List.map_cons, List.map_nil]); first | done | rfl | (simp only [List.length_drop, List.length_take]; rfl)) ?_; (with_reducible refine (Go.Proofs.Ytbbbjjfecblhpaa.H.civil_Month.calls x4_6 x6_3 t108 _ A12.out).mono ?_); rintro e w' ⟨rfl, ⟨nd, rfl⟩⟩; refine ⟨_, rfl, ?_⟩) | ((with_reducible refine gate_callee (f := 106) rfl ?_); refine goesL_ (some 41) rfl rfl Try.func106 (by kernel_rfl) rfl #[.int .i64 x4_6, .int .i64 x6_3] rfl (by (try simp only [List.map_toArray, List.map_cons, List.map_nil]); first | done | rfl | (simp only [List.length_drop, List.length_take]; rfl)) ?_; (with_reducible refine (Go.Proofs.Ytbbbjjfecblhpaa.H.civil_Month.calls x4_6 x6_3 t109 _ A14.out).mono ?_); rintro e w' ⟨rfl, ⟨nd, rfl⟩⟩; refine ⟨_, rfl, ?_⟩))
         go_roundg k3
         case measure => have := HJ1.out; have := HJ6.out; have := HK3.out; omega
         case rel => exact ⟨(wrap64 (x5_3 - t109)), (wrap64 (x6_3 + 1)), (by first | rfl | (simp; done) | (simp [*]; done)), (by first | rfl | (simp; done) | (simp [*]; done)), H', ⟨by have := HJ1.out; have := HJ6.out; have := HK3.out; omega⟩, ⟨by (with_reducible repeat (first | refine blk_drewN ?_ _ | refine blk_drew ?_ | refine blk_alloc ?_ _)); exact BK105.out⟩, ⟨by repeat (first | (with_reducible first | exact HB.out | apply below_alloc | apply pw_below_drewN | apply below_drew1 | refine below_set ?_ GE105.out) | exact HB.out)⟩⟩
        ·rw [if_neg c13] at H
         have c13b0 : decide (t108 ≤ x5_3) = false := decide_eq_false c13
         clear c13
         simp only [Option.some.injEq, Prod.mk.injEq] at H
         obtain ⟨rfl, rfl, rfl, rfl⟩ := H
         go_wp2_with (first | ((with_reducible refine gate_callee (f := 106) rfl ?_); refine goesL_ (some 36) rfl rfl Try.func106 (by kernel_rfl) rfl #[.int .i64 x4_6, .int .i64 x6_3] rfl (by (try simp only [List.map_toArray, List.map_cons, List.map_nil]); first | done | rfl | (simp only [List.length_drop, List.length_take]; rfl)) ?_; (with_reducible refine (Go.Proofs.Ytbbbjjfecblhpaa.H.civil_Month.calls x4_6 x6_3 t108 _ A12.out).mono ?_); rintro e w' ⟨rfl, ⟨nd, rfl⟩⟩; refine ⟨_, rfl, ?_⟩; (try (rw [drewN_self wr]; generalize hq_ : World.drewN wr _ = wr; have n0_ : Aside0 (wr.heap[gb105]? = some (.cells #[.int .i64 0, .int .i64 0, .int .i64 0] 115 (0, 0))) := ⟨by rw [← hq_]; exact (by (with_reducible repeat (first | refine blk_drewN ?_ _ | refine blk_drew ?_ | refine blk_alloc ?_ _)); exact BK105.out)⟩; have n1_ : Aside0 (Below w.heap.size w wr) := ⟨by rw [← hq_]; exact (by repeat (first | (with_reducible first | exact HB.out | apply below_alloc | apply pw_below_drewN | apply below_drew1 | refine below_set ?_ GE105.out) | exact HB.out))⟩; clear BK105 HB hq_; have BK105 := n0_; have HB := n1_; clear n0_ n1_)); (try have hu105_0 : wr.cell? ⟨gb105, 0, none⟩ = some (.int .i64 0) := (blk_cell BK105.out 0).trans rfl); (try have hu105_1 : wr.cell? ⟨gb105, 1, none⟩ = some (.int .i64 0) := (blk_cell BK105.out 1).trans rfl); (try have hu105_2 : wr.cell? ⟨gb105, 2, none⟩ = some (.int .i64 0) := (blk_cell BK105.out 2).trans rfl); (try have hv105_0 := blk_frozen BK105.out 0); (try have hv105_1 := blk_frozen BK105.out 1); (try have hv105_2 := blk_frozen BK105.out 2); have hcz15_0 : wr.cell? ⟨gb105, 0, none⟩ = some (.int .i64 0) := (blk_cell BK105.out 0).trans rfl; have hcz15_1 : wr.cell? ⟨gb105, 1, none⟩ = some (.int .i64 0) := (blk_cell BK105.out 1).trans rfl; have hcz15_2 : wr.cell? ⟨gb105, 2, none⟩ = some (.int .i64 0) := (blk_cell BK105.out 2).trans rfl; have hfz15_0 := blk_frozen BK105.out 0; have hfz15_1 := blk_frozen BK105.out 1; have hfz15_2 := blk_frozen BK105.out 2))
         refine bodyPost_ret (results_ct rfl _ _ gb105 115 #[.int .i64 x4_6, .int .i64 x6_3, .int .i64 (wrap64 (x5_3 + 1))] (0, 0) _ rfl (by (with_reducible repeat (first | refine blk_drewN ?_ _ | refine blk_drew ?_ | refine blk_alloc ?_ _)); refine blk_put (cs := #[.int .i64 x4_6, .int .i64 x6_3, .int .i64 0]) ?_ 2 _ rfl; (with_reducible repeat (first | refine blk_drewN ?_ _ | refine blk_drew ?_ | refine blk_alloc ?_ _)); refine blk_put (cs := #[.int .i64 x4_6, .int .i64 0, .int .i64 0]) ?_ 1 _ rfl; (with_reducible repeat (first | refine blk_drewN ?_ _ | refine blk_drew ?_ | refine blk_alloc ?_ _)); refine blk_put (cs := #[.int .i64 0, .int .i64 0, .int .i64 0]) ?_ 0 _ rfl; (with_reducible repeat (first | refine blk_drewN ?_ _ | refine blk_drew ?_ | refine blk_alloc ?_ _)); exact BK105.out) Try.underlying115 rfl (by kernel_rfl)) rfl ?_
         exact ⟨by first | rfl | (simp [errW_none, errW_some] <;> rfl) | (simp [*, errW_none, errW_some] <;> rfl), by repeat (first | (with_reducible first | exact HB.out | apply below_alloc | apply pw_below_drewN | apply below_drew1 | refine below_set ?_ GE105.out) | exact HB.out)⟩
end Go.Proofs.Ytbbbjjfecblhpaa.PB
namespace Go.Proofs.Ytbbbjjfecblhpaa.PB
open Go.RowKit Go.Proofs.YtbbbjjfecblhpaaW.PrintWords Go.Proofs.YtbbbjjfecblhpaaW.PrintLast Go.Proofs.YtbbbjjfecblhpaaW.PrintMore Go.Proofs.Ytbbbjjfecblhpaa.HW
attribute [local go_sem] run_makeFunc_ max2_int min2_int max_two min_two max_three min_three max_four min_four   -- for this text's walks alone
set_option linter.unusedVariables false
set_option linter.unusedSimpArgs false
/-! ### quittanceref03_Number: function 92 -/
mutual
def quittanceref03_Number.j0 : Nat → Bool → Int → Int → Int → Option (Int × Int)
 | 0, _, _, _, _ => none
 | k + 1, x28, x111000, x111001, x111002 => if x28 = true then (some (0, 5)) else ((Go.Proofs.Ytbbbjjfecblhpaa.H.quittanceref03_before.f x111000).bind fun t112 => (quittanceref03_Number.l0 k (wrap64 ((wrap64 ((wrap64 ((-25567) + t112)) + x111002)) - 1)) 1 x111000 x111001 x111002))
def quittanceref03_Number.l0 : Nat → Int → Int → Int → Int → Int → Option (Int × Int)
 | 0, _, _, _, _, _ => none
 | k + 1, x4, x5, x111000, x111001, x111002 => if x5 < x111001 then ((Go.Proofs.Ytbbbjjfecblhpaa.H.quittanceref03_Month.f x111000 x5).bind fun t113 => (quittanceref03_Number.l0 k (wrap64 (x4 + t113)) (wrap64 (x5 + 1)) x111000 x111001 x111002)) else (some (x4, 0))
end
def quittanceref03_Number.f (k : Nat) (a0_0 : Int) (a0_1 : Int) (a0_2 : Int) : Option (Int × Int) := if a0_0 < 1900 then (quittanceref03_Number.j0 k true a0_0 a0_1 a0_2) else (if a0_0 > 2200 then (quittanceref03_Number.j0 k true a0_0 a0_1 a0_2) else (if a0_2 < 1 then (quittanceref03_Number.j0 k true a0_0 a0_1 a0_2) else ((Go.Proofs.Ytbbbjjfecblhpaa.H.quittanceref03_Month.f a0_0 a0_1).bind fun t111 => (quittanceref03_Number.j0 k (decide (a0_2 > t111)) a0_0 a0_1 a0_2))))
theorem quittanceref03_Number.mono_l : ∀ k, (∀ y0 y1 y2 y3, LeO (quittanceref03_Number.j0 k y0 y1 y2 y3) (quittanceref03_Number.j0 (k + 1) y0 y1 y2 y3)) ∧ (∀ y0 y1 y2 y3 y4, LeO (quittanceref03_Number.l0 k y0 y1 y2 y3 y4) (quittanceref03_Number.l0 (k + 1) y0 y1 y2 y3 y4))
 | 0 => ⟨fun _ _ _ _ r h => by simp [quittanceref03_Number.j0] at h, fun _ _ _ _ _ r h => by simp [quittanceref03_Number.l0] at h⟩
 | k + 1 => by
  obtain ⟨ih0, ih1⟩ := quittanceref03_Number.mono_l k
  refine ⟨?_, ?_⟩
  ·intro y0 y1 y2 y3
   unfold quittanceref03_Number.j0
   repeat' first
   | (with_reducible exact ih0 _ _ _ _)
   | (with_reducible exact ih1 _ _ _ _ _)
   | (with_reducible exact LeO.refl _)
   | (with_reducible exact LeO.none _)
   | (with_reducible refine LeO.ite ?_ ?_)
   | (with_reducible refine LeO.bind ?_ (fun _ => ?_))
   | exact ih0 _ _ _ _
   | exact ih1 _ _ _ _ _
   | exact LeO.none _
   | refine LeO.ite ?_ ?_
   | refine LeO.bind ?_ (fun _ => ?_)
  ·intro y0 y1 y2 y3 y4
   unfold quittanceref03_Number.l0
   repeat' first
   | (with_reducible exact ih0 _ _ _ _)
   | (with_reducible exact ih1 _ _ _ _ _)
   | (with_reducible exact LeO.refl _)
   | (with_reducible exact LeO.none _)
   | (with_reducible refine LeO.ite ?_ ?_)
   | (with_reducible refine LeO.bind ?_ (fun _ => ?_))
   | exact ih0 _ _ _ _
   | exact ih1 _ _ _ _ _
   | exact LeO.none _
   | refine LeO.ite ?_ ?_
   | refine LeO.bind ?_ (fun _ => ?_)
theorem quittanceref03_Number.mono : ∀ a0 a1 a2 k, LeO (quittanceref03_Number.f k a0 a1 a2) (quittanceref03_Number.f (k + 1) a0 a1 a2) := by
 intro a0 a1 a2 k
 obtain ⟨ih0, ih1⟩ := quittanceref03_Number.mono_l k
 unfold quittanceref03_Number.f
 repeat' first
   | (with_reducible exact ih0 _ _ _ _)
   | (with_reducible exact ih1 _ _ _ _ _)
   | (with_reducible exact LeO.refl _)
   | (with_reducible exact LeO.none _)
   | (with_reducible refine LeO.ite ?_ ?_)
   | (with_reducible refine LeO.bind ?_ (fun _ => ?_))
   | exact ih0 _ _ _ _
   | exact ih1 _ _ _ _ _
   | exact LeO.none _
   | refine LeO.ite ?_ ?_
   | refine LeO.bind ?_ (fun _ => ?_)
set_option maxHeartbeats 8000000 in
set_option maxRecDepth 100000 in
theorem quittanceref03_Number.calls (k : Nat) (a0_0 : Int) (a0_1 : Int) (a0_2 : Int) (r1 : Int) (r2 : Int) (w : World) (h : quittanceref03_Number.f k a0_0 a0_1 a0_2 = some (r1, r2)) :
  Calls Try.prog 92 #[.agg #[.int .i64 a0_0, .int .i64 a0_1, .int .i64 a0_2]] w fun e w' => e = .returned (.tuple #[.int .i64 r1, .int .i64 r2]) ∧ Below w.heap.size w w' := by
 have hu115 := Try.underlying115
 have HB := Aside0.mk (Below.refl w.heap.size w)
 have H : (if a0_0 < 1900 then (quittanceref03_Number.j0 k true a0_0 a0_1 a0_2) else (if a0_0 > 2200 then (quittanceref03_Number.j0 k true a0_0 a0_1 a0_2) else (if a0_2 < 1 then (quittanceref03_Number.j0 k true a0_0 a0_1 a0_2) else ((Go.Proofs.Ytbbbjjfecblhpaa.H.quittanceref03_Month.f a0_0 a0_1).bind fun t111 => (quittanceref03_Number.j0 k (decide (a0_2 > t111)) a0_0 a0_1 a0_2))))) = some (r1, r2) := h
 clear h
 have HC2 := Aside0.mk H
 clear H
 go_enter Try.func92, Try.ntmps92
 go_upto_region 1 with (first | ((with_reducible refine gate_dst (N := 1) rfl ?_); refine box_event ?hg (N := 1) ?hd (cs := #[.int .i64 a0_0, .int .i64 a0_1, .int .i64 a0_2]) (t := 115) ?hr ?_; (case hd => rfl); (case hg => rfl); (case hr => first | (go_simp; done) | (go_simp; rfl)); intro gb110 hg w3 hbox hb; have n0_ := Aside0.mk (below_step (by repeat (first | (with_reducible first | exact HB.out | apply below_alloc | apply pw_below_drewN | apply below_drew1) | exact HB.out)) hb); have n1_ := Aside0.mk (hbox); have n2_ := Aside0.mk ((by rw [hg]; exact (below_size (by repeat (first | (with_reducible first | exact HB.out | apply below_alloc | apply pw_below_drewN | apply below_drew1) | exact HB.out))) : w.heap.size ≤ gb110)); have n3_ := Aside0.mk ((by rw [hg]; exact (below_size (by repeat (first | (with_reducible first | exact HB.out | apply below_alloc | apply pw_below_drewN | apply below_drew1) | exact HB.out))) : w.heap.size ≤ gb110)); clear HB; have HB := n0_; have BK110 := n1_; have GW110 := n2_; have GE110 := n3_; clear n0_ n1_ n2_ n3_; clear hb hbox hg; (try have hu110_0 : w3.cell? ⟨gb110, 0, none⟩ = some (.int .i64 a0_0) := (blk_cell BK110.out 0).trans rfl); (try have hu110_1 : w3.cell? ⟨gb110, 1, none⟩ = some (.int .i64 a0_1) := (blk_cell BK110.out 1).trans rfl); (try have hu110_2 : w3.cell? ⟨gb110, 2, none⟩ = some (.int .i64 a0_2) := (blk_cell BK110.out 2).trans rfl); (try have hv110_0 := blk_frozen BK110.out 0); (try have hv110_1 := blk_frozen BK110.out 1); (try have hv110_2 := blk_frozen BK110.out 2)))
 repeat (go_quiet (first | ((with_reducible refine gate_dst (N := 1) rfl ?_); refine box_event ?hg (N := 1) ?hd (cs := #[.int .i64 a0_0, .int .i64 a0_1, .int .i64 a0_2]) (t := 115) ?hr ?_; (case hd => rfl); (case hg => rfl); (case hr => first | (go_simp; done) | (go_simp; rfl)); intro gb110 hg w3 hbox hb; have n0_ := Aside0.mk (below_step (by repeat (first | (with_reducible first | exact HB.out | apply below_alloc | apply pw_below_drewN | apply below_drew1) | exact HB.out)) hb); have n1_ := Aside0.mk (hbox); have n2_ := Aside0.mk ((by rw [hg]; exact (below_size (by repeat (first | (with_reducible first | exact HB.out | apply below_alloc | apply pw_below_drewN | apply below_drew1) | exact HB.out))) : w.heap.size ≤ gb110)); have n3_ := Aside0.mk ((by rw [hg]; exact (below_size (by repeat (first | (with_reducible first | exact HB.out | apply below_alloc | apply pw_below_drewN | apply below_drew1) | exact HB.out))) : w.heap.size ≤ gb110)); clear HB; have HB := n0_; have BK110 := n1_; have GW110 := n2_; have GE110 := n3_; clear n0_ n1_ n2_ n3_; clear hb hbox hg; (try have hu110_0 : w3.cell? ⟨gb110, 0, none⟩ = some (.int .i64 a0_0) := (blk_cell BK110.out 0).trans rfl); (try have hu110_1 : w3.cell? ⟨gb110, 1, none⟩ = some (.int .i64 a0_1) := (blk_cell BK110.out 1).trans rfl); (try have hu110_2 : w3.cell? ⟨gb110, 2, none⟩ = some (.int .i64 a0_2) := (blk_cell BK110.out 2).trans rfl); (try have hv110_0 := blk_frozen BK110.out 0); (try have hv110_1 := blk_frozen BK110.out 1); (try have hv110_2 := blk_frozen BK110.out 2))); go_upto_region 1 with (first | ((with_reducible refine gate_dst (N := 1) rfl ?_); refine box_event ?hg (N := 1) ?hd (cs := #[.int .i64 a0_0, .int .i64 a0_1, .int .i64 a0_2]) (t := 115) ?hr ?_; (case hd => rfl); (case hg => rfl); (case hr => first | (go_simp; done) | (go_simp; rfl)); intro gb110 hg w3 hbox hb; have n0_ := Aside0.mk (below_step (by repeat (first | (with_reducible first | exact HB.out | apply below_alloc | apply pw_below_drewN | apply below_drew1) | exact HB.out)) hb); have n1_ := Aside0.mk (hbox); have n2_ := Aside0.mk ((by rw [hg]; exact (below_size (by repeat (first | (with_reducible first | exact HB.out | apply below_alloc | apply pw_below_drewN | apply below_drew1) | exact HB.out))) : w.heap.size ≤ gb110)); have n3_ := Aside0.mk ((by rw [hg]; exact (below_size (by repeat (first | (with_reducible first | exact HB.out | apply below_alloc | apply pw_below_drewN | apply below_drew1) | exact HB.out))) : w.heap.size ≤ gb110)); clear HB; have HB := n0_; have BK110 := n1_; have GW110 := n2_; have GE110 := n3_; clear n0_ n1_ n2_ n3_; clear hb hbox hg; (try have hu110_0 : w3.cell? ⟨gb110, 0, none⟩ = some (.int .i64 a0_0) := (blk_cell BK110.out 0).trans rfl); (try have hu110_1 : w3.cell? ⟨gb110, 1, none⟩ = some (.int .i64 a0_1) := (blk_cell BK110.out 1).trans rfl); (try have hu110_2 : w3.cell? ⟨gb110, 2, none⟩ = some (.int .i64 a0_2) := (blk_cell BK110.out 2).trans rfl); (try have hv110_0 := blk_frozen BK110.out 0); (try have hv110_1 := blk_frozen BK110.out 1); (try have hv110_2 := blk_frozen BK110.out 2))))
 (try simp only [Act.put, List.setIfInBounds_toArray, List.set_cons_zero, List.set_cons_succ])
 go_cut [28] (fun v28 wc => ∃ (kq : Nat) (x28_1 : Bool), v28 = .bool x28_1 ∧ Aside0 (quittanceref03_Number.j0 kq x28_1 a0_0 a0_1 a0_2 = some (r1, r2)) ∧ Aside0 (kq ≤ k) ∧ Aside0 (wc.heap[gb110]? = some (.cells #[.int .i64 a0_0, .int .i64 a0_1, .int .i64 a0_2] 115 (0, 0))) ∧ Aside0 (Below w.heap.size w wc))
 case first =>
  have H := HC2.out
  clear HC2
  by_cases c4 : a0_0 < 1900
  ·rw [if_pos c4] at H
   have c4b0 : decide (a0_0 < 1900) = true := decide_eq_true c4
   clear c4
   (first | rw [c4b0] | (simp only [i64_w, i32_w]; rw [c4b0]) | skip)
   have H' := Aside0.mk H
   clear H
   have hcz5_0 : w3.cell? ⟨gb110, 0, none⟩ = some (.int .i64 a0_0) := (blk_cell BK110.out 0).trans rfl
   have hcz5_1 : w3.cell? ⟨gb110, 1, none⟩ = some (.int .i64 a0_1) := (blk_cell BK110.out 1).trans rfl
   have hcz5_2 : w3.cell? ⟨gb110, 2, none⟩ = some (.int .i64 a0_2) := (blk_cell BK110.out 2).trans rfl
   have hfz5_0 := blk_frozen BK110.out 0
   have hfz5_1 := blk_frozen BK110.out 1
   have hfz5_2 := blk_frozen BK110.out 2
   go_wp2
   repeat (go_quiet (fail); try go_wp2)
   go_meet
   case rel => exact ⟨_, (true), (by first | rfl | (simp; done) | (simp [*]; done)), H', ⟨by first | omega | exact Nat.le_refl _⟩, ⟨by (with_reducible repeat (first | refine blk_drewN ?_ _ | refine blk_drew ?_ | refine blk_alloc ?_ _)); exact BK110.out⟩, ⟨by repeat (first | (with_reducible first | exact HB.out | apply below_alloc | apply pw_below_drewN | apply below_drew1 | refine below_set ?_ GE110.out) | exact HB.out)⟩⟩
  ·rw [if_neg c4] at H
   have c4b0 : decide (a0_0 < 1900) = false := decide_eq_false c4
   clear c4
   (first | rw [c4b0] | (simp only [i64_w, i32_w]; rw [c4b0]) | skip)
   by_cases c6 : a0_0 > 2200
   ·rw [if_pos c6] at H
    have c6b0 : decide (2200 < a0_0) = true := decide_eq_true c6
    clear c6
    have H' := Aside0.mk H
    clear H
    have hcz7_0 : w3.cell? ⟨gb110, 0, none⟩ = some (.int .i64 a0_0) := (blk_cell BK110.out 0).trans rfl
    have hcz7_1 : w3.cell? ⟨gb110, 1, none⟩ = some (.int .i64 a0_1) := (blk_cell BK110.out 1).trans rfl
    have hcz7_2 : w3.cell? ⟨gb110, 2, none⟩ = some (.int .i64 a0_2) := (blk_cell BK110.out 2).trans rfl
    have hfz7_0 := blk_frozen BK110.out 0
    have hfz7_1 := blk_frozen BK110.out 1
    have hfz7_2 := blk_frozen BK110.out 2
    go_wp2
    repeat (go_quiet (fail); try go_wp2)
    go_meet
    case rel => exact ⟨_, (true), (by first | rfl | (simp; done) | (simp [*]; done)), H', ⟨by first | omega | exact Nat.le_refl _⟩, ⟨by (with_reducible repeat (first | refine blk_drewN ?_ _ | refine blk_drew ?_ | refine blk_alloc ?_ _)); exact BK110.out⟩, ⟨by repeat (first | (with_reducible first | exact HB.out | apply below_alloc | apply pw_below_drewN | apply below_drew1 | refine below_set ?_ GE110.out) | exact HB.out)⟩⟩
   ·rw [if_neg c6] at H
    have c6b0 : decide (2200 < a0_0) = false := decide_eq_false c6
    clear c6
    by_cases c8 : a0_2 < 1
    ·rw [if_pos c8] at H
     have c8b0 : decide (a0_2 < 1) = true := decide_eq_true c8
     clear c8
     have H' := Aside0.mk H
     clear H
     have hcz9_0 : w3.cell? ⟨gb110, 0, none⟩ = some (.int .i64 a0_0) := (blk_cell BK110.out 0).trans rfl
     have hcz9_1 : w3.cell? ⟨gb110, 1, none⟩ = some (.int .i64 a0_1) := (blk_cell BK110.out 1).trans rfl
     have hcz9_2 : w3.cell? ⟨gb110, 2, none⟩ = some (.int .i64 a0_2) := (blk_cell BK110.out 2).trans rfl
     have hfz9_0 := blk_frozen BK110.out 0
     have hfz9_1 := blk_frozen BK110.out 1
     have hfz9_2 := blk_frozen BK110.out 2
     go_wp2
     repeat (go_quiet (fail); try go_wp2)
     go_meet
     case rel => exact ⟨_, (true), (by first | rfl | (simp; done) | (simp [*]; done)), H', ⟨by first | omega | exact Nat.le_refl _⟩, ⟨by (with_reducible repeat (first | refine blk_drewN ?_ _ | refine blk_drew ?_ | refine blk_alloc ?_ _)); exact BK110.out⟩, ⟨by repeat (first | (with_reducible first | exact HB.out | apply below_alloc | apply pw_below_drewN | apply below_drew1 | refine below_set ?_ GE110.out) | exact HB.out)⟩⟩
    ·rw [if_neg c8] at H
     have c8b0 : decide (a0_2 < 1) = false := decide_eq_false c8
     clear c8
     replace H := Option.bind_eq_some_iff.mp H
     obtain ⟨t111, A100, H⟩ := H
     replace H : (quittanceref03_Number.j0 k (decide (a0_2 > t111)) a0_0 a0_1 a0_2) = some (r1, r2) := H
     have A10 := Aside0.mk A100
     clear A100
     have H' := Aside0.mk H
     clear H
     have hcz11_0 : w3.cell? ⟨gb110, 0, none⟩ = some (.int .i64 a0_0) := (blk_cell BK110.out 0).trans rfl
     have hcz11_1 : w3.cell? ⟨gb110, 1, none⟩ = some (.int .i64 a0_1) := (blk_cell BK110.out 1).trans rfl
     have hcz11_2 : w3.cell? ⟨gb110, 2, none⟩ = some (.int .i64 a0_2) := (blk_cell BK110.out 2).trans rfl
     have hfz11_0 := blk_frozen BK110.out 0
     have hfz11_1 := blk_frozen BK110.out 1
     have hfz11_2 := blk_frozen BK110.out 2
     go_wp2_with (first | (go_at_call 93; (with_reducible refine (Go.Proofs.Ytbbbjjfecblhpaa.H.quittanceref03_Month.calls a0_0 a0_1 t111 _ A10.out).mono ?_); rintro e w' ⟨rfl, ⟨nd, rfl⟩⟩; (try first | exact ⟨rfl, _, World.drewN_drewN _ _ _⟩ | exact ⟨rfl, _, Eq.trans (World.drewN_drewN _ _ _) (congrArg (World.drewN _) (Nat.add_assoc _ _ _))⟩)))
     repeat (go_quiet (first | (go_at_call 93; (with_reducible refine (Go.Proofs.Ytbbbjjfecblhpaa.H.quittanceref03_Month.calls a0_0 a0_1 t111 _ A10.out).mono ?_); rintro e w' ⟨rfl, ⟨nd, rfl⟩⟩; (try first | exact ⟨rfl, _, World.drewN_drewN _ _ _⟩ | exact ⟨rfl, _, Eq.trans (World.drewN_drewN _ _ _) (congrArg (World.drewN _) (Nat.add_assoc _ _ _))⟩))); try go_wp2_with (first | (go_at_call 93; (with_reducible refine (Go.Proofs.Ytbbbjjfecblhpaa.H.quittanceref03_Month.calls a0_0 a0_1 t111 _ A10.out).mono ?_); rintro e w' ⟨rfl, ⟨nd, rfl⟩⟩; (try first | exact ⟨rfl, _, World.drewN_drewN _ _ _⟩ | exact ⟨rfl, _, Eq.trans (World.drewN_drewN _ _ _) (congrArg (World.drewN _) (Nat.add_assoc _ _ _))⟩))))
     go_meet
     case rel => exact ⟨_, (decide (a0_2 > t111)), (by first | rfl | (simp; done) | (simp [*]; done)), H', ⟨by first | omega | exact Nat.le_refl _⟩, ⟨by (with_reducible repeat (first | refine blk_drewN ?_ _ | refine blk_drew ?_ | refine blk_alloc ?_ _)); exact BK110.out⟩, ⟨by repeat (first | (with_reducible first | exact HB.out | apply below_alloc | apply pw_below_drewN | apply below_drew1 | refine below_set ?_ GE110.out) | exact HB.out)⟩⟩
 case rest =>
  clear HC2
  try clear p2
  try clear c4
  try clear c4b0
  try clear c6
  try clear c6b0
  try clear c8
  try clear c8b0
  try clear c9
  try clear hcz11_0
  try clear hcz11_1
  try clear hcz11_2
  try clear hcz5_0
  try clear hcz5_1
  try clear hcz5_2
  try clear hcz7_0
  try clear hcz7_1
  try clear hcz7_2
  try clear hcz9_0
  try clear hcz9_1
  try clear hcz9_2
  try clear hfz11_0
  try clear hfz11_1
  try clear hfz11_2
  try clear hfz5_0
  try clear hfz5_1
  try clear hfz5_2
  try clear hfz7_0
  try clear hfz7_1
  try clear hfz7_2
  try clear hfz9_0
  try clear hfz9_1
  try clear hfz9_2
  obtain ⟨kq, x28_1, rfl, HA, HJ1, BK110, HB⟩ := hcut
  cases kq with
  | zero => exact absurd HA.out (by simp [quittanceref03_Number.j0])
  | succ kj1 =>
   have H := HA.out
   clear HA
   simp only [quittanceref03_Number.j0] at H
   by_cases c12 : x28_1 = true
   ·subst c12
    have H1 : (some (0, 5)) = some (r1, r2) := by rw [if_pos rfl] at H; exact H
    clear H
    have H := H1
    clear H1
    simp only [Option.some.injEq, Prod.mk.injEq] at H
    obtain ⟨rfl, rfl⟩ := H
    go_wp2
    repeat (go_quiet (fail); try go_wp2)
    go_ret2
    exact ⟨by first | rfl | (simp [errW_none, errW_some] <;> rfl) | (simp [*, errW_none, errW_some] <;> rfl), by repeat (first | (with_reducible first | exact HB.out | apply below_alloc | apply pw_below_drewN | apply below_drew1 | refine below_set ?_ GE110.out) | exact HB.out)⟩
   ·replace c12 := Bool.eq_false_iff.mpr c12
    subst c12
    have H1 : ((Go.Proofs.Ytbbbjjfecblhpaa.H.quittanceref03_before.f a0_0).bind fun t112 => (quittanceref03_Number.l0 kj1 (wrap64 ((wrap64 ((wrap64 ((-25567) + t112)) + a0_2)) - 1)) 1 a0_0 a0_1 a0_2)) = some (r1, r2) := by rw [if_neg (show ¬ (false = true) by decide)] at H; exact H
    clear H
    have H := H1
    clear H1
    replace H := Option.bind_eq_some_iff.mp H
    obtain ⟨t112, A130, H⟩ := H
    replace H : (quittanceref03_Number.l0 kj1 (wrap64 ((wrap64 ((wrap64 ((-25567) + t112)) + a0_2)) - 1)) 1 a0_0 a0_1 a0_2) = some (r1, r2) := H
    have A13 := Aside0.mk A130
    clear A130
    have H' := Aside0.mk H
    clear H
    have hcz14_0 : wc.cell? ⟨gb110, 0, none⟩ = some (.int .i64 a0_0) := (blk_cell BK110.out 0).trans rfl
    have hcz14_1 : wc.cell? ⟨gb110, 1, none⟩ = some (.int .i64 a0_1) := (blk_cell BK110.out 1).trans rfl
    have hcz14_2 : wc.cell? ⟨gb110, 2, none⟩ = some (.int .i64 a0_2) := (blk_cell BK110.out 2).trans rfl
    have hfz14_0 := blk_frozen BK110.out 0
    have hfz14_1 := blk_frozen BK110.out 1
    have hfz14_2 := blk_frozen BK110.out 2
    go_wp2_with (first | (go_at_call 95; (with_reducible refine (Go.Proofs.Ytbbbjjfecblhpaa.H.quittanceref03_before.calls a0_0 t112 _ A13.out).mono ?_); rintro e w' ⟨rfl, ⟨nd, rfl⟩⟩; (try first | exact ⟨rfl, _, World.drewN_drewN _ _ _⟩ | exact ⟨rfl, _, Eq.trans (World.drewN_drewN _ _ _) (congrArg (World.drewN _) (Nat.add_assoc _ _ _))⟩)))
    repeat (go_quiet (first | (go_at_call 95; (with_reducible refine (Go.Proofs.Ytbbbjjfecblhpaa.H.quittanceref03_before.calls a0_0 t112 _ A13.out).mono ?_); rintro e w' ⟨rfl, ⟨nd, rfl⟩⟩; (try first | exact ⟨rfl, _, World.drewN_drewN _ _ _⟩ | exact ⟨rfl, _, Eq.trans (World.drewN_drewN _ _ _) (congrArg (World.drewN _) (Nat.add_assoc _ _ _))⟩))); try go_wp2_with (first | (go_at_call 95; (with_reducible refine (Go.Proofs.Ytbbbjjfecblhpaa.H.quittanceref03_before.calls a0_0 t112 _ A13.out).mono ?_); rintro e w' ⟨rfl, ⟨nd, rfl⟩⟩; (try first | exact ⟨rfl, _, World.drewN_drewN _ _ _⟩ | exact ⟨rfl, _, Eq.trans (World.drewN_drewN _ _ _) (congrArg (World.drewN _) (Nat.add_assoc _ _ _))⟩))))
    go_loopg [4, 5] kj1 (fun kq v4 v5 w' => ∃ (x4_2 : Int) (x5_2 : Int), v4 = .int .i64 x4_2 ∧ v5 = .int .i64 x5_2 ∧ Aside0 (quittanceref03_Number.l0 kq x4_2 x5_2 a0_0 a0_1 a0_2 = some (r1, r2)) ∧ Aside0 (kq ≤ kj1) ∧ Aside0 (w'.heap[gb110]? = some (.cells #[.int .i64 a0_0, .int .i64 a0_1, .int .i64 a0_2] 115 (0, 0))) ∧ Aside0 (Below w.heap.size w w'))
    case atStart => exact ⟨(wrap64 ((wrap64 ((wrap64 ((-25567) + t112)) + a0_2)) - 1)), (1), (by first | rfl | (simp; done) | (simp [*]; done)), (by first | rfl | (simp; done) | (simp [*]; done)), H', ⟨Nat.le_refl _⟩, ⟨by (with_reducible repeat (first | refine blk_drewN ?_ _ | refine blk_drew ?_ | refine blk_alloc ?_ _)); exact BK110.out⟩, ⟨by repeat (first | (with_reducible first | exact HB.out | apply below_alloc | apply pw_below_drewN | apply below_drew1 | refine below_set ?_ GE110.out) | exact HB.out)⟩⟩
    case round =>
     clear H'
     try clear c1
     try clear p2
     try clear c4
     try clear c4b0
     try clear c6
     try clear c6b0
     try clear p6
     try clear c8
     try clear c8b0
     try clear c9
     try clear c12
     try clear hcz11_0
     try clear hcz11_1
     try clear hcz11_2
     try clear hcz14_0
     try clear hcz14_1
     try clear hcz14_2
     try clear hcz5_0
     try clear hcz5_1
     try clear hcz5_2
     try clear hcz7_0
     try clear hcz7_1
     try clear hcz7_2
     try clear hcz9_0
     try clear hcz9_1
     try clear hcz9_2
     try clear hfz11_0
     try clear hfz11_1
     try clear hfz11_2
     try clear hfz14_0
     try clear hfz14_1
     try clear hfz14_2
     try clear hfz5_0
     try clear hfz5_1
     try clear hfz5_2
     try clear hfz7_0
     try clear hfz7_1
     try clear hfz7_2
     try clear hfz9_0
     try clear hfz9_1
     try clear hfz9_2
     try clear p2
     obtain ⟨x4_2, x5_2, rfl, rfl, HA, HK2, BK110, HB⟩ := hrel
     cases gk with
     | zero => exact absurd HA.out (by simp [quittanceref03_Number.l0])
     | succ k2 =>
      have H := HA.out
      clear HA
      simp only [quittanceref03_Number.l0] at H
      by_cases c15 : x5_2 < a0_1
      ·rw [if_pos c15] at H
       have c15b0 : decide (x5_2 < a0_1) = true := decide_eq_true c15
       clear c15
       replace H := Option.bind_eq_some_iff.mp H
       obtain ⟨t113, A160, H⟩ := H
       replace H : (quittanceref03_Number.l0 k2 (wrap64 (x4_2 + t113)) (wrap64 (x5_2 + 1)) a0_0 a0_1 a0_2) = some (r1, r2) := H
       have A16 := Aside0.mk A160
       clear A160
       have H' := Aside0.mk H
       clear H
       have hcz17_0 : wr.cell? ⟨gb110, 0, none⟩ = some (.int .i64 a0_0) := (blk_cell BK110.out 0).trans rfl
       have hcz17_1 : wr.cell? ⟨gb110, 1, none⟩ = some (.int .i64 a0_1) := (blk_cell BK110.out 1).trans rfl
       have hcz17_2 : wr.cell? ⟨gb110, 2, none⟩ = some (.int .i64 a0_2) := (blk_cell BK110.out 2).trans rfl
       have hfz17_0 := blk_frozen BK110.out 0
       have hfz17_1 := blk_frozen BK110.out 1
       have hfz17_2 := blk_frozen BK110.out 2
       go_wp2_with (first | (go_at_call 93; (with_reducible refine (Go.Proofs.Ytbbbjjfecblhpaa.H.quittanceref03_Month.calls a0_0 x5_2 t113 _ A16.out).mono ?_); rintro e w' ⟨rfl, ⟨nd, rfl⟩⟩; (try first | exact ⟨rfl, _, World.drewN_drewN _ _ _⟩ | exact ⟨rfl, _, Eq.trans (World.drewN_drewN _ _ _) (congrArg (World.drewN _) (Nat.add_assoc _ _ _))⟩)))
       repeat (go_quiet (first | (go_at_call 93; (with_reducible refine (Go.Proofs.Ytbbbjjfecblhpaa.H.quittanceref03_Month.calls a0_0 x5_2 t113 _ A16.out).mono ?_); rintro e w' ⟨rfl, ⟨nd, rfl⟩⟩; (try first | exact ⟨rfl, _, World.drewN_drewN _ _ _⟩ | exact ⟨rfl, _, Eq.trans (World.drewN_drewN _ _ _) (congrArg (World.drewN _) (Nat.add_assoc _ _ _))⟩))); try go_wp2_with (first | (go_at_call 93; (with_reducible refine (Go.Proofs.Ytbbbjjfecblhpaa.H.quittanceref03_Month.calls a0_0 x5_2 t113 _ A16.out).mono ?_); rintro e w' ⟨rfl, ⟨nd, rfl⟩⟩; (try first | exact ⟨rfl, _, World.drewN_drewN _ _ _⟩ | exact ⟨rfl, _, Eq.trans (World.drewN_drewN _ _ _) (congrArg (World.drewN _) (Nat.add_assoc _ _ _))⟩))))
       go_roundg k2
       case measure => have := HJ1.out; have := HK2.out; omega
       case rel => exact ⟨(wrap64 (x4_2 + t113)), (wrap64 (x5_2 + 1)), (by first | rfl | (simp; done) | (simp [*]; done)), (by first | rfl | (simp; done) | (simp [*]; done)), H', ⟨by have := HJ1.out; have := HK2.out; omega⟩, ⟨by (with_reducible repeat (first | refine blk_drewN ?_ _ | refine blk_drew ?_ | refine blk_alloc ?_ _)); exact BK110.out⟩, ⟨by repeat (first | (with_reducible first | exact HB.out | apply below_alloc | apply pw_below_drewN | apply below_drew1 | refine below_set ?_ GE110.out) | exact HB.out)⟩⟩
      ·rw [if_neg c15] at H
       have c15b0 : decide (x5_2 < a0_1) = false := decide_eq_false c15
       clear c15
       simp only [Option.some.injEq, Prod.mk.injEq] at H
       obtain ⟨rfl, rfl⟩ := H
       have hcz18_0 : wr.cell? ⟨gb110, 0, none⟩ = some (.int .i64 a0_0) := (blk_cell BK110.out 0).trans rfl
       have hcz18_1 : wr.cell? ⟨gb110, 1, none⟩ = some (.int .i64 a0_1) := (blk_cell BK110.out 1).trans rfl
       have hcz18_2 : wr.cell? ⟨gb110, 2, none⟩ = some (.int .i64 a0_2) := (blk_cell BK110.out 2).trans rfl
       have hfz18_0 := blk_frozen BK110.out 0
       have hfz18_1 := blk_frozen BK110.out 1
       have hfz18_2 := blk_frozen BK110.out 2
       go_wp2
       repeat (go_quiet (fail); try go_wp2)
       go_ret2
       exact ⟨by first | rfl | (simp [errW_none, errW_some] <;> rfl) | (simp [*, errW_none, errW_some] <;> rfl), by repeat (first | (with_reducible first | exact HB.out | apply below_alloc | apply pw_below_drewN | apply below_drew1 | refine below_set ?_ GE110.out) | exact HB.out)⟩
/-! ### quittanceref03_Date: function 71 -/
mutual
def quittanceref03_Date.l0 : Nat → Int → Int → Int → Int → Option (Int × Int × Int × Int)
 | 0, _, _, _, _ => none
 | k + 1, x4, x117000, x117001, x117002 => (Go.Proofs.Ytbbbjjfecblhpaa.H.quittanceref03_before.f (wrap64 (x117000 + 1))).bind fun t117 => (if t117 ≤ x4 then (quittanceref03_Date.l0 k x4 (wrap64 (x117000 + 1)) x117001 x117002) else ((Go.Proofs.Ytbbbjjfecblhpaa.H.quittanceref03_before.f x117000).bind fun t118 => (quittanceref03_Date.l1 k (wrap64 (x4 - t118)) x117000 x117001 x117002)))
def quittanceref03_Date.l1 : Nat → Int → Int → Int → Int → Option (Int × Int × Int × Int)
 | 0, _, _, _, _ => none
 | k + 1, x4, x117000, x117001, x117002 => (Go.Proofs.Ytbbbjjfecblhpaa.H.quittanceref03_Month.f x117000 x117001).bind fun t119 => (if x4 ≥ t119 then ((Go.Proofs.Ytbbbjjfecblhpaa.H.quittanceref03_Month.f x117000 x117001).bind fun t120 => (quittanceref03_Date.l1 k (wrap64 (x4 - t120)) x117000 (wrap64 (x117001 + 1)) x117002)) else (some (x117000, x117001, wrap64 (x4 + 1), 0)))
end
def quittanceref03_Date.f (k : Nat) (a0 : Int) : Option (Int × Int × Int × Int) := (Go.Proofs.Ytbbbjjfecblhpaa.H.quittanceref03_Is.f a0).bind fun t115 => (if t115 = true then (quittanceref03_Date.l0 k (wrap64 (a0 + 25567)) (wrap64 (1900 + (wrap64 (Int.tdiv (wrap64 (a0 + 25567)) 366)))) 1 0) else (some (0, 0, 0, 5)))
theorem quittanceref03_Date.mono_l : ∀ k, (∀ y0 y1 y2 y3, LeO (quittanceref03_Date.l0 k y0 y1 y2 y3) (quittanceref03_Date.l0 (k + 1) y0 y1 y2 y3)) ∧ (∀ y0 y1 y2 y3, LeO (quittanceref03_Date.l1 k y0 y1 y2 y3) (quittanceref03_Date.l1 (k + 1) y0 y1 y2 y3))
 | 0 => ⟨fun _ _ _ _ r h => by simp [quittanceref03_Date.l0] at h, fun _ _ _ _ r h => by simp [quittanceref03_Date.l1] at h⟩
 | k + 1 => by
  obtain ⟨ih0, ih1⟩ := quittanceref03_Date.mono_l k
  refine ⟨?_, ?_⟩
  ·intro y0 y1 y2 y3
   unfold quittanceref03_Date.l0
   repeat' first
   | (with_reducible exact ih0 _ _ _ _)
   | (with_reducible exact ih1 _ _ _ _)
   | (with_reducible exact LeO.refl _)
   | (with_reducible exact LeO.none _)
   | (with_reducible refine LeO.ite ?_ ?_)
   | (with_reducible refine LeO.bind ?_ (fun _ => ?_))
   | exact ih0 _ _ _ _
   | exact ih1 _ _ _ _
   | exact LeO.none _
   | refine LeO.ite ?_ ?_
   | refine LeO.bind ?_ (fun _ => ?_)
  ·intro y0 y1 y2 y3
   unfold quittanceref03_Date.l1
   repeat' first
   | (with_reducible exact ih0 _ _ _ _)
   | (with_reducible exact ih1 _ _ _ _)
   | (with_reducible exact LeO.refl _)
   | (with_reducible exact LeO.none _)
   | (with_reducible refine LeO.ite ?_ ?_)
   | (with_reducible refine LeO.bind ?_ (fun _ => ?_))
   | exact ih0 _ _ _ _
   | exact ih1 _ _ _ _
   | exact LeO.none _
   | refine LeO.ite ?_ ?_
   | refine LeO.bind ?_ (fun _ => ?_)
theorem quittanceref03_Date.mono : ∀ a0 k, LeO (quittanceref03_Date.f k a0) (quittanceref03_Date.f (k + 1) a0) := by
 intro a0 k
 obtain ⟨ih0, ih1⟩ := quittanceref03_Date.mono_l k
 unfold quittanceref03_Date.f
 repeat' first
   | (with_reducible exact ih0 _ _ _ _)
   | (with_reducible exact ih1 _ _ _ _)
   | (with_reducible exact LeO.refl _)
   | (with_reducible exact LeO.none _)
   | (with_reducible refine LeO.ite ?_ ?_)
   | (with_reducible refine LeO.bind ?_ (fun _ => ?_))
   | exact ih0 _ _ _ _
   | exact ih1 _ _ _ _
   | exact LeO.none _
   | refine LeO.ite ?_ ?_
   | refine LeO.bind ?_ (fun _ => ?_)
set_option maxHeartbeats 8000000 in
set_option maxRecDepth 100000 in
theorem quittanceref03_Date.calls (k : Nat) (a0 : Int) (r1 : Int) (r2 : Int) (r3 : Int) (r4 : Int) (w : World) (h : quittanceref03_Date.f k a0 = some (r1, r2, r3, r4)) :
  Calls Try.prog 71 #[.int .i64 a0] w fun e w' => e = .returned (.tuple #[.agg #[.int .i64 r1, .int .i64 r2, .int .i64 r3], .int .i64 r4]) ∧ Below w.heap.size w w' := by
 have hu115 := Try.underlying115
 have HB := Aside0.mk (Below.refl w.heap.size w)
 have H : ((Go.Proofs.Ytbbbjjfecblhpaa.H.quittanceref03_Is.f a0).bind fun t115 => (if t115 = true then (quittanceref03_Date.l0 k (wrap64 (a0 + 25567)) (wrap64 (1900 + (wrap64 (Int.tdiv (wrap64 (a0 + 25567)) 366)))) 1 0) else (some (0, 0, 0, 5)))) = some (r1, r2, r3, r4) := h
 clear h
 replace H := Option.bind_eq_some_iff.mp H
 obtain ⟨t115, A20, H⟩ := H
 replace H : (if t115 = true then (quittanceref03_Date.l0 k (wrap64 (a0 + 25567)) (wrap64 (1900 + (wrap64 (Int.tdiv (wrap64 (a0 + 25567)) 366)))) 1 0) else (some (0, 0, 0, 5))) = some (r1, r2, r3, r4) := H
 have A2 := Aside0.mk A20
 clear A20
 by_cases c3 : t115 = true
 ·subst c3
  have H1 : (quittanceref03_Date.l0 k (wrap64 (a0 + 25567)) (wrap64 (1900 + (wrap64 (Int.tdiv (wrap64 (a0 + 25567)) 366)))) 1 0) = some (r1, r2, r3, r4) := by rw [if_pos rfl] at H; exact H
  clear H
  have H := H1
  clear H1
  have H' := Aside0.mk H
  clear H
  go_enter Try.func71, Try.ntmps71
  go_wp2_with (first | ((with_reducible refine gate_dst (N := 2) rfl ?_); refine box_event ?hg (N := 2) ?hd (cs := #[.int .i64 0, .int .i64 0, .int .i64 0]) (t := 115) ?hr ?_; (case hd => rfl); (case hg => rfl); (case hr => first | (go_simp; done) | (go_simp; rfl)); intro gb114 hg w4 hbox hb; have n0_ := Aside0.mk (below_step (by repeat (first | (with_reducible first | exact HB.out | apply below_alloc | apply pw_below_drewN | apply below_drew1) | exact HB.out)) hb); have n1_ := Aside0.mk (hbox); have n2_ := Aside0.mk ((by rw [hg]; exact (below_size (by repeat (first | (with_reducible first | exact HB.out | apply below_alloc | apply pw_below_drewN | apply below_drew1) | exact HB.out))) : w.heap.size ≤ gb114)); have n3_ := Aside0.mk ((by rw [hg]; exact (below_size (by repeat (first | (with_reducible first | exact HB.out | apply below_alloc | apply pw_below_drewN | apply below_drew1) | exact HB.out))) : w.heap.size ≤ gb114)); clear HB; have HB := n0_; have BK114 := n1_; have GW114 := n2_; have GE114 := n3_; clear n0_ n1_ n2_ n3_; clear hb hbox hg; (try have hu114_0 : w4.cell? ⟨gb114, 0, none⟩ = some (.int .i64 0) := (blk_cell BK114.out 0).trans rfl); (try have hu114_1 : w4.cell? ⟨gb114, 1, none⟩ = some (.int .i64 0) := (blk_cell BK114.out 1).trans rfl); (try have hu114_2 : w4.cell? ⟨gb114, 2, none⟩ = some (.int .i64 0) := (blk_cell BK114.out 2).trans rfl); (try have hv114_0 := blk_frozen BK114.out 0); (try have hv114_1 := blk_frozen BK114.out 1); (try have hv114_2 := blk_frozen BK114.out 2)) | ((with_reducible refine gate_callee (f := 37) rfl ?_); refine goesL_ (some 7) rfl rfl Try.func37 (by kernel_rfl) rfl #[.int .i64 a0] rfl (by (try simp only [List.map_toArray, List.map_cons, List.map_nil]); first | done | rfl | (simp only [List.length_drop, List.length_take]; rfl)) ?_; (with_reducible refine (Go.Proofs.Ytbbbjjfecblhpaa.H.quittanceref03_Is.calls a0 true _ A2.out).mono ?_); rintro e w' ⟨rfl, ⟨nd, rfl⟩⟩; refine ⟨_, rfl, ?_⟩; (try (rw [drewN_self w4]; generalize hq_ : World.drewN w4 _ = w4; have n0_ : Aside0 (w4.heap[gb114]? = some (.cells #[.int .i64 0, .int .i64 0, .int .i64 0] 115 (0, 0))) := ⟨by rw [← hq_]; exact (by (with_reducible repeat (first | refine blk_drewN ?_ _ | refine blk_drew ?_ | refine blk_alloc ?_ _)); exact BK114.out)⟩; have n1_ : Aside0 (Below w.heap.size w w4) := ⟨by rw [← hq_]; exact (by repeat (first | (with_reducible first | exact HB.out | apply below_alloc | apply pw_below_drewN | apply below_drew1 | refine below_set ?_ GE114.out) | exact HB.out))⟩; clear BK114 HB hq_; have BK114 := n0_; have HB := n1_; clear n0_ n1_)); (try have hu114_0 : w4.cell? ⟨gb114, 0, none⟩ = some (.int .i64 0) := (blk_cell BK114.out 0).trans rfl); (try have hu114_1 : w4.cell? ⟨gb114, 1, none⟩ = some (.int .i64 0) := (blk_cell BK114.out 1).trans rfl); (try have hu114_2 : w4.cell? ⟨gb114, 2, none⟩ = some (.int .i64 0) := (blk_cell BK114.out 2).trans rfl); (try have hv114_0 := blk_frozen BK114.out 0); (try have hv114_1 := blk_frozen BK114.out 1); (try have hv114_2 := blk_frozen BK114.out 2)) | ((with_reducible refine gate_dst (N := 5) rfl ?_); refine box_event ?hg (N := 5) ?hd (cs := #[.int .i64 0, .int .i64 0, .int .i64 0]) (t := 115) ?hr ?_; (case hd => rfl); (case hg => rfl); (case hr => first | (go_simp; done) | (go_simp; rfl)); intro gb116 hg w5 hbox hb; have n0_ := Aside0.mk (blk_below (g := gb114) (o := .cells #[.int .i64 0, .int .i64 0, .int .i64 0] 115 (0, 0)) (by (with_reducible repeat (first | refine blk_drewN ?_ _ | refine blk_drew ?_ | refine blk_alloc ?_ _)); exact BK114.out) hb); have n1_ := Aside0.mk (below_step (by repeat (first | (with_reducible first | exact HB.out | apply below_alloc | apply pw_below_drewN | apply below_drew1 | refine below_set ?_ GE114.out) | exact HB.out)) hb); have n2_ := Aside0.mk (hbox); have n3_ := Aside0.mk ((by rw [hg]; exact (below_size (by repeat (first | (with_reducible first | exact HB.out | apply below_alloc | apply pw_below_drewN | apply below_drew1 | refine below_set ?_ GE114.out) | exact HB.out))) : w.heap.size ≤ gb116)); have n4_ := Aside0.mk ((by rw [hg]; exact (below_size (by repeat (first | (with_reducible first | exact HB.out | apply below_alloc | apply pw_below_drewN | apply below_drew1 | refine below_set ?_ GE114.out) | exact HB.out))) : w.heap.size ≤ gb116)); have n5_ := Aside0.mk ((by rw [hg]; exact Nat.ne_of_lt (blk_lt (g := gb114) (o := .cells #[.int .i64 0, .int .i64 0, .int .i64 0] 115 (0, 0)) (by (with_reducible repeat (first | refine blk_drewN ?_ _ | refine blk_drew ?_ | refine blk_alloc ?_ _)); exact BK114.out)) : gb114 ≠ gb116)); have n6_ := Aside0.mk ((by rw [hg]; exact Nat.ne_of_gt (blk_lt (g := gb114) (o := .cells #[.int .i64 0, .int .i64 0, .int .i64 0] 115 (0, 0)) (by (with_reducible repeat (first | refine blk_drewN ?_ _ | refine blk_drew ?_ | refine blk_alloc ?_ _)); exact BK114.out)) : gb116 ≠ gb114)); clear BK114; clear HB; have BK114 := n0_; have HB := n1_; have BK116 := n2_; have GW116 := n3_; have GE116 := n4_; have NB114_116 := n5_; have NB116_114 := n6_; clear n0_ n1_ n2_ n3_ n4_ n5_ n6_; clear hb hbox hg; (try have hu114_0 : w5.cell? ⟨gb114, 0, none⟩ = some (.int .i64 0) := (blk_cell BK114.out 0).trans rfl); (try have hu114_1 : w5.cell? ⟨gb114, 1, none⟩ = some (.int .i64 0) := (blk_cell BK114.out 1).trans rfl); (try have hu114_2 : w5.cell? ⟨gb114, 2, none⟩ = some (.int .i64 0) := (blk_cell BK114.out 2).trans rfl); (try have hv114_0 := blk_frozen BK114.out 0); (try have hv114_1 := blk_frozen BK114.out 1); (try have hv114_2 := blk_frozen BK114.out 2); (try have hu116_0 : w5.cell? ⟨gb116, 0, none⟩ = some (.int .i64 0) := (blk_cell BK116.out 0).trans rfl); (try have hu116_1 : w5.cell? ⟨gb116, 1, none⟩ = some (.int .i64 0) := (blk_cell BK116.out 1).trans rfl); (try have hu116_2 : w5.cell? ⟨gb116, 2, none⟩ = some (.int .i64 0) := (blk_cell BK116.out 2).trans rfl); (try have hv116_0 := blk_frozen BK116.out 0); (try have hv116_1 := blk_frozen BK116.out 1); (try have hv116_2 := blk_frozen BK116.out 2); have hnb6 := NB116_114.out; have hnc6 := NB114_116.out; have hcz7_0 : w5.cell? ⟨gb116, 0, none⟩ = some (.int .i64 0) := (blk_cell BK116.out 0).trans rfl; have hcz7_1 : w5.cell? ⟨gb116, 1, none⟩ = some (.int .i64 0) := (blk_cell BK116.out 1).trans rfl; have hcz7_2 : w5.cell? ⟨gb116, 2, none⟩ = some (.int .i64 0) := (blk_cell BK116.out 2).trans rfl; have hfz7_0 := blk_frozen BK116.out 0; have hfz7_1 := blk_frozen BK116.out 1; have hfz7_2 := blk_frozen BK116.out 2))
  go_loopg [] k (fun kq w' => ∃ (x117000_1 : Int), Aside0 (quittanceref03_Date.l0 kq (wrap64 (a0 + 25567)) x117000_1 1 0 = some (r1, r2, r3, r4)) ∧ Aside0 (kq ≤ k) ∧ Aside0 (w'.heap[gb114]? = some (.cells #[.int .i64 0, .int .i64 0, .int .i64 0] 115 (0, 0))) ∧ Aside0 (w'.heap[gb116]? = some (.cells #[.int .i64 x117000_1, .int .i64 1, .int .i64 0] 115 (0, 0))) ∧ Aside0 (Below w.heap.size w w'))
  case atStart => exact ⟨(wrap64 (1900 + (wrap64 (Int.tdiv (wrap64 (a0 + 25567)) 366)))), H', ⟨Nat.le_refl _⟩, ⟨by (with_reducible repeat (first | refine blk_drewN ?_ _ | refine blk_drew ?_ | refine blk_alloc ?_ _)); refine blk_far ?_ NB114_116.out _; (with_reducible repeat (first | refine blk_drewN ?_ _ | refine blk_drew ?_ | refine blk_alloc ?_ _)); refine blk_far ?_ NB114_116.out _; (with_reducible repeat (first | refine blk_drewN ?_ _ | refine blk_drew ?_ | refine blk_alloc ?_ _)); refine blk_far ?_ NB114_116.out _; (with_reducible repeat (first | refine blk_drewN ?_ _ | refine blk_drew ?_ | refine blk_alloc ?_ _)); exact BK114.out⟩, ⟨by (with_reducible repeat (first | refine blk_drewN ?_ _ | refine blk_drew ?_ | refine blk_alloc ?_ _)); refine blk_put (cs := #[.int .i64 (wrap64 (1900 + (wrap64 (Int.tdiv (wrap64 (a0 + 25567)) 366)))), .int .i64 1, .int .i64 0]) ?_ 2 _ rfl; (with_reducible repeat (first | refine blk_drewN ?_ _ | refine blk_drew ?_ | refine blk_alloc ?_ _)); refine blk_put (cs := #[.int .i64 (wrap64 (1900 + (wrap64 (Int.tdiv (wrap64 (a0 + 25567)) 366)))), .int .i64 0, .int .i64 0]) ?_ 1 _ rfl; (with_reducible repeat (first | refine blk_drewN ?_ _ | refine blk_drew ?_ | refine blk_alloc ?_ _)); refine blk_put (cs := #[.int .i64 0, .int .i64 0, .int .i64 0]) ?_ 0 _ rfl; (with_reducible repeat (first | refine blk_drewN ?_ _ | refine blk_drew ?_ | refine blk_alloc ?_ _)); exact BK116.out⟩, ⟨by repeat (first | (with_reducible first | exact HB.out | apply below_alloc | apply pw_below_drewN | apply below_drew1 | refine below_set ?_ GE114.out | refine below_set ?_ GE116.out) | exact HB.out)⟩⟩
  case round =>
   clear H'
   try clear p2
   try clear c3
   try clear c6
   try clear p6
   try clear c7
   try clear hcz7_0
   try clear hcz7_1
   try clear hcz7_2
   try clear hfz7_0
   try clear hfz7_1
   try clear hfz7_2
   obtain ⟨x117000_1, HA, HK1, BK114, BK116, HB⟩ := hrel
   cases gk with
   | zero => exact absurd HA.out (by simp [quittanceref03_Date.l0])
   | succ k1 =>
    have H := HA.out
    clear HA
    simp only [quittanceref03_Date.l0] at H
    replace H := Option.bind_eq_some_iff.mp H
    obtain ⟨t117, A80, H⟩ := H
    replace H : (if t117 ≤ (wrap64 (a0 + 25567)) then (quittanceref03_Date.l0 k1 (wrap64 (a0 + 25567)) (wrap64 (x117000_1 + 1)) 1 0) else ((Go.Proofs.Ytbbbjjfecblhpaa.H.quittanceref03_before.f x117000_1).bind fun t118 => (quittanceref03_Date.l1 k1 (wrap64 ((wrap64 (a0 + 25567)) - t118)) x117000_1 1 0))) = some (r1, r2, r3, r4) := H
    have A8 := Aside0.mk A80
    clear A80
    by_cases c9 : t117 ≤ (wrap64 (a0 + 25567))
    ·rw [if_pos c9] at H
     have c9b0 : decide (t117 ≤ (wrap64 (a0 + 25567))) = true := decide_eq_true c9
     clear c9
     have H' := Aside0.mk H
     clear H
     have hnb10 := NB116_114.out
     have hnc10 := NB114_116.out
     have hcz11_0 : wr.cell? ⟨gb116, 0, none⟩ = some (.int .i64 x117000_1) := (blk_cell BK116.out 0).trans rfl
     have hcz11_1 : wr.cell? ⟨gb116, 1, none⟩ = some (.int .i64 1) := (blk_cell BK116.out 1).trans rfl
     have hcz11_2 : wr.cell? ⟨gb116, 2, none⟩ = some (.int .i64 0) := (blk_cell BK116.out 2).trans rfl
     have hfz11_0 := blk_frozen BK116.out 0
     have hfz11_1 := blk_frozen BK116.out 1
     have hfz11_2 := blk_frozen BK116.out 2
     go_wp2_with (first | ((with_reducible refine gate_callee (f := 95) rfl ?_); refine goesL_ (some 19) rfl rfl Try.func95 (by kernel_rfl) rfl #[.int .i64 (wrap64 (x117000_1 + 1))] rfl (by (try simp only [List.map_toArray, List.map_cons, List.map_nil]); first | done | rfl | (simp only [List.length_drop, List.length_take]; rfl)) ?_; (with_reducible refine (Go.Proofs.Ytbbbjjfecblhpaa.H.quittanceref03_before.calls (wrap64 (x117000_1 + 1)) t117 _ A8.out).mono ?_); rintro e w' ⟨rfl, ⟨nd, rfl⟩⟩; refine ⟨_, rfl, ?_⟩; (try (rw [drewN_self wr]; generalize hq_ : World.drewN wr _ = wr; have n0_ : Aside0 (wr.heap[gb114]? = some (.cells #[.int .i64 0, .int .i64 0, .int .i64 0] 115 (0, 0))) := ⟨by rw [← hq_]; exact (by (with_reducible repeat (first | refine blk_drewN ?_ _ | refine blk_drew ?_ | refine blk_alloc ?_ _)); exact BK114.out)⟩; have n1_ : Aside0 (wr.heap[gb116]? = some (.cells #[.int .i64 x117000_1, .int .i64 1, .int .i64 0] 115 (0, 0))) := ⟨by rw [← hq_]; exact (by (with_reducible repeat (first | refine blk_drewN ?_ _ | refine blk_drew ?_ | refine blk_alloc ?_ _)); exact BK116.out)⟩; have n2_ : Aside0 (Below w.heap.size w wr) := ⟨by rw [← hq_]; exact (by repeat (first | (with_reducible first | exact HB.out | apply below_alloc | apply pw_below_drewN | apply below_drew1 | refine below_set ?_ GE114.out | refine below_set ?_ GE116.out) | exact HB.out))⟩; clear BK114 BK116 HB hq_; have BK114 := n0_; have BK116 := n1_; have HB := n2_; clear n0_ n1_ n2_)); (try have hu114_0 : wr.cell? ⟨gb114, 0, none⟩ = some (.int .i64 0) := (blk_cell BK114.out 0).trans rfl); (try have hu114_1 : wr.cell? ⟨gb114, 1, none⟩ = some (.int .i64 0) := (blk_cell BK114.out 1).trans rfl); (try have hu114_2 : wr.cell? ⟨gb114, 2, none⟩ = some (.int .i64 0) := (blk_cell BK114.out 2).trans rfl); (try have hv114_0 := blk_frozen BK114.out 0); (try have hv114_1 := blk_frozen BK114.out 1); (try have hv114_2 := blk_frozen BK114.out 2); (try have hu116_0 : wr.cell? ⟨gb116, 0, none⟩ = some (.int .i64 x117000_1) := (blk_cell BK116.out 0).trans rfl); (try have hu116_1 : wr.cell? ⟨gb116, 1, none⟩ = some (.int .i64 1) := (blk_cell BK116.out 1).trans rfl); (try have hu116_2 : wr.cell? ⟨gb116, 2, none⟩ = some (.int .i64 0) := (blk_cell BK116.out 2).trans rfl); (try have hv116_0 := blk_frozen BK116.out 0); (try have hv116_1 := blk_frozen BK116.out 1); (try have hv116_2 := blk_frozen BK116.out 2)))
     go_roundg k1
     case measure => have := HK1.out; omega
     case rel => exact ⟨(wrap64 (x117000_1 + 1)), H', ⟨by have := HK1.out; omega⟩, ⟨by (with_reducible repeat (first | refine blk_drewN ?_ _ | refine blk_drew ?_ | refine blk_alloc ?_ _)); refine blk_far ?_ NB114_116.out _; (with_reducible repeat (first | refine blk_drewN ?_ _ | refine blk_drew ?_ | refine blk_alloc ?_ _)); exact BK114.out⟩, ⟨by (with_reducible repeat (first | refine blk_drewN ?_ _ | refine blk_drew ?_ | refine blk_alloc ?_ _)); refine blk_put (cs := #[.int .i64 x117000_1, .int .i64 1, .int .i64 0]) ?_ 0 _ rfl; (with_reducible repeat (first | refine blk_drewN ?_ _ | refine blk_drew ?_ | refine blk_alloc ?_ _)); exact BK116.out⟩, ⟨by repeat (first | (with_reducible first | exact HB.out | apply below_alloc | apply pw_below_drewN | apply below_drew1 | refine below_set ?_ GE114.out | refine below_set ?_ GE116.out) | exact HB.out)⟩⟩
    ·rw [if_neg c9] at H
     have c9b0 : decide (t117 ≤ (wrap64 (a0 + 25567))) = false := decide_eq_false c9
     clear c9
     replace H := Option.bind_eq_some_iff.mp H
     obtain ⟨t118, A120, H⟩ := H
     replace H : (quittanceref03_Date.l1 k1 (wrap64 ((wrap64 (a0 + 25567)) - t118)) x117000_1 1 0) = some (r1, r2, r3, r4) := H
     have A12 := Aside0.mk A120
     clear A120
     have H' := Aside0.mk H
     clear H
     have hnb13 := NB116_114.out
     have hnc13 := NB114_116.out
     have hcz14_0 : wr.cell? ⟨gb116, 0, none⟩ = some (.int .i64 x117000_1) := (blk_cell BK116.out 0).trans rfl
     have hcz14_1 : wr.cell? ⟨gb116, 1, none⟩ = some (.int .i64 1) := (blk_cell BK116.out 1).trans rfl
     have hcz14_2 : wr.cell? ⟨gb116, 2, none⟩ = some (.int .i64 0) := (blk_cell BK116.out 2).trans rfl
     have hfz14_0 := blk_frozen BK116.out 0
     have hfz14_1 := blk_frozen BK116.out 1
     have hfz14_2 := blk_frozen BK116.out 2
     go_wp2_with (first | ((with_reducible refine gate_callee (f := 95) rfl ?_); refine goesL_ (some 19) rfl rfl Try.func95 (by kernel_rfl) rfl #[.int .i64 (wrap64 (x117000_1 + 1))] rfl (by (try simp only [List.map_toArray, List.map_cons, List.map_nil]); first | done | rfl | (simp only [List.length_drop, List.length_take]; rfl)) ?_; (with_reducible refine (Go.Proofs.Ytbbbjjfecblhpaa.H.quittanceref03_before.calls (wrap64 (x117000_1 + 1)) t117 _ A8.out).mono ?_); rintro e w' ⟨rfl, ⟨nd, rfl⟩⟩; refine ⟨_, rfl, ?_⟩) | ((with_reducible refine gate_callee (f := 95) rfl ?_); refine goesL_ (some 29) rfl rfl Try.func95 (by kernel_rfl) rfl #[.int .i64 x117000_1] rfl (by (try simp only [List.map_toArray, List.map_cons, List.map_nil]); first | done | rfl | (simp only [List.length_drop, List.length_take]; rfl)) ?_; (with_reducible refine (Go.Proofs.Ytbbbjjfecblhpaa.H.quittanceref03_before.calls x117000_1 t118 _ A12.out).mono ?_); rintro e w' ⟨rfl, ⟨nd, rfl⟩⟩; refine ⟨_, rfl, ?_⟩))
     go_loopg [4] k1 (fun kq v4 w' => ∃ (x4_2 : Int) (x117001_2 : Int), v4 = .int .i64 x4_2 ∧ Aside0 (quittanceref03_Date.l1 kq x4_2 x117000_1 x117001_2 0 = some (r1, r2, r3, r4)) ∧ Aside0 (kq ≤ k1) ∧ Aside0 (w'.heap[gb114]? = some (.cells #[.int .i64 0, .int .i64 0, .int .i64 0] 115 (0, 0))) ∧ Aside0 (w'.heap[gb116]? = some (.cells #[.int .i64 x117000_1, .int .i64 x117001_2, .int .i64 0] 115 (0, 0))) ∧ Aside0 (Below w.heap.size w w'))
     case atStart => exact ⟨(wrap64 ((wrap64 (a0 + 25567)) - t118)), (1), (by first | rfl | (simp; done) | (simp [*]; done)), H', ⟨Nat.le_refl _⟩, ⟨by (with_reducible repeat (first | refine blk_drewN ?_ _ | refine blk_drew ?_ | refine blk_alloc ?_ _)); exact BK114.out⟩, ⟨by (with_reducible repeat (first | refine blk_drewN ?_ _ | refine blk_drew ?_ | refine blk_alloc ?_ _)); exact BK116.out⟩, ⟨by repeat (first | (with_reducible first | exact HB.out | apply below_alloc | apply pw_below_drewN | apply below_drew1 | refine below_set ?_ GE114.out | refine below_set ?_ GE116.out) | exact HB.out)⟩⟩
     case round =>
      clear H'
      try clear c1
      try clear p2
      try clear c3
      try clear c6
      try clear p6
      try clear c7
      try clear c9
      try clear c9b0
      try clear c10
      try clear c13
      try clear hcz11_0
      try clear hcz11_1
      try clear hcz11_2
      try clear hcz14_0
      try clear hcz14_1
      try clear hcz14_2
      try clear hcz7_0
      try clear hcz7_1
      try clear hcz7_2
      try clear hfz11_0
      try clear hfz11_1
      try clear hfz11_2
      try clear hfz14_0
      try clear hfz14_1
      try clear hfz14_2
      try clear hfz7_0
      try clear hfz7_1
      try clear hfz7_2
      try clear p2
      try clear p6
      obtain ⟨x4_2, x117001_2, rfl, HA, HK2, BK114, BK116, HB⟩ := hrel
      cases gk with
      | zero => exact absurd HA.out (by simp [quittanceref03_Date.l1])
      | succ k2 =>
       have H := HA.out
       clear HA
       simp only [quittanceref03_Date.l1] at H
       replace H := Option.bind_eq_some_iff.mp H
       obtain ⟨t119, A150, H⟩ := H
       replace H : (if x4_2 ≥ t119 then ((Go.Proofs.Ytbbbjjfecblhpaa.H.quittanceref03_Month.f x117000_1 x117001_2).bind fun t120 => (quittanceref03_Date.l1 k2 (wrap64 (x4_2 - t120)) x117000_1 (wrap64 (x117001_2 + 1)) 0)) else (some (x117000_1, x117001_2, wrap64 (x4_2 + 1), 0))) = some (r1, r2, r3, r4) := H
       have A15 := Aside0.mk A150
       clear A150
       by_cases c16 : x4_2 ≥ t119
       ·rw [if_pos c16] at H
        have c16b0 : decide (t119 ≤ x4_2) = true := decide_eq_true c16
        clear c16
        replace H := Option.bind_eq_some_iff.mp H
        obtain ⟨t120, A170, H⟩ := H
        replace H : (quittanceref03_Date.l1 k2 (wrap64 (x4_2 - t120)) x117000_1 (wrap64 (x117001_2 + 1)) 0) = some (r1, r2, r3, r4) := H
        have A17 := Aside0.mk A170
        clear A170
        have H' := Aside0.mk H
        clear H
        have hnb18 := NB116_114.out
        have hnc18 := NB114_116.out
        have hcz19_0 : wr.cell? ⟨gb116, 0, none⟩ = some (.int .i64 x117000_1) := (blk_cell BK116.out 0).trans rfl
        have hcz19_1 : wr.cell? ⟨gb116, 1, none⟩ = some (.int .i64 x117001_2) := (blk_cell BK116.out 1).trans rfl
        have hcz19_2 : wr.cell? ⟨gb116, 2, none⟩ = some (.int .i64 0) := (blk_cell BK116.out 2).trans rfl
        have hfz19_0 := blk_frozen BK116.out 0
        have hfz19_1 := blk_frozen BK116.out 1
        have hfz19_2 := blk_frozen BK116.out 2
        go_wp2_with (first | ((with_reducible refine gate_callee (f := 93) rfl ?_); refine goesL_ (some 36) rfl rfl Try.func93 (by kernel_rfl) rfl #[.int .i64 x117000_1, .int .i64 x117001_2] rfl (by (try simp only [List.map_toArray, List.map_cons, List.map_nil]); first | done | rfl | (simp only [List.length_drop, List.length_take]; rfl)) ?_; (with_reducible refine (Go.Proofs.Ytbbbjjfecblhpaa.H.quittanceref03_Month.calls x117000_1 x117001_2 t119 _ A15.out).mono ?_); rintro e w' ⟨rfl, ⟨nd, rfl⟩⟩; refine ⟨_, rfl, ?_⟩; (try (rw [drewN_self wr]; generalize hq_ : World.drewN wr _ = wr; have n0_ : Aside0 (wr.heap[gb114]? = some (.cells #[.int .i64 0, .int .i64 0, .int .i64 0] 115 (0, 0))) := ⟨by rw [← hq_]; exact (by (with_reducible repeat (first | refine blk_drewN ?_ _ | refine blk_drew ?_ | refine blk_alloc ?_ _)); exact BK114.out)⟩; have n1_ : Aside0 (wr.heap[gb116]? = some (.cells #[.int .i64 x117000_1, .int .i64 x117001_2, .int .i64 0] 115 (0, 0))) := ⟨by rw [← hq_]; exact (by (with_reducible repeat (first | refine blk_drewN ?_ _ | refine blk_drew ?_ | refine blk_alloc ?_ _)); exact BK116.out)⟩; have n2_ : Aside0 (Below w.heap.size w wr) := ⟨by rw [← hq_]; exact (by repeat (first | (with_reducible first | exact HB.out | apply below_alloc | apply pw_below_drewN | apply below_drew1 | refine below_set ?_ GE114.out | refine below_set ?_ GE116.out) | exact HB.out))⟩; clear BK114 BK116 HB hq_; have BK114 := n0_; have BK116 := n1_; have HB := n2_; clear n0_ n1_ n2_)); (try have hu114_0 : wr.cell? ⟨gb114, 0, none⟩ = some (.int .i64 0) := (blk_cell BK114.out 0).trans rfl); (try have hu114_1 : wr.cell? ⟨gb114, 1, none⟩ = some (.int .i64 0) := (blk_cell BK114.out 1).trans rfl); (try have hu114_2 : wr.cell? ⟨gb114, 2, none⟩ = some (.int .i64 0) := (blk_cell BK114.out 2).trans rfl); (try have hv114_0 := blk_frozen BK114.out 0); (try have hv114_1 := blk_frozen BK114.out 1); (try have hv114_2 := blk_frozen BK114.out 2); (try have hu116_0 : wr.cell? ⟨gb116, 0, none⟩ = some (.int .i64 x117000_1) := (blk_cell BK116.out 0).trans rfl); (try have hu116_1 : wr.cell? ⟨gb116, 1, none⟩ = some (.int .i64 x117001_2) := (blk_cell BK116.out 1).trans rfl); (try have hu116_2 : wr.cell? ⟨gb116, 2, none⟩ = some (.int .i64 0) := (blk_cell BK116.out 2).trans rfl); (try have hv116_0 := blk_frozen BK116.out 0); (try have hv116_1 := blk_frozen BK116.out 1); (try have hv116_2 := blk_frozen BK116.out 2)) | ((with_reducible refine gate_callee (f := 93) rfl ?_); refine goesL_ (some 43) rfl rfl Try.func93 (by kernel_rfl) rfl #[.int .i64 x117000_1, .int .i64 x117001_2] rfl (by (try simp only [List.map_toArray, List.map_cons, List.map_nil]); first | done | rfl | (simp only [List.length_drop, List.length_take]; rfl)) ?_; (with_reducible refine (Go.Proofs.Ytbbbjjfecblhpaa.H.quittanceref03_Month.calls x117000_1 x117001_2 t120 _ A17.out).mono ?_); rintro e w' ⟨rfl, ⟨nd, rfl⟩⟩; refine ⟨_, rfl, ?_⟩; (try (rw [drewN_self wr]; generalize hq_ : World.drewN wr _ = wr; have n0_ : Aside0 (wr.heap[gb114]? = some (.cells #[.int .i64 0, .int .i64 0, .int .i64 0] 115 (0, 0))) := ⟨by rw [← hq_]; exact (by (with_reducible repeat (first | refine blk_drewN ?_ _ | refine blk_drew ?_ | refine blk_alloc ?_ _)); exact BK114.out)⟩; have n1_ : Aside0 (wr.heap[gb116]? = some (.cells #[.int .i64 x117000_1, .int .i64 x117001_2, .int .i64 0] 115 (0, 0))) := ⟨by rw [← hq_]; exact (by (with_reducible repeat (first | refine blk_drewN ?_ _ | refine blk_drew ?_ | refine blk_alloc ?_ _)); exact BK116.out)⟩; have n2_ : Aside0 (Below w.heap.size w wr) := ⟨by rw [← hq_]; exact (by repeat (first | (with_reducible first | exact HB.out | apply below_alloc | apply pw_below_drewN | apply below_drew1 | refine below_set ?_ GE114.out | refine below_set ?_ GE116.out) | exact HB.out))⟩; clear BK114 BK116 HB hq_; have BK114 := n0_; have BK116 := n1_; have HB := n2_; clear n0_ n1_ n2_)); (try have hu114_0 : wr.cell? ⟨gb114, 0, none⟩ = some (.int .i64 0) := (blk_cell BK114.out 0).trans rfl); (try have hu114_1 : wr.cell? ⟨gb114, 1, none⟩ = some (.int .i64 0) := (blk_cell BK114.out 1).trans rfl); (try have hu114_2 : wr.cell? ⟨gb114, 2, none⟩ = some (.int .i64 0) := (blk_cell BK114.out 2).trans rfl); (try have hv114_0 := blk_frozen BK114.out 0); (try have hv114_1 := blk_frozen BK114.out 1); (try have hv114_2 := blk_frozen BK114.out 2); (try have hu116_0 : wr.cell? ⟨gb116, 0, none⟩ = some (.int .i64 x117000_1) := (blk_cell BK116.out 0).trans rfl); (try have hu116_1 : wr.cell? ⟨gb116, 1, none⟩ = some (.int .i64 x117001_2) := (blk_cell BK116.out 1).trans rfl); (try have hu116_2 : wr.cell? ⟨gb116, 2, none⟩ = some (.int .i64 0) := (blk_cell BK116.out 2).trans rfl); (try have hv116_0 := blk_frozen BK116.out 0); (try have hv116_1 := blk_frozen BK116.out 1); (try have hv116_2 := blk_frozen BK116.out 2)))
        go_roundg k2
        case measure => have := HK1.out; have := HK2.out; omega
        case rel => exact ⟨(wrap64 (x4_2 - t120)), (wrap64 (x117001_2 + 1)), (by first | rfl | (simp; done) | (simp [*]; done)), H', ⟨by have := HK1.out; have := HK2.out; omega⟩, ⟨by (with_reducible repeat (first | refine blk_drewN ?_ _ | refine blk_drew ?_ | refine blk_alloc ?_ _)); refine blk_far ?_ NB114_116.out _; (with_reducible repeat (first | refine blk_drewN ?_ _ | refine blk_drew ?_ | refine blk_alloc ?_ _)); exact BK114.out⟩, ⟨by (with_reducible repeat (first | refine blk_drewN ?_ _ | refine blk_drew ?_ | refine blk_alloc ?_ _)); refine blk_put (cs := #[.int .i64 x117000_1, .int .i64 x117001_2, .int .i64 0]) ?_ 1 _ rfl; (with_reducible repeat (first | refine blk_drewN ?_ _ | refine blk_drew ?_ | refine blk_alloc ?_ _)); exact BK116.out⟩, ⟨by repeat (first | (with_reducible first | exact HB.out | apply below_alloc | apply pw_below_drewN | apply below_drew1 | refine below_set ?_ GE114.out | refine below_set ?_ GE116.out) | exact HB.out)⟩⟩
       ·rw [if_neg c16] at H
        have c16b0 : decide (t119 ≤ x4_2) = false := decide_eq_false c16
        clear c16
        simp only [Option.some.injEq, Prod.mk.injEq] at H
        obtain ⟨rfl, rfl, rfl, rfl⟩ := H
        have hnb20 := NB116_114.out
        have hnc20 := NB114_116.out
        have hcz21_0 : wr.cell? ⟨gb116, 0, none⟩ = some (.int .i64 x117000_1) := (blk_cell BK116.out 0).trans rfl
        have hcz21_1 : wr.cell? ⟨gb116, 1, none⟩ = some (.int .i64 x117001_2) := (blk_cell BK116.out 1).trans rfl
        have hcz21_2 : wr.cell? ⟨gb116, 2, none⟩ = some (.int .i64 0) := (blk_cell BK116.out 2).trans rfl
        have hfz21_0 := blk_frozen BK116.out 0
        have hfz21_1 := blk_frozen BK116.out 1
        have hfz21_2 := blk_frozen BK116.out 2
        go_wp2_with (first | ((with_reducible refine gate_callee (f := 93) rfl ?_); refine goesL_ (some 36) rfl rfl Try.func93 (by kernel_rfl) rfl #[.int .i64 x117000_1, .int .i64 x117001_2] rfl (by (try simp only [List.map_toArray, List.map_cons, List.map_nil]); first | done | rfl | (simp only [List.length_drop, List.length_take]; rfl)) ?_; (with_reducible refine (Go.Proofs.Ytbbbjjfecblhpaa.H.quittanceref03_Month.calls x117000_1 x117001_2 t119 _ A15.out).mono ?_); rintro e w' ⟨rfl, ⟨nd, rfl⟩⟩; refine ⟨_, rfl, ?_⟩; (try (rw [drewN_self wr]; generalize hq_ : World.drewN wr _ = wr; have n0_ : Aside0 (wr.heap[gb114]? = some (.cells #[.int .i64 0, .int .i64 0, .int .i64 0] 115 (0, 0))) := ⟨by rw [← hq_]; exact (by (with_reducible repeat (first | refine blk_drewN ?_ _ | refine blk_drew ?_ | refine blk_alloc ?_ _)); exact BK114.out)⟩; have n1_ : Aside0 (wr.heap[gb116]? = some (.cells #[.int .i64 x117000_1, .int .i64 x117001_2, .int .i64 0] 115 (0, 0))) := ⟨by rw [← hq_]; exact (by (with_reducible repeat (first | refine blk_drewN ?_ _ | refine blk_drew ?_ | refine blk_alloc ?_ _)); exact BK116.out)⟩; have n2_ : Aside0 (Below w.heap.size w wr) := ⟨by rw [← hq_]; exact (by repeat (first | (with_reducible first | exact HB.out | apply below_alloc | apply pw_below_drewN | apply below_drew1 | refine below_set ?_ GE114.out | refine below_set ?_ GE116.out) | exact HB.out))⟩; clear BK114 BK116 HB hq_; have BK114 := n0_; have BK116 := n1_; have HB := n2_; clear n0_ n1_ n2_)); (try have hu114_0 : wr.cell? ⟨gb114, 0, none⟩ = some (.int .i64 0) := (blk_cell BK114.out 0).trans rfl); (try have hu114_1 : wr.cell? ⟨gb114, 1, none⟩ = some (.int .i64 0) := (blk_cell BK114.out 1).trans rfl); (try have hu114_2 : wr.cell? ⟨gb114, 2, none⟩ = some (.int .i64 0) := (blk_cell BK114.out 2).trans rfl); (try have hv114_0 := blk_frozen BK114.out 0); (try have hv114_1 := blk_frozen BK114.out 1); (try have hv114_2 := blk_frozen BK114.out 2); (try have hu116_0 : wr.cell? ⟨gb116, 0, none⟩ = some (.int .i64 x117000_1) := (blk_cell BK116.out 0).trans rfl); (try have hu116_1 : wr.cell? ⟨gb116, 1, none⟩ = some (.int .i64 x117001_2) := (blk_cell BK116.out 1).trans rfl); (try have hu116_2 : wr.cell? ⟨gb116, 2, none⟩ = some (.int .i64 0) := (blk_cell BK116.out 2).trans rfl); (try have hv116_0 := blk_frozen BK116.out 0); (try have hv116_1 := blk_frozen BK116.out 1); (try have hv116_2 := blk_frozen BK116.out 2); have hcz22_0 : wr.cell? ⟨gb114, 0, none⟩ = some (.int .i64 0) := (blk_cell BK114.out 0).trans rfl; have hcz22_1 : wr.cell? ⟨gb114, 1, none⟩ = some (.int .i64 0) := (blk_cell BK114.out 1).trans rfl; have hcz22_2 : wr.cell? ⟨gb114, 2, none⟩ = some (.int .i64 0) := (blk_cell BK114.out 2).trans rfl; have hfz22_0 := blk_frozen BK114.out 0; have hfz22_1 := blk_frozen BK114.out 1; have hfz22_2 := blk_frozen BK114.out 2))
        refine bodyPost_ret (results_ct rfl _ _ gb114 115 #[.int .i64 x117000_1, .int .i64 x117001_2, .int .i64 (wrap64 (x4_2 + 1))] (0, 0) _ rfl (by (with_reducible repeat (first | refine blk_drewN ?_ _ | refine blk_drew ?_ | refine blk_alloc ?_ _)); refine blk_put (cs := #[.int .i64 x117000_1, .int .i64 x117001_2, .int .i64 0]) ?_ 2 _ rfl; (with_reducible repeat (first | refine blk_drewN ?_ _ | refine blk_drew ?_ | refine blk_alloc ?_ _)); refine blk_put (cs := #[.int .i64 x117000_1, .int .i64 0, .int .i64 0]) ?_ 1 _ rfl; (with_reducible repeat (first | refine blk_drewN ?_ _ | refine blk_drew ?_ | refine blk_alloc ?_ _)); refine blk_put (cs := #[.int .i64 0, .int .i64 0, .int .i64 0]) ?_ 0 _ rfl; (with_reducible repeat (first | refine blk_drewN ?_ _ | refine blk_drew ?_ | refine blk_alloc ?_ _)); refine blk_far ?_ NB114_116.out _; (with_reducible repeat (first | refine blk_drewN ?_ _ | refine blk_drew ?_ | refine blk_alloc ?_ _)); exact BK114.out) Try.underlying115 rfl (by kernel_rfl)) rfl ?_
        exact ⟨by first | rfl | (simp [errW_none, errW_some] <;> rfl) | (simp [*, errW_none, errW_some] <;> rfl), by repeat (first | (with_reducible first | exact HB.out | apply below_alloc | apply pw_below_drewN | apply below_drew1 | refine below_set ?_ GE114.out | refine below_set ?_ GE116.out) | exact HB.out)⟩
 ·replace c3 := Bool.eq_false_iff.mpr c3
  subst c3
  have H1 : (some (0, 0, 0, 5)) = some (r1, r2, r3, r4) := by rw [if_neg (show ¬ (false = true) by decide)] at H; exact H
  clear H
  have H := H1
  clear H1
  simp only [Option.some.injEq, Prod.mk.injEq] at H
  obtain ⟨rfl, rfl, rfl, rfl⟩ := H
  go_enter Try.func71, Try.ntmps71
  go_wp2_with (first | ((with_reducible refine gate_dst (N := 2) rfl ?_); refine box_event ?hg (N := 2) ?hd (cs := #[.int .i64 0, .int .i64 0, .int .i64 0]) (t := 115) ?hr ?_; (case hd => rfl); (case hg => rfl); (case hr => first | (go_simp; done) | (go_simp; rfl)); intro gb114 hg w23 hbox hb; have n0_ := Aside0.mk (below_step (by repeat (first | (with_reducible first | exact HB.out | apply below_alloc | apply pw_below_drewN | apply below_drew1) | exact HB.out)) hb); have n1_ := Aside0.mk (hbox); have n2_ := Aside0.mk ((by rw [hg]; exact (below_size (by repeat (first | (with_reducible first | exact HB.out | apply below_alloc | apply pw_below_drewN | apply below_drew1) | exact HB.out))) : w.heap.size ≤ gb114)); have n3_ := Aside0.mk ((by rw [hg]; exact (below_size (by repeat (first | (with_reducible first | exact HB.out | apply below_alloc | apply pw_below_drewN | apply below_drew1) | exact HB.out))) : w.heap.size ≤ gb114)); clear HB; have HB := n0_; have BK114 := n1_; have GW114 := n2_; have GE114 := n3_; clear n0_ n1_ n2_ n3_; clear hb hbox hg; (try have hu114_0 : w23.cell? ⟨gb114, 0, none⟩ = some (.int .i64 0) := (blk_cell BK114.out 0).trans rfl); (try have hu114_1 : w23.cell? ⟨gb114, 1, none⟩ = some (.int .i64 0) := (blk_cell BK114.out 1).trans rfl); (try have hu114_2 : w23.cell? ⟨gb114, 2, none⟩ = some (.int .i64 0) := (blk_cell BK114.out 2).trans rfl); (try have hv114_0 := blk_frozen BK114.out 0); (try have hv114_1 := blk_frozen BK114.out 1); (try have hv114_2 := blk_frozen BK114.out 2)) | ((with_reducible refine gate_callee (f := 37) rfl ?_); refine goesL_ (some 7) rfl rfl Try.func37 (by kernel_rfl) rfl #[.int .i64 a0] rfl (by (try simp only [List.map_toArray, List.map_cons, List.map_nil]); first | done | rfl | (simp only [List.length_drop, List.length_take]; rfl)) ?_; (with_reducible refine (Go.Proofs.Ytbbbjjfecblhpaa.H.quittanceref03_Is.calls a0 false _ A2.out).mono ?_); rintro e w' ⟨rfl, ⟨nd, rfl⟩⟩; refine ⟨_, rfl, ?_⟩; (try (rw [drewN_self w23]; generalize hq_ : World.drewN w23 _ = w23; have n0_ : Aside0 (w23.heap[gb114]? = some (.cells #[.int .i64 0, .int .i64 0, .int .i64 0] 115 (0, 0))) := ⟨by rw [← hq_]; exact (by (with_reducible repeat (first | refine blk_drewN ?_ _ | refine blk_drew ?_ | refine blk_alloc ?_ _)); exact BK114.out)⟩; have n1_ : Aside0 (Below w.heap.size w w23) := ⟨by rw [← hq_]; exact (by repeat (first | (with_reducible first | exact HB.out | apply below_alloc | apply pw_below_drewN | apply below_drew1 | refine below_set ?_ GE114.out) | exact HB.out))⟩; clear BK114 HB hq_; have BK114 := n0_; have HB := n1_; clear n0_ n1_)); (try have hu114_0 : w23.cell? ⟨gb114, 0, none⟩ = some (.int .i64 0) := (blk_cell BK114.out 0).trans rfl); (try have hu114_1 : w23.cell? ⟨gb114, 1, none⟩ = some (.int .i64 0) := (blk_cell BK114.out 1).trans rfl); (try have hu114_2 : w23.cell? ⟨gb114, 2, none⟩ = some (.int .i64 0) := (blk_cell BK114.out 2).trans rfl); (try have hv114_0 := blk_frozen BK114.out 0); (try have hv114_1 := blk_frozen BK114.out 1); (try have hv114_2 := blk_frozen BK114.out 2); have hcz24_0 : w23.cell? ⟨gb114, 0, none⟩ = some (.int .i64 0) := (blk_cell BK114.out 0).trans rfl; have hcz24_1 : w23.cell? ⟨gb114, 1, none⟩ = some (.int .i64 0) := (blk_cell BK114.out 1).trans rfl; have hcz24_2 : w23.cell? ⟨gb114, 2, none⟩ = some (.int .i64 0) := (blk_cell BK114.out 2).trans rfl; have hfz24_0 := blk_frozen BK114.out 0; have hfz24_1 := blk_frozen BK114.out 1; have hfz24_2 := blk_frozen BK114.out 2))
  refine bodyPost_ret (results_ct rfl _ _ gb114 115 #[.int .i64 0, .int .i64 0, .int .i64 0] (0, 0) _ rfl (by (with_reducible repeat (first | refine blk_drewN ?_ _ | refine blk_drew ?_ | refine blk_alloc ?_ _)); refine blk_put (cs := #[.int .i64 0, .int .i64 0, .int .i64 0]) ?_ 2 _ rfl; (with_reducible repeat (first | refine blk_drewN ?_ _ | refine blk_drew ?_ | refine blk_alloc ?_ _)); refine blk_put (cs := #[.int .i64 0, .int .i64 0, .int .i64 0]) ?_ 1 _ rfl; (with_reducible repeat (first | refine blk_drewN ?_ _ | refine blk_drew ?_ | refine blk_alloc ?_ _)); refine blk_put (cs := #[.int .i64 0, .int .i64 0, .int .i64 0]) ?_ 0 _ rfl; (with_reducible repeat (first | refine blk_drewN ?_ _ | refine blk_drew ?_ | refine blk_alloc ?_ _)); exact BK114.out) Try.underlying115 rfl (by kernel_rfl)) rfl ?_
  exact ⟨by first | rfl | (simp [errW_none, errW_some] <;> rfl) | (simp [*, errW_none, errW_some] <;> rfl), by repeat (first | (with_reducible first | exact HB.out | apply below_alloc | apply pw_below_drewN | apply below_drew1 | refine below_set ?_ GE114.out) | exact HB.out)⟩
end Go.Proofs.Ytbbbjjfecblhpaa.PB
/- What the printed functions on dates come to, in plain numbers: which number a date has, which date a number is; and their contracts in these words. -/
namespace Go.Proofs.Ytbbbjjfecblhpaa.H
open Go.RowKit Go.Proofs.YtbbbjjfecblhpaaW.PrintWords Go.Proofs.YtbbbjjfecblhpaaW.PrintLast Go.Proofs.YtbbbjjfecblhpaaW.PrintMore
open Go.Proofs.Ytbbbjjfecblhpaa.Math
theorem opens_bd {y : Int} (h1 : 1 ≤ y) (h2 : y ≤ 1000000) : -1000000 ≤ opens y ∧ opens y ≤ 400000000 := by unfold opens; omega
theorem num_loop (d : Nat) : ∀ (k : Nat) (x i y m dd : Int), m - i = d → d < k → 1 ≤ i → i ≤ m → m ≤ 12 → -1000000000 ≤ x → x + 31 * (m - i) ≤ 1000000000 →
  PB.civil_Number.l0 k x i y m dd = some (x + cum y m - cum y i, 0) := by
 induction d with
 | zero =>
  intro k x i y m dd h1 h2 h3 h4 h5 h6 h7
  obtain ⟨k, rfl⟩ : ∃ m, k = m + 1 := ⟨k - 1, by omega⟩
  obtain rfl : m = i := by omega
  simp only [PB.civil_Number.l0]
  rw [if_neg (by omega)]
  congr 2; omega
 | succ d ih =>
  intro k x i y m dd h1 h2 h3 h4 h5 h6 h7
  obtain ⟨k, rfl⟩ : ∃ m, k = m + 1 := ⟨k - 1, by omega⟩
  have hl := mlen_bd y i
  have hc := cum_succ y i h3 (by omega)
  simp only [PB.civil_Number.l0, civil_Month.f, Option.bind_some]
  rw [if_pos (by omega), w64 (x := x + mlen y i) (by omega) (by omega), w64 (x := i + 1) (by omega) (by omega), ih k _ (i + 1) y m dd (by omega) (by omega) (by omega) (by omega) h5 (by omega) (by omega)]
  congr 2; omega
theorem mlen_pos {y m : Int} (h : 1 ≤ mlen y m) : 1 ≤ m ∧ m ≤ 12 := by
 unfold mlen at h
 repeat' split at h
 all_goals omega
theorem civNumber (k : Nat) (hk : 20 ≤ k) (y m d : Int) : PB.civil_Number.f k y m d = some (number y m d) := by
 obtain ⟨k, rfl⟩ : ∃ m, k = m + 1 := ⟨k - 1, by omega⟩
 unfold PB.civil_Number.f
 simp only [PB.civil_Number.j0, civil_Month.f, Option.bind_some]
 by_cases h1 : y < 1900
 ·rw [if_pos h1, number_no (by unfold okDate; omega)]; simp
 rw [if_neg h1]
 by_cases h2 : y > 2200
 ·rw [if_pos h2, number_no (by unfold okDate; omega)]; simp
 rw [if_neg h2]
 by_cases h3 : d < 1
 ·rw [if_pos h3, number_no (by unfold okDate; omega)]; simp
 rw [if_neg h3]
 by_cases h4 : d > mlen y m
 ·rw [number_no (by unfold okDate; omega), decide_eq_true h4]; simp
 rw [decide_eq_false h4, number_yes (by unfold okDate; omega)]
 have hm := mlen_pos (y := y) (m := m) (by omega)
 have hb := mlen_bd y m
 have ho := opens_bd (y := y) (by omega) (by omega)
 simp only [Bool.false_eq_true, if_false, civil_Opens.f]
 rw [if_pos (by omega)]
 simp only [Option.bind_some]
 rw [w64 (x := opens y + d) (by omega) (by omega), w64 (by omega) (by omega), num_loop (m - 1).toNat k _ 1 y m d (by omega) (by omega) (by omega) hm.1 hm.2 (by omega) (by omega)]
 have c1 : cum y 1 = 0 := rfl
 congr 2; omega
theorem rnum_loop (d : Nat) : ∀ (k : Nat) (x i y m dd : Int), m - i = d → d < k → 1 ≤ i → i ≤ m → m ≤ 12 → -1000000000 ≤ x → x + 31 * (m - i) ≤ 1000000000 →
  PB.quittanceref03_Number.l0 k x i y m dd = some (x + cum y m - cum y i, 0) := by
 induction d with
 | zero =>
  intro k x i y m dd h1 h2 h3 h4 h5 h6 h7
  obtain ⟨k, rfl⟩ : ∃ m, k = m + 1 := ⟨k - 1, by omega⟩
  obtain rfl : m = i := by omega
  simp only [PB.quittanceref03_Number.l0]
  rw [if_neg (by omega)]
  congr 2; omega
 | succ d ih =>
  intro k x i y m dd h1 h2 h3 h4 h5 h6 h7
  obtain ⟨k, rfl⟩ : ∃ m, k = m + 1 := ⟨k - 1, by omega⟩
  have hl := mlen_bd y i
  have hc := cum_succ y i h3 (by omega)
  simp only [PB.quittanceref03_Number.l0, quittanceref03_Month.f, Option.bind_some]
  rw [if_pos (by omega), w64 (x := x + mlen y i) (by omega) (by omega), w64 (x := i + 1) (by omega) (by omega), ih k _ (i + 1) y m dd (by omega) (by omega) (by omega) (by omega) h5 (by omega) (by omega)]
  congr 2; omega
theorem refNumber (k : Nat) (hk : 20 ≤ k) (y m d : Int) : PB.quittanceref03_Number.f k y m d = some (number y m d) := by
 obtain ⟨k, rfl⟩ : ∃ m, k = m + 1 := ⟨k - 1, by omega⟩
 unfold PB.quittanceref03_Number.f
 simp only [PB.quittanceref03_Number.j0, quittanceref03_Month.f, Option.bind_some]
 by_cases h1 : y < 1900
 ·rw [if_pos h1, number_no (by unfold okDate; omega)]; simp
 rw [if_neg h1]
 by_cases h2 : y > 2200
 ·rw [if_pos h2, number_no (by unfold okDate; omega)]; simp
 rw [if_neg h2]
 by_cases h3 : d < 1
 ·rw [if_pos h3, number_no (by unfold okDate; omega)]; simp
 rw [if_neg h3]
 by_cases h4 : d > mlen y m
 ·rw [number_no (by unfold okDate; omega), decide_eq_true h4]; simp
 rw [decide_eq_false h4, number_yes (by unfold okDate; omega)]
 have hm := mlen_pos (y := y) (m := m) (by omega)
 have hb := mlen_bd y m
 have ho := opens_bd (y := y) (by omega) (by omega)
 simp only [Bool.false_eq_true, if_false, quittanceref03_before.f]
 rw [if_pos (by omega)]
 simp only [Option.bind_some]
 rw [w64 (x := -25567 + (opens y + 25567)) (by omega) (by omega), w64 (x := -25567 + (opens y + 25567) + d) (by omega) (by omega), w64 (by omega) (by omega), rnum_loop (m - 1).toNat k _ 1 y m d (by omega) (by omega) (by omega) hm.1 hm.2 (by omega) (by omega)]
 have c1 : cum y 1 = 0 := rfl
 congr 2; omega
theorem month_test {y r i : Int} (h0 : 0 ≤ r) (h1 : r < 365 + leap y) (hi : 1 ≤ i) (hi2 : i ≤ 12) : (i < monthIn y r → mlen y i ≤ r - cum y i) ∧ (i = monthIn y r → ¬ mlen y i ≤ r - cum y i) := by
 obtain ⟨m1, m2, m3, m4⟩ := monthIn_spec h0 h1
 have hc := cum_succ y i hi hi2
 refine ⟨fun h => ?_, fun h => ?_⟩
 ·have := cum_mono (y := y) hi h (by omega); omega
 ·rw [← h] at m4; omega
theorem date_loop (d : Nat) : ∀ (k : Nat) (i y r : Int), 0 ≤ r → r < 365 + leap y → monthIn y r - i = d → d < k → 1 ≤ i →
  PB.civil_Date.l1 k y (r - cum y i) i = some (y, monthIn y r, r - cum y (monthIn y r) + 1, 0) := by
 induction d with
 | zero =>
  intro k i y r h0 h1 h2 h3 h4
  obtain ⟨k, rfl⟩ : ∃ m, k = m + 1 := ⟨k - 1, by omega⟩
  obtain ⟨m1, m2, m3, m4⟩ := monthIn_spec h0 h1
  have hl := leap_01 y
  have hb := cum_bd y (monthIn y r) m1 (by omega)
  have ht := (month_test h0 h1 h4 (by omega)).2 (by omega)
  simp only [PB.civil_Date.l1, civil_Month.f, Option.bind_some]
  obtain e : i = monthIn y r := by omega
  rw [if_neg ht, e, w64 (by omega) (by omega)]
 | succ d ih =>
  intro k i y r h0 h1 h2 h3 h4
  obtain ⟨k, rfl⟩ : ∃ m, k = m + 1 := ⟨k - 1, by omega⟩
  obtain ⟨m1, m2, m3, m4⟩ := monthIn_spec h0 h1
  have hl := leap_01 y
  have hb := cum_bd y i h4 (by omega)
  have hm := mlen_bd y i
  have hc := cum_succ y i h4 (by omega)
  have ht := (month_test h0 h1 h4 (by omega)).1 (by omega)
  simp only [PB.civil_Date.l1, civil_Month.f, Option.bind_some]
  rw [if_pos ht, w64 (by omega) (by omega), w64 (x := i + 1) (by omega) (by omega), show r - cum y i - mlen y i = r - cum y (i + 1) by omega]
  exact ih k (i + 1) y r h0 h1 (by omega) (by omega) (by omega)
theorem rdate_loop (d : Nat) : ∀ (k : Nat) (i y r z : Int), 0 ≤ r → r < 365 + leap y → monthIn y r - i = d → d < k → 1 ≤ i →
  PB.quittanceref03_Date.l1 k (r - cum y i) y i z = some (y, monthIn y r, r - cum y (monthIn y r) + 1, 0) := by
 induction d with
 | zero =>
  intro k i y r z h0 h1 h2 h3 h4
  obtain ⟨k, rfl⟩ : ∃ m, k = m + 1 := ⟨k - 1, by omega⟩
  obtain ⟨m1, m2, m3, m4⟩ := monthIn_spec h0 h1
  have hl := leap_01 y
  have hb := cum_bd y (monthIn y r) m1 (by omega)
  have ht := (month_test h0 h1 h4 (by omega)).2 (by omega)
  simp only [PB.quittanceref03_Date.l1, quittanceref03_Month.f, Option.bind_some]
  obtain e : i = monthIn y r := by omega
  rw [if_neg ht, e, w64 (by omega) (by omega)]
 | succ d ih =>
  intro k i y r z h0 h1 h2 h3 h4
  obtain ⟨k, rfl⟩ : ∃ m, k = m + 1 := ⟨k - 1, by omega⟩
  obtain ⟨m1, m2, m3, m4⟩ := monthIn_spec h0 h1
  have hl := leap_01 y
  have hb := cum_bd y i h4 (by omega)
  have hm := mlen_bd y i
  have hc := cum_succ y i h4 (by omega)
  have ht := (month_test h0 h1 h4 (by omega)).1 (by omega)
  simp only [PB.quittanceref03_Date.l1, quittanceref03_Month.f, Option.bind_some]
  rw [if_pos ht, w64 (by omega) (by omega), w64 (x := i + 1) (by omega) (by omega), show r - cum y i - mlen y i = r - cum y (i + 1) by omega]
  exact ih k (i + 1) y r z h0 h1 (by omega) (by omega) (by omega)
theorem date_in (k : Nat) (hk : 20 ≤ k) {n : Int} (h : isDay n) : PB.civil_Date.j2 k n (yearOf n) = some (date n) := by
 obtain ⟨k, rfl⟩ : ∃ m, k = m + 1 := ⟨k - 1, by omega⟩
 obtain ⟨y1, y2, y3, y4⟩ := yearOf_spec h
 have ho := opens_succ (yearOf n)
 obtain ⟨m1, m2, m3, m4⟩ := monthIn_spec (y := yearOf n) (r := n - opens (yearOf n)) (by omega) (by omega)
 have hb := opens_bd (y := yearOf n) (by omega) (by omega)
 obtain ⟨h1, h2⟩ := h
 simp only [PB.civil_Date.j2, civil_Opens.f]
 rw [if_pos (by omega)]
 simp only [Option.bind_some]
 have e := date_loop (monthIn (yearOf n) (n - opens (yearOf n)) - 1).toNat k 1 (yearOf n) (n - opens (yearOf n)) (by omega) (by omega) (by omega) (by omega) (by omega)
 have c1 : cum (yearOf n) 1 = 0 := rfl
 rw [c1, Int.sub_zero] at e
 rw [w64 (by omega) (by omega), e]
 rw [date_yes ⟨h1, h2⟩]
 rfl
theorem civDate (k : Nat) (hk : 30 ≤ k) (n : Int) : PB.civil_Date.f k n = some (date n) := by
 obtain ⟨k, rfl⟩ : ∃ m, k = m + 1 := ⟨k - 1, by omega⟩
 unfold PB.civil_Date.f
 simp only [PB.civil_Date.j0]
 by_cases h1 : n < -25567
 ·rw [if_pos h1, date_no (by unfold isDay; omega)]; simp
 rw [if_neg h1]
 by_cases h2 : n > 84370
 ·rw [decide_eq_true h2, date_no (by unfold isDay; omega)]; simp
 rw [decide_eq_false h2]
 simp only [Bool.false_eq_true, if_false]
 have hd : isDay n := ⟨by omega, by omega⟩
 obtain ⟨g1, g2, g3, g4⟩ := guess_spec hd
 have eg : wrap64 (1900 + wrap64 (Int.tdiv (wrap64 (n + 25567)) 366)) = guess n := by
  unfold guess
  rw [w64 (x := n + 25567) (by omega) (by omega), tdiv_pos (by omega), w64 (x := (n + 25567) / 366) (by omega) (by omega), w64 (by omega) (by omega)]
 rw [eg]
 obtain ⟨k, rfl⟩ : ∃ m, k = m + 2 := ⟨k - 2, by omega⟩
 have jd := date_in (k + 1) (by omega) hd
 have jd0 := date_in k (by omega) hd
 obtain ⟨y1, y2, y3, y4⟩ := yearOf_spec hd
 unfold yearOf at jd jd0 y2
 by_cases hlt : guess n < 2200
 ·simp only [PB.civil_Date.l0, civil_Opens.f]
  rw [if_pos hlt, w64 (x := guess n + 1) (by omega) (by omega), if_pos (by omega)]
  simp only [Option.bind_some]
  by_cases hle : opens (guess n + 1) ≤ n
  ·rw [if_pos hle]
   rw [if_pos hle] at jd jd0 y2
   by_cases hl2 : guess n + 1 < 2200
   ·rw [if_pos hl2, w64 (x := guess n + 1 + 1) (by omega) (by omega), if_pos (by omega)]
    simp only [Option.bind_some]
    rw [if_neg (by rw [show guess n + 1 + 1 = guess n + 2 by omega]; omega)]
    exact jd0
   ·rw [if_neg hl2]; exact jd0
  ·rw [if_neg hle]
   rw [if_neg hle] at jd
   exact jd
 ·have e : guess n = 2200 := by omega
  simp only [PB.civil_Date.l0]
  rw [if_neg hlt]
  have hle : ¬ opens (guess n + 1) ≤ n := fun hle => by rw [if_pos hle] at y2; omega
  rw [if_neg hle] at jd
  exact jd
theorem rdate_in (k : Nat) (hk : 20 ≤ k) {n : Int} (z : Int) (h : isDay n) : PB.quittanceref03_Date.l1 k (n - opens (yearOf n)) (yearOf n) 1 z = some (date n) := by
 obtain ⟨y1, y2, y3, y4⟩ := yearOf_spec h
 have ho := opens_succ (yearOf n)
 obtain ⟨m1, m2, m3, m4⟩ := monthIn_spec (y := yearOf n) (r := n - opens (yearOf n)) (by omega) (by omega)
 have e := rdate_loop (monthIn (yearOf n) (n - opens (yearOf n)) - 1).toNat k 1 (yearOf n) (n - opens (yearOf n)) z (by omega) (by omega) (by omega) (by omega) (by omega)
 have c1 : cum (yearOf n) 1 = 0 := rfl
 rw [c1, Int.sub_zero] at e
 rw [e]
 rw [date_yes h]
 rfl
theorem refDate (k : Nat) (hk : 30 ≤ k) (n : Int) : PB.quittanceref03_Date.f k n = some (date n) := by
 unfold PB.quittanceref03_Date.f
 simp only [quittanceref03_Is.f, Option.bind_some]
 by_cases hd : isDay n
 ·rw [decide_eq_true hd]
  simp only [if_true]
  obtain ⟨g1, g2, g3, g4⟩ := guess_spec hd
  obtain ⟨h1, h2⟩ := id hd
  have e0 : wrap64 (n + 25567) = n + 25567 := w64 (by omega) (by omega)
  have eg : wrap64 (1900 + wrap64 (Int.tdiv (n + 25567) 366)) = guess n := by
   unfold guess
   rw [tdiv_pos (by omega), w64 (x := (n + 25567) / 366) (by omega) (by omega), w64 (by omega) (by omega)]
  rw [e0, eg]
  obtain ⟨k, rfl⟩ : ∃ m, k = m + 2 := ⟨k - 2, by omega⟩
  have jd := rdate_in (k + 1) (by omega) 0 hd
  have jd0 := rdate_in k (by omega) 0 hd
  obtain ⟨y1, y2, y3, y4⟩ := yearOf_spec hd
  have hob := opens_bd (y := guess n) (by omega) (by omega)
  have hob1 := opens_bd (y := guess n + 1) (by omega) (by omega)
  have hob2 := opens_bd (y := guess n + 2) (by omega) (by omega)
  unfold yearOf at jd jd0 y2
  simp only [PB.quittanceref03_Date.l0, quittanceref03_before.f]
  rw [w64 (x := guess n + 1) (by omega) (by omega), if_pos (by omega)]
  simp only [Option.bind_some]
  by_cases hle : opens (guess n + 1) ≤ n
  ·rw [if_pos (by omega), w64 (x := guess n + 1 + 1) (by omega) (by omega), if_pos (by omega)]
   rw [if_pos hle] at jd0
   simp only [Option.bind_some]
   rw [if_neg (by rw [show guess n + 1 + 1 = guess n + 2 by omega]; omega)]
   rw [w64 (by omega) (by omega), show n + 25567 - (opens (guess n + 1) + 25567) = n - opens (guess n + 1) by omega]
   exact jd0
  ·rw [if_neg (by omega), if_pos (by omega)]
   rw [if_neg hle] at jd
   simp only [Option.bind_some]
   rw [w64 (by omega) (by omega), show n + 25567 - (opens (guess n) + 25567) = n - opens (guess n) by omega]
   exact jd
 ·rw [decide_eq_false hd]
  rw [date_no hd]; simp
/-! ### The contracts in these words -/
def civil_Number.f (y m d : Int) : Option (Int × Int) := some (number y m d)
theorem civil_Number.calls (a0_0 a0_1 a0_2 r1 r2 : Int) (w : World) (h : civil_Number.f a0_0 a0_1 a0_2 = some (r1, r2)) :
  Calls Try.prog 107 #[.agg #[.int .i64 a0_0, .int .i64 a0_1, .int .i64 a0_2]] w fun e w' => e = .returned (.tuple #[.int .i64 r1, .int .i64 r2]) ∧ Below w.heap.size w w' :=
 PB.civil_Number.calls 20 a0_0 a0_1 a0_2 r1 r2 w ((civNumber 20 (by omega) a0_0 a0_1 a0_2).trans h)
def quittanceref03_Number.f (y m d : Int) : Option (Int × Int) := some (number y m d)
theorem quittanceref03_Number.calls (a0_0 a0_1 a0_2 r1 r2 : Int) (w : World) (h : quittanceref03_Number.f a0_0 a0_1 a0_2 = some (r1, r2)) :
  Calls Try.prog 92 #[.agg #[.int .i64 a0_0, .int .i64 a0_1, .int .i64 a0_2]] w fun e w' => e = .returned (.tuple #[.int .i64 r1, .int .i64 r2]) ∧ Below w.heap.size w w' :=
 PB.quittanceref03_Number.calls 20 a0_0 a0_1 a0_2 r1 r2 w ((refNumber 20 (by omega) a0_0 a0_1 a0_2).trans h)
def civil_Date.f (n : Int) : Option (Int × Int × Int × Int) := some (date n)
theorem civil_Date.calls (a0 r1 r2 r3 r4 : Int) (w : World) (h : civil_Date.f a0 = some (r1, r2, r3, r4)) :
  Calls Try.prog 96 #[.int .i64 a0] w fun e w' => e = .returned (.tuple #[.agg #[.int .i64 r1, .int .i64 r2, .int .i64 r3], .int .i64 r4]) ∧ Below w.heap.size w w' :=
 PB.civil_Date.calls 30 a0 r1 r2 r3 r4 w ((civDate 30 (by omega) a0).trans h)
def quittanceref03_Date.f (n : Int) : Option (Int × Int × Int × Int) := some (date n)
theorem quittanceref03_Date.calls (a0 r1 r2 r3 r4 : Int) (w : World) (h : quittanceref03_Date.f a0 = some (r1, r2, r3, r4)) :
  Calls Try.prog 71 #[.int .i64 a0] w fun e w' => e = .returned (.tuple #[.agg #[.int .i64 r1, .int .i64 r2, .int .i64 r3], .int .i64 r4]) ∧ Below w.heap.size w w' :=
 PB.quittanceref03_Date.calls 30 a0 r1 r2 r3 r4 w ((refDate 30 (by omega) a0).trans h)
end Go.Proofs.Ytbbbjjfecblhpaa.H
namespace Go.Proofs.Ytbbbjjfecblhpaa.PD
open Go.RowKit Go.Proofs.YtbbbjjfecblhpaaW.PrintWords Go.Proofs.YtbbbjjfecblhpaaW.PrintLast Go.Proofs.YtbbbjjfecblhpaaW.PrintMore Go.Proofs.Ytbbbjjfecblhpaa.HW
attribute [local go_sem] run_makeFunc_ max2_int min2_int max_two min_two max_three min_three max_four min_four   -- for this text's walks alone
set_option linter.unusedVariables false
set_option linter.unusedSimpArgs false
def errW : Option Int → Value
 | none => .nilIface
 | some c => .iface 0 (.int .i64 c)
theorem errW_none : errW none = .nilIface := rfl
theorem errW_some (c : Int) : errW (some c) = .iface 0 (.int .i64 c) := rfl
end Go.Proofs.Ytbbbjjfecblhpaa.PD
namespace Go.Proofs.Ytbbbjjfecblhpaa.PD
open Go.RowKit Go.Proofs.YtbbbjjfecblhpaaW.PrintWords Go.Proofs.YtbbbjjfecblhpaaW.PrintLast Go.Proofs.YtbbbjjfecblhpaaW.PrintMore Go.Proofs.Ytbbbjjfecblhpaa.HW
attribute [local go_sem] run_makeFunc_ max2_int min2_int max_two min_two max_three min_three max_four min_four   -- for this text's walks alone
set_option linter.unusedVariables false
set_option linter.unusedSimpArgs false
/-! ### quittanceref06_thirty: function 75 -/
def quittanceref06_thirty.f (a0 : Int) : Option (Int) := (Go.Proofs.Ytbbbjjfecblhpaa.H.quittanceref03_Date.f a0).bind fun bt101 => (some (wrap64 ((wrap64 ((wrap64 (360 * bt101.1)) + (wrap64 (30 * bt101.2.1)))) + (mn bt101.2.2.1 30))))
set_option maxHeartbeats 8000000 in
set_option maxRecDepth 100000 in
theorem quittanceref06_thirty.calls (a0 : Int) (r : Int) (w : World) (h : quittanceref06_thirty.f a0 = some r) :
  Calls Try.prog 75 #[.int .i64 a0] w fun e w' => e = .returned (.int .i64 r) ∧ Below w.heap.size w w' := by
 have hu115 := Try.underlying115
 have HB := Aside0.mk (Below.refl w.heap.size w)
 have H : ((Go.Proofs.Ytbbbjjfecblhpaa.H.quittanceref03_Date.f a0).bind fun bt101 => (some (wrap64 ((wrap64 ((wrap64 (360 * bt101.1)) + (wrap64 (30 * bt101.2.1)))) + (mn bt101.2.2.1 30))))) = some r := h
 clear h
 replace H := Option.bind_eq_some_iff.mp H
 obtain ⟨⟨t101, t102, t103, t104⟩, A20, H⟩ := H
 replace H : (some (wrap64 ((wrap64 ((wrap64 (360 * t101)) + (wrap64 (30 * t102)))) + (mn t103 30)))) = some r := H
 have A2 := Aside0.mk A20
 clear A20
 obtain ⟨ji3, hji3⟩ : ∃ j_ : Int, (mn t103 30) = j_ := ⟨_, rfl⟩
 replace H : (some (wrap64 ((wrap64 ((wrap64 (360 * t101)) + (wrap64 (30 * t102)))) + (ji3)))) = some r := by first | (rw [hji3] at H; exact H) | (simp only [hji3] at H ⊢; exact H)
 (try rw [hji3] at A2)
 (try (have hji3h : ji3 ≤ 30 := by (rw [← hji3]; unfold mn; (repeat' split) <;> omega)))
 (try (have hji3g : ji3 ≤ 64 := by omega))
 have hji3_ : (if 30 < t103 then 30 else t103) = ji3 := hji3
 obtain rfl := Option.some.inj H
 go_enter Try.func75, Try.ntmps75
 go_wp2_with (first | ((with_reducible refine gate_callee (f := 71) rfl ?_); refine goesL_ (some 7) rfl rfl Try.func71 (by kernel_rfl) rfl #[.int .i64 a0] rfl (by (try simp only [List.map_toArray, List.map_cons, List.map_nil]); first | done | rfl | (simp only [List.length_drop, List.length_take]; rfl)) ?_; (with_reducible refine (Go.Proofs.Ytbbbjjfecblhpaa.H.quittanceref03_Date.calls a0 t101 t102 t103 t104 _ A2.out).mono ?_); rintro e w4 ⟨rfl, hb⟩; refine ⟨_, rfl, ?_⟩; have n0_ := Aside0.mk (below_step (by repeat (first | (with_reducible first | exact HB.out | apply below_alloc | apply pw_below_drewN | apply below_drew1) | exact HB.out)) hb); clear HB; have HB := n0_; clear n0_; (try clear hb); (try clear hb2); (try clear hk); (try clear hi)) | ((with_reducible refine gate_dst (N := 3) rfl ?_); refine box_event ?hg (N := 3) ?hd (cs := #[.int .i64 0, .int .i64 0, .int .i64 0]) (t := 115) ?hr ?_; (case hd => rfl); (case hg => rfl); (case hr => first | (go_simp; done) | (go_simp; rfl)); intro gb105 hg w5 hbox hb; have n0_ := Aside0.mk (below_step (by repeat (first | (with_reducible first | exact HB.out | apply below_alloc | apply pw_below_drewN | apply below_drew1) | exact HB.out)) hb); have n1_ := Aside0.mk (hbox); have n2_ := Aside0.mk ((by rw [hg]; exact (below_size (by repeat (first | (with_reducible first | exact HB.out | apply below_alloc | apply pw_below_drewN | apply below_drew1) | exact HB.out))) : w.heap.size ≤ gb105)); have n3_ := Aside0.mk ((by rw [hg]; exact (below_size (by repeat (first | (with_reducible first | exact HB.out | apply below_alloc | apply pw_below_drewN | apply below_drew1) | exact HB.out))) : w.heap.size ≤ gb105)); clear HB; have HB := n0_; have BK105 := n1_; have GW105 := n2_; have GE105 := n3_; clear n0_ n1_ n2_ n3_; clear hb hbox hg; (try have hu105_0 : w5.cell? ⟨gb105, 0, none⟩ = some (.int .i64 0) := (blk_cell BK105.out 0).trans rfl); (try have hu105_1 : w5.cell? ⟨gb105, 1, none⟩ = some (.int .i64 0) := (blk_cell BK105.out 1).trans rfl); (try have hu105_2 : w5.cell? ⟨gb105, 2, none⟩ = some (.int .i64 0) := (blk_cell BK105.out 2).trans rfl); (try have hv105_0 := blk_frozen BK105.out 0); (try have hv105_1 := blk_frozen BK105.out 1); (try have hv105_2 := blk_frozen BK105.out 2); have hcz6_0 : w5.cell? ⟨gb105, 0, none⟩ = some (.int .i64 0) := (blk_cell BK105.out 0).trans rfl; have hcz6_1 : w5.cell? ⟨gb105, 1, none⟩ = some (.int .i64 0) := (blk_cell BK105.out 1).trans rfl; have hcz6_2 : w5.cell? ⟨gb105, 2, none⟩ = some (.int .i64 0) := (blk_cell BK105.out 2).trans rfl; have hfz6_0 := blk_frozen BK105.out 0; have hfz6_1 := blk_frozen BK105.out 1; have hfz6_2 := blk_frozen BK105.out 2))
 go_ret
 exact ⟨by first | rfl | (simp [errW_none, errW_some] <;> rfl) | (simp only [← hji3]; first | rfl | (simp [errW_none, errW_some] <;> rfl)) | (simp [*, errW_none, errW_some] <;> rfl), by repeat (first | (with_reducible first | exact HB.out | apply below_alloc | apply pw_below_drewN | apply below_drew1 | refine below_set ?_ GE105.out) | exact HB.out)⟩
/-! ### quittanceref06_One: function 76 -/
def quittanceref06_One.f (a0 : Int) (a1 : Int) : Option (Int) := (Go.Proofs.Ytbbbjjfecblhpaa.H.quittanceref03_Date.f a1).bind fun bt106 => (if a0 = 2 then (some 1) else (if a0 = 3 then ((Go.Proofs.Ytbbbjjfecblhpaa.H.quittanceref03_Long.f bt106.1).bind fun t111 => (if t111 = true then (some 365) else (some 366))) else ((quittanceref06_thirty.f (wrap64 (a1 + 1))).bind fun t112 => ((quittanceref06_thirty.f a1).bind fun t113 => (some (wrap64 (t112 - t113)))))))
set_option maxHeartbeats 8000000 in
set_option maxRecDepth 100000 in
theorem quittanceref06_One.calls (a0 : Int) (a1 : Int) (r : Int) (w : World) (h : quittanceref06_One.f a0 a1 = some r) :
  Calls Try.prog 76 #[.int .i64 a0, .int .i64 a1] w fun e w' => e = .returned (.int .i64 r) ∧ Below w.heap.size w w' := by
 have hu115 := Try.underlying115
 have HB := Aside0.mk (Below.refl w.heap.size w)
 have H : ((Go.Proofs.Ytbbbjjfecblhpaa.H.quittanceref03_Date.f a1).bind fun bt106 => (if a0 = 2 then (some 1) else (if a0 = 3 then ((Go.Proofs.Ytbbbjjfecblhpaa.H.quittanceref03_Long.f bt106.1).bind fun t111 => (if t111 = true then (some 365) else (some 366))) else ((quittanceref06_thirty.f (wrap64 (a1 + 1))).bind fun t112 => ((quittanceref06_thirty.f a1).bind fun t113 => (some (wrap64 (t112 - t113)))))))) = some r := h
 clear h
 replace H := Option.bind_eq_some_iff.mp H
 obtain ⟨⟨t106, t107, t108, t109⟩, A30, H⟩ := H
 replace H : (if a0 = 2 then (some 1) else (if a0 = 3 then ((Go.Proofs.Ytbbbjjfecblhpaa.H.quittanceref03_Long.f t106).bind fun t111 => (if t111 = true then (some 365) else (some 366))) else ((quittanceref06_thirty.f (wrap64 (a1 + 1))).bind fun t112 => ((quittanceref06_thirty.f a1).bind fun t113 => (some (wrap64 (t112 - t113))))))) = some r := H
 have A3 := Aside0.mk A30
 clear A30
 by_cases c4 : a0 = 2
 ·rw [if_pos c4] at H
  have c4b0 : (a0 == 2) = true := beq_iff_eq.mpr c4
  have c4b1 : (a0 != 2) = false := bne_eq_false_iff_eq.mpr c4
  clear c4
  obtain rfl := Option.some.inj H
  go_enter Try.func76, Try.ntmps76
  go_wp2_with (first | ((with_reducible refine gate_callee (f := 71) rfl ?_); refine goesL_ (some 9) rfl rfl Try.func71 (by kernel_rfl) rfl #[.int .i64 a1] rfl (by (try simp only [List.map_toArray, List.map_cons, List.map_nil]); first | done | rfl | (simp only [List.length_drop, List.length_take]; rfl)) ?_; (with_reducible refine (Go.Proofs.Ytbbbjjfecblhpaa.H.quittanceref03_Date.calls a1 t106 t107 t108 t109 _ A3.out).mono ?_); rintro e w5 ⟨rfl, hb⟩; refine ⟨_, rfl, ?_⟩; have n0_ := Aside0.mk (below_step (by repeat (first | (with_reducible first | exact HB.out | apply below_alloc | apply pw_below_drewN | apply below_drew1) | exact HB.out)) hb); clear HB; have HB := n0_; clear n0_; (try clear hb); (try clear hb2); (try clear hk); (try clear hi)) | ((with_reducible refine gate_dst (N := 5) rfl ?_); refine box_event ?hg (N := 5) ?hd (cs := #[.int .i64 0, .int .i64 0, .int .i64 0]) (t := 115) ?hr ?_; (case hd => rfl); (case hg => rfl); (case hr => first | (go_simp; done) | (go_simp; rfl)); intro gb110 hg w6 hbox hb; have n0_ := Aside0.mk (below_step (by repeat (first | (with_reducible first | exact HB.out | apply below_alloc | apply pw_below_drewN | apply below_drew1) | exact HB.out)) hb); have n1_ := Aside0.mk (hbox); have n2_ := Aside0.mk ((by rw [hg]; exact (below_size (by repeat (first | (with_reducible first | exact HB.out | apply below_alloc | apply pw_below_drewN | apply below_drew1) | exact HB.out))) : w.heap.size ≤ gb110)); have n3_ := Aside0.mk ((by rw [hg]; exact (below_size (by repeat (first | (with_reducible first | exact HB.out | apply below_alloc | apply pw_below_drewN | apply below_drew1) | exact HB.out))) : w.heap.size ≤ gb110)); clear HB; have HB := n0_; have BK110 := n1_; have GW110 := n2_; have GE110 := n3_; clear n0_ n1_ n2_ n3_; clear hb hbox hg; (try have hu110_0 : w6.cell? ⟨gb110, 0, none⟩ = some (.int .i64 0) := (blk_cell BK110.out 0).trans rfl); (try have hu110_1 : w6.cell? ⟨gb110, 1, none⟩ = some (.int .i64 0) := (blk_cell BK110.out 1).trans rfl); (try have hu110_2 : w6.cell? ⟨gb110, 2, none⟩ = some (.int .i64 0) := (blk_cell BK110.out 2).trans rfl); (try have hv110_0 := blk_frozen BK110.out 0); (try have hv110_1 := blk_frozen BK110.out 1); (try have hv110_2 := blk_frozen BK110.out 2); have hcz7_0 : w6.cell? ⟨gb110, 0, none⟩ = some (.int .i64 0) := (blk_cell BK110.out 0).trans rfl; have hcz7_1 : w6.cell? ⟨gb110, 1, none⟩ = some (.int .i64 0) := (blk_cell BK110.out 1).trans rfl; have hcz7_2 : w6.cell? ⟨gb110, 2, none⟩ = some (.int .i64 0) := (blk_cell BK110.out 2).trans rfl; have hfz7_0 := blk_frozen BK110.out 0; have hfz7_1 := blk_frozen BK110.out 1; have hfz7_2 := blk_frozen BK110.out 2))
  go_ret
  exact ⟨by first | rfl | (simp [errW_none, errW_some] <;> rfl) | (simp [*, errW_none, errW_some] <;> rfl), by repeat (first | (with_reducible first | exact HB.out | apply below_alloc | apply pw_below_drewN | apply below_drew1 | refine below_set ?_ GE110.out) | exact HB.out)⟩
 ·rw [if_neg c4] at H
  have c4b0 : (a0 == 2) = false := beq_eq_false_iff_ne.mpr c4
  have c4b1 : (a0 != 2) = true := bne_iff_ne.mpr c4
  by_cases c8 : a0 = 3
  ·rw [if_pos c8] at H
   have c8b0 : (a0 == 3) = true := beq_iff_eq.mpr c8
   have c8b1 : (a0 != 3) = false := bne_eq_false_iff_eq.mpr c8
   clear c8
   replace H := Option.bind_eq_some_iff.mp H
   obtain ⟨t111, A90, H⟩ := H
   replace H : (if t111 = true then (some 365) else (some 366)) = some r := H
   have A9 := Aside0.mk A90
   clear A90
   by_cases c10 : t111 = true
   ·subst c10
    have H1 : (some 365) = some r := by rw [if_pos rfl] at H; exact H
    clear H
    have H := H1
    clear H1
    obtain rfl := Option.some.inj H
    go_enter Try.func76, Try.ntmps76
    go_wp2_with (first | ((with_reducible refine gate_callee (f := 71) rfl ?_); refine goesL_ (some 9) rfl rfl Try.func71 (by kernel_rfl) rfl #[.int .i64 a1] rfl (by (try simp only [List.map_toArray, List.map_cons, List.map_nil]); first | done | rfl | (simp only [List.length_drop, List.length_take]; rfl)) ?_; (with_reducible refine (Go.Proofs.Ytbbbjjfecblhpaa.H.quittanceref03_Date.calls a1 t106 t107 t108 t109 _ A3.out).mono ?_); rintro e w11 ⟨rfl, hb⟩; refine ⟨_, rfl, ?_⟩; have n0_ := Aside0.mk (below_step (by repeat (first | (with_reducible first | exact HB.out | apply below_alloc | apply pw_below_drewN | apply below_drew1) | exact HB.out)) hb); clear HB; have HB := n0_; clear n0_; (try clear hb); (try clear hb2); (try clear hk); (try clear hi)) | ((with_reducible refine gate_dst (N := 5) rfl ?_); refine box_event ?hg (N := 5) ?hd (cs := #[.int .i64 0, .int .i64 0, .int .i64 0]) (t := 115) ?hr ?_; (case hd => rfl); (case hg => rfl); (case hr => first | (go_simp; done) | (go_simp; rfl)); intro gb110 hg w12 hbox hb; have n0_ := Aside0.mk (below_step (by repeat (first | (with_reducible first | exact HB.out | apply below_alloc | apply pw_below_drewN | apply below_drew1) | exact HB.out)) hb); have n1_ := Aside0.mk (hbox); have n2_ := Aside0.mk ((by rw [hg]; exact (below_size (by repeat (first | (with_reducible first | exact HB.out | apply below_alloc | apply pw_below_drewN | apply below_drew1) | exact HB.out))) : w.heap.size ≤ gb110)); have n3_ := Aside0.mk ((by rw [hg]; exact (below_size (by repeat (first | (with_reducible first | exact HB.out | apply below_alloc | apply pw_below_drewN | apply below_drew1) | exact HB.out))) : w.heap.size ≤ gb110)); clear HB; have HB := n0_; have BK110 := n1_; have GW110 := n2_; have GE110 := n3_; clear n0_ n1_ n2_ n3_; clear hb hbox hg; (try have hu110_0 : w12.cell? ⟨gb110, 0, none⟩ = some (.int .i64 0) := (blk_cell BK110.out 0).trans rfl); (try have hu110_1 : w12.cell? ⟨gb110, 1, none⟩ = some (.int .i64 0) := (blk_cell BK110.out 1).trans rfl); (try have hu110_2 : w12.cell? ⟨gb110, 2, none⟩ = some (.int .i64 0) := (blk_cell BK110.out 2).trans rfl); (try have hv110_0 := blk_frozen BK110.out 0); (try have hv110_1 := blk_frozen BK110.out 1); (try have hv110_2 := blk_frozen BK110.out 2); have hcz13_0 : w12.cell? ⟨gb110, 0, none⟩ = some (.int .i64 0) := (blk_cell BK110.out 0).trans rfl; have hcz13_1 : w12.cell? ⟨gb110, 1, none⟩ = some (.int .i64 0) := (blk_cell BK110.out 1).trans rfl; have hcz13_2 : w12.cell? ⟨gb110, 2, none⟩ = some (.int .i64 0) := (blk_cell BK110.out 2).trans rfl; have hfz13_0 := blk_frozen BK110.out 0; have hfz13_1 := blk_frozen BK110.out 1; have hfz13_2 := blk_frozen BK110.out 2) | ((with_reducible refine gate_callee (f := 99) rfl ?_); refine goesL_ (some 19) rfl rfl Try.func99 (by kernel_rfl) rfl #[.int .i64 t106] rfl (by (try simp only [List.map_toArray, List.map_cons, List.map_nil]); first | done | rfl | (simp only [List.length_drop, List.length_take]; rfl)) ?_; (with_reducible refine (Go.Proofs.Ytbbbjjfecblhpaa.H.quittanceref03_Long.calls t106 true _ A9.out).mono ?_); rintro e w' ⟨rfl, ⟨nd, rfl⟩⟩; refine ⟨_, rfl, ?_⟩))
    go_ret
    exact ⟨by first | rfl | (simp [errW_none, errW_some] <;> rfl) | (simp [*, errW_none, errW_some] <;> rfl), by repeat (first | (with_reducible first | exact HB.out | apply below_alloc | apply pw_below_drewN | apply below_drew1 | refine below_set ?_ GE110.out) | exact HB.out)⟩
   ·replace c10 := Bool.eq_false_iff.mpr c10
    subst c10
    have H1 : (some 366) = some r := by rw [if_neg (show ¬ (false = true) by decide)] at H; exact H
    clear H
    have H := H1
    clear H1
    obtain rfl := Option.some.inj H
    go_enter Try.func76, Try.ntmps76
    go_wp2_with (first | ((with_reducible refine gate_callee (f := 71) rfl ?_); refine goesL_ (some 9) rfl rfl Try.func71 (by kernel_rfl) rfl #[.int .i64 a1] rfl (by (try simp only [List.map_toArray, List.map_cons, List.map_nil]); first | done | rfl | (simp only [List.length_drop, List.length_take]; rfl)) ?_; (with_reducible refine (Go.Proofs.Ytbbbjjfecblhpaa.H.quittanceref03_Date.calls a1 t106 t107 t108 t109 _ A3.out).mono ?_); rintro e w14 ⟨rfl, hb⟩; refine ⟨_, rfl, ?_⟩; have n0_ := Aside0.mk (below_step (by repeat (first | (with_reducible first | exact HB.out | apply below_alloc | apply pw_below_drewN | apply below_drew1) | exact HB.out)) hb); clear HB; have HB := n0_; clear n0_; (try clear hb); (try clear hb2); (try clear hk); (try clear hi)) | ((with_reducible refine gate_dst (N := 5) rfl ?_); refine box_event ?hg (N := 5) ?hd (cs := #[.int .i64 0, .int .i64 0, .int .i64 0]) (t := 115) ?hr ?_; (case hd => rfl); (case hg => rfl); (case hr => first | (go_simp; done) | (go_simp; rfl)); intro gb110 hg w15 hbox hb; have n0_ := Aside0.mk (below_step (by repeat (first | (with_reducible first | exact HB.out | apply below_alloc | apply pw_below_drewN | apply below_drew1) | exact HB.out)) hb); have n1_ := Aside0.mk (hbox); have n2_ := Aside0.mk ((by rw [hg]; exact (below_size (by repeat (first | (with_reducible first | exact HB.out | apply below_alloc | apply pw_below_drewN | apply below_drew1) | exact HB.out))) : w.heap.size ≤ gb110)); have n3_ := Aside0.mk ((by rw [hg]; exact (below_size (by repeat (first | (with_reducible first | exact HB.out | apply below_alloc | apply pw_below_drewN | apply below_drew1) | exact HB.out))) : w.heap.size ≤ gb110)); clear HB; have HB := n0_; have BK110 := n1_; have GW110 := n2_; have GE110 := n3_; clear n0_ n1_ n2_ n3_; clear hb hbox hg; (try have hu110_0 : w15.cell? ⟨gb110, 0, none⟩ = some (.int .i64 0) := (blk_cell BK110.out 0).trans rfl); (try have hu110_1 : w15.cell? ⟨gb110, 1, none⟩ = some (.int .i64 0) := (blk_cell BK110.out 1).trans rfl); (try have hu110_2 : w15.cell? ⟨gb110, 2, none⟩ = some (.int .i64 0) := (blk_cell BK110.out 2).trans rfl); (try have hv110_0 := blk_frozen BK110.out 0); (try have hv110_1 := blk_frozen BK110.out 1); (try have hv110_2 := blk_frozen BK110.out 2); have hcz16_0 : w15.cell? ⟨gb110, 0, none⟩ = some (.int .i64 0) := (blk_cell BK110.out 0).trans rfl; have hcz16_1 : w15.cell? ⟨gb110, 1, none⟩ = some (.int .i64 0) := (blk_cell BK110.out 1).trans rfl; have hcz16_2 : w15.cell? ⟨gb110, 2, none⟩ = some (.int .i64 0) := (blk_cell BK110.out 2).trans rfl; have hfz16_0 := blk_frozen BK110.out 0; have hfz16_1 := blk_frozen BK110.out 1; have hfz16_2 := blk_frozen BK110.out 2) | ((with_reducible refine gate_callee (f := 99) rfl ?_); refine goesL_ (some 19) rfl rfl Try.func99 (by kernel_rfl) rfl #[.int .i64 t106] rfl (by (try simp only [List.map_toArray, List.map_cons, List.map_nil]); first | done | rfl | (simp only [List.length_drop, List.length_take]; rfl)) ?_; (with_reducible refine (Go.Proofs.Ytbbbjjfecblhpaa.H.quittanceref03_Long.calls t106 false _ A9.out).mono ?_); rintro e w' ⟨rfl, ⟨nd, rfl⟩⟩; refine ⟨_, rfl, ?_⟩))
    go_ret
    exact ⟨by first | rfl | (simp [errW_none, errW_some] <;> rfl) | (simp [*, errW_none, errW_some] <;> rfl), by repeat (first | (with_reducible first | exact HB.out | apply below_alloc | apply pw_below_drewN | apply below_drew1 | refine below_set ?_ GE110.out) | exact HB.out)⟩
  ·rw [if_neg c8] at H
   have c8b0 : (a0 == 3) = false := beq_eq_false_iff_ne.mpr c8
   have c8b1 : (a0 != 3) = true := bne_iff_ne.mpr c8
   replace H := Option.bind_eq_some_iff.mp H
   obtain ⟨t112, A170, H⟩ := H
   replace H : ((quittanceref06_thirty.f a1).bind fun t113 => (some (wrap64 (t112 - t113)))) = some r := H
   have A17 := Aside0.mk A170
   clear A170
   replace H := Option.bind_eq_some_iff.mp H
   obtain ⟨t113, A180, H⟩ := H
   replace H : (some (wrap64 (t112 - t113))) = some r := H
   have A18 := Aside0.mk A180
   clear A180
   obtain rfl := Option.some.inj H
   go_enter Try.func76, Try.ntmps76
   go_wp2_with (first | ((with_reducible refine gate_callee (f := 71) rfl ?_); refine goesL_ (some 9) rfl rfl Try.func71 (by kernel_rfl) rfl #[.int .i64 a1] rfl (by (try simp only [List.map_toArray, List.map_cons, List.map_nil]); first | done | rfl | (simp only [List.length_drop, List.length_take]; rfl)) ?_; (with_reducible refine (Go.Proofs.Ytbbbjjfecblhpaa.H.quittanceref03_Date.calls a1 t106 t107 t108 t109 _ A3.out).mono ?_); rintro e w19 ⟨rfl, hb⟩; refine ⟨_, rfl, ?_⟩; have n0_ := Aside0.mk (below_step (by repeat (first | (with_reducible first | exact HB.out | apply below_alloc | apply pw_below_drewN | apply below_drew1) | exact HB.out)) hb); clear HB; have HB := n0_; clear n0_; (try clear hb); (try clear hb2); (try clear hk); (try clear hi)) | ((with_reducible refine gate_dst (N := 5) rfl ?_); refine box_event ?hg (N := 5) ?hd (cs := #[.int .i64 0, .int .i64 0, .int .i64 0]) (t := 115) ?hr ?_; (case hd => rfl); (case hg => rfl); (case hr => first | (go_simp; done) | (go_simp; rfl)); intro gb110 hg w20 hbox hb; have n0_ := Aside0.mk (below_step (by repeat (first | (with_reducible first | exact HB.out | apply below_alloc | apply pw_below_drewN | apply below_drew1) | exact HB.out)) hb); have n1_ := Aside0.mk (hbox); have n2_ := Aside0.mk ((by rw [hg]; exact (below_size (by repeat (first | (with_reducible first | exact HB.out | apply below_alloc | apply pw_below_drewN | apply below_drew1) | exact HB.out))) : w.heap.size ≤ gb110)); have n3_ := Aside0.mk ((by rw [hg]; exact (below_size (by repeat (first | (with_reducible first | exact HB.out | apply below_alloc | apply pw_below_drewN | apply below_drew1) | exact HB.out))) : w.heap.size ≤ gb110)); clear HB; have HB := n0_; have BK110 := n1_; have GW110 := n2_; have GE110 := n3_; clear n0_ n1_ n2_ n3_; clear hb hbox hg; (try have hu110_0 : w20.cell? ⟨gb110, 0, none⟩ = some (.int .i64 0) := (blk_cell BK110.out 0).trans rfl); (try have hu110_1 : w20.cell? ⟨gb110, 1, none⟩ = some (.int .i64 0) := (blk_cell BK110.out 1).trans rfl); (try have hu110_2 : w20.cell? ⟨gb110, 2, none⟩ = some (.int .i64 0) := (blk_cell BK110.out 2).trans rfl); (try have hv110_0 := blk_frozen BK110.out 0); (try have hv110_1 := blk_frozen BK110.out 1); (try have hv110_2 := blk_frozen BK110.out 2); have hcz21_0 : w20.cell? ⟨gb110, 0, none⟩ = some (.int .i64 0) := (blk_cell BK110.out 0).trans rfl; have hcz21_1 : w20.cell? ⟨gb110, 1, none⟩ = some (.int .i64 0) := (blk_cell BK110.out 1).trans rfl; have hcz21_2 : w20.cell? ⟨gb110, 2, none⟩ = some (.int .i64 0) := (blk_cell BK110.out 2).trans rfl; have hfz21_0 := blk_frozen BK110.out 0; have hfz21_1 := blk_frozen BK110.out 1; have hfz21_2 := blk_frozen BK110.out 2) | ((with_reducible refine gate_callee (f := 75) rfl ?_); refine goesL_ (some 22) rfl rfl Try.func75 (by kernel_rfl) rfl #[.int .i64 (wrap64 (a1 + 1))] rfl (by (try simp only [List.map_toArray, List.map_cons, List.map_nil]); first | done | rfl | (simp only [List.length_drop, List.length_take]; rfl)) ?_; (with_reducible refine (quittanceref06_thirty.calls (wrap64 (a1 + 1)) t112 _ A17.out).mono ?_); rintro e w22 ⟨rfl, hb⟩; refine ⟨_, rfl, ?_⟩; have n0_ := Aside0.mk (blk_below (g := gb110) (o := .cells #[.int .i64 t106, .int .i64 t107, .int .i64 t108] 115 (0, 0)) (by (with_reducible repeat (first | refine blk_drewN ?_ _ | refine blk_drew ?_ | refine blk_alloc ?_ _)); refine blk_put (cs := #[.int .i64 t106, .int .i64 t107, .int .i64 0]) ?_ 2 _ rfl; (with_reducible repeat (first | refine blk_drewN ?_ _ | refine blk_drew ?_ | refine blk_alloc ?_ _)); refine blk_put (cs := #[.int .i64 t106, .int .i64 0, .int .i64 0]) ?_ 1 _ rfl; (with_reducible repeat (first | refine blk_drewN ?_ _ | refine blk_drew ?_ | refine blk_alloc ?_ _)); refine blk_put (cs := #[.int .i64 0, .int .i64 0, .int .i64 0]) ?_ 0 _ rfl; (with_reducible repeat (first | refine blk_drewN ?_ _ | refine blk_drew ?_ | refine blk_alloc ?_ _)); exact BK110.out) hb); have n1_ := Aside0.mk (below_step (by repeat (first | (with_reducible first | exact HB.out | apply below_alloc | apply pw_below_drewN | apply below_drew1 | refine below_set ?_ GE110.out) | exact HB.out)) hb); clear BK110; clear HB; have BK110 := n0_; have HB := n1_; clear n0_ n1_; (try clear hb); (try clear hb2); (try clear hk); (try clear hi); (try have hu110_0 : w22.cell? ⟨gb110, 0, none⟩ = some (.int .i64 t106) := (blk_cell BK110.out 0).trans rfl); (try have hu110_1 : w22.cell? ⟨gb110, 1, none⟩ = some (.int .i64 t107) := (blk_cell BK110.out 1).trans rfl); (try have hu110_2 : w22.cell? ⟨gb110, 2, none⟩ = some (.int .i64 t108) := (blk_cell BK110.out 2).trans rfl); (try have hv110_0 := blk_frozen BK110.out 0); (try have hv110_1 := blk_frozen BK110.out 1); (try have hv110_2 := blk_frozen BK110.out 2)) | ((with_reducible refine gate_callee (f := 75) rfl ?_); refine goesL_ (some 24) rfl rfl Try.func75 (by kernel_rfl) rfl #[.int .i64 a1] rfl (by (try simp only [List.map_toArray, List.map_cons, List.map_nil]); first | done | rfl | (simp only [List.length_drop, List.length_take]; rfl)) ?_; (with_reducible refine (quittanceref06_thirty.calls a1 t113 _ A18.out).mono ?_); rintro e w23 ⟨rfl, hb⟩; refine ⟨_, rfl, ?_⟩; have n0_ := Aside0.mk (blk_below (g := gb110) (o := .cells #[.int .i64 t106, .int .i64 t107, .int .i64 t108] 115 (0, 0)) (by (with_reducible repeat (first | refine blk_drewN ?_ _ | refine blk_drew ?_ | refine blk_alloc ?_ _)); exact BK110.out) hb); have n1_ := Aside0.mk (below_step (by repeat (first | (with_reducible first | exact HB.out | apply below_alloc | apply pw_below_drewN | apply below_drew1 | refine below_set ?_ GE110.out) | exact HB.out)) hb); clear BK110; clear HB; have BK110 := n0_; have HB := n1_; clear n0_ n1_; (try clear hb); (try clear hb2); (try clear hk); (try clear hi); (try have hu110_0 : w23.cell? ⟨gb110, 0, none⟩ = some (.int .i64 t106) := (blk_cell BK110.out 0).trans rfl); (try have hu110_1 : w23.cell? ⟨gb110, 1, none⟩ = some (.int .i64 t107) := (blk_cell BK110.out 1).trans rfl); (try have hu110_2 : w23.cell? ⟨gb110, 2, none⟩ = some (.int .i64 t108) := (blk_cell BK110.out 2).trans rfl); (try have hv110_0 := blk_frozen BK110.out 0); (try have hv110_1 := blk_frozen BK110.out 1); (try have hv110_2 := blk_frozen BK110.out 2)))
   go_ret
   exact ⟨by first | rfl | (simp [errW_none, errW_some] <;> rfl) | (simp [*, errW_none, errW_some] <;> rfl), by repeat (first | (with_reducible first | exact HB.out | apply below_alloc | apply pw_below_drewN | apply below_drew1 | refine below_set ?_ GE110.out) | exact HB.out)⟩
/-! ### business_month: function 91 -/
def business_month.f (a0 : Int) : Option (Int) := (Go.Proofs.Ytbbbjjfecblhpaa.H.civil_Date.f a0).bind fun bt114 => (some (wrap64 ((wrap64 (12 * bt114.1)) + bt114.2.1)))
set_option maxHeartbeats 8000000 in
set_option maxRecDepth 100000 in
theorem business_month.calls (a0 : Int) (r : Int) (w : World) (h : business_month.f a0 = some r) :
  Calls Try.prog 91 #[.int .i64 a0] w fun e w' => e = .returned (.int .i64 r) ∧ Below w.heap.size w w' := by
 have hu115 := Try.underlying115
 have HB := Aside0.mk (Below.refl w.heap.size w)
 have H : ((Go.Proofs.Ytbbbjjfecblhpaa.H.civil_Date.f a0).bind fun bt114 => (some (wrap64 ((wrap64 (12 * bt114.1)) + bt114.2.1)))) = some r := h
 clear h
 replace H := Option.bind_eq_some_iff.mp H
 obtain ⟨⟨t114, t115, t116, t117⟩, A20, H⟩ := H
 replace H : (some (wrap64 ((wrap64 (12 * t114)) + t115))) = some r := H
 have A2 := Aside0.mk A20
 clear A20
 obtain rfl := Option.some.inj H
 go_enter Try.func91, Try.ntmps91
 go_wp2_with (first | ((with_reducible refine gate_callee (f := 96) rfl ?_); refine goesL_ (some 7) rfl rfl Try.func96 (by kernel_rfl) rfl #[.int .i64 a0] rfl (by (try simp only [List.map_toArray, List.map_cons, List.map_nil]); first | done | rfl | (simp only [List.length_drop, List.length_take]; rfl)) ?_; (with_reducible refine (Go.Proofs.Ytbbbjjfecblhpaa.H.civil_Date.calls a0 t114 t115 t116 t117 _ A2.out).mono ?_); rintro e w3 ⟨rfl, hb⟩; refine ⟨_, rfl, ?_⟩; have n0_ := Aside0.mk (below_step (by repeat (first | (with_reducible first | exact HB.out | apply below_alloc | apply pw_below_drewN | apply below_drew1) | exact HB.out)) hb); clear HB; have HB := n0_; clear n0_; (try clear hb); (try clear hb2); (try clear hk); (try clear hi)) | ((with_reducible refine gate_dst (N := 3) rfl ?_); refine box_event ?hg (N := 3) ?hd (cs := #[.int .i64 0, .int .i64 0, .int .i64 0]) (t := 115) ?hr ?_; (case hd => rfl); (case hg => rfl); (case hr => first | (go_simp; done) | (go_simp; rfl)); intro gb118 hg w4 hbox hb; have n0_ := Aside0.mk (below_step (by repeat (first | (with_reducible first | exact HB.out | apply below_alloc | apply pw_below_drewN | apply below_drew1) | exact HB.out)) hb); have n1_ := Aside0.mk (hbox); have n2_ := Aside0.mk ((by rw [hg]; exact (below_size (by repeat (first | (with_reducible first | exact HB.out | apply below_alloc | apply pw_below_drewN | apply below_drew1) | exact HB.out))) : w.heap.size ≤ gb118)); have n3_ := Aside0.mk ((by rw [hg]; exact (below_size (by repeat (first | (with_reducible first | exact HB.out | apply below_alloc | apply pw_below_drewN | apply below_drew1) | exact HB.out))) : w.heap.size ≤ gb118)); clear HB; have HB := n0_; have BK118 := n1_; have GW118 := n2_; have GE118 := n3_; clear n0_ n1_ n2_ n3_; clear hb hbox hg; (try have hu118_0 : w4.cell? ⟨gb118, 0, none⟩ = some (.int .i64 0) := (blk_cell BK118.out 0).trans rfl); (try have hu118_1 : w4.cell? ⟨gb118, 1, none⟩ = some (.int .i64 0) := (blk_cell BK118.out 1).trans rfl); (try have hu118_2 : w4.cell? ⟨gb118, 2, none⟩ = some (.int .i64 0) := (blk_cell BK118.out 2).trans rfl); (try have hv118_0 := blk_frozen BK118.out 0); (try have hv118_1 := blk_frozen BK118.out 1); (try have hv118_2 := blk_frozen BK118.out 2); have hcz5_0 : w4.cell? ⟨gb118, 0, none⟩ = some (.int .i64 0) := (blk_cell BK118.out 0).trans rfl; have hcz5_1 : w4.cell? ⟨gb118, 1, none⟩ = some (.int .i64 0) := (blk_cell BK118.out 1).trans rfl; have hcz5_2 : w4.cell? ⟨gb118, 2, none⟩ = some (.int .i64 0) := (blk_cell BK118.out 2).trans rfl; have hfz5_0 := blk_frozen BK118.out 0; have hfz5_1 := blk_frozen BK118.out 1; have hfz5_2 := blk_frozen BK118.out 2))
 go_ret
 exact ⟨by first | rfl | (simp [errW_none, errW_some] <;> rfl) | (simp [*, errW_none, errW_some] <;> rfl), by repeat (first | (with_reducible first | exact HB.out | apply below_alloc | apply pw_below_drewN | apply below_drew1 | refine below_set ?_ GE118.out) | exact HB.out)⟩
/-! ### quittanceref06_Between: function 45 -/
mutual
def quittanceref06_Between.j0 : Nat → Int → Int → Int → Bool → Option (Int × Int)
 | 0, _, _, _, _ => none
 | k + 1, x0, x1, x2, x15 => if x15 = true then (some (0, 1)) else ((Go.Proofs.Ytbbbjjfecblhpaa.H.quittanceref03_Is.f x1).bind fun t119 => (if t119 = true then ((Go.Proofs.Ytbbbjjfecblhpaa.H.quittanceref03_Is.f x2).bind fun t120 => (quittanceref06_Between.j1 k x0 x1 x2 (!t120))) else (quittanceref06_Between.j1 k x0 x1 x2 true)))
def quittanceref06_Between.j1 : Nat → Int → Int → Int → Bool → Option (Int × Int)
 | 0, _, _, _, _ => none
 | k + 1, x0, x1, x2, x23 => if x23 = true then (some (0, 5)) else (if x0 = 1 then ((quittanceref06_thirty.f x2).bind fun t121 => ((quittanceref06_thirty.f x1).bind fun t122 => (some (wrap64 (t121 - t122), 0)))) else (quittanceref06_Between.l0 k x0 x1 x2 0 (mn x1 x2)))
def quittanceref06_Between.l0 : Nat → Int → Int → Int → Int → Int → Option (Int × Int)
 | 0, _, _, _, _, _ => none
 | k + 1, x0, x1, x2, x8, x9 => if x9 < (mx x1 x2) then ((quittanceref06_One.f x0 x9).bind fun t123 => (quittanceref06_Between.l0 k x0 x1 x2 (wrap64 (x8 + t123)) (wrap64 (x9 + 1)))) else (if x2 < x1 then (some (wrap64 (-x8), 0)) else (some (x8, 0)))
end
def quittanceref06_Between.f (k : Nat) (a0 : Int) (a1 : Int) (a2 : Int) : Option (Int × Int) := if a0 < 1 then (quittanceref06_Between.j0 k a0 a1 a2 true) else (quittanceref06_Between.j0 k a0 a1 a2 (decide (a0 > 3)))
theorem quittanceref06_Between.mono_l : ∀ k, (∀ y0 y1 y2 y3, LeO (quittanceref06_Between.j0 k y0 y1 y2 y3) (quittanceref06_Between.j0 (k + 1) y0 y1 y2 y3)) ∧ (∀ y0 y1 y2 y3, LeO (quittanceref06_Between.j1 k y0 y1 y2 y3) (quittanceref06_Between.j1 (k + 1) y0 y1 y2 y3)) ∧ (∀ y0 y1 y2 y3 y4, LeO (quittanceref06_Between.l0 k y0 y1 y2 y3 y4) (quittanceref06_Between.l0 (k + 1) y0 y1 y2 y3 y4))
 | 0 => ⟨fun _ _ _ _ r h => by simp [quittanceref06_Between.j0] at h, fun _ _ _ _ r h => by simp [quittanceref06_Between.j1] at h, fun _ _ _ _ _ r h => by simp [quittanceref06_Between.l0] at h⟩
 | k + 1 => by
  obtain ⟨ih0, ih1, ih2⟩ := quittanceref06_Between.mono_l k
  refine ⟨?_, ?_, ?_⟩
  ·intro y0 y1 y2 y3
   unfold quittanceref06_Between.j0
   repeat' first
   | (with_reducible exact ih0 _ _ _ _)
   | (with_reducible exact ih1 _ _ _ _)
   | (with_reducible exact ih2 _ _ _ _ _)
   | (with_reducible exact LeO.refl _)
   | (with_reducible exact LeO.none _)
   | (with_reducible refine LeO.ite ?_ ?_)
   | (with_reducible refine LeO.bind ?_ (fun _ => ?_))
   | exact ih0 _ _ _ _
   | exact ih1 _ _ _ _
   | exact ih2 _ _ _ _ _
   | exact LeO.none _
   | refine LeO.ite ?_ ?_
   | refine LeO.bind ?_ (fun _ => ?_)
  ·intro y0 y1 y2 y3
   unfold quittanceref06_Between.j1
   repeat' first
   | (with_reducible exact ih0 _ _ _ _)
   | (with_reducible exact ih1 _ _ _ _)
   | (with_reducible exact ih2 _ _ _ _ _)
   | (with_reducible exact LeO.refl _)
   | (with_reducible exact LeO.none _)
   | (with_reducible refine LeO.ite ?_ ?_)
   | (with_reducible refine LeO.bind ?_ (fun _ => ?_))
   | exact ih0 _ _ _ _
   | exact ih1 _ _ _ _
   | exact ih2 _ _ _ _ _
   | exact LeO.none _
   | refine LeO.ite ?_ ?_
   | refine LeO.bind ?_ (fun _ => ?_)
  ·intro y0 y1 y2 y3 y4
   unfold quittanceref06_Between.l0
   repeat' first
   | (with_reducible exact ih0 _ _ _ _)
   | (with_reducible exact ih1 _ _ _ _)
   | (with_reducible exact ih2 _ _ _ _ _)
   | (with_reducible exact LeO.refl _)
   | (with_reducible exact LeO.none _)
   | (with_reducible refine LeO.ite ?_ ?_)
   | (with_reducible refine LeO.bind ?_ (fun _ => ?_))
   | exact ih0 _ _ _ _
   | exact ih1 _ _ _ _
   | exact ih2 _ _ _ _ _
   | exact LeO.none _
   | refine LeO.ite ?_ ?_
   | refine LeO.bind ?_ (fun _ => ?_)
theorem quittanceref06_Between.mono : ∀ a0 a1 a2 k, LeO (quittanceref06_Between.f k a0 a1 a2) (quittanceref06_Between.f (k + 1) a0 a1 a2) := by
 intro a0 a1 a2 k
 obtain ⟨ih0, ih1, ih2⟩ := quittanceref06_Between.mono_l k
 unfold quittanceref06_Between.f
 repeat' first
   | (with_reducible exact ih0 _ _ _ _)
   | (with_reducible exact ih1 _ _ _ _)
   | (with_reducible exact ih2 _ _ _ _ _)
   | (with_reducible exact LeO.refl _)
   | (with_reducible exact LeO.none _)
   | (with_reducible refine LeO.ite ?_ ?_)
   | (with_reducible refine LeO.bind ?_ (fun _ => ?_))
   | exact ih0 _ _ _ _
   | exact ih1 _ _ _ _
   | exact ih2 _ _ _ _ _
   | exact LeO.none _
   | refine LeO.ite ?_ ?_
   | refine LeO.bind ?_ (fun _ => ?_)
set_option maxHeartbeats 8000000 in
set_option maxRecDepth 100000 in
theorem quittanceref06_Between.calls (k : Nat) (a0 : Int) (a1 : Int) (a2 : Int) (r1 : Int) (r2 : Int) (w : World) (h : quittanceref06_Between.f k a0 a1 a2 = some (r1, r2)) :
  Calls Try.prog 45 #[.int .i64 a0, .int .i64 a1, .int .i64 a2] w fun e w' => e = .returned (.tuple #[.int .i64 r1, .int .i64 r2]) ∧ Below w.heap.size w w' := by
 have HB := Aside0.mk (Below.refl w.heap.size w)
 have H : (if a0 < 1 then (quittanceref06_Between.j0 k a0 a1 a2 true) else (quittanceref06_Between.j0 k a0 a1 a2 (decide (a0 > 3)))) = some (r1, r2) := h
 clear h
 have HC4 := Aside0.mk H
 clear H
 go_enter Try.func45, Try.ntmps45
 go_upto_region 1 with (fail)
 go_cut [15] (fun v15 wc => ∃ (kq : Nat) (x15_3 : Bool), v15 = .bool x15_3 ∧ Aside0 (quittanceref06_Between.j0 kq a0 a1 a2 x15_3 = some (r1, r2)) ∧ Aside0 (kq ≤ k) ∧ Aside0 (Below w.heap.size w wc))
 case first =>
  have H := HC4.out
  clear HC4
  by_cases c5 : a0 < 1
  ·rw [if_pos c5] at H
   have c5b0 : decide (a0 < 1) = true := decide_eq_true c5
   clear c5
   (first | rw [c5b0] | (simp only [i64_w, i32_w]; rw [c5b0]) | skip)
   have H' := Aside0.mk H
   clear H
   go_wp2
   go_meet
   case rel => exact ⟨_, (true), (by first | rfl | (simp; done) | (simp [*]; done)), H', ⟨by first | omega | exact Nat.le_refl _⟩, ⟨by repeat (first | (with_reducible first | exact HB.out | apply below_alloc | apply pw_below_drewN | apply below_drew1) | exact HB.out)⟩⟩
  ·rw [if_neg c5] at H
   have c5b0 : decide (a0 < 1) = false := decide_eq_false c5
   clear c5
   (first | rw [c5b0] | (simp only [i64_w, i32_w]; rw [c5b0]) | skip)
   have H' := Aside0.mk H
   clear H
   go_wp2
   go_meet
   case rel => exact ⟨_, (decide (a0 > 3)), (by first | rfl | (simp; done) | (simp [*]; done)), H', ⟨by first | omega | exact Nat.le_refl _⟩, ⟨by repeat (first | (with_reducible first | exact HB.out | apply below_alloc | apply pw_below_drewN | apply below_drew1) | exact HB.out)⟩⟩
 case rest =>
  clear HC4
  try clear p2
  try clear c4
  try clear c5
  try clear c5b0
  obtain ⟨kq, x15_3, rfl, HA, HJ3, HB⟩ := hcut
  cases kq with
  | zero => exact absurd HA.out (by simp [quittanceref06_Between.j0])
  | succ kj3 =>
   have H := HA.out
   clear HA
   simp only [quittanceref06_Between.j0] at H
   by_cases c6 : x15_3 = true
   ·subst c6
    have H1 : (some (0, 1)) = some (r1, r2) := by rw [if_pos rfl] at H; exact H
    clear H
    have H := H1
    clear H1
    simp only [Option.some.injEq, Prod.mk.injEq] at H
    obtain ⟨rfl, rfl⟩ := H
    go_wp2
    go_ret2
    exact ⟨by first | rfl | (simp [errW_none, errW_some] <;> rfl) | (simp [*, errW_none, errW_some] <;> rfl), by repeat (first | (with_reducible first | exact HB.out | apply below_alloc | apply pw_below_drewN | apply below_drew1) | exact HB.out)⟩
   ·replace c6 := Bool.eq_false_iff.mpr c6
    subst c6
    have H1 : ((Go.Proofs.Ytbbbjjfecblhpaa.H.quittanceref03_Is.f a1).bind fun t119 => (if t119 = true then ((Go.Proofs.Ytbbbjjfecblhpaa.H.quittanceref03_Is.f a2).bind fun t120 => (quittanceref06_Between.j1 kj3 a0 a1 a2 (!t120))) else (quittanceref06_Between.j1 kj3 a0 a1 a2 true))) = some (r1, r2) := by rw [if_neg (show ¬ (false = true) by decide)] at H; exact H
    clear H
    have H := H1
    clear H1
    have HC7 := Aside0.mk H
    clear H
    go_upto_region 3 with (fail)
    go_cut [23] (fun v23 wc => ∃ (kq : Nat) (x23_6 : Bool), v23 = .bool x23_6 ∧ Aside0 (quittanceref06_Between.j1 kq a0 a1 a2 x23_6 = some (r1, r2)) ∧ Aside0 (kq ≤ kj3) ∧ Aside0 (Below w.heap.size w wc))
    case first =>
     have H := HC7.out
     clear HC7
     replace H := Option.bind_eq_some_iff.mp H
     obtain ⟨t119, A80, H⟩ := H
     replace H : (if t119 = true then ((Go.Proofs.Ytbbbjjfecblhpaa.H.quittanceref03_Is.f a2).bind fun t120 => (quittanceref06_Between.j1 kj3 a0 a1 a2 (!t120))) else (quittanceref06_Between.j1 kj3 a0 a1 a2 true)) = some (r1, r2) := H
     have A8 := Aside0.mk A80
     clear A80
     by_cases c9 : t119 = true
     ·subst c9
      have H1 : ((Go.Proofs.Ytbbbjjfecblhpaa.H.quittanceref03_Is.f a2).bind fun t120 => (quittanceref06_Between.j1 kj3 a0 a1 a2 (!t120))) = some (r1, r2) := by rw [if_pos rfl] at H; exact H
      clear H
      have H := H1
      clear H1
      replace H := Option.bind_eq_some_iff.mp H
      obtain ⟨t120, A100, H⟩ := H
      replace H : (quittanceref06_Between.j1 kj3 a0 a1 a2 (!t120)) = some (r1, r2) := H
      have A10 := Aside0.mk A100
      clear A100
      have H' := Aside0.mk H
      clear H
      go_wp2_with (first | ((with_reducible refine gate_callee (f := 37) rfl ?_); refine goesL_ (some 17) rfl rfl Try.func37 (by kernel_rfl) rfl #[.int .i64 a1] rfl (by (try simp only [List.map_toArray, List.map_cons, List.map_nil]); first | done | rfl | (simp only [List.length_drop, List.length_take]; rfl)) ?_; (with_reducible refine (Go.Proofs.Ytbbbjjfecblhpaa.H.quittanceref03_Is.calls a1 true _ A8.out).mono ?_); rintro e w' ⟨rfl, ⟨nd, rfl⟩⟩; refine ⟨_, rfl, ?_⟩) | (go_at_call 37; (with_reducible refine (Go.Proofs.Ytbbbjjfecblhpaa.H.quittanceref03_Is.calls a2 t120 _ A10.out).mono ?_); rintro e w' ⟨rfl, ⟨nd, rfl⟩⟩))
      go_meet
      case rel => exact ⟨_, (!t120), (by first | rfl | (simp; done) | (simp [*]; done)), H', ⟨by have := HJ3.out; first | omega | exact Nat.le_refl _⟩, ⟨by repeat (first | (with_reducible first | exact HB.out | apply below_alloc | apply pw_below_drewN | apply below_drew1) | exact HB.out)⟩⟩
     ·replace c9 := Bool.eq_false_iff.mpr c9
      subst c9
      have H1 : (quittanceref06_Between.j1 kj3 a0 a1 a2 true) = some (r1, r2) := by rw [if_neg (show ¬ (false = true) by decide)] at H; exact H
      clear H
      have H := H1
      clear H1
      have H' := Aside0.mk H
      clear H
      go_wp2_with (first | ((with_reducible refine gate_callee (f := 37) rfl ?_); refine goesL_ (some 17) rfl rfl Try.func37 (by kernel_rfl) rfl #[.int .i64 a1] rfl (by (try simp only [List.map_toArray, List.map_cons, List.map_nil]); first | done | rfl | (simp only [List.length_drop, List.length_take]; rfl)) ?_; (with_reducible refine (Go.Proofs.Ytbbbjjfecblhpaa.H.quittanceref03_Is.calls a1 false _ A8.out).mono ?_); rintro e w' ⟨rfl, ⟨nd, rfl⟩⟩; refine ⟨_, rfl, ?_⟩))
      go_meet
      case rel => exact ⟨_, (true), (by first | rfl | (simp; done) | (simp [*]; done)), H', ⟨by have := HJ3.out; first | omega | exact Nat.le_refl _⟩, ⟨by repeat (first | (with_reducible first | exact HB.out | apply below_alloc | apply pw_below_drewN | apply below_drew1) | exact HB.out)⟩⟩
    case rest =>
     clear HC7
     try clear p2
     try clear c3
     try clear c4
     try clear c5
     try clear c5b0
     try clear c6
     try clear c9
     try clear p2
     obtain ⟨kq, x23_6, rfl, HA, HJ6, HB⟩ := hcut
     cases kq with
     | zero => exact absurd HA.out (by simp [quittanceref06_Between.j1])
     | succ kj6 =>
      have H := HA.out
      clear HA
      simp only [quittanceref06_Between.j1] at H
      by_cases c11 : x23_6 = true
      ·subst c11
       have H1 : (some (0, 5)) = some (r1, r2) := by rw [if_pos rfl] at H; exact H
       clear H
       have H := H1
       clear H1
       simp only [Option.some.injEq, Prod.mk.injEq] at H
       obtain ⟨rfl, rfl⟩ := H
       go_wp2
       go_ret2
       exact ⟨by first | rfl | (simp [errW_none, errW_some] <;> rfl) | (simp [*, errW_none, errW_some] <;> rfl), by repeat (first | (with_reducible first | exact HB.out | apply below_alloc | apply pw_below_drewN | apply below_drew1) | exact HB.out)⟩
      ·replace c11 := Bool.eq_false_iff.mpr c11
       subst c11
       have H1 : (if a0 = 1 then ((quittanceref06_thirty.f a2).bind fun t121 => ((quittanceref06_thirty.f a1).bind fun t122 => (some (wrap64 (t121 - t122), 0)))) else (quittanceref06_Between.l0 kj6 a0 a1 a2 0 (mn a1 a2))) = some (r1, r2) := by rw [if_neg (show ¬ (false = true) by decide)] at H; exact H
       clear H
       have H := H1
       clear H1
       by_cases c12 : a0 = 1
       ·rw [if_pos c12] at H
        have c12b0 : (a0 == 1) = true := beq_iff_eq.mpr c12
        have c12b1 : (a0 != 1) = false := bne_eq_false_iff_eq.mpr c12
        clear c12
        replace H := Option.bind_eq_some_iff.mp H
        obtain ⟨t121, A130, H⟩ := H
        replace H : ((quittanceref06_thirty.f a1).bind fun t122 => (some (wrap64 (t121 - t122), 0))) = some (r1, r2) := H
        have A13 := Aside0.mk A130
        clear A130
        replace H := Option.bind_eq_some_iff.mp H
        obtain ⟨t122, A140, H⟩ := H
        replace H : (some (wrap64 (t121 - t122), 0)) = some (r1, r2) := H
        have A14 := Aside0.mk A140
        clear A140
        simp only [Option.some.injEq, Prod.mk.injEq] at H
        obtain ⟨rfl, rfl⟩ := H
        go_wp2_with (first | ((with_reducible refine gate_callee (f := 75) rfl ?_); refine goesL_ (some 27) rfl rfl Try.func75 (by kernel_rfl) rfl #[.int .i64 a2] rfl (by (try simp only [List.map_toArray, List.map_cons, List.map_nil]); first | done | rfl | (simp only [List.length_drop, List.length_take]; rfl)) ?_; (with_reducible refine (quittanceref06_thirty.calls a2 t121 _ A13.out).mono ?_); rintro e w15 ⟨rfl, hb⟩; refine ⟨_, rfl, ?_⟩; have n0_ := Aside0.mk (below_step (by repeat (first | (with_reducible first | exact HB.out | apply below_alloc | apply pw_below_drewN | apply below_drew1) | exact HB.out)) hb); clear HB; have HB := n0_; clear n0_; (try clear hb); (try clear hb2); (try clear hk); (try clear hi)) | ((with_reducible refine gate_callee (f := 75) rfl ?_); refine goesL_ (some 29) rfl rfl Try.func75 (by kernel_rfl) rfl #[.int .i64 a1] rfl (by (try simp only [List.map_toArray, List.map_cons, List.map_nil]); first | done | rfl | (simp only [List.length_drop, List.length_take]; rfl)) ?_; (with_reducible refine (quittanceref06_thirty.calls a1 t122 _ A14.out).mono ?_); rintro e w16 ⟨rfl, hb⟩; refine ⟨_, rfl, ?_⟩; have n0_ := Aside0.mk (below_step (by repeat (first | (with_reducible first | exact HB.out | apply below_alloc | apply pw_below_drewN | apply below_drew1) | exact HB.out)) hb); clear HB; have HB := n0_; clear n0_; (try clear hb); (try clear hb2); (try clear hk); (try clear hi)))
        go_ret2
        exact ⟨by first | rfl | (simp [errW_none, errW_some] <;> rfl) | (simp [*, errW_none, errW_some] <;> rfl), by repeat (first | (with_reducible first | exact HB.out | apply below_alloc | apply pw_below_drewN | apply below_drew1) | exact HB.out)⟩
       ·rw [if_neg c12] at H
        have c12b0 : (a0 == 1) = false := beq_eq_false_iff_ne.mpr c12
        have c12b1 : (a0 != 1) = true := bne_iff_ne.mpr c12
        obtain ⟨ji17, hji17⟩ : ∃ j_ : Int, (mn a1 a2) = j_ := ⟨_, rfl⟩
        replace H : (quittanceref06_Between.l0 kj6 a0 a1 a2 0 ji17) = some (r1, r2) := by first | (rw [hji17] at H; exact H) | (simp only [hji17] at H ⊢; exact H)
        have hji17_ : (if a2 < a1 then a2 else a1) = ji17 := hji17
        have H' := Aside0.mk H
        clear H
        go_wp2
        go_loopg [8, 9] kj6 (fun kq v8 v9 w' => ∃ (x8_3 : Int) (x9_3 : Int), v8 = .int .i64 x8_3 ∧ v9 = .int .i64 x9_3 ∧ Aside0 (quittanceref06_Between.l0 kq a0 a1 a2 x8_3 x9_3 = some (r1, r2)) ∧ Aside0 (kq ≤ kj6) ∧ Aside0 (Below w.heap.size w w'))
        case atStart => exact ⟨(0), (ji17), (by first | rfl | (simp; done) | (simp [*]; done)), (by first | rfl | (simp; done) | (simp only [← hji17] <;> (first | rfl | simp)) | (simp [*]; done)), H', ⟨Nat.le_refl _⟩, ⟨by repeat (first | (with_reducible first | exact HB.out | apply below_alloc | apply pw_below_drewN | apply below_drew1) | exact HB.out)⟩⟩
        case round =>
         clear H'
         try clear c1
         try clear p2
         try clear c3
         try clear c4
         try clear c5
         try clear c5b0
         try clear c6
         try clear p6
         try clear c7
         try clear c9
         try clear c11
         try clear c12
         try clear c12b0
         try clear c12b1
         try clear p2
         obtain ⟨x8_3, x9_3, rfl, rfl, HA, HK3, HB⟩ := hrel
         cases gk with
         | zero => exact absurd HA.out (by simp [quittanceref06_Between.l0])
         | succ k3 =>
          have H := HA.out
          clear HA
          simp only [quittanceref06_Between.l0] at H
          obtain ⟨ji18, hji18⟩ : ∃ j_ : Int, (mx a1 a2) = j_ := ⟨_, rfl⟩
          replace H : (if x9_3 < (ji18) then ((quittanceref06_One.f a0 x9_3).bind fun t123 => (quittanceref06_Between.l0 k3 a0 a1 a2 (wrap64 (x8_3 + t123)) (wrap64 (x9_3 + 1)))) else (if a2 < a1 then (some (wrap64 (-x8_3), 0)) else (some (x8_3, 0)))) = some (r1, r2) := by first | (rw [hji18] at H; exact H) | (simp only [hji18] at H ⊢; exact H)
          have hji18_ : (if a1 < a2 then a2 else a1) = ji18 := hji18
          by_cases c19 : x9_3 < (ji18)
          ·rw [if_pos c19] at H
           have c19b0 : decide (x9_3 < (ji18)) = true := decide_eq_true c19
           clear c19
           replace H := Option.bind_eq_some_iff.mp H
           obtain ⟨t123, A200, H⟩ := H
           replace H : (quittanceref06_Between.l0 k3 a0 a1 a2 (wrap64 (x8_3 + t123)) (wrap64 (x9_3 + 1))) = some (r1, r2) := H
           have A20 := Aside0.mk A200
           clear A200
           have H' := Aside0.mk H
           clear H
           go_wp2_with (first | ((with_reducible refine gate_callee (f := 76) rfl ?_); refine goesL_ (some 44) rfl rfl Try.func76 (by kernel_rfl) rfl #[.int .i64 a0, .int .i64 x9_3] rfl (by (try simp only [List.map_toArray, List.map_cons, List.map_nil]); first | done | rfl | (simp only [List.length_drop, List.length_take]; rfl)) ?_; (with_reducible refine (quittanceref06_One.calls a0 x9_3 t123 _ A20.out).mono ?_); rintro e w21 ⟨rfl, hb⟩; refine ⟨_, rfl, ?_⟩; have n0_ := Aside0.mk (below_step (by repeat (first | (with_reducible first | exact HB.out | apply below_alloc | apply pw_below_drewN | apply below_drew1) | exact HB.out)) hb); clear HB; have HB := n0_; clear n0_; (try clear hb); (try clear hb2); (try clear hk); (try clear hi)))
           go_roundg k3
           case measure => have := HJ3.out; have := HJ6.out; have := HK3.out; omega
           case rel => exact ⟨(wrap64 (x8_3 + t123)), (wrap64 (x9_3 + 1)), (by first | rfl | (simp; done) | (simp [*]; done)), (by first | rfl | (simp; done) | (simp [*]; done)), H', ⟨by have := HJ3.out; have := HJ6.out; have := HK3.out; omega⟩, ⟨by repeat (first | (with_reducible first | exact HB.out | apply below_alloc | apply pw_below_drewN | apply below_drew1) | exact HB.out)⟩⟩
          ·rw [if_neg c19] at H
           have c19b0 : decide (x9_3 < (ji18)) = false := decide_eq_false c19
           clear c19
           by_cases c22 : a2 < a1
           ·rw [if_pos c22] at H
            have c22b0 : decide (a2 < a1) = true := decide_eq_true c22
            clear c22
            simp only [Option.some.injEq, Prod.mk.injEq] at H
            obtain ⟨rfl, rfl⟩ := H
            go_wp2
            go_ret2
            exact ⟨by first | rfl | (simp [errW_none, errW_some] <;> rfl) | (simp only [← hji17, ← hji18]; first | rfl | (simp [errW_none, errW_some] <;> rfl)) | (simp [*, errW_none, errW_some] <;> rfl), by repeat (first | (with_reducible first | exact HB.out | apply below_alloc | apply pw_below_drewN | apply below_drew1) | exact HB.out)⟩
           ·rw [if_neg c22] at H
            have c22b0 : decide (a2 < a1) = false := decide_eq_false c22
            clear c22
            simp only [Option.some.injEq, Prod.mk.injEq] at H
            obtain ⟨rfl, rfl⟩ := H
            go_wp2
            go_ret2
            exact ⟨by first | rfl | (simp [errW_none, errW_some] <;> rfl) | (simp only [← hji17, ← hji18]; first | rfl | (simp [errW_none, errW_some] <;> rfl)) | (simp [*, errW_none, errW_some] <;> rfl), by repeat (first | (with_reducible first | exact HB.out | apply below_alloc | apply pw_below_drewN | apply below_drew1) | exact HB.out)⟩
end Go.Proofs.Ytbbbjjfecblhpaa.PD
/- Plain law: which products may be. -/
namespace Go.Proofs.Ytbbbjjfecblhpaa.Pm
set_option linter.unusedVariables false
structure Prod where
 name : ByteArray
 count : Int
 round : Int
 kind : Int
 every : Int
 times : Int
 grace : Int
 rate : Int
 resets : List (List Int)
 penalty : Int
 o1 : Int
 o2 : Int
 o3 : Int
 o4 : Int
 over : Int
 late : List (List Int)
 cap : Int
 roll : Int
 hol : List Int
def txt (l : List UInt8) : ByteArray := ⟨l.toArray⟩
def small (c : UInt8) : Bool := decide (97 ≤ (c.toNat : Int)) && decide ((c.toNat : Int) ≤ 122)
def other (c : UInt8) : Bool := (decide (48 ≤ (c.toNat : Int)) && decide ((c.toNat : Int) ≤ 57)) || decide ((c.toNat : Int) = 45)
def letter (c : UInt8) : Bool := small c || other c
def chars : List UInt8 → Bool
 | [] => true
 | c :: l => small c && l.all letter
def wordsL : List (List UInt8) :=
 [[112, 114, 111, 100, 117, 99, 116], [99, 111, 117, 110, 116], [116, 104, 105, 114, 116, 121], [102, 105, 120, 101, 100], [97, 99, 116, 117, 97, 108], [114, 111, 117, 110, 100], [104, 97, 108, 102, 45, 117, 112], [100, 111, 119, 110], [107, 105, 110, 100], [97, 110, 110, 117, 105, 116, 121], [101, 113, 117, 97, 108], [98, 117, 108, 108, 101, 116], [101, 118, 101, 114, 121], [116, 105, 109, 101, 115], [103, 114, 97, 99, 101], [114, 97, 116, 101], [112, 101, 110, 97, 108, 116, 121], [114, 101, 115, 101, 116], [108, 97, 116, 101], [99, 97, 112], [104, 111, 108, 105, 100, 97, 121], [111, 114, 100, 101, 114], [102, 101, 101, 115], [105, 110, 116, 101, 114, 101, 115, 116], [112, 114, 105, 110, 99, 105, 112, 97, 108], [111, 118, 101, 114], [104, 111, 108, 100], [112, 114, 101, 112, 97, 121], [114, 101, 102, 117, 110, 100], [114, 111, 108, 108], [115, 116, 97, 121], [110, 101, 120, 116], [119, 105, 116, 104, 105, 110], [112, 114, 101, 118, 105, 111, 117, 115]]
def isWord (l : List UInt8) : Bool := wordsL.contains l
def nameOk (l : List UInt8) : Bool := chars l && decide (1 ≤ l.length) && decide (l.length ≤ 20) && !isWord l
def shapeOk (p : Prod) : Bool :=
 nameOk p.name.data.toList && decide ((1 ≤ p.count ∧ p.count ≤ 3) ∧ (p.round = 1 ∨ p.round = 3) ∧ (1 ≤ p.kind ∧ p.kind ≤ 3) ∧ (p.every = 1 ∨ p.every = 2 ∨ p.every = 3 ∨ p.every = 4 ∨ p.every = 6 ∨ p.every = 12) ∧ (1 ≤ p.times ∧ p.times ≤ 600) ∧ (0 ≤ p.grace ∧ p.grace ≤ p.times - 1) ∧ (p.kind = 3 → p.grace = 0))
def resetsOk (times : Int) : Int → List (List Int) → Bool
 | _, [] => true
 | prev, r :: l => decide (1 ≤ r.getD 0 0 ∧ r.getD 0 0 ≤ times - 1 ∧ 0 ≤ r.getD 1 0 ∧ r.getD 1 0 ≤ 1000000000 ∧ prev < r.getD 0 0) && resetsOk times (r.getD 0 0) l
def ratesOk (p : Prod) : Bool := decide ((0 ≤ p.rate ∧ p.rate ≤ 1000000000) ∧ (0 ≤ p.penalty ∧ p.penalty ≤ 1000000000) ∧ p.resets.length ≤ 20) && resetsOk p.times 0 p.resets
def orderOk (a b c d : Int) : Bool := decide ((1 ≤ a ∧ a ≤ 4) ∧ (1 ≤ b ∧ b ≤ 4) ∧ (1 ≤ c ∧ c ≤ 4) ∧ (1 ≤ d ∧ d ≤ 4) ∧ a ≠ b ∧ a ≠ c ∧ a ≠ d ∧ b ≠ c ∧ b ≠ d ∧ c ≠ d)
def ordOk (p : Prod) : Bool := orderOk p.o1 p.o2 p.o3 p.o4 && decide (1 ≤ p.over ∧ p.over ≤ 3)
def tiersOk : Int → Int → List (List Int) → Bool
 | _, _, [] => true
 | pd, pf, t :: l => decide (1 ≤ t.getD 0 0 ∧ t.getD 0 0 ≤ 365 ∧ 0 ≤ t.getD 1 0 ∧ t.getD 1 0 ≤ 10000000000000 ∧ pd < t.getD 0 0 ∧ pf ≤ t.getD 1 0) && tiersOk (t.getD 0 0) (t.getD 1 0) l
def lateOk (p : Prod) : Bool := decide (p.late.length ≤ 8 ∧ (0 ≤ p.cap ∧ p.cap ≤ 10000000000000) ∧ (p.late = [] → p.cap = 0)) && tiersOk 0 0 p.late
def holsOk : Int → List Int → Bool
 | _, [] => true
 | p, a :: l => decide (-25567 ≤ a ∧ a ≤ 84370 ∧ p < a) && holsOk a l
def daysOk (p : Prod) : Bool := decide (p.hol.length ≤ 200 ∧ (1 ≤ p.roll ∧ p.roll ≤ 4) ∧ (p.roll = 1 → p.hol = [])) && holsOk (-25568) p.hol
def ok (p : Prod) : Bool := shapeOk p && ratesOk p && ordOk p && lateOk p && daysOk p
def err (p : Prod) : Int := if ok p = true then 0 else 9
def joined : List (List UInt8) → List UInt8
 | [] => [32]
 | w :: ws => 32 :: (w ++ joined ws)
theorem joined_head (ws : List (List UInt8)) : ∃ t, joined ws = 32 :: t := by cases ws <;> exact ⟨_, rfl⟩
theorem pre_word : ∀ (s w L : List UInt8), (32 : UInt8) ∉ s → (32 : UInt8) ∉ w → ((s ++ [32]).isPrefixOf (w ++ 32 :: L) = true ↔ s = w)
 | [], [], L, _, _ => by simp
 | [], b :: w, L, _, hw => by
  have h1 : ((32 : UInt8) == b) = false := by
   rw [beq_eq_false_iff_ne]; intro e; exact hw (by simp [e])
  simp [List.isPrefixOf, h1]
 | a :: s, [], L, hs, _ => by
  have h1 : (a == (32 : UInt8)) = false := by
   rw [beq_eq_false_iff_ne]; intro e; exact hs (by simp [e])
  simp [List.isPrefixOf, h1]
 | a :: s, b :: w, L, hs, hw => by
  have ih := pre_word s w L (fun h => hs (List.mem_cons_of_mem _ h)) (fun h => hw (List.mem_cons_of_mem _ h))
  simp only [List.cons_append, List.isPrefixOf, Bool.and_eq_true, beq_iff_eq, List.cons.injEq]
  rw [ih]
end Go.Proofs.Ytbbbjjfecblhpaa.Pm
/- Contracts by hand: a calendar made new; of no other text of this seat. -/
namespace Go.Proofs.Ytbbbjjfecblhpaa.Nw
open Go.RowKit Go.Proofs.YtbbbjjfecblhpaaW.PrintWords Go.Proofs.YtbbbjjfecblhpaaW.PrintLast Go.Proofs.YtbbbjjfecblhpaaW.PrintMore Go.Proofs.Ytbbbjjfecblhpaa.HW
set_option linter.unusedVariables false
set_option linter.unusedSimpArgs false
def isDay (n : Int) : Prop := -25567 ≤ n ∧ n ≤ 84370
instance (n : Int) : Decidable (isDay n) := by unfold isDay; infer_instance
theorem rd_nat (l : List Int) (k : Nat) (h : k < l.length) : rd l (k : Int) = l[k] := by
 simp [rd, h]
theorem rd_cons (l : List Int) (k : Nat) (h : k < l.length) : l.drop k = rd l (k : Int) :: l.drop (k + 1) := by
 rw [List.drop_eq_getElem_cons h, rd_nat l k h]
def rises : Int → List Int → Bool
 | _, [] => true
 | p, x :: xs => decide (isDay x) && (decide (p < x) && rises x xs)
theorem rises_all (l : List Int) : ∀ p, rises p l = true → ∀ x ∈ l, isDay x ∧ p < x := by
 induction l with
 | nil => intro p _ x hx; simp at hx
 | cons y ys ih =>
  intro p h x hx
  simp only [rises, Bool.and_eq_true, decide_eq_true_eq] at h
  obtain ⟨h1, h2, h3⟩ := h
  rcases List.mem_cons.1 hx with rfl | hx
  ·exact ⟨h1, h2⟩
  ·obtain ⟨h4, h5⟩ := ih y h3 x hx
   exact ⟨h4, by omega⟩
theorem rises_pair (l : List Int) : ∀ p, rises p l = true → l.Pairwise (· < ·) := by
 induction l with
 | nil => intro p _; exact List.Pairwise.nil
 | cons y ys ih =>
  intro p h
  simp only [rises, Bool.and_eq_true, decide_eq_true_eq] at h
  exact List.Pairwise.cons (fun x hx => (rises_all ys y h.2.2 x hx).2) (ih y h.2.2)
theorem rises_pm (l : List Int) : ∀ p, rises p l = Pm.holsOk p l := by
 induction l with
 | nil => intro p; rfl
 | cons a l ih =>
  intro p
  simp only [rises, Pm.holsOk, ih]
  rw [Bool.eq_iff_iff]
  simp only [Bool.and_eq_true, decide_eq_true_eq]
  constructor
  ·rintro ⟨⟨h1, h2⟩, h3, h4⟩; exact ⟨⟨h1, h2, h3⟩, h4⟩
  ·rintro ⟨⟨h1, h2, h3⟩, h4⟩; exact ⟨⟨h1, h2⟩, h3, h4⟩
theorem there_any (n : Int) (w : World) : Calls Try.prog 65 #[.int .i64 n] w fun e w' => e = .returned (.bool (decide (isDay n))) ∧ Drawn0 w w' := by
 by_cases h1 : -25567 ≤ n
 ·by_cases h2 : n ≤ 84370
  ·have hd : decide (isDay n) = true := decide_eq_true ⟨h1, h2⟩
   rw [hd]
   clear hd
   go_enter Try.func65, Try.ntmps65
   go_wp2
   go_ret
   exact ⟨rfl, Drawn0.refl _⟩
  ·have hd : decide (isDay n) = false := decide_eq_false (fun h => h2 h.2)
   rw [hd]
   have q : decide (n ≤ 84370) = false := decide_eq_false h2
   clear hd
   go_enter Try.func65, Try.ntmps65
   go_wp2
   go_ret
   exact ⟨rfl, Drawn0.refl _⟩
 ·have hd : decide (isDay n) = false := decide_eq_false (fun h => h1 h.1)
  rw [hd]
  have q : decide (-25567 ≤ n) = false := decide_eq_false h1
  clear hd
  go_enter Try.func65, Try.ntmps65
  go_wp2
  go_ret
  exact ⟨rfl, Drawn0.refl _⟩
theorem info_int : (Try.prog.info? 3).map (fun i => (i.zero, i.size, i.bytes)) = some (some (.int .i64 0), 1, 8) := by kernel_rfl
def Cloned (l : List Int) (w : World) (e : Ending) (w' : World) : Prop := ∃ A c, e = .returned (.slice A l.length c) ∧ Kd.C (Kd.int .i64) w' A l.length l ∧ l.length ≤ c ∧ Below w.heap.size w w' ∧ (∀ ad, A = some ad → w.heap.size ≤ ad.block)
theorem clone_nil (w : World) : Calls Try.prog 66 #[.slice none 0 0] w (Cloned [] w) := by
 have hnil := fun (w : World) => Lib.run_eql_slice_nil (P := Try.prog) w 25 3 none 0 0 0 0 Try.underlying25
 go_enter Try.func66, Try.ntmps66
 go_wp2_with fail
 go_ret
 exact ⟨none, 0, rfl, ⟨rfl, by simp, fun h => absurd h (Nat.lt_irrefl 0)⟩, Nat.le_refl _, Below.refl _ _, fun ad h => by cases h⟩
theorem clone_some (ad : Addr) (c0 : Nat) (l : List Int) (w : World) (hr0 : Kd.C (Kd.int .i64) w (some ad) l.length l) (hc0 : l.length ≤ c0) (hm : l.length ≤ 1000000) : Calls Try.prog 66 #[.slice (some ad) l.length c0] w (Cloned l w) := by
 have HN : ∀ j u, (nums .i64 l)[j]? = some u → (w.alloc (.cells #[] 3)).cell? (ad.add j) = some u := by
  intro j u hu
  have hj : j < l.length := by
   rcases Nat.lt_or_ge j l.length with h | h
   ·exact h
   ·rw [List.getElem?_eq_none (by rw [nums_length]; exact h)] at hu; cases hu
  obtain ⟨ad', e, hc⟩ := Kd.at_int (Kd.C_below hr0 ((Below.refl w.heap.size w).alloc (Nat.le_refl _) (.cells #[] 3))) (j : Int) (by omega) (by omega)
  obtain rfl : ad = ad' := Option.some.inj e
  rw [Int.toNat_natCast] at hc
  rw [hc, ← hu, rd_nat l j hj]
  simp [nums, hj]
 have HNN := Aside0.mk HN
 clear hr0 HN
 have hown : (w.alloc (.cells #[] 3)).ownsRow w.heap.size 3 1 (.slice (some ⟨w.heap.size, 0, none⟩) 0 0) 0 [] :=
  ⟨rfl, Or.inr ⟨w.heap.size, 0, #[], rfl, Nat.le_refl _, heap_alloc_new w _, Nat.le_refl _, Nat.zero_le _, rfl, rfl⟩⟩
 have HO := Aside0.mk hown
 clear hown
 obtain ⟨i0, hi, hz0, hz1, hz2⟩ := info_parts info_int
 have hnil := fun (w : World) => Lib.run_eql_slice_nil (P := Try.prog) w 25 3 (some ad) l.length c0 0 0 Try.underlying25
 go_enter Try.func66, Try.ntmps66
 go_wp2_with ((at_builtin; refine wpList_append_own _ rfl _ _ 25 rfl w.heap.size 3 i0 (.int .i64 0) 1 8 Try.underlying25 hi hz0 hz1 hz2 rfl (by decide) _ 0 [] rfl HO.out ad l.length c0 (nums .i64 l) rfl (by simp [nums]) HNN.out (by intro u hu; simp [nums] at hu; obtain ⟨a, _, rfl⟩ := hu; rfl) (by unfold maxLen; omega) (by omega) (by simp) ?_); intro v' w1 hown1 hgrow _)
 have hown2 : w1.ownsRow w.heap.size 3 1 v' l.length (encs (Value.int .i64) l) := by simpa [nums, encs] using hown1
 obtain ⟨A, c, rfl, hle, hr⟩ := own_reads_of_le (d := (0 : Int)) hown2
 have hb : Below w.heap.size w w1 := ((Below.refl w.heap.size w).alloc (Nat.le_refl _) (.cells #[] 3)).grown hgrow (by simp) (fun k hk => by cases hk; exact Nat.le_refl _)
 have hbs : ∀ ad, A = some ad → w.heap.size ≤ ad.block := fun ad e => own_base hown2 _ (by rw [e]; rfl)
 have HBS := Aside0.mk hbs
 clear hbs
 have HB := Aside0.mk hb
 have HC := Aside0.mk (show Kd.C (Kd.int .i64) w1 A l.length l from Kd.C_of_reads hr)
 clear hown1 hown2 hgrow hr hb
 go_wp2
 go_ret
 exact ⟨A, c, rfl, HC.out, hle, HB.out, HBS.out⟩
theorem clone_any (A0 : Option Addr) (c0 : Nat) (l : List Int) (w : World) (hr0 : Kd.C (Kd.int .i64) w A0 l.length l) (hc0 : l.length ≤ c0) (hn : A0 = none → c0 = 0) (hm : l.length ≤ 1000000) : Calls Try.prog 66 #[.slice A0 l.length c0] w (Cloned l w) := by
 cases A0 with
 | some ad => exact clone_some ad c0 l w hr0 hc0 hm
 | none =>
  obtain rfl := hn rfl
  obtain rfl : l = [] := List.eq_nil_of_length_eq_zero (by omega)
  exact clone_nil w
theorem new_many (A0 : Option Addr) (c0 : Nat) (l : List Int) (w : World) (h200 : 200 < l.length) (hm : l.length ≤ 1000000) :
  Calls Try.prog 40 #[.slice A0 l.length c0] w fun e w' => e = .returned (.tuple #[.pointer none, .int .i64 1]) ∧ Drawn0 w w' := by
 go_enter Try.func40, Try.ntmps40
 go_wp2_with fail
 go_ret2
 exact ⟨rfl, Drawn0.refl _⟩
def CalIn (B : Nat) (w : World) (gb : Nat) (l : List Int) : Prop := ∃ A c, w.cell? ⟨gb, 0, none⟩ = some (.slice A l.length c) ∧ Kd.C (Kd.int .i64) w A l.length l ∧ l.length ≤ c ∧ l.length ≤ 200 ∧ l.Pairwise (· < ·) ∧ gb < w.heap.size ∧ (∀ ad, A = some ad → B ≤ ad.block)
def Made2 (l : List Int) (b : Bool) (w : World) (e : Ending) (w' : World) : Prop := Below w.heap.size w w' ∧ (b = false → e = .returned (.tuple #[.pointer none, .int .i64 1])) ∧ (b = true → ∃ gb, w.heap.size ≤ gb ∧ e = .returned (.tuple #[.pointer (some ⟨gb, 0, none⟩), .int .i64 0]) ∧ CalIn w.heap.size w' gb l)
set_option maxHeartbeats 1000000 in
theorem new_few2 (A0 : Option Addr) (c0 : Nat) (l : List Int) (b : Bool) (w : World) (hr0 : Kd.C (Kd.int .i64) w A0 l.length l) (hc0 : l.length ≤ c0) (hn : A0 = none → c0 = 0) (hm : l.length ≤ 200) (hb : rises (-25568) l = b) :
  Calls Try.prog 40 #[.slice A0 l.length c0] w (Made2 l b w) := by
 have HR0 := Aside0.mk hr0
 have HB := Aside0.mk hb
 have HN := Aside0.mk hn
 clear hr0 hb hn
 go_enter Try.func40, Try.ntmps40
 go_wp2_with fail
 go_loopg [11] (l.length + 1) (fun gq i w' => ∃ (k : Nat) (p : Int), k ≤ l.length ∧ i = .int .i64 k ∧ Aside0 (gq = l.length + 1 - k) ∧ Aside0 (k = 0 ∧ p = -25568 ∨ 0 < k ∧ p = rd l ((k : Int) - 1)) ∧ Aside0 (rises p (l.drop k) = b) ∧ Drawn0 w w')
 case atStart => exact ⟨0, -25568, Nat.zero_le _, rfl, ⟨rfl⟩, ⟨Or.inl ⟨rfl, rfl⟩⟩, ⟨by rw [← HB.out]; rfl⟩, Drawn0.refl _⟩
 case round =>
  obtain ⟨k, p, hk, rfl, hg, hp, hq, ⟨m1, rfl⟩⟩ := hrel
  by_cases hlt : k < l.length
  ·obtain ⟨ad, e0, hx0⟩ := Kd.at_int HR0.out (k : Int) (by omega) (by omega)
   subst e0
   rw [Int.toNat_natCast] at hx0
   have hrc := hq.out
   rw [rd_cons l k hlt] at hrc
   simp only [rises] at hrc
   have HX : Aside0 (∀ j : Nat, j < l.length → w.cell? (ad.add j) = some (.int .i64 (rd l (j : Int)))) := ⟨fun j hj => by
    obtain ⟨ad', e', hx'⟩ := Kd.at_int HR0.out (j : Int) (by omega) (by omega)
    obtain rfl : ad = ad' := Option.some.inj e'
    rw [Int.toNat_natCast] at hx'
    exact hx'⟩
   by_cases hd : isDay (rd l (k : Int))
   ·have d1 := decide_eq_true hd
    rw [d1, Bool.true_and] at hrc
    rcases (by omega : k = 0 ∨ 0 < k) with h0 | h0
    ·have hp0 : p = -25568 := by rcases hp.out with h | h <;> omega
     have hlt2 : decide (p < rd l (k : Int)) = true := decide_eq_true (by have := hd.1; omega)
     rw [hlt2, Bool.true_and] at hrc
     have HQ := Aside0.mk hrc
     have g1 : (k : Int) ≤ 0 := by omega
     clear hrc hq hd hlt2 hp0 hp h0
     go_wp2_with fail
     refine (there_any _ _).mono ?_
     rintro e w1 ⟨rfl, ⟨m2, rfl⟩⟩
     go_wp2_with fail
     go_roundg (l.length + 1 - (k + 1))
     case measure => have := hg.out; omega
     case rel => exact ⟨k + 1, rd l (k : Int), by omega, by simp, ⟨rfl⟩, ⟨Or.inr ⟨by omega, by congr 1; omega⟩⟩, HQ, ⟨_, rfl⟩⟩
    ·have hx1 := HX.out (k - 1) (by omega)
     have hp1 : p = rd l (((k - 1 : Nat) : Int)) := by
      rcases hp.out with h | h
      ·omega
      ·rw [h.2]; congr 1; omega
     have g1 : (0 : Int) ≤ (k : Int) - 1 := by omega
     by_cases hlt2 : p < rd l (k : Int)
     ·rw [decide_eq_true hlt2, Bool.true_and] at hrc
      have HQ := Aside0.mk hrc
      have hle2 : decide (rd l (k : Int) ≤ rd l (((k - 1 : Nat) : Int))) = false := decide_eq_false (by omega)
      clear hrc hq hd hlt2 hp1 hp
      go_wp2_with fail
      refine (there_any _ _).mono ?_
      rintro e w1 ⟨rfl, ⟨m2, rfl⟩⟩
      go_wp2_with fail
      go_roundg (l.length + 1 - (k + 1))
      case measure => have := hg.out; omega
      case rel => exact ⟨k + 1, rd l (k : Int), by omega, by simp, ⟨rfl⟩, ⟨Or.inr ⟨by omega, by congr 1; omega⟩⟩, HQ, ⟨_, rfl⟩⟩
     ·rw [decide_eq_false hlt2, Bool.false_and] at hrc
      subst hrc
      have hle2 : decide (rd l (k : Int) ≤ rd l (((k - 1 : Nat) : Int))) = true := decide_eq_true (by omega)
      clear hq hd hlt2 hp1 hp
      go_wp2_with fail
      refine (there_any _ _).mono ?_
      rintro e w1 ⟨rfl, ⟨m2, rfl⟩⟩
      go_wp2_with fail
      go_ret2
      exact ⟨pw_below_drewN (Below.refl _ _) _, fun _ => rfl, fun h => by cases h⟩
   ·have d1 := decide_eq_false hd
    rw [d1, Bool.false_and] at hrc
    subst hrc
    clear hd hq
    go_wp2_with fail
    refine (there_any _ _).mono ?_
    rintro e w1 ⟨rfl, ⟨m2, rfl⟩⟩
    go_wp2_with fail
    go_ret2
    exact ⟨pw_below_drewN (Below.refl _ _) _, fun _ => rfl, fun h => by cases h⟩
  ·have hk2 : k = l.length := by omega
   subst hk2
   have hrc := hq.out
   rw [List.drop_length] at hrc
   obtain rfl : b = true := by rw [← hrc]; rfl
   clear hq
   go_wp2_with fail
   refine (clone_any A0 c0 l _ (Kd.C_drewN HR0.out _) hc0 HN.out (by omega)).mono ?_
   rintro e w1 ⟨A, c, rfl, hc1, hle, hbl, hbs⟩
   have HBS := Aside0.mk hbs
   clear hbs
   have HC1 := Aside0.mk hc1
   have HBL := Aside0.mk hbl
   clear hc1 hbl
   have hBsz := HBL.out.size
   have hgb : (w1.alloc (.cells #[.slice A l.length c] 110)).cell? ⟨w1.heap.size, 0, none⟩ = some (.slice A l.length c) := by simp [go_sem]
   have HCA := Aside0.mk (show CalIn w.heap.size (w1.alloc (.cells #[.slice A l.length c] 110)) w1.heap.size l from ⟨A, c, hgb, Kd.C_below HC1.out ((Below.refl _ _).alloc (Nat.le_refl _) _), hle, hm, rises_pair l _ HB.out, by simp, by have := HBS.out; simpa using this⟩)
   have HBB := Aside0.mk ((pw_below_drewN (Below.refl w.heap.size w) (m1)).trans (HBL.out.mono (by simp)))
   clear hgb
   go_wp2_with fail
   go_ret2
   exact ⟨HBB.out.alloc HBB.out.size _, (fun h => by cases h), fun _ => ⟨w1.heap.size, HBB.out.size, rfl, HCA.out⟩⟩
def New1 (l : List Int) (w : World) (e : Ending) (w' : World) : Prop := Below w.heap.size w w' ∧ ∃ q, (e = .returned (.tuple #[q, .int .i64 (if decide (l.length ≤ 200) && Pm.holsOk (-25568) l then 0 else 1)]))
theorem new_any (A0 : Option Addr) (c0 : Nat) (l : List Int) (w : World) (hr0 : Kd.C (Kd.int .i64) w A0 l.length l) (hc0 : l.length ≤ c0) (hn : A0 = none → c0 = 0) (hm : l.length ≤ 1000000) :
  Calls Try.prog 40 #[.slice A0 l.length c0] w (New1 l w) := by
 by_cases h : l.length ≤ 200
 ·refine (new_few2 A0 c0 l _ w hr0 hc0 hn h rfl).mono ?_
  rintro e w1 ⟨hb, h1, h2⟩
  refine ⟨hb, ?_⟩
  rw [decide_eq_true h, Bool.true_and, ← rises_pm]
  cases hr : rises (-25568) l with
  | true =>
   obtain ⟨gb, _, he, _⟩ := h2 hr
   exact ⟨_, by rw [he]; rfl⟩
  | false => exact ⟨_, by rw [h1 hr]; rfl⟩
 ·refine (new_many A0 c0 l w (by omega) hm).mono ?_
  rintro e w1 ⟨rfl, hd⟩
  refine ⟨hd.below, .pointer none, ?_⟩
  rw [decide_eq_false h]; rfl
end Go.Proofs.Ytbbbjjfecblhpaa.Nw
/- Plain law: a word among the words of grammar. -/
namespace Go.Proofs.Ytbbbjjfecblhpaa.Pm
open Go
set_option linter.unusedVariables false
theorem index_cons_pos (b : UInt8) (l sub : List UInt8) : 0 ≤ Lib.index (b :: l) sub ↔ sub.isPrefixOf (b :: l) = true ∨ 0 ≤ Lib.index l sub := by
 have hg := Lib.index_ge l sub
 rw [Lib.index]
 by_cases h : sub.isPrefixOf (b :: l) = true
 ·rw [if_pos h]; simp [h]
 ·rw [if_neg h]
  by_cases e : Lib.index l sub = -1
  ·rw [if_pos (by rw [e]; rfl), e]; simp [h]
  ·rw [if_neg (by simpa using e)]
   simp only [h, false_or]
   constructor <;> intro <;> omega
theorem index_nil_neg (a : UInt8) (t : List UInt8) : ¬ 0 ≤ Lib.index [] (a :: t) := by simp [Lib.index]
theorem index_skip (t L : List UInt8) : ∀ w : List UInt8, (32 : UInt8) ∉ w → (0 ≤ Lib.index (w ++ L) (32 :: t) ↔ 0 ≤ Lib.index L (32 :: t))
 | [], _ => by simp
 | b :: w, hw => by
  have h1 : ((32 : UInt8) == b) = false := by
   rw [beq_eq_false_iff_ne]; intro e; exact hw (by simp [e])
  have ih := index_skip t L w (fun h => hw (List.mem_cons_of_mem _ h))
  rw [List.cons_append, index_cons_pos, ih]
  simp [List.isPrefixOf, h1]
theorem index_joined (s : List UInt8) (hs : (32 : UInt8) ∉ s) : ∀ ws : List (List UInt8), (∀ w ∈ ws, (32 : UInt8) ∉ w) → (0 ≤ Lib.index (joined ws) (32 :: (s ++ [32])) ↔ s ∈ ws)
 | [], _ => by
  rw [joined, index_cons_pos]
  have h := index_nil_neg 32 (s ++ [32])
  have h2 : ¬ (s ++ [32]).isPrefixOf ([] : List UInt8) = true := by cases s <;> simp [List.isPrefixOf]
  simp [List.isPrefixOf, h, h2]
 | w :: ws, hw => by
  obtain ⟨t, ht⟩ := joined_head ws
  have ih := index_joined s hs ws (fun v hv => hw v (List.mem_cons_of_mem _ hv))
  have hw0 := hw w (by simp)
  rw [joined, index_cons_pos, index_skip _ _ w hw0, ih]
  have hp := pre_word s w t hs hw0
  simp only [List.isPrefixOf, beq_self_eq_true, Bool.true_and, List.mem_cons]
  rw [ht, hp]
theorem words_no : ∀ w ∈ wordsL, (32 : UInt8) ∉ w := by decide +kernel
theorem contains_word (s : List UInt8) (hs : (32 : UInt8) ∉ s) : Lib.contains (joined wordsL) (32 :: (s ++ [32])) = isWord s := by
 unfold Lib.contains isWord
 rw [Bool.eq_iff_iff, decide_eq_true_iff, List.contains_iff_mem]
 exact index_joined s hs wordsL words_no
theorem letter_no (c : UInt8) (h : letter c = true) : c ≠ 32 := by
 intro e; subst e; revert h; decide
end Go.Proofs.Ytbbbjjfecblhpaa.Pm
/- Arguments opened: structs of whole numbers, and slices of them. -/
namespace Go.Proofs.Ytbbbjjfecblhpaa.Op
open Go.ChangeShapes Go.WideShapes Go.Deep Go.RowKit Go.Joins
def IntRows (w : World) (A : Option Addr) (sz : Nat) (rows : List (List Int)) : Prop :=
 (∀ r ∈ rows, r.length = sz ∧ ∀ x ∈ r, (Lit.int .i64 x).wf = true) ∧ ∀ (i : Nat) (r : List Int), rows[i]? = some r → ∃ ad, A = some ad ∧ ∀ (j : Nat) (x : Int), r[j]? = some x → w.cell? (ad.add (i * sz + j)) = some (.int .i64 x)
theorem list_of {α : Type} {P : Nat → α → Prop} (n : Nat) : (∀ i, i < n → ∃ x, P i x) → ∃ l : List α, l.length = n ∧ ∀ (i : Nat) (x : α), l[i]? = some x → P i x := by
 induction n with
 | zero => intro _; exact ⟨[], rfl, fun i x h => by simp at h⟩
 | succ n ih =>
  intro h
  obtain ⟨l, hl, hp⟩ := ih (fun i hi => h i (by omega))
  obtain ⟨x, hx⟩ := h n (by omega)
  refine ⟨l ++ [x], by simp [hl], fun i y hy => ?_⟩
  rcases Nat.lt_or_ge i l.length with h1 | h1
  ·rw [List.getElem?_append_left h1] at hy; exact hp i y hy
  ·rw [List.getElem?_append_right h1] at hy
   have : i - l.length = 0 := by
    rcases Nat.eq_zero_or_pos (i - l.length) with h2 | h2
    ·exact h2
    ·rw [List.getElem?_eq_none (by simp only [List.length_cons, List.length_nil]; omega)] at hy; cases hy
   rw [this] at hy
   simp at hy
   subst hy
   obtain rfl : i = n := by omega
   exact hx
section
variable {H : Type} {enc : TypeId × Value → H} {P : Program} {w : World} {base : Nat} {spare : Nat → Bool} {held : Bool}
theorem hone_of' {P : Program} {fs : Array Field} (h : oneCellFields P fs = true) (j : Nat) (f : Field) (hj : fs[j]? = some f) : f.offset = j ∧ P.cellsOf f.type = 1 := hone_of h j f hj
end
theorem IntRows.below {w w1 : World} {A : Option Addr} {sz : Nat} {rows : List (List Int)} (h : IntRows w A sz rows) (hb : Below w.heap.size w w1) : IntRows w1 A sz rows := by
 refine ⟨h.1, fun i r hi => ?_⟩
 obtain ⟨ad, e, hc⟩ := h.2 i r hi
 refine ⟨ad, e, fun j x hj => ?_⟩
 have hj' := hc j x hj
 have hlt : (ad.add (i * sz + j)).block < w.heap.size := by
  rcases Nat.lt_or_ge (ad.add (i * sz + j)).block w.heap.size with h1 | h1
  ·exact h1
  ·exfalso
   have e : w.heap[(ad.add (i * sz + j)).block]? = none := Array.getElem?_eq_none h1
   simp [World.cell?, e] at hj'
 rw [hb.cell hlt]; exact hj'
end Go.Proofs.Ytbbbjjfecblhpaa.Op
/- Contracts by hand: a product by value; what is thrown of it. -/
namespace Go.Proofs.Ytbbbjjfecblhpaa.Pd
open Go.RowKit Go.Proofs.YtbbbjjfecblhpaaW.PrintWords Go.Proofs.YtbbbjjfecblhpaaW.PrintLast Go.Proofs.YtbbbjjfecblhpaaW.PrintMore Go.Proofs.Ytbbbjjfecblhpaa.HW
open Pm
set_option linter.unusedVariables false
set_option linter.unusedSimpArgs false
abbrev pv (p : Prod) (A1 : Option Addr) (c1 : Nat) (A2 : Option Addr) (c2 : Nat) (A3 : Option Addr) (c3 : Nat) : Value :=
 .agg #[.string p.name, .int .i64 p.count, .int .i64 p.round, .int .i64 p.kind, .int .i64 p.every, .int .i64 p.times, .int .i64 p.grace, .int .i64 p.rate, .slice A1 p.resets.length c1, .int .i64 p.penalty, .int .i64 p.o1, .int .i64 p.o2, .int .i64 p.o3, .int .i64 p.o4, .int .i64 p.over, .slice A2 p.late.length c2, .int .i64 p.cap, .int .i64 p.roll, .slice A3 p.hol.length c3]
structure ProdAt (w : World) (p : Prod) (A1 : Option Addr) (c1 : Nat) (A2 : Option Addr) (c2 : Nat) (A3 : Option Addr) (c3 : Nat) : Prop where
 r1 : Op.IntRows w A1 2 p.resets
 l1 : p.resets.length ≤ c1
 n1 : A1 = none → c1 = 0
 r2 : Op.IntRows w A2 2 p.late
 l2 : p.late.length ≤ c2
 n2 : A2 = none → c2 = 0
 r3 : Kd.C (Kd.int .i64) w A3 p.hol.length p.hol
 l3 : p.hol.length ≤ c3
 n3 : A3 = none → c3 = 0
theorem ProdAt.below {w w1 : World} {p : Prod} {A1 : Option Addr} {c1 : Nat} {A2 : Option Addr} {c2 : Nat} {A3 : Option Addr} {c3 : Nat} (h : ProdAt w p A1 c1 A2 c2 A3 c3) (hb : Below w.heap.size w w1) : ProdAt w1 p A1 c1 A2 c2 A3 c3 :=
 ⟨h.r1.below hb, h.l1, h.n1, h.r2.below hb, h.l2, h.n2, Kd.C_below h.r3 hb, h.l3, h.n3⟩
structure Small (p : Prod) : Prop where
 name : p.name.size ≤ 1000000
 s1 : p.resets.length ≤ 1000000
 s2 : p.late.length ≤ 1000000
 s3 : p.hol.length ≤ 1000000
theorem must_yes (w : World) : Calls Try.prog 84 #[.bool true] w fun e w' => e = .returned (.tuple #[]) ∧ w = w' := by
 go_enter Try.func84, Try.ntmps84
 go_wp2
 go_end0
 exact ⟨rfl, rfl⟩
abbrev refusedE : Ending := .panicked [{ v := .iface 102 (.agg #[]), recovered := false }]
theorem must_no (w : World) : Calls Try.prog 84 #[.bool false] w fun e w' => e = refusedE ∧ w = w' := by
 go_enter Try.func84, Try.ntmps84
 go_wp2
 exact ⟨rfl, rfl, rfl⟩
theorem within_i (v a b : Int) (w : World) : Calls Try.prog 86 #[.int .i64 v, .int .i64 a, .int .i64 b] w fun e w' => e = .returned (.bool (decide (a ≤ v ∧ v ≤ b))) ∧ w = w' := by
 by_cases h1 : a ≤ v
 ·by_cases h2 : v ≤ b
  ·have hd : decide (a ≤ v ∧ v ≤ b) = true := decide_eq_true ⟨h1, h2⟩
   rw [hd]
   clear hd
   go_enter Try.func86, Try.ntmps86
   go_wp2
   go_ret
   exact ⟨rfl, rfl⟩
  ·have hd : decide (a ≤ v ∧ v ≤ b) = false := decide_eq_false (fun h => h2 h.2)
   rw [hd]
   have q : decide (v ≤ b) = false := decide_eq_false h2
   clear hd
   go_enter Try.func86, Try.ntmps86
   go_wp2
   go_ret
   exact ⟨rfl, rfl⟩
 ·have hd : decide (a ≤ v ∧ v ≤ b) = false := decide_eq_false (fun h => h1 h.1)
  rw [hd]
  have q : decide (a ≤ v) = false := decide_eq_false h1
  clear hd
  go_enter Try.func86, Try.ntmps86
  go_wp2
  go_ret
  exact ⟨rfl, rfl⟩
theorem within_l (v a b : Int) (w : World) : Calls Try.prog 87 #[.int .i64 v, .int .i64 a, .int .i64 b] w fun e w' => e = .returned (.bool (decide (a ≤ v ∧ v ≤ b))) ∧ w = w' := by
 by_cases h1 : a ≤ v
 ·by_cases h2 : v ≤ b
  ·have hd : decide (a ≤ v ∧ v ≤ b) = true := decide_eq_true ⟨h1, h2⟩
   rw [hd]
   clear hd
   go_enter Try.func87, Try.ntmps87
   go_wp2
   go_ret
   exact ⟨rfl, rfl⟩
  ·have hd : decide (a ≤ v ∧ v ≤ b) = false := decide_eq_false (fun h => h2 h.2)
   rw [hd]
   have q : decide (v ≤ b) = false := decide_eq_false h2
   clear hd
   go_enter Try.func87, Try.ntmps87
   go_wp2
   go_ret
   exact ⟨rfl, rfl⟩
 ·have hd : decide (a ≤ v ∧ v ≤ b) = false := decide_eq_false (fun h => h1 h.1)
  rw [hd]
  have q : decide (a ≤ v) = false := decide_eq_false h1
  clear hd
  go_enter Try.func87, Try.ntmps87
  go_wp2
  go_ret
  exact ⟨rfl, rfl⟩
theorem within_i_is {v a b : Int} {r : Bool} (h : decide (a ≤ v ∧ v ≤ b) = r) (w : World) : Calls Try.prog 86 #[.int .i64 v, .int .i64 a, .int .i64 b] w fun e w' => e = .returned (.bool r) ∧ w = w' := h ▸ within_i v a b w
theorem within_l_is {v a b : Int} {r : Bool} (h : decide (a ≤ v ∧ v ≤ b) = r) (w : World) : Calls Try.prog 87 #[.int .i64 v, .int .i64 a, .int .i64 b] w fun e w' => e = .returned (.bool r) ∧ w = w' := h ▸ within_l v a b w
section
variable {P : Program} {ops : Array Oper} {rest : List Oper} {a : Act} {Q : Exit → Act → World → Prop}
theorem copy_event {W : World} {o1 o2 : Oper} (hg1 : o1.guard = none) {N : Tmp} (hd1 : o1.dst = some N) (hg2 : o2.guard = none) (hd2 : o2.dst = none) {t : TypeId} {v : Operand} (ho2 : o2.op = .store t (.tmp N) v) {cs zs : Array Value}
  (hrun : (execOp a.eval o1).run P W = .ok (.value (.pointer (some ⟨W.heap.size, 0, none⟩))) (W.alloc (.cells zs t (0, 0))))
  (hp : (a.put o1.dst (.pointer (some ⟨W.heap.size, 0, none⟩))).eval (.tmp N) = .pointer (some ⟨W.heap.size, 0, none⟩))
  (hv : (a.put o1.dst (.pointer (some ⟨W.heap.size, 0, none⟩))).eval v = .agg cs)
  (hi : (P.info? t).map (·.size) = some cs.size) (hz : zs.size = cs.size) (h1 : cs.all (·.oneCell') = true)
  (h : ∀ g, g = W.heap.size → ∀ w1, w1.heap[g]? = some (.cells cs t (0, 0)) → Below W.heap.size W w1 → wpList P ops Q rest (a.put o1.dst (.pointer (some ⟨g, 0, none⟩))) w1) : wpList P ops Q (o1 :: o2 :: rest) a W := by
 refine Kd.event_run hg1 hrun ?_
 refine wpList_store_row hg2 t (.tmp N) v ho2 W.heap.size cs hp hv t zs (heap_alloc_new W _) hi hz h1 ?_
 rw [hd2, World.setRow_alloc_new]
 exact h _ rfl _ (blk_new W _) (below_alloc (Below.refl _ _) _)
end
theorem info_prod : (Try.prog.info? 27).map (·.size) = some 19 := by kernel_rfl
theorem info_looks : (Try.prog.info? 104).map (·.size) = some 19 := by kernel_rfl
abbrev pcs (p : Prod) (A1 : Option Addr) (c1 : Nat) (A2 : Option Addr) (c2 : Nat) (A3 : Option Addr) (c3 : Nat) : Array Value :=
 #[.string p.name, .int .i64 p.count, .int .i64 p.round, .int .i64 p.kind, .int .i64 p.every, .int .i64 p.times, .int .i64 p.grace, .int .i64 p.rate, .slice A1 p.resets.length c1, .int .i64 p.penalty, .int .i64 p.o1, .int .i64 p.o2, .int .i64 p.o3, .int .i64 p.o4, .int .i64 p.over, .slice A2 p.late.length c2, .int .i64 p.cap, .int .i64 p.roll, .slice A3 p.hol.length c3]
theorem pcs_one (p : Prod) (A1 : Option Addr) (c1 : Nat) (A2 : Option Addr) (c2 : Nat) (A3 : Option Addr) (c3 : Nat) : (pcs p A1 c1 A2 c2 A3 c3).all (·.oneCell') = true := by
 simp [Value.oneCell']
abbrev pzs : Array Value :=
 #[.string ⟨#[]⟩, .int .i64 0, .int .i64 0, .int .i64 0, .int .i64 0, .int .i64 0, .int .i64 0, .int .i64 0, .slice none 0 0, .int .i64 0, .int .i64 0, .int .i64 0, .int .i64 0, .int .i64 0, .int .i64 0, .slice none 0 0, .int .i64 0, .int .i64 0, .slice none 0 0]
theorem pc_cells {p : Prod} {A1 : Option Addr} {c1 : Nat} {A2 : Option Addr} {c2 : Nat} {A3 : Option Addr} {c3 : Nat} {w : World} {g : Nat} {t : TypeId} (h : w.heap[g]? = some (.cells (pcs p A1 c1 A2 c2 A3 c3) t (0, 0))) :
  w.cell? ⟨g, 0, none⟩ = some (.string p.name) ∧ w.cell? ⟨g, 1, none⟩ = some (.int .i64 p.count) ∧ w.cell? ⟨g, 2, none⟩ = some (.int .i64 p.round) ∧ w.cell? ⟨g, 3, none⟩ = some (.int .i64 p.kind) ∧ w.cell? ⟨g, 4, none⟩ = some (.int .i64 p.every) ∧ w.cell? ⟨g, 5, none⟩ = some (.int .i64 p.times) ∧ w.cell? ⟨g, 6, none⟩ = some (.int .i64 p.grace) ∧ w.cell? ⟨g, 7, none⟩ = some (.int .i64 p.rate) ∧ w.cell? ⟨g, 8, none⟩ = some (.slice A1 p.resets.length c1) ∧ w.cell? ⟨g, 9, none⟩ = some (.int .i64 p.penalty) ∧ w.cell? ⟨g, 10, none⟩ = some (.int .i64 p.o1) ∧ w.cell? ⟨g, 11, none⟩ = some (.int .i64 p.o2) ∧ w.cell? ⟨g, 12, none⟩ = some (.int .i64 p.o3) ∧ w.cell? ⟨g, 13, none⟩ = some (.int .i64 p.o4) ∧ w.cell? ⟨g, 14, none⟩ = some (.int .i64 p.over) ∧ w.cell? ⟨g, 15, none⟩ = some (.slice A2 p.late.length c2) ∧ w.cell? ⟨g, 16, none⟩ = some (.int .i64 p.cap) ∧ w.cell? ⟨g, 17, none⟩ = some (.int .i64 p.roll) ∧ w.cell? ⟨g, 18, none⟩ = some (.slice A3 p.hol.length c3) :=
 ⟨(blk_cell h 0).trans rfl, (blk_cell h 1).trans rfl, (blk_cell h 2).trans rfl, (blk_cell h 3).trans rfl, (blk_cell h 4).trans rfl, (blk_cell h 5).trans rfl, (blk_cell h 6).trans rfl, (blk_cell h 7).trans rfl, (blk_cell h 8).trans rfl, (blk_cell h 9).trans rfl, (blk_cell h 10).trans rfl, (blk_cell h 11).trans rfl, (blk_cell h 12).trans rfl, (blk_cell h 13).trans rfl, (blk_cell h 14).trans rfl, (blk_cell h 15).trans rfl, (blk_cell h 16).trans rfl, (blk_cell h 17).trans rfl, (blk_cell h 18).trans rfl⟩
theorem blk_below {w w1 : World} {g : Nat} {o : Obj} (h : w.heap[g]? = some o) (hb : Below w.heap.size w w1) : w1.heap[g]? = some o := by rw [hb.block g (blk_lt h)]; exact h
theorem must_yes_of {b : Bool} (h : b = true) (w : World) : Calls Try.prog 84 #[.bool b] w fun e w' => e = .returned (.tuple #[]) ∧ w = w' := h ▸ must_yes w
theorem must_no_of {b : Bool} (h : b = false) (w : World) : Calls Try.prog 84 #[.bool b] w fun e w' => e = refusedE ∧ w = w' := h ▸ must_no w
end Go.Proofs.Ytbbbjjfecblhpaa.Pd
