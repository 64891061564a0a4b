/- Texts of this claim, joined in build order. -/
import Derived.RowKit
import Derived.Below
import Derived.Deep.Draws
import Derived.Deep.AppendLies
import Derived.Maps.AppendAt
import Derived.OwnWalk
import Derived.Laws.BytesArg
import Derived.Laws.MakeOwn
import Derived.Laws.OwnMore
import Derived.Tactics
import Derived.Lib.ConvBytes
import Derived.Laws.Slices
import Derived.WalkKit
import Derived.KernelRfl
import Derived.RowKit3
import Derived.Deep.LoopGhost
import Derived.Deep.QuietTactic
import Derived.BigQuiet
import Derived.WideLaws
import Derived.Deep.DeepCutAuto
import Derived.Deep.CutBlock
import Derived.Deep.RegionHeld3
import Derived.Lib.AppendStr
import Derived.ArgAppend
import Derived.Laws.IdiomCopy
import Derived.OrdersHeld
import Derived.Laws.BitsLemmas
import Derived.Test.YtcfpkkgdofblfaaProg
import Derived.WalkLawsBesides
import Derived.WalkSpells
import Derived.Lib.IndexMore
import Derived.Deep.Slices
import Derived.Deep.Fields
import Derived.ChangeSame
import Derived.Lib.SmallJoins
import Derived.ProofKit
import Derived.Defers
import Derived.Laws.Tables
import Derived.Deep.WholeRow
import Derived.Recover
import Derived.StillTailTactics
import Derived.Shelf.Small.Bits
import Derived.Shelf.Strconv.Itoa0
import Derived.Shelf.Strings.Search1
import Derived.Shelf.Strings.Search2
import Derived.Shelf.Strings.Search3
import Derived.Shelf.LaysM
import Derived.Shelf.Strings.Shaped
import Derived.Shelf.Bits.Mul64
import Derived.Lib.SlBytesConst
import Derived.Deep.RegionWith
import Derived.IntWalk
import Derived.Lib.Hide
import Derived.BigFrame
import Derived.Laws.StructEq
import Derived.Lib.BitFns
import Derived.Laws.BitsAllLaws
import Derived.Laws.Externs
import Derived.RegionTactic
import Derived.Deep.MidRow
import Derived.OpenShut
import Derived.ShutString
import Derived.ChangeOld
import Derived.Laws.IdiomArrays
import Derived.SizedLaws
import Derived.HandedShaped
import Derived.Shelf.Vars
import Derived.ChangeSlices
import Derived.Test.YtcfpkkgdofblfaaJX1
import Derived.Test.YtcfpkkgdofblfaaJX2
import Derived.Test.YtcfpkkgdofblfaaJX3
import Derived.Test.YtcfpkkgdofblfaaJX4
set_option linter.unusedVariables false
set_option linter.unusedSimpArgs false
namespace Go.Proofs.Ytcfpkkgdofblfaa.PG
open Go.RowKit Go.Proofs.YtcfpkkgdofblfaaW.PrintWords Go.Proofs.YtcfpkkgdofblfaaW.PrintLast Go.Proofs.YtcfpkkgdofblfaaW.PrintMore Go.Proofs.Ytcfpkkgdofblfaa.HW
attribute [local go_sem] run_makeFunc_ max2_int min2_int max_two min_two max_three min_three max_four min_four   -- for this text's walks alone
set_option linter.unusedVariables false
set_option linter.unusedSimpArgs false
/-! ### fraction_year: function 72 -/
def fraction_year.f (a0 : Int) : Option (Int) := if a0 = 1 then (some 360) else (if a0 = 2 then (some 365) else (if a0 = 3 then (some 133590) else (none)))
set_option maxHeartbeats 8000000 in
set_option maxRecDepth 100000 in
theorem fraction_year.calls (a0 : Int) (r : Int) (w : World) (h : fraction_year.f a0 = some r) :
  Calls Try.prog 72 #[.int .i64 a0] w fun e w' => e = .returned (.int .i64 r) ∧ Drawn0 w w' := by
 have H : (if a0 = 1 then (some 360) else (if a0 = 2 then (some 365) else (if a0 = 3 then (some 133590) else (none)))) = some r := h
 clear h
 by_cases c2 : a0 = 1
 ·rw [if_pos c2] at H
  have c2b0 : (a0 == 1) = true := beq_iff_eq.mpr c2
  have c2b1 : (a0 != 1) = false := bne_eq_false_iff_eq.mpr c2
  clear c2
  obtain rfl := Option.some.inj H
  go_enter Try.func72, Try.ntmps72
  go_wp2
  go_ret
  exact ⟨by first | rfl | (simp; done) | (simp [*]; done), by repeat (first | exact Drawn0.refl _ | apply Drawn0.step)⟩
 ·rw [if_neg c2] at H
  have c2b0 : (a0 == 1) = false := beq_eq_false_iff_ne.mpr c2
  have c2b1 : (a0 != 1) = true := bne_iff_ne.mpr c2
  by_cases c3 : a0 = 2
  ·rw [if_pos c3] at H
   have c3b0 : (a0 == 2) = true := beq_iff_eq.mpr c3
   have c3b1 : (a0 != 2) = false := bne_eq_false_iff_eq.mpr c3
   clear c3
   obtain rfl := Option.some.inj H
   go_enter Try.func72, Try.ntmps72
   go_wp2
   go_ret
   exact ⟨by first | rfl | (simp; done) | (simp [*]; done), by repeat (first | exact Drawn0.refl _ | apply Drawn0.step)⟩
  ·rw [if_neg c3] at H
   have c3b0 : (a0 == 2) = false := beq_eq_false_iff_ne.mpr c3
   have c3b1 : (a0 != 2) = true := bne_iff_ne.mpr c3
   by_cases c4 : a0 = 3
   ·rw [if_pos c4] at H
    have c4b0 : (a0 == 3) = true := beq_iff_eq.mpr c4
    have c4b1 : (a0 != 3) = false := bne_eq_false_iff_eq.mpr c4
    clear c4
    obtain rfl := Option.some.inj H
    go_enter Try.func72, Try.ntmps72
    go_wp2
    go_ret
    exact ⟨by first | rfl | (simp; done) | (simp [*]; done), by repeat (first | exact Drawn0.refl _ | apply Drawn0.step)⟩
   ·rw [if_neg c4] at H
    exact absurd H (by simp)
/-! ### fraction_place: function 73 -/
def fraction_place.f (a0 : Int) (a1 : Int) : Option (Int) := (Go.Proofs.Ytcfpkkgdofblfaa.H.civil_Date.f a1).bind fun bt101 => (if bt101.2.2.2 = 0 then (if a0 = 1 then (some (wrap64 ((wrap64 ((wrap64 (360 * bt101.1)) + (wrap64 (30 * bt101.2.1)))) + (mn bt101.2.2.1 30)))) else (if a0 = 2 then (some a1) else ((Go.Proofs.Ytcfpkkgdofblfaa.H.civil_Long.f bt101.1).bind fun t106 => (if t106 = true then ((Go.Proofs.Ytcfpkkgdofblfaa.H.civil_Opens.f bt101.1).bind fun t107 => (some (wrap64 ((wrap64 ((wrap64 (bt101.1 * 365)) * 366)) + (wrap64 ((wrap64 (a1 - t107)) * 365)))))) else ((Go.Proofs.Ytcfpkkgdofblfaa.H.civil_Opens.f bt101.1).bind fun t108 => (some (wrap64 ((wrap64 ((wrap64 (bt101.1 * 365)) * 366)) + (wrap64 ((wrap64 (a1 - t108)) * 366)))))))))) else (none))
set_option maxHeartbeats 8000000 in
set_option maxRecDepth 100000 in
theorem fraction_place.calls (a0 : Int) (a1 : Int) (r : Int) (w : World) (h : fraction_place.f a0 a1 = some r) :
  Calls Try.prog 73 #[.int .i64 a0, .int .i64 a1] w fun e w' => e = .returned (.int .i64 r) ∧ Below w.heap.size w w' := by
 have hu99 := Try.underlying99
 have HB := Aside0.mk (Below.refl w.heap.size w)
 have H : ((Go.Proofs.Ytcfpkkgdofblfaa.H.civil_Date.f a1).bind fun bt101 => (if bt101.2.2.2 = 0 then (if a0 = 1 then (some (wrap64 ((wrap64 ((wrap64 (360 * bt101.1)) + (wrap64 (30 * bt101.2.1)))) + (mn bt101.2.2.1 30)))) else (if a0 = 2 then (some a1) else ((Go.Proofs.Ytcfpkkgdofblfaa.H.civil_Long.f bt101.1).bind fun t106 => (if t106 = true then ((Go.Proofs.Ytcfpkkgdofblfaa.H.civil_Opens.f bt101.1).bind fun t107 => (some (wrap64 ((wrap64 ((wrap64 (bt101.1 * 365)) * 366)) + (wrap64 ((wrap64 (a1 - t107)) * 365)))))) else ((Go.Proofs.Ytcfpkkgdofblfaa.H.civil_Opens.f bt101.1).bind fun t108 => (some (wrap64 ((wrap64 ((wrap64 (bt101.1 * 365)) * 366)) + (wrap64 ((wrap64 (a1 - t108)) * 366)))))))))) else (none))) = some r := h
 clear h
 replace H := Option.bind_eq_some_iff.mp H
 obtain ⟨⟨t101, t102, t103, t104⟩, A30, H⟩ := H
 replace H : (if t104 = 0 then (if a0 = 1 then (some (wrap64 ((wrap64 ((wrap64 (360 * t101)) + (wrap64 (30 * t102)))) + (mn t103 30)))) else (if a0 = 2 then (some a1) else ((Go.Proofs.Ytcfpkkgdofblfaa.H.civil_Long.f t101).bind fun t106 => (if t106 = true then ((Go.Proofs.Ytcfpkkgdofblfaa.H.civil_Opens.f t101).bind fun t107 => (some (wrap64 ((wrap64 ((wrap64 (t101 * 365)) * 366)) + (wrap64 ((wrap64 (a1 - t107)) * 365)))))) else ((Go.Proofs.Ytcfpkkgdofblfaa.H.civil_Opens.f t101).bind fun t108 => (some (wrap64 ((wrap64 ((wrap64 (t101 * 365)) * 366)) + (wrap64 ((wrap64 (a1 - t108)) * 366)))))))))) else (none)) = some r := H
 have A3 := Aside0.mk A30
 clear A30
 by_cases c4 : t104 = 0
 ·rw [if_pos c4] at H
  have c4b0 : (t104 == 0) = true := beq_iff_eq.mpr c4
  have c4b1 : (t104 != 0) = false := bne_eq_false_iff_eq.mpr c4
  clear c4
  by_cases c5 : a0 = 1
  ·rw [if_pos c5] at H
   have c5b0 : (a0 == 1) = true := beq_iff_eq.mpr c5
   have c5b1 : (a0 != 1) = false := bne_eq_false_iff_eq.mpr c5
   clear c5
   obtain ⟨ji6, hji6⟩ : ∃ j_ : Int, (mn t103 30) = j_ := ⟨_, rfl⟩
   replace H : (some (wrap64 ((wrap64 ((wrap64 (360 * t101)) + (wrap64 (30 * t102)))) + (ji6)))) = some r := by first | (rw [hji6] at H; exact H) | (simp only [hji6] at H ⊢; exact H)
   (try rw [hji6] at A3)
   (try (have hji6h : ji6 ≤ 30 := by (rw [← hji6]; unfold mn; (repeat' split) <;> omega)))
   (try (have hji6g : ji6 ≤ 64 := by omega))
   have hji6_ : (if 30 < t103 then 30 else t103) = ji6 := hji6
   obtain rfl := Option.some.inj H
   go_enter Try.func73, Try.ntmps73
   go_wp2_with (first | (go_at_call 92; (with_reducible refine (Go.Proofs.Ytcfpkkgdofblfaa.H.civil_Date.calls a1 t101 t102 t103 t104 _ A3.out).mono ?_); rintro e w7 ⟨rfl, hb⟩; have n0_ := Aside0.mk (below_step (by repeat (first | (with_reducible first | exact HB.out | apply below_alloc | apply pw_below_drewN | apply below_drew1) | exact HB.out)) hb); clear HB; have HB := n0_; clear n0_; (try clear hb); (try clear hb2); (try clear hk); (try clear hi)) | ((with_reducible refine gate_dst (N := 5) rfl ?_); refine box_event ?hg (N := 5) ?hd (cs := #[.int .i64 0, .int .i64 0, .int .i64 0]) (t := 99) ?hr ?_; (case hd => rfl); (case hg => rfl); (case hr => first | (go_simp; done) | (go_simp; rfl)); intro gb105 hg w8 hbox hb; have n0_ := Aside0.mk (below_step (by repeat (first | (with_reducible first | exact HB.out | apply below_alloc | apply pw_below_drewN | apply below_drew1) | exact HB.out)) hb); have n1_ := Aside0.mk (hbox); have n2_ := Aside0.mk ((by rw [hg]; exact (below_size (by repeat (first | (with_reducible first | exact HB.out | apply below_alloc | apply pw_below_drewN | apply below_drew1) | exact HB.out))) : w.heap.size ≤ gb105)); have n3_ := Aside0.mk ((by rw [hg]; exact (below_size (by repeat (first | (with_reducible first | exact HB.out | apply below_alloc | apply pw_below_drewN | apply below_drew1) | exact HB.out))) : w.heap.size ≤ gb105)); clear HB; have HB := n0_; have BK105 := n1_; have GW105 := n2_; have GE105 := n3_; clear n0_ n1_ n2_ n3_; clear hb hbox hg; (try have hu105_0 : w8.cell? ⟨gb105, 0, none⟩ = some (.int .i64 0) := (blk_cell BK105.out 0).trans rfl); (try have hu105_1 : w8.cell? ⟨gb105, 1, none⟩ = some (.int .i64 0) := (blk_cell BK105.out 1).trans rfl); (try have hu105_2 : w8.cell? ⟨gb105, 2, none⟩ = some (.int .i64 0) := (blk_cell BK105.out 2).trans rfl); (try have hv105_0 := blk_frozen BK105.out 0); (try have hv105_1 := blk_frozen BK105.out 1); (try have hv105_2 := blk_frozen BK105.out 2); have hcz9_0 : w8.cell? ⟨gb105, 0, none⟩ = some (.int .i64 0) := (blk_cell BK105.out 0).trans rfl; have hcz9_1 : w8.cell? ⟨gb105, 1, none⟩ = some (.int .i64 0) := (blk_cell BK105.out 1).trans rfl; have hcz9_2 : w8.cell? ⟨gb105, 2, none⟩ = some (.int .i64 0) := (blk_cell BK105.out 2).trans rfl; have hfz9_0 := blk_frozen BK105.out 0; have hfz9_1 := blk_frozen BK105.out 1; have hfz9_2 := blk_frozen BK105.out 2))
   repeat (go_quiet (first | (go_at_call 92; (with_reducible refine (Go.Proofs.Ytcfpkkgdofblfaa.H.civil_Date.calls a1 t101 t102 t103 t104 _ A3.out).mono ?_); rintro e w7 ⟨rfl, hb⟩; have n0_ := Aside0.mk (below_step (by repeat (first | (with_reducible first | exact HB.out | apply below_alloc | apply pw_below_drewN | apply below_drew1) | exact HB.out)) hb); clear HB; have HB := n0_; clear n0_; (try clear hb); (try clear hb2); (try clear hk); (try clear hi)) | ((with_reducible refine gate_dst (N := 5) rfl ?_); refine box_event ?hg (N := 5) ?hd (cs := #[.int .i64 0, .int .i64 0, .int .i64 0]) (t := 99) ?hr ?_; (case hd => rfl); (case hg => rfl); (case hr => first | (go_simp; done) | (go_simp; rfl)); intro gb105 hg w8 hbox hb; have n0_ := Aside0.mk (below_step (by repeat (first | (with_reducible first | exact HB.out | apply below_alloc | apply pw_below_drewN | apply below_drew1) | exact HB.out)) hb); have n1_ := Aside0.mk (hbox); have n2_ := Aside0.mk ((by rw [hg]; exact (below_size (by repeat (first | (with_reducible first | exact HB.out | apply below_alloc | apply pw_below_drewN | apply below_drew1) | exact HB.out))) : w.heap.size ≤ gb105)); have n3_ := Aside0.mk ((by rw [hg]; exact (below_size (by repeat (first | (with_reducible first | exact HB.out | apply below_alloc | apply pw_below_drewN | apply below_drew1) | exact HB.out))) : w.heap.size ≤ gb105)); clear HB; have HB := n0_; have BK105 := n1_; have GW105 := n2_; have GE105 := n3_; clear n0_ n1_ n2_ n3_; clear hb hbox hg; (try have hu105_0 : w8.cell? ⟨gb105, 0, none⟩ = some (.int .i64 0) := (blk_cell BK105.out 0).trans rfl); (try have hu105_1 : w8.cell? ⟨gb105, 1, none⟩ = some (.int .i64 0) := (blk_cell BK105.out 1).trans rfl); (try have hu105_2 : w8.cell? ⟨gb105, 2, none⟩ = some (.int .i64 0) := (blk_cell BK105.out 2).trans rfl); (try have hv105_0 := blk_frozen BK105.out 0); (try have hv105_1 := blk_frozen BK105.out 1); (try have hv105_2 := blk_frozen BK105.out 2); have hcz9_0 : w8.cell? ⟨gb105, 0, none⟩ = some (.int .i64 0) := (blk_cell BK105.out 0).trans rfl; have hcz9_1 : w8.cell? ⟨gb105, 1, none⟩ = some (.int .i64 0) := (blk_cell BK105.out 1).trans rfl; have hcz9_2 : w8.cell? ⟨gb105, 2, none⟩ = some (.int .i64 0) := (blk_cell BK105.out 2).trans rfl; have hfz9_0 := blk_frozen BK105.out 0; have hfz9_1 := blk_frozen BK105.out 1; have hfz9_2 := blk_frozen BK105.out 2)); try go_wp2_with (first | (go_at_call 92; (with_reducible refine (Go.Proofs.Ytcfpkkgdofblfaa.H.civil_Date.calls a1 t101 t102 t103 t104 _ A3.out).mono ?_); rintro e w7 ⟨rfl, hb⟩; have n0_ := Aside0.mk (below_step (by repeat (first | (with_reducible first | exact HB.out | apply below_alloc | apply pw_below_drewN | apply below_drew1) | exact HB.out)) hb); clear HB; have HB := n0_; clear n0_; (try clear hb); (try clear hb2); (try clear hk); (try clear hi)) | ((with_reducible refine gate_dst (N := 5) rfl ?_); refine box_event ?hg (N := 5) ?hd (cs := #[.int .i64 0, .int .i64 0, .int .i64 0]) (t := 99) ?hr ?_; (case hd => rfl); (case hg => rfl); (case hr => first | (go_simp; done) | (go_simp; rfl)); intro gb105 hg w8 hbox hb; have n0_ := Aside0.mk (below_step (by repeat (first | (with_reducible first | exact HB.out | apply below_alloc | apply pw_below_drewN | apply below_drew1) | exact HB.out)) hb); have n1_ := Aside0.mk (hbox); have n2_ := Aside0.mk ((by rw [hg]; exact (below_size (by repeat (first | (with_reducible first | exact HB.out | apply below_alloc | apply pw_below_drewN | apply below_drew1) | exact HB.out))) : w.heap.size ≤ gb105)); have n3_ := Aside0.mk ((by rw [hg]; exact (below_size (by repeat (first | (with_reducible first | exact HB.out | apply below_alloc | apply pw_below_drewN | apply below_drew1) | exact HB.out))) : w.heap.size ≤ gb105)); clear HB; have HB := n0_; have BK105 := n1_; have GW105 := n2_; have GE105 := n3_; clear n0_ n1_ n2_ n3_; clear hb hbox hg; (try have hu105_0 : w8.cell? ⟨gb105, 0, none⟩ = some (.int .i64 0) := (blk_cell BK105.out 0).trans rfl); (try have hu105_1 : w8.cell? ⟨gb105, 1, none⟩ = some (.int .i64 0) := (blk_cell BK105.out 1).trans rfl); (try have hu105_2 : w8.cell? ⟨gb105, 2, none⟩ = some (.int .i64 0) := (blk_cell BK105.out 2).trans rfl); (try have hv105_0 := blk_frozen BK105.out 0); (try have hv105_1 := blk_frozen BK105.out 1); (try have hv105_2 := blk_frozen BK105.out 2); have hcz9_0 : w8.cell? ⟨gb105, 0, none⟩ = some (.int .i64 0) := (blk_cell BK105.out 0).trans rfl; have hcz9_1 : w8.cell? ⟨gb105, 1, none⟩ = some (.int .i64 0) := (blk_cell BK105.out 1).trans rfl; have hcz9_2 : w8.cell? ⟨gb105, 2, none⟩ = some (.int .i64 0) := (blk_cell BK105.out 2).trans rfl; have hfz9_0 := blk_frozen BK105.out 0; have hfz9_1 := blk_frozen BK105.out 1; have hfz9_2 := blk_frozen BK105.out 2)))
   go_ret
   exact ⟨by first | rfl | (simp [errW_none, errW_some] <;> rfl) | (simp only [← hji6]; first | rfl | (simp [errW_none, errW_some] <;> rfl)) | (simp [*, errW_none, errW_some] <;> rfl), by repeat (first | (with_reducible first | exact HB.out | apply below_alloc | apply pw_below_drewN | apply below_drew1 | refine below_set ?_ GE105.out) | exact HB.out)⟩
  ·rw [if_neg c5] at H
   have c5b0 : (a0 == 1) = false := beq_eq_false_iff_ne.mpr c5
   have c5b1 : (a0 != 1) = true := bne_iff_ne.mpr c5
   by_cases c10 : a0 = 2
   ·rw [if_pos c10] at H
    have c10b0 : (a0 == 2) = true := beq_iff_eq.mpr c10
    have c10b1 : (a0 != 2) = false := bne_eq_false_iff_eq.mpr c10
    clear c10
    obtain rfl := Option.some.inj H
    go_enter Try.func73, Try.ntmps73
    go_wp2_with (first | (go_at_call 92; (with_reducible refine (Go.Proofs.Ytcfpkkgdofblfaa.H.civil_Date.calls a1 t101 t102 t103 t104 _ A3.out).mono ?_); rintro e w11 ⟨rfl, hb⟩; have n0_ := Aside0.mk (below_step (by repeat (first | (with_reducible first | exact HB.out | apply below_alloc | apply pw_below_drewN | apply below_drew1) | exact HB.out)) hb); clear HB; have HB := n0_; clear n0_; (try clear hb); (try clear hb2); (try clear hk); (try clear hi)) | ((with_reducible refine gate_dst (N := 5) rfl ?_); refine box_event ?hg (N := 5) ?hd (cs := #[.int .i64 0, .int .i64 0, .int .i64 0]) (t := 99) ?hr ?_; (case hd => rfl); (case hg => rfl); (case hr => first | (go_simp; done) | (go_simp; rfl)); intro gb105 hg w12 hbox hb; have n0_ := Aside0.mk (below_step (by repeat (first | (with_reducible first | exact HB.out | apply below_alloc | apply pw_below_drewN | apply below_drew1) | exact HB.out)) hb); have n1_ := Aside0.mk (hbox); have n2_ := Aside0.mk ((by rw [hg]; exact (below_size (by repeat (first | (with_reducible first | exact HB.out | apply below_alloc | apply pw_below_drewN | apply below_drew1) | exact HB.out))) : w.heap.size ≤ gb105)); have n3_ := Aside0.mk ((by rw [hg]; exact (below_size (by repeat (first | (with_reducible first | exact HB.out | apply below_alloc | apply pw_below_drewN | apply below_drew1) | exact HB.out))) : w.heap.size ≤ gb105)); clear HB; have HB := n0_; have BK105 := n1_; have GW105 := n2_; have GE105 := n3_; clear n0_ n1_ n2_ n3_; clear hb hbox hg; (try have hu105_0 : w12.cell? ⟨gb105, 0, none⟩ = some (.int .i64 0) := (blk_cell BK105.out 0).trans rfl); (try have hu105_1 : w12.cell? ⟨gb105, 1, none⟩ = some (.int .i64 0) := (blk_cell BK105.out 1).trans rfl); (try have hu105_2 : w12.cell? ⟨gb105, 2, none⟩ = some (.int .i64 0) := (blk_cell BK105.out 2).trans rfl); (try have hv105_0 := blk_frozen BK105.out 0); (try have hv105_1 := blk_frozen BK105.out 1); (try have hv105_2 := blk_frozen BK105.out 2); have hcz13_0 : w12.cell? ⟨gb105, 0, none⟩ = some (.int .i64 0) := (blk_cell BK105.out 0).trans rfl; have hcz13_1 : w12.cell? ⟨gb105, 1, none⟩ = some (.int .i64 0) := (blk_cell BK105.out 1).trans rfl; have hcz13_2 : w12.cell? ⟨gb105, 2, none⟩ = some (.int .i64 0) := (blk_cell BK105.out 2).trans rfl; have hfz13_0 := blk_frozen BK105.out 0; have hfz13_1 := blk_frozen BK105.out 1; have hfz13_2 := blk_frozen BK105.out 2))
    repeat (go_quiet (first | (go_at_call 92; (with_reducible refine (Go.Proofs.Ytcfpkkgdofblfaa.H.civil_Date.calls a1 t101 t102 t103 t104 _ A3.out).mono ?_); rintro e w11 ⟨rfl, hb⟩; have n0_ := Aside0.mk (below_step (by repeat (first | (with_reducible first | exact HB.out | apply below_alloc | apply pw_below_drewN | apply below_drew1) | exact HB.out)) hb); clear HB; have HB := n0_; clear n0_; (try clear hb); (try clear hb2); (try clear hk); (try clear hi)) | ((with_reducible refine gate_dst (N := 5) rfl ?_); refine box_event ?hg (N := 5) ?hd (cs := #[.int .i64 0, .int .i64 0, .int .i64 0]) (t := 99) ?hr ?_; (case hd => rfl); (case hg => rfl); (case hr => first | (go_simp; done) | (go_simp; rfl)); intro gb105 hg w12 hbox hb; have n0_ := Aside0.mk (below_step (by repeat (first | (with_reducible first | exact HB.out | apply below_alloc | apply pw_below_drewN | apply below_drew1) | exact HB.out)) hb); have n1_ := Aside0.mk (hbox); have n2_ := Aside0.mk ((by rw [hg]; exact (below_size (by repeat (first | (with_reducible first | exact HB.out | apply below_alloc | apply pw_below_drewN | apply below_drew1) | exact HB.out))) : w.heap.size ≤ gb105)); have n3_ := Aside0.mk ((by rw [hg]; exact (below_size (by repeat (first | (with_reducible first | exact HB.out | apply below_alloc | apply pw_below_drewN | apply below_drew1) | exact HB.out))) : w.heap.size ≤ gb105)); clear HB; have HB := n0_; have BK105 := n1_; have GW105 := n2_; have GE105 := n3_; clear n0_ n1_ n2_ n3_; clear hb hbox hg; (try have hu105_0 : w12.cell? ⟨gb105, 0, none⟩ = some (.int .i64 0) := (blk_cell BK105.out 0).trans rfl); (try have hu105_1 : w12.cell? ⟨gb105, 1, none⟩ = some (.int .i64 0) := (blk_cell BK105.out 1).trans rfl); (try have hu105_2 : w12.cell? ⟨gb105, 2, none⟩ = some (.int .i64 0) := (blk_cell BK105.out 2).trans rfl); (try have hv105_0 := blk_frozen BK105.out 0); (try have hv105_1 := blk_frozen BK105.out 1); (try have hv105_2 := blk_frozen BK105.out 2); have hcz13_0 : w12.cell? ⟨gb105, 0, none⟩ = some (.int .i64 0) := (blk_cell BK105.out 0).trans rfl; have hcz13_1 : w12.cell? ⟨gb105, 1, none⟩ = some (.int .i64 0) := (blk_cell BK105.out 1).trans rfl; have hcz13_2 : w12.cell? ⟨gb105, 2, none⟩ = some (.int .i64 0) := (blk_cell BK105.out 2).trans rfl; have hfz13_0 := blk_frozen BK105.out 0; have hfz13_1 := blk_frozen BK105.out 1; have hfz13_2 := blk_frozen BK105.out 2)); try go_wp2_with (first | (go_at_call 92; (with_reducible refine (Go.Proofs.Ytcfpkkgdofblfaa.H.civil_Date.calls a1 t101 t102 t103 t104 _ A3.out).mono ?_); rintro e w11 ⟨rfl, hb⟩; have n0_ := Aside0.mk (below_step (by repeat (first | (with_reducible first | exact HB.out | apply below_alloc | apply pw_below_drewN | apply below_drew1) | exact HB.out)) hb); clear HB; have HB := n0_; clear n0_; (try clear hb); (try clear hb2); (try clear hk); (try clear hi)) | ((with_reducible refine gate_dst (N := 5) rfl ?_); refine box_event ?hg (N := 5) ?hd (cs := #[.int .i64 0, .int .i64 0, .int .i64 0]) (t := 99) ?hr ?_; (case hd => rfl); (case hg => rfl); (case hr => first | (go_simp; done) | (go_simp; rfl)); intro gb105 hg w12 hbox hb; have n0_ := Aside0.mk (below_step (by repeat (first | (with_reducible first | exact HB.out | apply below_alloc | apply pw_below_drewN | apply below_drew1) | exact HB.out)) hb); have n1_ := Aside0.mk (hbox); have n2_ := Aside0.mk ((by rw [hg]; exact (below_size (by repeat (first | (with_reducible first | exact HB.out | apply below_alloc | apply pw_below_drewN | apply below_drew1) | exact HB.out))) : w.heap.size ≤ gb105)); have n3_ := Aside0.mk ((by rw [hg]; exact (below_size (by repeat (first | (with_reducible first | exact HB.out | apply below_alloc | apply pw_below_drewN | apply below_drew1) | exact HB.out))) : w.heap.size ≤ gb105)); clear HB; have HB := n0_; have BK105 := n1_; have GW105 := n2_; have GE105 := n3_; clear n0_ n1_ n2_ n3_; clear hb hbox hg; (try have hu105_0 : w12.cell? ⟨gb105, 0, none⟩ = some (.int .i64 0) := (blk_cell BK105.out 0).trans rfl); (try have hu105_1 : w12.cell? ⟨gb105, 1, none⟩ = some (.int .i64 0) := (blk_cell BK105.out 1).trans rfl); (try have hu105_2 : w12.cell? ⟨gb105, 2, none⟩ = some (.int .i64 0) := (blk_cell BK105.out 2).trans rfl); (try have hv105_0 := blk_frozen BK105.out 0); (try have hv105_1 := blk_frozen BK105.out 1); (try have hv105_2 := blk_frozen BK105.out 2); have hcz13_0 : w12.cell? ⟨gb105, 0, none⟩ = some (.int .i64 0) := (blk_cell BK105.out 0).trans rfl; have hcz13_1 : w12.cell? ⟨gb105, 1, none⟩ = some (.int .i64 0) := (blk_cell BK105.out 1).trans rfl; have hcz13_2 : w12.cell? ⟨gb105, 2, none⟩ = some (.int .i64 0) := (blk_cell BK105.out 2).trans rfl; have hfz13_0 := blk_frozen BK105.out 0; have hfz13_1 := blk_frozen BK105.out 1; have hfz13_2 := blk_frozen BK105.out 2)))
    go_ret
    exact ⟨by first | rfl | (simp [errW_none, errW_some] <;> rfl) | (simp [*, errW_none, errW_some] <;> rfl), by repeat (first | (with_reducible first | exact HB.out | apply below_alloc | apply pw_below_drewN | apply below_drew1 | refine below_set ?_ GE105.out) | exact HB.out)⟩
   ·rw [if_neg c10] at H
    have c10b0 : (a0 == 2) = false := beq_eq_false_iff_ne.mpr c10
    have c10b1 : (a0 != 2) = true := bne_iff_ne.mpr c10
    replace H := Option.bind_eq_some_iff.mp H
    obtain ⟨t106, A140, H⟩ := H
    replace H : (if t106 = true then ((Go.Proofs.Ytcfpkkgdofblfaa.H.civil_Opens.f t101).bind fun t107 => (some (wrap64 ((wrap64 ((wrap64 (t101 * 365)) * 366)) + (wrap64 ((wrap64 (a1 - t107)) * 365)))))) else ((Go.Proofs.Ytcfpkkgdofblfaa.H.civil_Opens.f t101).bind fun t108 => (some (wrap64 ((wrap64 ((wrap64 (t101 * 365)) * 366)) + (wrap64 ((wrap64 (a1 - t108)) * 366))))))) = some r := H
    have A14 := Aside0.mk A140
    clear A140
    by_cases c15 : t106 = true
    ·subst c15
     have H1 : ((Go.Proofs.Ytcfpkkgdofblfaa.H.civil_Opens.f t101).bind fun t107 => (some (wrap64 ((wrap64 ((wrap64 (t101 * 365)) * 366)) + (wrap64 ((wrap64 (a1 - t107)) * 365)))))) = some r := by rw [if_pos rfl] at H; exact H
     clear H
     have H := H1
     clear H1
     replace H := Option.bind_eq_some_iff.mp H
     obtain ⟨t107, A160, H⟩ := H
     replace H : (some (wrap64 ((wrap64 ((wrap64 (t101 * 365)) * 366)) + (wrap64 ((wrap64 (a1 - t107)) * 365))))) = some r := H
     have A16 := Aside0.mk A160
     clear A160
     obtain rfl := Option.some.inj H
     go_enter Try.func73, Try.ntmps73
     go_wp2_with (first | (go_at_call 92; (with_reducible refine (Go.Proofs.Ytcfpkkgdofblfaa.H.civil_Date.calls a1 t101 t102 t103 t104 _ A3.out).mono ?_); rintro e w17 ⟨rfl, hb⟩; have n0_ := Aside0.mk (below_step (by repeat (first | (with_reducible first | exact HB.out | apply below_alloc | apply pw_below_drewN | apply below_drew1) | exact HB.out)) hb); clear HB; have HB := n0_; clear n0_; (try clear hb); (try clear hb2); (try clear hk); (try clear hi)) | ((with_reducible refine gate_dst (N := 5) rfl ?_); refine box_event ?hg (N := 5) ?hd (cs := #[.int .i64 0, .int .i64 0, .int .i64 0]) (t := 99) ?hr ?_; (case hd => rfl); (case hg => rfl); (case hr => first | (go_simp; done) | (go_simp; rfl)); intro gb105 hg w18 hbox hb; have n0_ := Aside0.mk (below_step (by repeat (first | (with_reducible first | exact HB.out | apply below_alloc | apply pw_below_drewN | apply below_drew1) | exact HB.out)) hb); have n1_ := Aside0.mk (hbox); have n2_ := Aside0.mk ((by rw [hg]; exact (below_size (by repeat (first | (with_reducible first | exact HB.out | apply below_alloc | apply pw_below_drewN | apply below_drew1) | exact HB.out))) : w.heap.size ≤ gb105)); have n3_ := Aside0.mk ((by rw [hg]; exact (below_size (by repeat (first | (with_reducible first | exact HB.out | apply below_alloc | apply pw_below_drewN | apply below_drew1) | exact HB.out))) : w.heap.size ≤ gb105)); clear HB; have HB := n0_; have BK105 := n1_; have GW105 := n2_; have GE105 := n3_; clear n0_ n1_ n2_ n3_; clear hb hbox hg; (try have hu105_0 : w18.cell? ⟨gb105, 0, none⟩ = some (.int .i64 0) := (blk_cell BK105.out 0).trans rfl); (try have hu105_1 : w18.cell? ⟨gb105, 1, none⟩ = some (.int .i64 0) := (blk_cell BK105.out 1).trans rfl); (try have hu105_2 : w18.cell? ⟨gb105, 2, none⟩ = some (.int .i64 0) := (blk_cell BK105.out 2).trans rfl); (try have hv105_0 := blk_frozen BK105.out 0); (try have hv105_1 := blk_frozen BK105.out 1); (try have hv105_2 := blk_frozen BK105.out 2); have hcz19_0 : w18.cell? ⟨gb105, 0, none⟩ = some (.int .i64 0) := (blk_cell BK105.out 0).trans rfl; have hcz19_1 : w18.cell? ⟨gb105, 1, none⟩ = some (.int .i64 0) := (blk_cell BK105.out 1).trans rfl; have hcz19_2 : w18.cell? ⟨gb105, 2, none⟩ = some (.int .i64 0) := (blk_cell BK105.out 2).trans rfl; have hfz19_0 := blk_frozen BK105.out 0; have hfz19_1 := blk_frozen BK105.out 1; have hfz19_2 := blk_frozen BK105.out 2) | (go_at_call 93; (with_reducible refine (Go.Proofs.Ytcfpkkgdofblfaa.H.civil_Long.calls t101 true _ A14.out).mono ?_); rintro e w' ⟨rfl, ⟨nd, rfl⟩⟩; (try first | exact ⟨rfl, _, World.drewN_drewN _ _ _⟩ | exact ⟨rfl, _, Eq.trans (World.drewN_drewN _ _ _) (congrArg (World.drewN _) (Nat.add_assoc _ _ _))⟩)) | (go_at_call 94; (with_reducible refine (Go.Proofs.Ytcfpkkgdofblfaa.H.civil_Opens.calls t101 t107 _ A16.out).mono ?_); rintro e w' ⟨rfl, ⟨nd, rfl⟩⟩; (try first | exact ⟨rfl, _, World.drewN_drewN _ _ _⟩ | exact ⟨rfl, _, Eq.trans (World.drewN_drewN _ _ _) (congrArg (World.drewN _) (Nat.add_assoc _ _ _))⟩)))
     repeat (go_quiet (first | (go_at_call 92; (with_reducible refine (Go.Proofs.Ytcfpkkgdofblfaa.H.civil_Date.calls a1 t101 t102 t103 t104 _ A3.out).mono ?_); rintro e w17 ⟨rfl, hb⟩; have n0_ := Aside0.mk (below_step (by repeat (first | (with_reducible first | exact HB.out | apply below_alloc | apply pw_below_drewN | apply below_drew1) | exact HB.out)) hb); clear HB; have HB := n0_; clear n0_; (try clear hb); (try clear hb2); (try clear hk); (try clear hi)) | ((with_reducible refine gate_dst (N := 5) rfl ?_); refine box_event ?hg (N := 5) ?hd (cs := #[.int .i64 0, .int .i64 0, .int .i64 0]) (t := 99) ?hr ?_; (case hd => rfl); (case hg => rfl); (case hr => first | (go_simp; done) | (go_simp; rfl)); intro gb105 hg w18 hbox hb; have n0_ := Aside0.mk (below_step (by repeat (first | (with_reducible first | exact HB.out | apply below_alloc | apply pw_below_drewN | apply below_drew1) | exact HB.out)) hb); have n1_ := Aside0.mk (hbox); have n2_ := Aside0.mk ((by rw [hg]; exact (below_size (by repeat (first | (with_reducible first | exact HB.out | apply below_alloc | apply pw_below_drewN | apply below_drew1) | exact HB.out))) : w.heap.size ≤ gb105)); have n3_ := Aside0.mk ((by rw [hg]; exact (below_size (by repeat (first | (with_reducible first | exact HB.out | apply below_alloc | apply pw_below_drewN | apply below_drew1) | exact HB.out))) : w.heap.size ≤ gb105)); clear HB; have HB := n0_; have BK105 := n1_; have GW105 := n2_; have GE105 := n3_; clear n0_ n1_ n2_ n3_; clear hb hbox hg; (try have hu105_0 : w18.cell? ⟨gb105, 0, none⟩ = some (.int .i64 0) := (blk_cell BK105.out 0).trans rfl); (try have hu105_1 : w18.cell? ⟨gb105, 1, none⟩ = some (.int .i64 0) := (blk_cell BK105.out 1).trans rfl); (try have hu105_2 : w18.cell? ⟨gb105, 2, none⟩ = some (.int .i64 0) := (blk_cell BK105.out 2).trans rfl); (try have hv105_0 := blk_frozen BK105.out 0); (try have hv105_1 := blk_frozen BK105.out 1); (try have hv105_2 := blk_frozen BK105.out 2); have hcz19_0 : w18.cell? ⟨gb105, 0, none⟩ = some (.int .i64 0) := (blk_cell BK105.out 0).trans rfl; have hcz19_1 : w18.cell? ⟨gb105, 1, none⟩ = some (.int .i64 0) := (blk_cell BK105.out 1).trans rfl; have hcz19_2 : w18.cell? ⟨gb105, 2, none⟩ = some (.int .i64 0) := (blk_cell BK105.out 2).trans rfl; have hfz19_0 := blk_frozen BK105.out 0; have hfz19_1 := blk_frozen BK105.out 1; have hfz19_2 := blk_frozen BK105.out 2) | (go_at_call 93; (with_reducible refine (Go.Proofs.Ytcfpkkgdofblfaa.H.civil_Long.calls t101 true _ A14.out).mono ?_); rintro e w' ⟨rfl, ⟨nd, rfl⟩⟩; (try first | exact ⟨rfl, _, World.drewN_drewN _ _ _⟩ | exact ⟨rfl, _, Eq.trans (World.drewN_drewN _ _ _) (congrArg (World.drewN _) (Nat.add_assoc _ _ _))⟩)) | (go_at_call 94; (with_reducible refine (Go.Proofs.Ytcfpkkgdofblfaa.H.civil_Opens.calls t101 t107 _ A16.out).mono ?_); rintro e w' ⟨rfl, ⟨nd, rfl⟩⟩; (try first | exact ⟨rfl, _, World.drewN_drewN _ _ _⟩ | exact ⟨rfl, _, Eq.trans (World.drewN_drewN _ _ _) (congrArg (World.drewN _) (Nat.add_assoc _ _ _))⟩))); try go_wp2_with (first | (go_at_call 92; (with_reducible refine (Go.Proofs.Ytcfpkkgdofblfaa.H.civil_Date.calls a1 t101 t102 t103 t104 _ A3.out).mono ?_); rintro e w17 ⟨rfl, hb⟩; have n0_ := Aside0.mk (below_step (by repeat (first | (with_reducible first | exact HB.out | apply below_alloc | apply pw_below_drewN | apply below_drew1) | exact HB.out)) hb); clear HB; have HB := n0_; clear n0_; (try clear hb); (try clear hb2); (try clear hk); (try clear hi)) | ((with_reducible refine gate_dst (N := 5) rfl ?_); refine box_event ?hg (N := 5) ?hd (cs := #[.int .i64 0, .int .i64 0, .int .i64 0]) (t := 99) ?hr ?_; (case hd => rfl); (case hg => rfl); (case hr => first | (go_simp; done) | (go_simp; rfl)); intro gb105 hg w18 hbox hb; have n0_ := Aside0.mk (below_step (by repeat (first | (with_reducible first | exact HB.out | apply below_alloc | apply pw_below_drewN | apply below_drew1) | exact HB.out)) hb); have n1_ := Aside0.mk (hbox); have n2_ := Aside0.mk ((by rw [hg]; exact (below_size (by repeat (first | (with_reducible first | exact HB.out | apply below_alloc | apply pw_below_drewN | apply below_drew1) | exact HB.out))) : w.heap.size ≤ gb105)); have n3_ := Aside0.mk ((by rw [hg]; exact (below_size (by repeat (first | (with_reducible first | exact HB.out | apply below_alloc | apply pw_below_drewN | apply below_drew1) | exact HB.out))) : w.heap.size ≤ gb105)); clear HB; have HB := n0_; have BK105 := n1_; have GW105 := n2_; have GE105 := n3_; clear n0_ n1_ n2_ n3_; clear hb hbox hg; (try have hu105_0 : w18.cell? ⟨gb105, 0, none⟩ = some (.int .i64 0) := (blk_cell BK105.out 0).trans rfl); (try have hu105_1 : w18.cell? ⟨gb105, 1, none⟩ = some (.int .i64 0) := (blk_cell BK105.out 1).trans rfl); (try have hu105_2 : w18.cell? ⟨gb105, 2, none⟩ = some (.int .i64 0) := (blk_cell BK105.out 2).trans rfl); (try have hv105_0 := blk_frozen BK105.out 0); (try have hv105_1 := blk_frozen BK105.out 1); (try have hv105_2 := blk_frozen BK105.out 2); have hcz19_0 : w18.cell? ⟨gb105, 0, none⟩ = some (.int .i64 0) := (blk_cell BK105.out 0).trans rfl; have hcz19_1 : w18.cell? ⟨gb105, 1, none⟩ = some (.int .i64 0) := (blk_cell BK105.out 1).trans rfl; have hcz19_2 : w18.cell? ⟨gb105, 2, none⟩ = some (.int .i64 0) := (blk_cell BK105.out 2).trans rfl; have hfz19_0 := blk_frozen BK105.out 0; have hfz19_1 := blk_frozen BK105.out 1; have hfz19_2 := blk_frozen BK105.out 2) | (go_at_call 93; (with_reducible refine (Go.Proofs.Ytcfpkkgdofblfaa.H.civil_Long.calls t101 true _ A14.out).mono ?_); rintro e w' ⟨rfl, ⟨nd, rfl⟩⟩; (try first | exact ⟨rfl, _, World.drewN_drewN _ _ _⟩ | exact ⟨rfl, _, Eq.trans (World.drewN_drewN _ _ _) (congrArg (World.drewN _) (Nat.add_assoc _ _ _))⟩)) | (go_at_call 94; (with_reducible refine (Go.Proofs.Ytcfpkkgdofblfaa.H.civil_Opens.calls t101 t107 _ A16.out).mono ?_); rintro e w' ⟨rfl, ⟨nd, rfl⟩⟩; (try first | exact ⟨rfl, _, World.drewN_drewN _ _ _⟩ | exact ⟨rfl, _, Eq.trans (World.drewN_drewN _ _ _) (congrArg (World.drewN _) (Nat.add_assoc _ _ _))⟩))))
     go_ret
     exact ⟨by first | rfl | (simp [errW_none, errW_some] <;> rfl) | (simp [*, errW_none, errW_some] <;> rfl), by repeat (first | (with_reducible first | exact HB.out | apply below_alloc | apply pw_below_drewN | apply below_drew1 | refine below_set ?_ GE105.out) | exact HB.out)⟩
    ·replace c15 := Bool.eq_false_iff.mpr c15
     subst c15
     have H1 : ((Go.Proofs.Ytcfpkkgdofblfaa.H.civil_Opens.f t101).bind fun t108 => (some (wrap64 ((wrap64 ((wrap64 (t101 * 365)) * 366)) + (wrap64 ((wrap64 (a1 - t108)) * 366)))))) = some r := by rw [if_neg (show ¬ (false = true) by decide)] at H; exact H
     clear H
     have H := H1
     clear H1
     replace H := Option.bind_eq_some_iff.mp H
     obtain ⟨t108, A200, H⟩ := H
     replace H : (some (wrap64 ((wrap64 ((wrap64 (t101 * 365)) * 366)) + (wrap64 ((wrap64 (a1 - t108)) * 366))))) = some r := H
     have A20 := Aside0.mk A200
     clear A200
     obtain rfl := Option.some.inj H
     go_enter Try.func73, Try.ntmps73
     go_wp2_with (first | (go_at_call 92; (with_reducible refine (Go.Proofs.Ytcfpkkgdofblfaa.H.civil_Date.calls a1 t101 t102 t103 t104 _ A3.out).mono ?_); rintro e w21 ⟨rfl, hb⟩; have n0_ := Aside0.mk (below_step (by repeat (first | (with_reducible first | exact HB.out | apply below_alloc | apply pw_below_drewN | apply below_drew1) | exact HB.out)) hb); clear HB; have HB := n0_; clear n0_; (try clear hb); (try clear hb2); (try clear hk); (try clear hi)) | ((with_reducible refine gate_dst (N := 5) rfl ?_); refine box_event ?hg (N := 5) ?hd (cs := #[.int .i64 0, .int .i64 0, .int .i64 0]) (t := 99) ?hr ?_; (case hd => rfl); (case hg => rfl); (case hr => first | (go_simp; done) | (go_simp; rfl)); intro gb105 hg w22 hbox hb; have n0_ := Aside0.mk (below_step (by repeat (first | (with_reducible first | exact HB.out | apply below_alloc | apply pw_below_drewN | apply below_drew1) | exact HB.out)) hb); have n1_ := Aside0.mk (hbox); have n2_ := Aside0.mk ((by rw [hg]; exact (below_size (by repeat (first | (with_reducible first | exact HB.out | apply below_alloc | apply pw_below_drewN | apply below_drew1) | exact HB.out))) : w.heap.size ≤ gb105)); have n3_ := Aside0.mk ((by rw [hg]; exact (below_size (by repeat (first | (with_reducible first | exact HB.out | apply below_alloc | apply pw_below_drewN | apply below_drew1) | exact HB.out))) : w.heap.size ≤ gb105)); clear HB; have HB := n0_; have BK105 := n1_; have GW105 := n2_; have GE105 := n3_; clear n0_ n1_ n2_ n3_; clear hb hbox hg; (try have hu105_0 : w22.cell? ⟨gb105, 0, none⟩ = some (.int .i64 0) := (blk_cell BK105.out 0).trans rfl); (try have hu105_1 : w22.cell? ⟨gb105, 1, none⟩ = some (.int .i64 0) := (blk_cell BK105.out 1).trans rfl); (try have hu105_2 : w22.cell? ⟨gb105, 2, none⟩ = some (.int .i64 0) := (blk_cell BK105.out 2).trans rfl); (try have hv105_0 := blk_frozen BK105.out 0); (try have hv105_1 := blk_frozen BK105.out 1); (try have hv105_2 := blk_frozen BK105.out 2); have hcz23_0 : w22.cell? ⟨gb105, 0, none⟩ = some (.int .i64 0) := (blk_cell BK105.out 0).trans rfl; have hcz23_1 : w22.cell? ⟨gb105, 1, none⟩ = some (.int .i64 0) := (blk_cell BK105.out 1).trans rfl; have hcz23_2 : w22.cell? ⟨gb105, 2, none⟩ = some (.int .i64 0) := (blk_cell BK105.out 2).trans rfl; have hfz23_0 := blk_frozen BK105.out 0; have hfz23_1 := blk_frozen BK105.out 1; have hfz23_2 := blk_frozen BK105.out 2) | (go_at_call 93; (with_reducible refine (Go.Proofs.Ytcfpkkgdofblfaa.H.civil_Long.calls t101 false _ A14.out).mono ?_); rintro e w' ⟨rfl, ⟨nd, rfl⟩⟩; (try first | exact ⟨rfl, _, World.drewN_drewN _ _ _⟩ | exact ⟨rfl, _, Eq.trans (World.drewN_drewN _ _ _) (congrArg (World.drewN _) (Nat.add_assoc _ _ _))⟩)) | (go_at_call 94; (with_reducible refine (Go.Proofs.Ytcfpkkgdofblfaa.H.civil_Opens.calls t101 t108 _ A20.out).mono ?_); rintro e w' ⟨rfl, ⟨nd, rfl⟩⟩; (try first | exact ⟨rfl, _, World.drewN_drewN _ _ _⟩ | exact ⟨rfl, _, Eq.trans (World.drewN_drewN _ _ _) (congrArg (World.drewN _) (Nat.add_assoc _ _ _))⟩)))
     repeat (go_quiet (first | (go_at_call 92; (with_reducible refine (Go.Proofs.Ytcfpkkgdofblfaa.H.civil_Date.calls a1 t101 t102 t103 t104 _ A3.out).mono ?_); rintro e w21 ⟨rfl, hb⟩; have n0_ := Aside0.mk (below_step (by repeat (first | (with_reducible first | exact HB.out | apply below_alloc | apply pw_below_drewN | apply below_drew1) | exact HB.out)) hb); clear HB; have HB := n0_; clear n0_; (try clear hb); (try clear hb2); (try clear hk); (try clear hi)) | ((with_reducible refine gate_dst (N := 5) rfl ?_); refine box_event ?hg (N := 5) ?hd (cs := #[.int .i64 0, .int .i64 0, .int .i64 0]) (t := 99) ?hr ?_; (case hd => rfl); (case hg => rfl); (case hr => first | (go_simp; done) | (go_simp; rfl)); intro gb105 hg w22 hbox hb; have n0_ := Aside0.mk (below_step (by repeat (first | (with_reducible first | exact HB.out | apply below_alloc | apply pw_below_drewN | apply below_drew1) | exact HB.out)) hb); have n1_ := Aside0.mk (hbox); have n2_ := Aside0.mk ((by rw [hg]; exact (below_size (by repeat (first | (with_reducible first | exact HB.out | apply below_alloc | apply pw_below_drewN | apply below_drew1) | exact HB.out))) : w.heap.size ≤ gb105)); have n3_ := Aside0.mk ((by rw [hg]; exact (below_size (by repeat (first | (with_reducible first | exact HB.out | apply below_alloc | apply pw_below_drewN | apply below_drew1) | exact HB.out))) : w.heap.size ≤ gb105)); clear HB; have HB := n0_; have BK105 := n1_; have GW105 := n2_; have GE105 := n3_; clear n0_ n1_ n2_ n3_; clear hb hbox hg; (try have hu105_0 : w22.cell? ⟨gb105, 0, none⟩ = some (.int .i64 0) := (blk_cell BK105.out 0).trans rfl); (try have hu105_1 : w22.cell? ⟨gb105, 1, none⟩ = some (.int .i64 0) := (blk_cell BK105.out 1).trans rfl); (try have hu105_2 : w22.cell? ⟨gb105, 2, none⟩ = some (.int .i64 0) := (blk_cell BK105.out 2).trans rfl); (try have hv105_0 := blk_frozen BK105.out 0); (try have hv105_1 := blk_frozen BK105.out 1); (try have hv105_2 := blk_frozen BK105.out 2); have hcz23_0 : w22.cell? ⟨gb105, 0, none⟩ = some (.int .i64 0) := (blk_cell BK105.out 0).trans rfl; have hcz23_1 : w22.cell? ⟨gb105, 1, none⟩ = some (.int .i64 0) := (blk_cell BK105.out 1).trans rfl; have hcz23_2 : w22.cell? ⟨gb105, 2, none⟩ = some (.int .i64 0) := (blk_cell BK105.out 2).trans rfl; have hfz23_0 := blk_frozen BK105.out 0; have hfz23_1 := blk_frozen BK105.out 1; have hfz23_2 := blk_frozen BK105.out 2) | (go_at_call 93; (with_reducible refine (Go.Proofs.Ytcfpkkgdofblfaa.H.civil_Long.calls t101 false _ A14.out).mono ?_); rintro e w' ⟨rfl, ⟨nd, rfl⟩⟩; (try first | exact ⟨rfl, _, World.drewN_drewN _ _ _⟩ | exact ⟨rfl, _, Eq.trans (World.drewN_drewN _ _ _) (congrArg (World.drewN _) (Nat.add_assoc _ _ _))⟩)) | (go_at_call 94; (with_reducible refine (Go.Proofs.Ytcfpkkgdofblfaa.H.civil_Opens.calls t101 t108 _ A20.out).mono ?_); rintro e w' ⟨rfl, ⟨nd, rfl⟩⟩; (try first | exact ⟨rfl, _, World.drewN_drewN _ _ _⟩ | exact ⟨rfl, _, Eq.trans (World.drewN_drewN _ _ _) (congrArg (World.drewN _) (Nat.add_assoc _ _ _))⟩))); try go_wp2_with (first | (go_at_call 92; (with_reducible refine (Go.Proofs.Ytcfpkkgdofblfaa.H.civil_Date.calls a1 t101 t102 t103 t104 _ A3.out).mono ?_); rintro e w21 ⟨rfl, hb⟩; have n0_ := Aside0.mk (below_step (by repeat (first | (with_reducible first | exact HB.out | apply below_alloc | apply pw_below_drewN | apply below_drew1) | exact HB.out)) hb); clear HB; have HB := n0_; clear n0_; (try clear hb); (try clear hb2); (try clear hk); (try clear hi)) | ((with_reducible refine gate_dst (N := 5) rfl ?_); refine box_event ?hg (N := 5) ?hd (cs := #[.int .i64 0, .int .i64 0, .int .i64 0]) (t := 99) ?hr ?_; (case hd => rfl); (case hg => rfl); (case hr => first | (go_simp; done) | (go_simp; rfl)); intro gb105 hg w22 hbox hb; have n0_ := Aside0.mk (below_step (by repeat (first | (with_reducible first | exact HB.out | apply below_alloc | apply pw_below_drewN | apply below_drew1) | exact HB.out)) hb); have n1_ := Aside0.mk (hbox); have n2_ := Aside0.mk ((by rw [hg]; exact (below_size (by repeat (first | (with_reducible first | exact HB.out | apply below_alloc | apply pw_below_drewN | apply below_drew1) | exact HB.out))) : w.heap.size ≤ gb105)); have n3_ := Aside0.mk ((by rw [hg]; exact (below_size (by repeat (first | (with_reducible first | exact HB.out | apply below_alloc | apply pw_below_drewN | apply below_drew1) | exact HB.out))) : w.heap.size ≤ gb105)); clear HB; have HB := n0_; have BK105 := n1_; have GW105 := n2_; have GE105 := n3_; clear n0_ n1_ n2_ n3_; clear hb hbox hg; (try have hu105_0 : w22.cell? ⟨gb105, 0, none⟩ = some (.int .i64 0) := (blk_cell BK105.out 0).trans rfl); (try have hu105_1 : w22.cell? ⟨gb105, 1, none⟩ = some (.int .i64 0) := (blk_cell BK105.out 1).trans rfl); (try have hu105_2 : w22.cell? ⟨gb105, 2, none⟩ = some (.int .i64 0) := (blk_cell BK105.out 2).trans rfl); (try have hv105_0 := blk_frozen BK105.out 0); (try have hv105_1 := blk_frozen BK105.out 1); (try have hv105_2 := blk_frozen BK105.out 2); have hcz23_0 : w22.cell? ⟨gb105, 0, none⟩ = some (.int .i64 0) := (blk_cell BK105.out 0).trans rfl; have hcz23_1 : w22.cell? ⟨gb105, 1, none⟩ = some (.int .i64 0) := (blk_cell BK105.out 1).trans rfl; have hcz23_2 : w22.cell? ⟨gb105, 2, none⟩ = some (.int .i64 0) := (blk_cell BK105.out 2).trans rfl; have hfz23_0 := blk_frozen BK105.out 0; have hfz23_1 := blk_frozen BK105.out 1; have hfz23_2 := blk_frozen BK105.out 2) | (go_at_call 93; (with_reducible refine (Go.Proofs.Ytcfpkkgdofblfaa.H.civil_Long.calls t101 false _ A14.out).mono ?_); rintro e w' ⟨rfl, ⟨nd, rfl⟩⟩; (try first | exact ⟨rfl, _, World.drewN_drewN _ _ _⟩ | exact ⟨rfl, _, Eq.trans (World.drewN_drewN _ _ _) (congrArg (World.drewN _) (Nat.add_assoc _ _ _))⟩)) | (go_at_call 94; (with_reducible refine (Go.Proofs.Ytcfpkkgdofblfaa.H.civil_Opens.calls t101 t108 _ A20.out).mono ?_); rintro e w' ⟨rfl, ⟨nd, rfl⟩⟩; (try first | exact ⟨rfl, _, World.drewN_drewN _ _ _⟩ | exact ⟨rfl, _, Eq.trans (World.drewN_drewN _ _ _) (congrArg (World.drewN _) (Nat.add_assoc _ _ _))⟩))))
     go_ret
     exact ⟨by first | rfl | (simp [errW_none, errW_some] <;> rfl) | (simp [*, errW_none, errW_some] <;> rfl), by repeat (first | (with_reducible first | exact HB.out | apply below_alloc | apply pw_below_drewN | apply below_drew1 | refine below_set ?_ GE105.out) | exact HB.out)⟩
 ·rw [if_neg c4] at H
  exact absurd H (by simp)
end Go.Proofs.Ytcfpkkgdofblfaa.PG
/- Contracts by hand: parts of a year: what is thrown, and caught. -/
namespace Go.Proofs.Ytcfpkkgdofblfaa.H
open Go.RowKit Go.Proofs.YtcfpkkgdofblfaaW.PrintWords Go.Proofs.YtcfpkkgdofblfaaW.PrintLast Go.Proofs.YtcfpkkgdofblfaaW.PrintMore
open Go.Proofs.Ytcfpkkgdofblfaa.Math
set_option linter.unusedVariables false
set_option linter.unusedSimpArgs false
theorem rest_plain {P : Program} {c : Code} {Q0 : Exit → Act → List Frame → World → Prop} {a : Act} {cs : List Frame} {w : World}
  (h : ∀ Q : Exit → Act → World → Prop, Aside0 (∀ e a' w', Q0 e a' cs w' → Q e a' w') → c.wp P Q a w) : c.wpS P Q0 a cs w :=
 wpS_of_wp (h _ ⟨fun _ _ _ x => x⟩)
structure Res2 (w W : World) (x y : Value) : Prop where
 below : Below w.heap.size w W
 c0 : W.cell? ⟨w.heap.size, 0, none⟩ = some x
 c1 : W.cell? ⟨w.heap.size + 1, 0, none⟩ = some y
 f0 : W.frozen? ⟨w.heap.size, 0, none⟩ = false
 f1 : W.frozen? ⟨w.heap.size + 1, 0, none⟩ = false
 size : w.heap.size + 2 ≤ W.heap.size
theorem Res2.made (w : World) (x y : Value) (t u : TypeId) : Res2 w ((w.alloc (.cells #[x] t)).alloc (.cells #[y] u)) x y := by
 refine ⟨((Below.refl _ _).alloc (Nat.le_refl _) _).alloc (by simp) _, ?_, ?_, ?_, ?_, ?_⟩ <;> simp [go_sem]
theorem Res2.step {w W W' : World} {x y : Value} (h : Res2 w W x y) (hb : Below W.heap.size W W') : Res2 w W' x y := by
 have hs := h.size
 refine ⟨h.below.trans (hb.mono (by omega)), ?_, ?_, ?_, ?_, Nat.le_trans h.size hb.size⟩
 ·rw [hb.cell (by simp; omega)]; exact h.c0
 ·rw [hb.cell (by simp; omega)]; exact h.c1
 ·rw [hb.frozen (by simp; omega)]; exact h.f0
 ·rw [hb.frozen (by simp; omega)]; exact h.f1
theorem Res2.drawn {w W W' : World} {x y : Value} (h : Res2 w W x y) (hb : Drawn0 W W') : Res2 w W' x y := h.step hb.below
theorem Res2.put {w W : World} {x y : Value} (h : Res2 w W x y) (u v : Value) : Below w.heap.size w ((W.setCell ⟨w.heap.size, 0, none⟩ u).setCell ⟨w.heap.size + 1, 0, none⟩ v) :=
 (h.below.setCell (by simp) _).setCell (by simp) _
theorem frac_idle (pv pe : Addr) (w : World) :
  CallsD Try.prog 71 #[.pointer (some pv), .pointer (some pe)] .returning w fun e u' w' => e = .returned (.tuple #[]) ∧ u' = .returning ∧ w' = w := by
 refine callsD_of_wpS Try.func71 rfl fun c₀ cs hu => ?_
 simp only [Try.ntmps71, List.size_toArray, List.length_cons, List.length_nil, Nat.reduceAdd, Nat.reduceSub, Array.replicate_succ, Array.replicate_zero, List.push_toArray, List.append_toArray, List.nil_append, List.cons_append]
 apply wpS_seq
 apply wpS_region
 simp [wpOpsS, go_sem, recoverD, hu, Exit.thenS]
 refine rest_plain fun Q HQ => ?_
 go_wp2
 refine HQ.out _ _ _ ?_
 clear HQ
 simp [bodyPostS, results, Try.results71, hu]
 cases c₀
 simp_all
theorem frac_thrown (pv pe : Addr) (x y : Int) (c : Int) (older : List PanicEntry) (w : World) (hne : pv.block ≠ pe.block) (hx : w.cell? pv = some (.int .i64 x)) (hy : w.cell? pe = some (.int .i64 y)) (fx : w.frozen? pv = false) (fy : w.frozen? pe = false) :
  CallsD Try.prog 71 #[.pointer (some pv), .pointer (some pe)] (.panicking ({ v := .iface 125 (.int .i64 c), recovered := false } :: older)) w fun e u' w' =>
   e = .returned (.tuple #[]) ∧ u' = .panicking ({ v := .iface 125 (.int .i64 c), recovered := true } :: older) ∧ w' = (w.setCell pv (.int .i64 0)).setCell pe (.int .i64 c) := by
 refine callsD_of_wpS Try.func71 rfl fun c₀ cs hu => ?_
 simp only [Try.ntmps71, List.size_toArray, List.length_cons, List.length_nil, Nat.reduceAdd, Nat.reduceSub, Array.replicate_succ, Array.replicate_zero, List.push_toArray, List.append_toArray, List.nil_append, List.cons_append]
 apply wpS_seq
 apply wpS_region
 simp [wpOpsS, go_sem, recoverD, hu, Exit.thenS]
 refine rest_plain fun Q HQ => ?_
 have hta : ∀ w, (Instr.typeAssert (.iface 125 (.int .i64 c)) 20 125 true).run Try.prog w = .ok (.tuple #[.int .i64 c, .bool true]) w := fun _ => by kernel_rfl
 have hy2 : (w.setCell pv (.int .i64 0)).cell? pe = some (.int .i64 y) := by rw [World.cell?_setCell_other]; exact hy; exact fun e => hne (by rw [e])
 go_wp2
 refine HQ.out _ _ _ ?_
 clear HQ
 simp [bodyPostS, results, Try.results71, hu]
def parts (c : Int) : Int × Int := if c = 1 then (360, 0) else if c = 2 then (365, 0) else if c = 3 then (133590, 0) else (0, 1)
theorem year_yes {c v : Int} (h : parts c = (v, 0)) (w : World) : Calls Try.prog 72 #[.int .i64 c] w fun e w' => e = .returned (.int .i64 v) ∧ Drawn0 w w' := by
 refine PG.fraction_year.calls c v w ?_
 unfold parts at h
 unfold PG.fraction_year.f
 repeat' split at h
 all_goals simp_all
theorem year_no {c : Int} (h1 : (c == 1) = false) (h2 : (c == 2) = false) (h3 : (c == 3) = false) (w : World) : Calls Try.prog 72 #[.int .i64 c] w fun e w' => e = .panicked [{ v := .iface 125 (.int .i64 1), recovered := false }] ∧ w' = w := by
 go_enter Try.func72, Try.ntmps72
 go_wp2
 exact ⟨rfl, rfl, rfl⟩
theorem place_yes {c n : Int} (hc : c = 1 ∨ c = 2 ∨ c = 3) (h : isDay n) (w : World) : Calls Try.prog 73 #[.int .i64 c, .int .i64 n] w fun e w' => e = .returned (.int .i64 (place c n)) ∧ Below w.heap.size w w' := by
 refine PG.fraction_place.calls c n (place c n) w ?_
 obtain ⟨y1, y2, y3, y4⟩ := yearOf_spec h
 obtain ⟨_, _, m1, m2, d1, d2⟩ := date_bd h
 have hl := leap_01 (yearOf n)
 have ho := opens_succ (yearOf n)
 obtain ⟨n1, n2⟩ := id h
 have hob := opens_bd (y := yearOf n) (by omega) (by omega)
 unfold PG.fraction_place.f place
 simp only [civil_Date.f, civil_Long.f, civil_Opens.f, Option.bind_some]
 rw [date_yes h]
 simp only [if_true]
 rcases hc with rfl | rfl | rfl
 ·simp only [if_true, mn_min]
  unfold thirty
  rw [if_pos h, w64 (x := 360 * yearOf n) (by omega) (by omega), w64 (x := 30 * monthOf n) (by omega) (by omega), w64 (x := 360 * yearOf n + 30 * monthOf n) (by omega) (by omega), w64 (by omega) (by omega)]
 ·simp
 ·simp only [show ¬ ((3 : Int) = 1) by decide, show ¬ ((3 : Int) = 2) by decide, if_false]
  rw [if_pos (show 1 ≤ yearOf n ∧ yearOf n ≤ 1000000 by omega)]
  simp only [Option.bind_some]
  unfold actual
  rw [w64 (x := yearOf n * 365) (by omega) (by omega), w64 (x := yearOf n * 365 * 366) (by omega) (by omega), w64 (x := n - opens (yearOf n)) (by omega) (by omega)]
  cases hb : long (yearOf n) with
  | true =>
   rw [leap_of_long hb]
   simp only [if_true]
   rw [w64 (x := (n - opens (yearOf n)) * 365) (by omega) (by omega), w64 (by omega) (by omega)]
   congr 1; omega
  | false =>
   rw [leap_of_not hb]
   simp only [Bool.false_eq_true, if_false]
   rw [w64 (x := (n - opens (yearOf n)) * 366) (by omega) (by omega), w64 (by omega) (by omega)]
   congr 1; omega
theorem place_no {c n : Int} (h : ¬ isDay n) (w : World) : Calls Try.prog 73 #[.int .i64 c, .int .i64 n] w fun e w' => e = .panicked [{ v := .iface 125 (.int .i64 5), recovered := false }] ∧ Below w.heap.size w w' := by
 have HD := Aside0.mk (show civil_Date.f n = some (0, 0, 0, 5) by unfold civil_Date.f; rw [date_no h])
 clear h
 go_enter Try.func73, Try.ntmps73
 go_wp2_with fail
 refine (civil_Date.calls n 0 0 0 5 _ HD.out).mono ?_
 rintro e w1 ⟨rfl, hb⟩
 have HB := Aside0.mk hb
 clear hb
 go_wp2
 exact ⟨rfl, rfl, by repeat (first | exact HB.out | (refine Below.alloc ?_ HB.out.size _) | (refine Below.setCell ?_ HB.out.size _))⟩
theorem Parts_yes {c v : Int} (h : parts c = (v, 0)) (w : World) : Calls Try.prog 95 #[.int .i64 c] w fun e w' => e = .returned (.tuple #[.int .i64 v, .int .i64 0]) ∧ Below w.heap.size w w' := by
 have R0 := Aside0.mk (Res2.made w (.int .i64 0) (.int .i64 0) 2 32)
 have HY := Aside0.mk h
 clear h
 go_enter_defers Try.func95, Try.ntmps95
 go_wp2_with fail
 refine (year_yes HY.out _).mono ?_
 rintro e w1 ⟨rfl, hd⟩
 have R1 := R0.out.drawn hd
 have c0 := R1.c0
 have c1 := R1.c1
 have f0 := R1.f0
 have f1 := R1.f1
 have RR := Aside0.mk R1
 clear hd R1 R0
 go_wp2
 refine leaves_cons (f := 71) (args := #[.pointer (some ⟨w.heap.size, 0, none⟩), .pointer (some ⟨w.heap.size + 1, 0, none⟩)]) (by simp) (by simp [go_sem]) ?_
 refine (frac_idle _ _ _).mono ?_
 rintro e u' w'' ⟨rfl, rfl, rfl⟩
 simp [Leaves, settle, results, Try.results95, go_sem, c0, c1]
 exact RR.out.put _ _
theorem Parts_no {c : Int} (h1 : (c == 1) = false) (h2 : (c == 2) = false) (h3 : (c == 3) = false) (w : World) : Calls Try.prog 95 #[.int .i64 c] w fun e w' => e = .returned (.tuple #[.int .i64 0, .int .i64 1]) ∧ Below w.heap.size w w' := by
 have R0 := Aside0.mk (Res2.made w (.int .i64 0) (.int .i64 0) 2 32)
 go_enter_defers Try.func95, Try.ntmps95
 go_wp2_with fail
 refine (year_no h1 h2 h3 _).mono ?_
 rintro e w1 ⟨rfl, rfl⟩
 refine leaves_cons (f := 71) (args := #[.pointer (some ⟨w.heap.size, 0, none⟩), .pointer (some ⟨w.heap.size + 1, 0, none⟩)]) (by simp) (by simp [go_sem]) ?_
 refine (frac_thrown _ _ 0 0 1 [] _ (by simp) R0.out.c0 R0.out.c1 R0.out.f0 R0.out.f1).mono ?_
 rintro e u' w'' ⟨rfl, rfl, rfl⟩
 have c0 := R0.out.c0
 have c1 := R0.out.c1
 simp [Leaves, settle, results, Try.results95, go_sem, c0, c1]
 first | exact R0.out.put _ _ | exact ((Below.refl _ _).alloc (Nat.le_refl _) _).alloc (by simp) _
theorem Between_yes {c a b v : Int} (h : parts c = (v, 0)) (hc : c = 1 ∨ c = 2 ∨ c = 3) (ha : isDay a) (hb : isDay b) (w : World) :
  Calls Try.prog 38 #[.int .i64 c, .int .i64 a, .int .i64 b] w fun e w' => e = .returned (.tuple #[.int .i64 (place c b - place c a), .int .i64 0]) ∧ Below w.heap.size w w' := by
 have R0 := Aside0.mk (Res2.made w (.int .i64 0) (.int .i64 0) 2 32)
 have HY := Aside0.mk h
 have HC := Aside0.mk hc
 have HA := Aside0.mk ha
 have HB := Aside0.mk hb
 obtain ⟨pa1, pa2⟩ := place_bd (c := c) ha
 obtain ⟨pb1, pb2⟩ := place_bd (c := c) hb
 clear h hc ha hb
 generalize hpa : place c a = pa at *
 generalize hpb : place c b = pb at *
 have HPA := Aside0.mk hpa
 have HPB := Aside0.mk hpb
 clear hpa hpb
 go_enter_defers Try.func38, Try.ntmps38
 go_wp2_with fail
 refine (year_yes HY.out _).mono ?_
 rintro e w1 ⟨rfl, hd⟩
 have R1 := Aside0.mk (R0.out.drawn hd)
 clear hd R0
 go_wp2_with fail
 refine (place_yes HC.out HA.out _).mono ?_
 rw [HPA.out]
 rintro e w2 ⟨rfl, hd⟩
 have R2 := Aside0.mk (R1.out.step hd)
 clear hd R1
 go_wp2_with fail
 refine (place_yes HC.out HB.out _).mono ?_
 rw [HPB.out]
 rintro e w3 ⟨rfl, hd⟩
 have R3 := R2.out.step hd
 have c0 := R3.c0
 have c1 := R3.c1
 have f0 := R3.f0
 have f1 := R3.f1
 have RR := Aside0.mk R3
 clear hd R2 R3
 go_wp2
 refine leaves_cons (f := 71) (args := #[.pointer (some ⟨w.heap.size, 0, none⟩), .pointer (some ⟨w.heap.size + 1, 0, none⟩)]) (by simp) (by simp [go_sem]) ?_
 refine (frac_idle _ _ _).mono ?_
 rintro e u' w'' ⟨rfl, rfl, rfl⟩
 simp [Leaves, settle, results, Try.results38, go_sem, c0, c1]
 exact RR.out.put _ _
theorem Between_count {c a b : Int} (h1 : (c == 1) = false) (h2 : (c == 2) = false) (h3 : (c == 3) = false) (w : World) :
  Calls Try.prog 38 #[.int .i64 c, .int .i64 a, .int .i64 b] w fun e w' => e = .returned (.tuple #[.int .i64 0, .int .i64 1]) ∧ Below w.heap.size w w' := by
 have R0 := Aside0.mk (Res2.made w (.int .i64 0) (.int .i64 0) 2 32)
 go_enter_defers Try.func38, Try.ntmps38
 go_wp2_with fail
 refine (year_no h1 h2 h3 _).mono ?_
 rintro e w1 ⟨rfl, rfl⟩
 refine leaves_cons (f := 71) (args := #[.pointer (some ⟨w.heap.size, 0, none⟩), .pointer (some ⟨w.heap.size + 1, 0, none⟩)]) (by simp) (by simp [go_sem]) ?_
 refine (frac_thrown _ _ 0 0 1 [] _ (by simp) R0.out.c0 R0.out.c1 R0.out.f0 R0.out.f1).mono ?_
 rintro e u' w'' ⟨rfl, rfl, rfl⟩
 have c0 := R0.out.c0
 have c1 := R0.out.c1
 simp [Leaves, settle, results, Try.results38, go_sem, c0, c1]
 first | exact R0.out.put _ _ | exact ((Below.refl _ _).alloc (Nat.le_refl _) _).alloc (by simp) _
theorem Between_from {c a b v : Int} (h : parts c = (v, 0)) (ha : ¬ isDay a) (w : World) :
  Calls Try.prog 38 #[.int .i64 c, .int .i64 a, .int .i64 b] w fun e w' => e = .returned (.tuple #[.int .i64 0, .int .i64 5]) ∧ Below w.heap.size w w' := by
 have R0 := Aside0.mk (Res2.made w (.int .i64 0) (.int .i64 0) 2 32)
 have HY := Aside0.mk h
 have HA := Aside0.mk ha
 clear h ha
 go_enter_defers Try.func38, Try.ntmps38
 go_wp2_with fail
 refine (year_yes HY.out _).mono ?_
 rintro e w1 ⟨rfl, hd⟩
 have R1 := Aside0.mk (R0.out.drawn hd)
 clear hd R0
 go_wp2_with fail
 refine (place_no HA.out _).mono ?_
 rintro e w2 ⟨rfl, hd⟩
 have R2 := Aside0.mk (R1.out.step hd)
 clear hd R1
 refine leaves_cons (f := 71) (args := #[.pointer (some ⟨w.heap.size, 0, none⟩), .pointer (some ⟨w.heap.size + 1, 0, none⟩)]) (by simp) (by simp [go_sem]) ?_
 refine (frac_thrown _ _ 0 0 5 [] _ (by simp) R2.out.c0 R2.out.c1 R2.out.f0 R2.out.f1).mono ?_
 rintro e u' w'' ⟨rfl, rfl, rfl⟩
 have c0 := R2.out.c0
 have c1 := R2.out.c1
 simp [Leaves, settle, results, Try.results38, go_sem, c0, c1]
 exact R2.out.put _ _
theorem Between_to {c a b v : Int} (h : parts c = (v, 0)) (hc : c = 1 ∨ c = 2 ∨ c = 3) (ha : isDay a) (hb : ¬ isDay b) (w : World) :
  Calls Try.prog 38 #[.int .i64 c, .int .i64 a, .int .i64 b] w fun e w' => e = .returned (.tuple #[.int .i64 0, .int .i64 5]) ∧ Below w.heap.size w w' := by
 have R0 := Aside0.mk (Res2.made w (.int .i64 0) (.int .i64 0) 2 32)
 have HY := Aside0.mk h
 have HC := Aside0.mk hc
 have HA := Aside0.mk ha
 have HB := Aside0.mk hb
 clear h hc ha hb
 go_enter_defers Try.func38, Try.ntmps38
 go_wp2_with fail
 refine (year_yes HY.out _).mono ?_
 rintro e w1 ⟨rfl, hd⟩
 have R1 := Aside0.mk (R0.out.drawn hd)
 clear hd R0
 go_wp2_with fail
 refine (place_yes HC.out HA.out _).mono ?_
 rintro e w2 ⟨rfl, hd⟩
 have R2 := Aside0.mk (R1.out.step hd)
 clear hd R1
 go_wp2_with fail
 refine (place_no HB.out _).mono ?_
 rintro e w3 ⟨rfl, hd⟩
 have R3 := Aside0.mk (R2.out.step hd)
 clear hd R2
 refine leaves_cons (f := 71) (args := #[.pointer (some ⟨w.heap.size, 0, none⟩), .pointer (some ⟨w.heap.size + 1, 0, none⟩)]) (by simp) (by simp [go_sem]) ?_
 refine (frac_thrown _ _ 0 0 5 [] _ (by simp) R3.out.c0 R3.out.c1 R3.out.f0 R3.out.f1).mono ?_
 rintro e u' w'' ⟨rfl, rfl, rfl⟩
 have c0 := R3.out.c0
 have c1 := R3.out.c1
 simp [Leaves, settle, results, Try.results38, go_sem, c0, c1]
 exact R3.out.put _ _
/-! ### The contracts, as1 the printed callers ask them -/
theorem parts_cases (c : Int) : (∃ v, parts c = (v, 0) ∧ (c = 1 ∨ c = 2 ∨ c = 3)) ∨ (parts c = (0, 1) ∧ (c == 1) = false ∧ (c == 2) = false ∧ (c == 3) = false) := by
 unfold parts
 by_cases h1 : c = 1
 ·left; exact ⟨360, by simp [h1], Or.inl h1⟩
 by_cases h2 : c = 2
 ·left; exact ⟨365, by simp [h2], Or.inr (Or.inl h2)⟩
 by_cases h3 : c = 3
 ·left; exact ⟨133590, by simp [h3], Or.inr (Or.inr h3)⟩
 ·right; simp [h1, h2, h3]
def fraction_Parts.f (c : Int) : Option (Int × Int) := some (parts c)
theorem fraction_Parts.calls (a0 r1 r2 : Int) (w : World) (h : fraction_Parts.f a0 = some (r1, r2)) :
  Calls Try.prog 95 #[.int .i64 a0] w fun e w' => e = .returned (.tuple #[.int .i64 r1, .int .i64 r2]) ∧ Below w.heap.size w w' := by
 have h' := Option.some.inj h
 rcases parts_cases a0 with ⟨v, hp, _⟩ | ⟨hp, h1, h2, h3⟩
 ·rw [hp] at h'; obtain ⟨rfl, rfl⟩ := Prod.mk.inj h'; exact Parts_yes hp w
 ·rw [hp] at h'; obtain ⟨rfl, rfl⟩ := Prod.mk.inj h'; exact Parts_no h1 h2 h3 w
def fraction_Between.f (c a b : Int) : Option (Int × Int) := some (between c a b)
theorem fraction_Between.calls (a0 a1 a2 r1 r2 : Int) (w : World) (h : fraction_Between.f a0 a1 a2 = some (r1, r2)) :
  Calls Try.prog 38 #[.int .i64 a0, .int .i64 a1, .int .i64 a2] w fun e w' => e = .returned (.tuple #[.int .i64 r1, .int .i64 r2]) ∧ Below w.heap.size w w' := by
 have h' := Option.some.inj h
 unfold between at h'
 rcases parts_cases a0 with ⟨v, hp, hc⟩ | ⟨hp, h1, h2, h3⟩
 ·rw [if_pos hc] at h'
  by_cases ha : isDay a1
  ·by_cases hb : isDay a2
   ·rw [if_pos (show isDay a1 ∧ isDay a2 from ⟨ha, hb⟩)] at h'; obtain ⟨rfl, rfl⟩ := Prod.mk.inj h'; exact Between_yes hp hc ha hb w
   ·rw [if_neg (show ¬ (isDay a1 ∧ isDay a2) from fun h => hb h.2)] at h'; obtain ⟨rfl, rfl⟩ := Prod.mk.inj h'; exact Between_to hp hc ha hb w
  ·rw [if_neg (show ¬ (isDay a1 ∧ isDay a2) from fun h => ha h.1)] at h'; obtain ⟨rfl, rfl⟩ := Prod.mk.inj h'; exact Between_from hp ha w
 ·rw [if_neg (by simpa using ⟨by simpa using h1, by simpa using h2, by simpa using h3⟩)] at h'; obtain ⟨rfl, rfl⟩ := Prod.mk.inj h'; exact Between_count h1 h2 h3 w
end Go.Proofs.Ytcfpkkgdofblfaa.H
/- Contracts by hand: growth: what a balance bears, exactly. -/
namespace Go.Proofs.Ytcfpkkgdofblfaa.H
open Go.RowKit Go.Proofs.YtcfpkkgdofblfaaW.PrintWords Go.Proofs.YtcfpkkgdofblfaaW.PrintLast Go.Proofs.YtcfpkkgdofblfaaW.PrintMore Go.Proofs.Ytcfpkkgdofblfaa.HW
set_option linter.unusedVariables false
set_option linter.unusedSimpArgs false
structure BearAt (w : World) (gb : Nat) (W h rest : Int) : Prop where
 c0 : w.cell? ⟨gb, 0, none⟩ = some (.int .i64 W)
 c1 : w.cell? ⟨gb, 1, none⟩ = some (.int .i64 h)
 c2 : w.cell? ⟨gb, 2, none⟩ = some (.int .i64 rest)
 f2 : w.frozen? ⟨gb, 2, none⟩ = false
 lt : gb < w.heap.size
theorem BearAt.below {w w1 : World} {gb : Nat} {W h rest : Int} (H : BearAt w gb W h rest) (hb : Below w.heap.size w w1) : BearAt w1 gb W h rest :=
 ⟨by rw [hb.cell (by exact H.lt)]; exact H.c0, by rw [hb.cell (by exact H.lt)]; exact H.c1, by rw [hb.cell (by exact H.lt)]; exact H.c2, by rw [hb.frozen (by exact H.lt)]; exact H.f2, Nat.lt_of_lt_of_le H.lt hb.size⟩
structure Good (W h rest : Int) : Prop where
 w0 : 360000000000 ≤ W
 w1 : W ≤ 133590000000000
 h0 : 0 ≤ h
 h1 : 2 * h ≤ W
 r0 : -h ≤ rest
 r1 : rest < W - h
theorem Good.next {W h rest x : Int} (G : Good W h rest) (hx : 0 ≤ x) : Good W h (Gm.r W h rest x) := by
 have := G.w0
 obtain ⟨_, h2, h3, _⟩ := Gm.step (W := W) (h := h) (rest := rest) (x := x) (by omega) hx G.r0
 exact ⟨G.w0, G.w1, G.h0, G.h1, h2, h3⟩
theorem add64_run (x y : Int) (hx : 0 ≤ x) (hy : 0 ≤ y) (w : World) : (callFunc 108 #[.int .u64 x, .int .u64 y, .int .u64 0]).run Try.prog w = .ok (.value (.tuple #[.int .u64 ((x + y + 0) % 18446744073709551616), .int .u64 ((x + y + 0) / 18446744073709551616)])) w := by
 rw [run_callFunc_extern Try.func108 (by kernel_rfl) (by kernel_rfl) (by kernel_rfl) (e := add64Entry) (by kernel_rfl), run_add64 x y 0 hx hy (by omega) (by omega)]
 rfl
theorem mul_any {x y hi lo : Int} (x0 : 0 ≤ x) (x1 : x ≤ 18446744073709551615) (y0 : 0 ≤ y) (y1 : y ≤ 18446744073709551615) (h1 : x * y / 18446744073709551616 = hi) (h2 : x * y % 18446744073709551616 = lo) (w : World) :
  Calls Try.prog 107 #[.int .u64 x, .int .u64 y] w fun e w' => e = .returned (.tuple #[.int .u64 hi, .int .u64 lo]) ∧ Drawn0 w w' :=
 bits_Mul64.calls x y hi lo w (by unfold bits_Mul64.f; rw [if_pos ⟨x0, x1, y0, y1⟩, h1, h2])
theorem div_any {hi lo y q r : Int} (h0 : 0 ≤ hi) (h1 : hi < y) (h2 : y < 18446744073709551616) (l0 : 0 ≤ lo) (l1 : lo < 18446744073709551616) (e1 : (hi * 18446744073709551616 + lo) / y = q) (e2 : (hi * 18446744073709551616 + lo) % y = r) (w : World) :
  Calls Try.prog 109 #[.int .u64 hi, .int .u64 lo, .int .u64 y] w fun e w' => e = .returned (.tuple #[.int .u64 q, .int .u64 r]) ∧ Drawn0 w w' :=
 bits_Div64.calls hi lo y q r w (by unfold bits_Div64.f; rw [if_pos ⟨h0, h1, h2, l0, l1⟩, e1, e2])
theorem parts128 {bal rate n s : Int} (a0 : 0 ≤ bal) (a1 : bal ≤ 1000000000000000) (b0 : 0 ≤ rate) (b1 : rate ≤ 1000000000) (n0 : 0 ≤ n) (n1 : n ≤ 53436000) (s0 : 0 ≤ s) (s1 : s ≤ 133590000000000) :
  ∃ high low over lo u lo3 carry : Int, bal * rate / 18446744073709551616 = high ∧ bal * rate % 18446744073709551616 = low ∧ low * n / 18446744073709551616 = over ∧ low * n % 18446744073709551616 = lo ∧ high * n = u ∧
   0 ≤ high ∧ high ≤ 100000 ∧ 0 ≤ low ∧ low ≤ 18446744073709551615 ∧ 0 ≤ over ∧ over ≤ 53436000 ∧ 0 ≤ lo ∧ lo ≤ 18446744073709551615 ∧ 0 ≤ u ∧ u ≤ 5343600000000 ∧
   (lo + s + 0) % 18446744073709551616 = lo3 ∧ (lo + s + 0) / 18446744073709551616 = carry ∧ 0 ≤ lo3 ∧ lo3 ≤ 18446744073709551615 ∧ 0 ≤ carry ∧ carry ≤ 1 ∧
   (u + over + carry) * 18446744073709551616 + lo3 = bal * rate * n + s := by
 have hP := Gm.mul_le a0 b0 a1 b1
 have g1 : 0 ≤ bal * rate / 18446744073709551616 ∧ bal * rate / 18446744073709551616 ≤ 100000 := by omega
 have g2 : 0 ≤ bal * rate % 18446744073709551616 ∧ bal * rate % 18446744073709551616 ≤ 18446744073709551615 := by omega
 have hU := Gm.mul_le g1.1 n0 g1.2 n1
 have hV := Gm.mul_le g2.1 n0 g2.2 n1
 have e : bal * rate * n = bal * rate / 18446744073709551616 * n * 18446744073709551616 + bal * rate % 18446744073709551616 * n := by
  rw [Int.mul_right_comm _ n, ← Int.add_mul]
  congr 1
  omega
 refine ⟨_, _, _, _, _, _, _, rfl, rfl, rfl, rfl, rfl, g1.1, g1.2, g2.1, g2.2, ?_, ?_, ?_, ?_, hU.1, by omega, rfl, rfl, ?_, ?_, ?_, ?_, ?_⟩ <;> omega
end Go.Proofs.Ytcfpkkgdofblfaa.H
/- Contracts by hand: growth: borne. -/
namespace Go.Proofs.Ytcfpkkgdofblfaa.H
open Go.RowKit Go.Proofs.YtcfpkkgdofblfaaW.PrintWords Go.Proofs.YtcfpkkgdofblfaaW.PrintLast Go.Proofs.YtcfpkkgdofblfaaW.PrintMore Go.Proofs.Ytcfpkkgdofblfaa.HW
set_option linter.unusedVariables false
set_option linter.unusedSimpArgs false
set_option maxHeartbeats 1000000 in
theorem borne_yes {gb : Nat} {W h rest bal rate n : Int} {w : World} (A : BearAt w gb W h rest) (G : Good W h rest) (hm : Gm.may bal rate n) (hq : Gm.q W h rest (bal * rate * n) ≤ 1000000000000000) :
  Calls Try.prog 97 #[.pointer (some ⟨gb, 0, none⟩), .int .u64 bal, .int .u64 rate, .int .u64 n] w fun e w' => e = .returned (.tuple #[.int .i64 (Gm.q W h rest (bal * rate * n)), .int .i64 (Gm.r W h rest (bal * rate * n))]) ∧ Drawn0 w w' := by
 obtain ⟨a0, a1, b0, b1, n0, n1⟩ := hm
 obtain ⟨w0, w1, h0, h1, r0, r1⟩ := G
 obtain ⟨c0, c1, c2, f2, lt⟩ := A
 obtain ⟨high, low, over, lo, u, lo3, carry, e1, e2, e3, e4, e5, p1, p2, p3, p4, p5, p6, p7, p8, p9, p10, e6, e7, p11, p12, p13, p14, tot⟩ := parts128 a0 a1 b0 b1 n0 n1 (show 0 ≤ rest + h by omega) (by omega)
 obtain ⟨st1, st2, st3, st4⟩ := Gm.step (W := W) (h := h) (rest := rest) (x := bal * rate * n) (by omega) (Int.mul_nonneg (Int.mul_nonneg a0 b0) n0) r0
 have eq1 : ((u + over + carry) * 18446744073709551616 + lo3) / W = Gm.q W h rest (bal * rate * n) := by rw [tot]; rfl
 have eq2 : ((u + over + carry) * 18446744073709551616 + lo3) % W = Gm.r W h rest (bal * rate * n) + h := by rw [tot]; unfold Gm.r; omega
 have hlt : u + over + carry < W := by
  rcases Int.lt_or_le (u + over + carry) W with hh | hh
  ·exact hh
  ·exfalso
   have hh2 : 18446744073709551616 ≤ Gm.q W h rest (bal * rate * n) := by
    rw [← eq1]
    refine (Int.le_ediv_iff_mul_le (by omega)).2 ?_
    omega
   omega
 generalize Gm.q W h rest (bal * rate * n) = q at *
 generalize Gm.r W h rest (bal * rate * n) = r at *
 have U := Aside0.mk e5
 have E1 := Aside0.mk e1
 have E2 := Aside0.mk e2
 have E3 := Aside0.mk e3
 have E4 := Aside0.mk e4
 have E6 := Aside0.mk e6
 have E7 := Aside0.mk e7
 have Q1 := Aside0.mk eq1
 have Q2 := Aside0.mk eq2
 clear e1 e2 e3 e4 e6 e7 eq1 eq2 tot st4
 go_enter Try.func97, Try.ntmps97
 go_wp2_with fail
 refine (mul_any a0 (by omega) b0 (by omega) E1.out E2.out _).mono ?_
 rintro e w1 ⟨rfl, ⟨m1, rfl⟩⟩
 go_wp2_with fail
 refine (mul_any p3 p4 n0 (by omega) E3.out E4.out _).mono ?_
 rintro e w1 ⟨rfl, ⟨m2, rfl⟩⟩
 go_wp2_with fail
 obtain ⟨s, hs⟩ : ∃ s, rest + h = s := ⟨_, rfl⟩
 have hi64 : IntKind.i64.wrap (rest + h) = s := by rw [hs]; exact IntWalk.i64_in _ (by omega)
 have hu64 : IntKind.u64.wrap s = s := IntWalk.u64_in _ (by omega)
 have hadd : ∀ w : World, (callFunc 108 #[.int .u64 lo, .int .u64 s, .int .u64 0]).run Try.prog w = .ok (.value (.tuple #[.int .u64 lo3, .int .u64 carry])) w := fun w => by rw [add64_run lo s (by omega) (by omega) w, ← hs, E6.out, E7.out]
 clear hs
 go_quiet (fail)
 clear hi64 hu64 hadd
 have hWu : IntKind.u64.wrap W = W := IntWalk.u64_in _ (by omega)
 go_wp2_with fail
 refine (div_any (by omega) (by omega) (by omega) (by omega) (by omega) Q1.out Q2.out _).mono ?_
 rintro e w1 ⟨rfl, ⟨m3, rfl⟩⟩
 have hq2 : decide (1000000000000000 < q) = false := decide_eq_false (by omega)
 go_wp2_with fail
 have k1 : IntKind.i64.wrap q = q := IntWalk.i64_in _ (by omega)
 have k2 : IntKind.i64.wrap (r + h) = r + h := IntWalk.i64_in _ (by omega)
 have k3 : IntKind.i64.wrap (r + h - h) = r := by rw [show r + h - h = r by omega]; exact IntWalk.i64_in _ (by omega)
 go_quiet (fail)
 go_wp2_with fail
 go_ret2
 exact ⟨rfl, ⟨_, by first | rfl | (simp only [World.drewN_drewN]; rfl)⟩⟩
set_option maxHeartbeats 1000000 in
theorem borne_no {gb : Nat} {W h rest bal rate n : Int} {w : World} (A : BearAt w gb W h rest) (G : Good W h rest) (hm : Gm.may bal rate n) (hq : 1000000000000000 < Gm.q W h rest (bal * rate * n)) :
  Calls Try.prog 97 #[.pointer (some ⟨gb, 0, none⟩), .int .u64 bal, .int .u64 rate, .int .u64 n] w fun e w' => e = .panicked [{ v := .iface 129 (.int .i64 3), recovered := false }] ∧ Drawn0 w w' := by
 obtain ⟨a0, a1, b0, b1, n0, n1⟩ := hm
 obtain ⟨w0, w1, h0, h1, r0, r1⟩ := G
 obtain ⟨c0, c1, c2, f2, lt⟩ := A
 obtain ⟨high, low, over, lo, u, lo3, carry, e1, e2, e3, e4, e5, p1, p2, p3, p4, p5, p6, p7, p8, p9, p10, e6, e7, p11, p12, p13, p14, tot⟩ := parts128 a0 a1 b0 b1 n0 n1 (show 0 ≤ rest + h by omega) (by omega)
 obtain ⟨st1, st2, st3, st4⟩ := Gm.step (W := W) (h := h) (rest := rest) (x := bal * rate * n) (by omega) (Int.mul_nonneg (Int.mul_nonneg a0 b0) n0) r0
 have eq1 : ((u + over + carry) * 18446744073709551616 + lo3) / W = Gm.q W h rest (bal * rate * n) := by rw [tot]; rfl
 have eq2 : ((u + over + carry) * 18446744073709551616 + lo3) % W = Gm.r W h rest (bal * rate * n) + h := by rw [tot]; unfold Gm.r; omega
 have hqm : u + over + carry < W → Gm.q W h rest (bal * rate * n) < 18446744073709551616 := by
  intro hh
  rw [← eq1]
  refine Int.ediv_lt_of_lt_mul (by omega) ?_
  omega
 generalize Gm.q W h rest (bal * rate * n) = q at *
 generalize Gm.r W h rest (bal * rate * n) = r at *
 have U := Aside0.mk e5
 have E1 := Aside0.mk e1
 have E2 := Aside0.mk e2
 have E3 := Aside0.mk e3
 have E4 := Aside0.mk e4
 have E6 := Aside0.mk e6
 have E7 := Aside0.mk e7
 have Q1 := Aside0.mk eq1
 have Q2 := Aside0.mk eq2
 have QM := Aside0.mk hqm
 clear e1 e2 e3 e4 e6 e7 eq1 eq2 tot st4 hqm
 have hadd0 := Aside0.mk (fun (s : Int) (hs : rest + h = s) (w : World) => show (callFunc 108 #[.int .u64 lo, .int .u64 s, .int .u64 0]).run Try.prog w = .ok (.value (.tuple #[.int .u64 lo3, .int .u64 carry])) w by rw [add64_run lo s (by omega) (by omega) w, ← hs, E6.out, E7.out])
 by_cases hlt : u + over + carry < W
 ·have hqm := QM.out hlt
  go_enter Try.func97, Try.ntmps97
  go_wp2_with fail
  refine (mul_any a0 (by omega) b0 (by omega) E1.out E2.out _).mono ?_
  rintro e w1 ⟨rfl, ⟨m1, rfl⟩⟩
  go_wp2_with fail
  refine (mul_any p3 p4 n0 (by omega) E3.out E4.out _).mono ?_
  rintro e w1 ⟨rfl, ⟨m2, rfl⟩⟩
  go_wp2_with fail
  obtain ⟨s, hs⟩ : ∃ s, rest + h = s := ⟨_, rfl⟩
  have hi64 : IntKind.i64.wrap (rest + h) = s := by rw [hs]; exact IntWalk.i64_in _ (by omega)
  have hu64 : IntKind.u64.wrap s = s := IntWalk.u64_in _ (by omega)
  have hadd := hadd0.out s hs
  clear hs
  go_quiet (fail)
  clear hi64 hu64 hadd
  have hWu : IntKind.u64.wrap W = W := IntWalk.u64_in _ (by omega)
  go_wp2_with fail
  refine (div_any (by omega) (by omega) (by omega) (by omega) (by omega) Q1.out Q2.out _).mono ?_
  rintro e w1 ⟨rfl, ⟨m3, rfl⟩⟩
  have hq2 : decide (1000000000000000 < q) = true := decide_eq_true (by omega)
  go_wp2_with fail
  exact ⟨rfl, rfl, ⟨_, by first | rfl | (simp only [World.drewN_drewN]; rfl)⟩⟩
 ·go_enter Try.func97, Try.ntmps97
  go_wp2_with fail
  refine (mul_any a0 (by omega) b0 (by omega) E1.out E2.out _).mono ?_
  rintro e w1 ⟨rfl, ⟨m1, rfl⟩⟩
  go_wp2_with fail
  refine (mul_any p3 p4 n0 (by omega) E3.out E4.out _).mono ?_
  rintro e w1 ⟨rfl, ⟨m2, rfl⟩⟩
  go_wp2_with fail
  obtain ⟨s, hs⟩ : ∃ s, rest + h = s := ⟨_, rfl⟩
  have hi64 : IntKind.i64.wrap (rest + h) = s := by rw [hs]; exact IntWalk.i64_in _ (by omega)
  have hu64 : IntKind.u64.wrap s = s := IntWalk.u64_in _ (by omega)
  have hadd := hadd0.out s hs
  clear hs
  go_quiet (fail)
  clear hi64 hu64 hadd
  have hWu : IntKind.u64.wrap W = W := IntWalk.u64_in _ (by omega)
  go_wp2_with fail
  exact ⟨rfl, rfl, ⟨_, by first | rfl | (simp only [World.drewN_drewN]; rfl)⟩⟩
end Go.Proofs.Ytcfpkkgdofblfaa.H
/- Contracts by hand: parts of a year: what is thrown, and caught. -/
namespace Go.Proofs.Ytcfpkkgdofblfaa.Fr
open Go.RowKit Go.Proofs.YtcfpkkgdofblfaaW.PrintWords Go.Proofs.YtcfpkkgdofblfaaW.PrintLast Go.Proofs.YtcfpkkgdofblfaaW.PrintMore
set_option linter.unusedVariables false
set_option linter.unusedSimpArgs false
theorem rest_plain {P : Program} {c : Code} {Q0 : Exit → Act → List Frame → World → Prop} {a : Act} {cs : List Frame} {w : World}
  (h : ∀ Q : Exit → Act → World → Prop, Aside0 (∀ e a' w', Q0 e a' cs w' → Q e a' w') → c.wp P Q a w) : c.wpS P Q0 a cs w :=
 wpS_of_wp (h _ ⟨fun _ _ _ x => x⟩)
structure Res2 (w W : World) (x y : Value) : Prop where
 below : Below w.heap.size w W
 c0 : W.cell? ⟨w.heap.size, 0, none⟩ = some x
 c1 : W.cell? ⟨w.heap.size + 1, 0, none⟩ = some y
 f0 : W.frozen? ⟨w.heap.size, 0, none⟩ = false
 f1 : W.frozen? ⟨w.heap.size + 1, 0, none⟩ = false
 size : w.heap.size + 2 ≤ W.heap.size
theorem Res2.made (w : World) (x y : Value) (t u : TypeId) : Res2 w ((w.alloc (.cells #[x] t)).alloc (.cells #[y] u)) x y := by
 refine ⟨((Below.refl _ _).alloc (Nat.le_refl _) _).alloc (by simp) _, ?_, ?_, ?_, ?_, ?_⟩ <;> simp [go_sem]
theorem Res2.step {w W W' : World} {x y : Value} (h : Res2 w W x y) (hb : Below W.heap.size W W') : Res2 w W' x y := by
 have hs := h.size
 refine ⟨h.below.trans (hb.mono (by omega)), ?_, ?_, ?_, ?_, Nat.le_trans h.size hb.size⟩
 ·rw [hb.cell (by simp; omega)]; exact h.c0
 ·rw [hb.cell (by simp; omega)]; exact h.c1
 ·rw [hb.frozen (by simp; omega)]; exact h.f0
 ·rw [hb.frozen (by simp; omega)]; exact h.f1
theorem Res2.drawn {w W W' : World} {x y : Value} (h : Res2 w W x y) (hb : Drawn0 W W') : Res2 w W' x y := h.step hb.below
theorem Res2.put {w W : World} {x y : Value} (h : Res2 w W x y) (u v : Value) : Below w.heap.size w ((W.setCell ⟨w.heap.size, 0, none⟩ u).setCell ⟨w.heap.size + 1, 0, none⟩ v) :=
 (h.below.setCell (by simp) _).setCell (by simp) _
theorem frac_idle (pv pe : Addr) (w : World) :
  CallsD Try.prog 71 #[.pointer (some pv), .pointer (some pe)] .returning w fun e u' w' => e = .returned (.tuple #[]) ∧ u' = .returning ∧ w' = w := by
 refine callsD_of_wpS Try.func71 rfl fun c₀ cs hu => ?_
 simp only [Try.ntmps71, List.size_toArray, List.length_cons, List.length_nil, Nat.reduceAdd, Nat.reduceSub, Array.replicate_succ, Array.replicate_zero, List.push_toArray, List.append_toArray, List.nil_append, List.cons_append]
 apply wpS_seq
 apply wpS_region
 simp [wpOpsS, go_sem, recoverD, hu, Exit.thenS]
 refine rest_plain fun Q HQ => ?_
 go_wp2
 refine HQ.out _ _ _ ?_
 clear HQ
 simp [bodyPostS, results, Try.results71, hu]
 cases c₀
 simp_all
theorem frac_thrown (pv pe : Addr) (x y : Int) (c : Int) (older : List PanicEntry) (w : World) (hne : pv.block ≠ pe.block) (hx : w.cell? pv = some (.int .i64 x)) (hy : w.cell? pe = some (.int .i64 y)) (fx : w.frozen? pv = false) (fy : w.frozen? pe = false) :
  CallsD Try.prog 71 #[.pointer (some pv), .pointer (some pe)] (.panicking ({ v := .iface 125 (.int .i64 c), recovered := false } :: older)) w fun e u' w' =>
   e = .returned (.tuple #[]) ∧ u' = .panicking ({ v := .iface 125 (.int .i64 c), recovered := true } :: older) ∧ w' = (w.setCell pv (.int .i64 0)).setCell pe (.int .i64 c) := by
 refine callsD_of_wpS Try.func71 rfl fun c₀ cs hu => ?_
 simp only [Try.ntmps71, List.size_toArray, List.length_cons, List.length_nil, Nat.reduceAdd, Nat.reduceSub, Array.replicate_succ, Array.replicate_zero, List.push_toArray, List.append_toArray, List.nil_append, List.cons_append]
 apply wpS_seq
 apply wpS_region
 simp [wpOpsS, go_sem, recoverD, hu, Exit.thenS]
 refine rest_plain fun Q HQ => ?_
 have hta : ∀ w, (Instr.typeAssert (.iface 125 (.int .i64 c)) 20 125 true).run Try.prog w = .ok (.tuple #[.int .i64 c, .bool true]) w := fun _ => by kernel_rfl
 have hy2 : (w.setCell pv (.int .i64 0)).cell? pe = some (.int .i64 y) := by rw [World.cell?_setCell_other]; exact hy; exact fun e => hne (by rw [e])
 go_wp2
 refine HQ.out _ _ _ ?_
 clear HQ
 simp [bodyPostS, results, Try.results71, hu]
def parts (c : Int) : Int × Int := if c = 1 then (360, 0) else if c = 2 then (365, 0) else if c = 3 then (133590, 0) else (0, 1)
theorem year_yes {c v : Int} (h : parts c = (v, 0)) (w : World) : Calls Try.prog 72 #[.int .i64 c] w fun e w' => e = .returned (.int .i64 v) ∧ Drawn0 w w' := by
 unfold parts at h
 by_cases h1 : c = 1
 ·subst h1
  rw [if_pos rfl] at h
  obtain ⟨rfl, _⟩ := Prod.mk.inj h
  clear h
  go_enter Try.func72, Try.ntmps72
  go_wp2
  go_ret
  exact ⟨rfl, Drawn0.refl _⟩
 ·rw [if_neg h1] at h
  by_cases h2 : c = 2
  ·subst h2
   rw [if_pos rfl] at h
   obtain ⟨rfl, _⟩ := Prod.mk.inj h
   clear h h1
   go_enter Try.func72, Try.ntmps72
   go_wp2
   go_ret
   exact ⟨rfl, Drawn0.refl _⟩
  ·rw [if_neg h2] at h
   by_cases h3 : c = 3
   ·subst h3
    rw [if_pos rfl] at h
    obtain ⟨rfl, _⟩ := Prod.mk.inj h
    clear h h1 h2
    go_enter Try.func72, Try.ntmps72
    go_wp2
    go_ret
    exact ⟨rfl, Drawn0.refl _⟩
   ·rw [if_neg h3] at h
    cases h
theorem year_no {c : Int} (h1 : (c == 1) = false) (h2 : (c == 2) = false) (h3 : (c == 3) = false) (w : World) : Calls Try.prog 72 #[.int .i64 c] w fun e w' => e = .panicked [{ v := .iface 125 (.int .i64 1), recovered := false }] ∧ w' = w := by
 go_enter Try.func72, Try.ntmps72
 go_wp2
 exact ⟨rfl, rfl, rfl⟩
theorem Parts_yes {c v : Int} (h : parts c = (v, 0)) (w : World) : Calls Try.prog 95 #[.int .i64 c] w fun e w' => e = .returned (.tuple #[.int .i64 v, .int .i64 0]) ∧ Below w.heap.size w w' := by
 have R0 := Aside0.mk (Res2.made w (.int .i64 0) (.int .i64 0) 2 32)
 have HY := Aside0.mk h
 clear h
 go_enter_defers Try.func95, Try.ntmps95
 go_wp2_with fail
 refine (year_yes HY.out _).mono ?_
 rintro e w1 ⟨rfl, hd⟩
 have R1 := R0.out.drawn hd
 have c0 := R1.c0
 have c1 := R1.c1
 have f0 := R1.f0
 have f1 := R1.f1
 have RR := Aside0.mk R1
 clear hd R1 R0
 go_wp2
 refine leaves_cons (f := 71) (args := #[.pointer (some ⟨w.heap.size, 0, none⟩), .pointer (some ⟨w.heap.size + 1, 0, none⟩)]) (by simp) (by simp [go_sem]) ?_
 refine (frac_idle _ _ _).mono ?_
 rintro e u' w'' ⟨rfl, rfl, rfl⟩
 simp [Leaves, settle, results, Try.results95, go_sem, c0, c1]
 exact RR.out.put _ _
theorem Parts_no {c : Int} (h1 : (c == 1) = false) (h2 : (c == 2) = false) (h3 : (c == 3) = false) (w : World) : Calls Try.prog 95 #[.int .i64 c] w fun e w' => e = .returned (.tuple #[.int .i64 0, .int .i64 1]) ∧ Below w.heap.size w w' := by
 have R0 := Aside0.mk (Res2.made w (.int .i64 0) (.int .i64 0) 2 32)
 go_enter_defers Try.func95, Try.ntmps95
 go_wp2_with fail
 refine (year_no h1 h2 h3 _).mono ?_
 rintro e w1 ⟨rfl, rfl⟩
 refine leaves_cons (f := 71) (args := #[.pointer (some ⟨w.heap.size, 0, none⟩), .pointer (some ⟨w.heap.size + 1, 0, none⟩)]) (by simp) (by simp [go_sem]) ?_
 refine (frac_thrown _ _ 0 0 1 [] _ (by simp) R0.out.c0 R0.out.c1 R0.out.f0 R0.out.f1).mono ?_
 rintro e u' w'' ⟨rfl, rfl, rfl⟩
 have c0 := R0.out.c0
 have c1 := R0.out.c1
 simp [Leaves, settle, results, Try.results95, go_sem, c0, c1]
 first | exact R0.out.put _ _ | exact ((Below.refl _ _).alloc (Nat.le_refl _) _).alloc (by simp) _
theorem parts_cases (c : Int) : (∃ v, parts c = (v, 0) ∧ (c = 1 ∨ c = 2 ∨ c = 3)) ∨ (parts c = (0, 1) ∧ (c == 1) = false ∧ (c == 2) = false ∧ (c == 3) = false) := by
 unfold parts
 by_cases h1 : c = 1
 ·left; exact ⟨360, by simp [h1], Or.inl h1⟩
 by_cases h2 : c = 2
 ·left; exact ⟨365, by simp [h2], Or.inr (Or.inl h2)⟩
 by_cases h3 : c = 3
 ·left; exact ⟨133590, by simp [h3], Or.inr (Or.inr h3)⟩
 ·right; simp [h1, h2, h3]
theorem parts_any (c : Int) (w : World) : Calls Try.prog 95 #[.int .i64 c] w fun e w' => e = .returned (.tuple #[.int .i64 (parts c).1, .int .i64 (parts c).2]) ∧ Below w.heap.size w w' := by
 rcases parts_cases c with ⟨v, hp, _⟩ | ⟨hp, h1, h2, h3⟩
 ·rw [hp]; exact Parts_yes hp w
 ·rw [hp]; exact Parts_no h1 h2 h3 w
end Go.Proofs.Ytcfpkkgdofblfaa.Fr
/- Contracts by hand: growth: a bearer made, its rest, a fork. -/
namespace Go.Proofs.Ytcfpkkgdofblfaa.H
open Go.RowKit Go.Proofs.YtcfpkkgdofblfaaW.PrintWords Go.Proofs.YtcfpkkgdofblfaaW.PrintLast Go.Proofs.YtcfpkkgdofblfaaW.PrintMore Go.Proofs.Ytcfpkkgdofblfaa.HW
set_option linter.unusedVariables false
set_option linter.unusedSimpArgs false
theorem good_new (c r : Int) : Good (Gm.whole c) (Gm.half c r) 0 := by
 obtain ⟨h1, h2, h3⟩ := Gm.whole_bd c
 obtain ⟨h4, h5⟩ := Gm.half_bd c r
 exact ⟨h1, h2, h4, h5, by omega, by omega⟩
def Newly (c r : Int) (w : World) (e : Ending) (w' : World) : Prop := Below w.heap.size w w' ∧ ∃ gb, w.heap.size ≤ gb ∧ e = .returned (.tuple #[.pointer (some ⟨gb, 0, none⟩), .int .i64 0]) ∧ BearAt w' gb (Gm.whole c) (Gm.half c r) 0
theorem bnew_any {c r : Int} (hc : c = 1 ∨ c = 2 ∨ c = 3) (hr : r = 1 ∨ r = 3) (w : World) : Calls Try.prog 75 #[.int .i64 c, .int .i64 r] w (Newly c r w) := by
 obtain ⟨v, hp, hw, v0, v1⟩ : ∃ v, Fr.parts c = (v, 0) ∧ Gm.whole c = 1000000000 * v ∧ 360 ≤ v ∧ v ≤ 133590 := by
  rcases hc with rfl | rfl | rfl <;> exact ⟨_, rfl, rfl, by decide, by decide⟩
 have HP := Aside0.mk (fun w => by have := Fr.parts_any c w; rw [hp] at this; exact this)
 have HW := Aside0.mk hw
 have HH := Aside0.mk (show Gm.half c 1 = 1000000000 * v / 2 by unfold Gm.half; rw [if_pos rfl, hw])
 have HH3 := Aside0.mk (show Gm.half c 3 = 0 from rfl)
 clear hp hc hw
 rcases hr with rfl | rfl
 ·go_enter Try.func75, Try.ntmps75
  go_wp2_with fail
  refine (HP.out _).mono ?_
  rintro e w1 ⟨rfl, hb⟩
  have HB := Aside0.mk hb
  clear hb
  go_wp2_with fail
  go_ret2
  refine ⟨HB.out.alloc HB.out.size _, w1.heap.size, HB.out.size, rfl, ?_⟩
  rw [HW.out, HH.out]
  constructor <;> simp [go_sem]
 ·go_enter Try.func75, Try.ntmps75
  go_wp2_with fail
  refine (HP.out _).mono ?_
  rintro e w1 ⟨rfl, hb⟩
  have HB := Aside0.mk hb
  clear hb
  go_wp2_with fail
  go_ret2
  refine ⟨HB.out.alloc HB.out.size _, w1.heap.size, HB.out.size, rfl, ?_⟩
  rw [HW.out, HH3.out]
  constructor <;> simp [go_sem]
end Go.Proofs.Ytcfpkkgdofblfaa.H
/- Words: all blocks but one are as1 they were; a row of numbers of one's own. -/
namespace Go.Proofs.Ytcfpkkgdofblfaa.H
open Go.RowKit Go.Proofs.YtcfpkkgdofblfaaW.PrintWords Go.Proofs.YtcfpkkgdofblfaaW.PrintLast Go.Proofs.YtcfpkkgdofblfaaW.PrintMore
set_option linter.unusedVariables false
set_option linter.unusedSimpArgs false
structure But (gb : Nat) (w w' : World) : Prop where
 os : w'.os = w.os
 tape : w'.tape = w.tape
 output : w'.output = w.output
 size : w.heap.size ≤ w'.heap.size
 block : ∀ k, k < w.heap.size → k ≠ gb → w'.heap[k]? = w.heap[k]?
theorem But.of {gb : Nat} {w w' : World} (h : Below w.heap.size w w') : But gb w w' := ⟨h.os, h.tape, h.output, h.size, fun k hk _ => h.block k hk⟩
theorem But.below {B gb : Nat} {a w w' : World} (h : Below B a w) (hw : B ≤ w.heap.size) (hg : B ≤ gb) (hb : But gb w w') : Below B a w' :=
 h.trans ⟨hb.os, hb.tape, hb.output, hb.size, fun k hk => hb.block k (by omega) (by omega)⟩
theorem But.setCell {gb : Nat} {a w : World} (h : But gb a w) {p : Addr} (hp : p.block = gb ∨ a.heap.size ≤ p.block) (u : Value) : But gb a (w.setCell p u) :=
 ⟨h.os, h.tape, h.output, by have := h.size; simp [World.setCell]; omega, fun k hk hn => by rw [Below.heap_setCell _ _ _ _ (by omega)]; exact h.block k hk hn⟩
theorem But.cell {gb : Nat} {w w' : World} (h : But gb w w') {p : Addr} (hp : p.block < w.heap.size) (hn : p.block ≠ gb) : w'.cell? p = w.cell? p := World.cell?_of_block (w := w) (h.block p.block hp hn)
theorem But.frozen {gb : Nat} {w w' : World} (h : But gb w w') {p : Addr} (hp : p.block < w.heap.size) (hn : p.block ≠ gb) : w'.frozen? p = w.frozen? p := World.frozen?_of_block (w := w) (h.block p.block hp hn)
def Blk (w : World) (g : Nat) (e : TypeId) (vs : List Value) : Prop := w.heap[g]? = some (.cells vs.toArray e (0, 0))
theorem Blk.lt {w : World} {g : Nat} {e : TypeId} {vs : List Value} (h : Blk w g e vs) : g < w.heap.size := by
 rcases Nat.lt_or_ge g w.heap.size with h1 | h1
 ·exact h1
 ·unfold Blk at h; rw [Array.getElem?_eq_none h1] at h; cases h
theorem Blk.same {w w1 : World} {g : Nat} {e : TypeId} {vs : List Value} (h : Blk w g e vs) (hb : w1.heap[g]? = w.heap[g]?) : Blk w1 g e vs := hb.trans h
theorem Blk.below {w w1 : World} {g : Nat} {e : TypeId} {vs : List Value} (h : Blk w g e vs) (hb : Below w.heap.size w w1) : Blk w1 g e vs := h.same (hb.block g h.lt)
theorem Blk.but {w w1 : World} {g g2 : Nat} {e : TypeId} {vs : List Value} (h : Blk w g e vs) (hb : But g2 w w1) (hn : g ≠ g2) : Blk w1 g e vs := h.same (hb.block g h.lt hn)
theorem Blk.cell {w : World} {g : Nat} {e : TypeId} {vs : List Value} (h : Blk w g e vs) (j : Nat) : w.cell? ⟨g, j, none⟩ = vs[j]? := by
 rw [cell_of_row w g j _ e (0, 0) h]; simp
theorem Blk.frozen {w : World} {g : Nat} {e : TypeId} {vs : List Value} (h : Blk w g e vs) (j : Nat) : w.frozen? ⟨g, j, none⟩ = false := frozen_of_row w g j _ e h
theorem Blk.put {w : World} {g : Nat} {e : TypeId} {vs : List Value} (h : Blk w g e vs) (j : Nat) (u : Value) : Blk (w.setCell ⟨g, j, none⟩ u) g e (vs.set j u) := by
 have h1 := heap_setCell_same w g j _ e u h
 unfold Blk
 rw [h1]
 congr 2
 apply Array.ext'
 simp
theorem Blk.made (w : World) (e : TypeId) (vs : List Value) : Blk (w.alloc (.cells vs.toArray e)) w.heap.size e vs := heap_alloc_new w _
theorem Blk.ofOwn {w : World} {base B n cap : Nat} {e : TypeId} {size : Nat} {xs : List Value} (h : w.ownsRow base e size (.slice (some ⟨B, 0, none⟩) n cap) n xs) : ∃ t : List Value, t.length = (cap - n) * size ∧ Blk w B e (xs ++ t) ∧ n ≤ cap := by
 rcases h.2 with ⟨h, _⟩ | ⟨g', cap', cur, e', _, hh, h1, h2, h3, h4⟩
 ·cases h
 ·injection e' with e1 e2 e3
  injection e1 with e1
  injection e1 with e4
  subst e4
  subst e3
  have ee : cur.toList = xs ++ cur.toList.drop (n * size) := by rw [← h4, List.take_append_drop]
  refine ⟨cur.toList.drop (n * size), by rw [List.length_drop, Array.length_toList, h3, Nat.sub_mul], ?_, h1⟩
  unfold Blk
  rw [← ee, hh]
theorem Blk.reads {w : World} {g : Nat} {e : TypeId} {k : IntKind} {l : List Int} {t : List Value} (h : Blk w g e (nums k l ++ t)) (hm : l.length ≤ 9223372036854775807) : Kd.C (Kd.int k) w (some ⟨g, 0, none⟩) l.length l := by
 refine Kd.C_of_reads (d := (0 : Int)) ⟨rfl, hm, fun _ => ⟨_, rfl, fun j hj => ?_⟩⟩
 have e' : (⟨g, 0, none⟩ : Addr).add j = ⟨g, j, none⟩ := by simp [Addr.add]; try exact fun h => h.symm
 rw [e', h.cell j, List.getElem?_append_left (by rw [nums_length]; exact hj)]
 simp [nums, hj]
end Go.Proofs.Ytcfpkkgdofblfaa.H
/- Contracts by hand: growth: what a balance bears, and the rest then; or why nothing. -/
namespace Go.Proofs.Ytcfpkkgdofblfaa.H
open Go.RowKit Go.Proofs.YtcfpkkgdofblfaaW.PrintWords Go.Proofs.YtcfpkkgdofblfaaW.PrintLast Go.Proofs.YtcfpkkgdofblfaaW.PrintMore Go.Proofs.Ytcfpkkgdofblfaa.HW
set_option linter.unusedVariables false
set_option linter.unusedSimpArgs false
theorem BearAt.but {w w1 : World} {gb g2 : Nat} {W h rest : Int} (H : BearAt w g2 W h rest) (hb : But gb w w1) (hn : g2 ≠ gb) : BearAt w1 g2 W h rest :=
 ⟨by rw [hb.cell (by exact H.lt) (by exact hn)]; exact H.c0, by rw [hb.cell (by exact H.lt) (by exact hn)]; exact H.c1, by rw [hb.cell (by exact H.lt) (by exact hn)]; exact H.c2, by rw [hb.frozen (by exact H.lt) (by exact hn)]; exact H.f2, Nat.lt_of_lt_of_le H.lt hb.size⟩
theorem bcaught_idle (pv pe : Addr) (w : World) :
  CallsD Try.prog 96 #[.pointer (some pv), .pointer (some pe)] .returning w fun e u' w' => e = .returned (.tuple #[]) ∧ u' = .returning ∧ w' = w := by
 refine callsD_of_wpS Try.func96 rfl fun c₀ cs hu => ?_
 simp only [Try.ntmps96, List.size_toArray, List.length_cons, List.length_nil, Nat.reduceAdd, Nat.reduceSub, Array.replicate_succ, Array.replicate_zero, List.push_toArray, List.append_toArray, List.nil_append, List.cons_append]
 apply wpS_seq
 apply wpS_region
 simp [wpOpsS, go_sem, recoverD, hu, Exit.thenS]
 refine rest_plain fun Q HQ => ?_
 go_wp2
 refine HQ.out _ _ _ ?_
 clear HQ
 simp [bodyPostS, results, Try.results96, hu]
 cases c₀
 simp_all
theorem bcaught_thrown (pv pe : Addr) (x y : Int) (c : Int) (older : List PanicEntry) (w : World) (hne : pv.block ≠ pe.block) (hx : w.cell? pv = some (.int .i64 x)) (hy : w.cell? pe = some (.int .i64 y)) (fx : w.frozen? pv = false) (fy : w.frozen? pe = false) :
  CallsD Try.prog 96 #[.pointer (some pv), .pointer (some pe)] (.panicking ({ v := .iface 129 (.int .i64 c), recovered := false } :: older)) w fun e u' w' =>
   e = .returned (.tuple #[]) ∧ u' = .panicking ({ v := .iface 129 (.int .i64 c), recovered := true } :: older) ∧ w' = (w.setCell pv (.int .i64 0)).setCell pe (.int .i64 c) := by
 refine callsD_of_wpS Try.func96 rfl fun c₀ cs hu => ?_
 simp only [Try.ntmps96, List.size_toArray, List.length_cons, List.length_nil, Nat.reduceAdd, Nat.reduceSub, Array.replicate_succ, Array.replicate_zero, List.push_toArray, List.append_toArray, List.nil_append, List.cons_append]
 apply wpS_seq
 apply wpS_region
 simp [wpOpsS, go_sem, recoverD, hu, Exit.thenS]
 refine rest_plain fun Q HQ => ?_
 have hta : ∀ w, (Instr.typeAssert (.iface 129 (.int .i64 c)) 20 129 true).run Try.prog w = .ok (.tuple #[.int .i64 c, .bool true]) w := fun _ => by kernel_rfl
 have hy2 : (w.setCell pv (.int .i64 0)).cell? pe = some (.int .i64 y) := by rw [World.cell?_setCell_other]; exact hy; exact fun e => hne (by rw [e])
 go_wp2
 refine HQ.out _ _ _ ?_
 clear HQ
 simp [bodyPostS, results, Try.results96, hu]
theorem bear_arg {gb : Nat} {bal rate n : Int} (hm : ¬ Gm.may bal rate n) (w : World) : Calls Try.prog 76 #[.pointer (some ⟨gb, 0, none⟩), .int .i64 bal, .int .i64 rate, .int .i64 n] w fun e w' => e = .returned (.tuple #[.int .i64 0, .int .i64 1]) ∧ Below w.heap.size w w' := by
 have R0 := Aside0.mk (Fr.Res2.made w (.int .i64 0) (.int .i64 0) 2 32)
 have hno : bal < 0 ∨ (0 ≤ bal ∧ 1000000000000000 < bal) ∨ (0 ≤ bal ∧ bal ≤ 1000000000000000 ∧ rate < 0) ∨ (0 ≤ bal ∧ bal ≤ 1000000000000000 ∧ 0 ≤ rate ∧ 1000000000 < rate) ∨ (0 ≤ bal ∧ bal ≤ 1000000000000000 ∧ 0 ≤ rate ∧ rate ≤ 1000000000 ∧ n < 0) ∨ (0 ≤ bal ∧ bal ≤ 1000000000000000 ∧ 0 ≤ rate ∧ rate ≤ 1000000000 ∧ 0 ≤ n ∧ 53436000 < n) := by
  unfold Gm.may at hm
  omega
 clear hm
 rcases hno with h1 | ⟨h1, h2⟩ | ⟨h1, h2, h3⟩ | ⟨h1, h2, h3, h4⟩ | ⟨h1, h2, h3, h4, h5⟩ | ⟨h1, h2, h3, h4, h5, h6⟩
 all_goals
  go_enter_defers Try.func76, Try.ntmps76
  go_wp2_with fail
  refine leaves_cons (f := 96) (args := #[.pointer (some ⟨w.heap.size, 0, none⟩), .pointer (some ⟨w.heap.size + 1, 0, none⟩)]) (by simp) (by simp [go_sem]) ?_
  refine (bcaught_thrown _ _ 0 0 1 [] _ (by simp) R0.out.c0 R0.out.c1 R0.out.f0 R0.out.f1).mono ?_
  rintro e u' w'' ⟨rfl, rfl, rfl⟩
  have c0 := R0.out.c0
  have c1 := R0.out.c1
  simp [Leaves, settle, results, Try.results76, go_sem, c0, c1]
  first | exact R0.out.put _ _ | exact ((Below.refl _ _).alloc (Nat.le_refl _) _).alloc (by simp) _
def Bore (gb : Nat) (W h : Int) (x : Int × Int × Int) (w : World) (e : Ending) (w' : World) : Prop :=
 e = .returned (.tuple #[.int .i64 x.1, .int .i64 x.2.1]) ∧ BearAt w' gb W h x.2.2 ∧ But gb w w'
set_option maxHeartbeats 1000000 in
theorem bear_yes {gb : Nat} {W h rest bal rate n : Int} {w : World} (A : BearAt w gb W h rest) (G : Good W h rest) (hm : Gm.may bal rate n) (hq : Gm.q W h rest (bal * rate * n) ≤ 1000000000000000) :
  Calls Try.prog 76 #[.pointer (some ⟨gb, 0, none⟩), .int .i64 bal, .int .i64 rate, .int .i64 n] w (Bore gb W h (Gm.q W h rest (bal * rate * n), 0, Gm.r W h rest (bal * rate * n)) w) := by
 have R0 := Aside0.mk (Fr.Res2.made w (.int .i64 0) (.int .i64 0) 2 32)
 have HB := Aside0.mk (fun (w1 : World) (A1 : BearAt w1 gb W h rest) => borne_yes A1 G hm hq)
 have lt := A.lt
 have hne : ¬ gb = w.heap.size := by omega
 have hne1 : ¬ gb = w.heap.size + 1 := by omega
 obtain ⟨a0, a1, b0, b1, n0, n1⟩ := hm
 have u1 : IntKind.u64.wrap bal = bal := IntWalk.u64_in _ (by omega)
 have u2 : IntKind.u64.wrap rate = rate := IntWalk.u64_in _ (by omega)
 have u3 : IntKind.u64.wrap n = n := IntWalk.u64_in _ (by omega)
 have AA := Aside0.mk A
 clear hq G A
 generalize Gm.q W h rest (bal * rate * n) = q at *
 generalize Gm.r W h rest (bal * rate * n) = r at *
 go_enter_defers Try.func76, Try.ntmps76
 go_wp2_with fail
 refine (HB.out _ (AA.out.below R0.out.below)).mono ?_
 rintro e w1 ⟨rfl, hd⟩
 have R1 := R0.out.drawn hd
 have A1 := (AA.out.below R0.out.below).below hd.below
 have BU := Aside0.mk (But.of (gb := gb) R1.below)
 have c0 := R1.c0
 have c1 := R1.c1
 have f0 := R1.f0
 have f1 := R1.f1
 have g2 := A1.c2
 have gf := A1.f2
 have RR := Aside0.mk R1
 have AB := Aside0.mk A1
 clear hd R0 R1 A1
 go_wp2
 refine leaves_cons (f := 96) (args := #[.pointer (some ⟨w.heap.size, 0, none⟩), .pointer (some ⟨w.heap.size + 1, 0, none⟩)]) (by simp) (by simp [go_sem]) ?_
 refine (bcaught_idle _ _ _).mono ?_
 rintro e u' w'' ⟨rfl, rfl, rfl⟩
 simp [Leaves, settle, results, Try.results76, go_sem, c0, c1]
 obtain ⟨k0, k1, k2, k3, k4⟩ := AB.out
 refine ⟨rfl, ⟨?_, ?_, ?_, ?_, ?_⟩, (((BU.out.setCell (Or.inr (Nat.le_refl _)) _).setCell (Or.inl rfl) _).setCell (Or.inr (Nat.le_refl _)) _).setCell (Or.inr (by simp)) _⟩
 ·rw [World.cell?_setCell_other _ _ _ _ (by first | (simp; done) | (simp; omega)), World.cell?_setCell_other _ _ _ _ (by first | (simp; done) | (simp; omega)), World.cell?_setCell_other _ _ _ _ (by simp), World.cell?_setCell_other _ _ _ _ (by first | (simp; done) | (simp; omega))]; exact k0
 ·rw [World.cell?_setCell_other _ _ _ _ (by first | (simp; done) | (simp; omega)), World.cell?_setCell_other _ _ _ _ (by first | (simp; done) | (simp; omega)), World.cell?_setCell_other _ _ _ _ (by simp), World.cell?_setCell_other _ _ _ _ (by first | (simp; done) | (simp; omega))]; exact k1
 ·rw [World.cell?_setCell_other _ _ _ _ (by first | (simp; done) | (simp; omega)), World.cell?_setCell_other _ _ _ _ (by first | (simp; done) | (simp; omega))]
  have k2' : (w1.setCell ⟨w.heap.size, 0, none⟩ (.int .i64 q)).cell? ⟨gb, 2, none⟩ = some (.int .i64 rest) := by rw [World.cell?_setCell_other _ _ _ _ (by first | (simp; done) | (simp; omega))]; exact k2
  simp [World.cell?_setCell_same, k2']
 ·simp [go_sem, k3]
 ·simp [go_sem]; exact k4
theorem bear_range {gb : Nat} {W h rest bal rate n : Int} {w : World} (A : BearAt w gb W h rest) (G : Good W h rest) (hm : Gm.may bal rate n) (hq : 1000000000000000 < Gm.q W h rest (bal * rate * n)) :
  Calls Try.prog 76 #[.pointer (some ⟨gb, 0, none⟩), .int .i64 bal, .int .i64 rate, .int .i64 n] w fun e w' => e = .returned (.tuple #[.int .i64 0, .int .i64 3]) ∧ Below w.heap.size w w' := by
 have R0 := Aside0.mk (Fr.Res2.made w (.int .i64 0) (.int .i64 0) 2 32)
 have HB := Aside0.mk (fun (w1 : World) (A1 : BearAt w1 gb W h rest) => borne_no A1 G hm hq)
 have lt := A.lt
 have hne : ¬ gb = w.heap.size := by omega
 have hne1 : ¬ gb = w.heap.size + 1 := by omega
 obtain ⟨a0, a1, b0, b1, n0, n1⟩ := hm
 have u1 : IntKind.u64.wrap bal = bal := IntWalk.u64_in _ (by omega)
 have u2 : IntKind.u64.wrap rate = rate := IntWalk.u64_in _ (by omega)
 have u3 : IntKind.u64.wrap n = n := IntWalk.u64_in _ (by omega)
 have AA := Aside0.mk A
 clear hq G A
 go_enter_defers Try.func76, Try.ntmps76
 go_wp2_with fail
 refine (HB.out _ (AA.out.below R0.out.below)).mono ?_
 rintro e w1 ⟨rfl, hd⟩
 have R1 := Aside0.mk (R0.out.drawn hd)
 clear hd R0
 refine leaves_cons (f := 96) (args := #[.pointer (some ⟨w.heap.size, 0, none⟩), .pointer (some ⟨w.heap.size + 1, 0, none⟩)]) (by simp) (by simp [go_sem]) ?_
 refine (bcaught_thrown _ _ 0 0 3 [] _ (by simp) R1.out.c0 R1.out.c1 R1.out.f0 R1.out.f1).mono ?_
 rintro e u' w'' ⟨rfl, rfl, rfl⟩
 have c0 := R1.out.c0
 have c1 := R1.out.c1
 simp [Leaves, settle, results, Try.results76, go_sem, c0, c1]
 exact R1.out.put _ _
theorem bear_any {gb : Nat} {W h rest bal rate n : Int} {w : World} (A : BearAt w gb W h rest) (G : Good W h rest) :
  Calls Try.prog 76 #[.pointer (some ⟨gb, 0, none⟩), .int .i64 bal, .int .i64 rate, .int .i64 n] w (Bore gb W h (Gm.bear W h rest bal rate n) w) := by
 unfold Gm.bear
 by_cases hm : Gm.may bal rate n
 ·rw [if_pos hm]
  by_cases hq : Gm.q W h rest (bal * rate * n) ≤ 1000000000000000
  ·rw [if_pos hq]; exact bear_yes A G hm hq
  ·rw [if_neg hq]
   exact (bear_range A G hm (by omega)).mono fun e w' ⟨h1, h2⟩ => ⟨h1, A.below h2, But.of h2⟩
 ·rw [if_neg hm]
  exact (bear_arg hm w).mono fun e w' ⟨h1, h2⟩ => ⟨h1, A.below h2, But.of h2⟩
theorem good_bear {W h rest bal rate n : Int} (G : Good W h rest) : Good W h (Gm.bear W h rest bal rate n).2.2 := by
 unfold Gm.bear
 by_cases hm : Gm.may bal rate n
 ·rw [if_pos hm]
  obtain ⟨a0, a1, b0, b1, n0, n1⟩ := hm
  split
  ·exact G.next (Int.mul_nonneg (Int.mul_nonneg a0 b0) n0)
  ·exact G
 ·rw [if_neg hm]; exact G
end Go.Proofs.Ytcfpkkgdofblfaa.H
/- Contracts by hand: the document's digits: so many times, so many more. -/
namespace Go.Proofs.Ytcfpkkgdofblfaa.H
open Go.RowKit Go.Proofs.YtcfpkkgdofblfaaW.PrintWords Go.Proofs.YtcfpkkgdofblfaaW.PrintLast Go.Proofs.YtcfpkkgdofblfaaW.PrintMore Go.Proofs.Ytcfpkkgdofblfaa.HW
set_option linter.unusedVariables false
set_option linter.unusedSimpArgs false
theorem w64' {x : Int} (h1 : -9223372036854775808 ≤ x) (h2 : x ≤ 9223372036854775807) : wrap64 x = x := by unfold wrap64; omega
theorem rd_nat' (l : List Int) (k : Nat) (h : k < l.length) : rd l (k : Int) = l[k] := by simp [rd, h]
def Digits (w : World) (r : List Int) (e : Ending) (w' : World) : Prop := ∃ A c, e = .returned (.slice A r.length c) ∧ Kd.C (Kd.int .i64) w' A r.length r ∧ r.length ≤ c ∧ (A = none → c = 0) ∧ Below w.heap.size w w'
theorem digits_of_own {w w1 : World} {v : Value} {r : List Int} (h : w1.ownsRow w.heap.size 2 1 v r.length (nums .i64 r)) (hb : Below w.heap.size w w1) : ∃ A c, v = .slice A r.length c ∧ Kd.C (Kd.int .i64) w1 A r.length r ∧ r.length ≤ c ∧ (A = none → c = 0) := by
 have h' : w1.ownsRow w.heap.size 2 1 v r.length (encs (Value.int .i64) r) := h
 obtain ⟨A, c, rfl, hle, hr⟩ := own_reads_of_le (d := (0 : Int)) h'
 refine ⟨A, c, rfl, Kd.C_of_reads hr, hle, fun hA => ?_⟩
 subst hA
 rcases h.2 with ⟨e, _⟩ | ⟨g, cap, cur, e, _⟩
 ·injection e
 ·injection e with e1 e2
  cases e1
theorem times_l1 (k : Nat) (acc : List Int) (c : Int) (c0 : 0 ≤ c) (c1 : c < 1000000000) (ha : acc.length ≤ 1000000) : PRB.quittanceref12_times.l1 (k + 2) acc c = some (acc ++ (if 0 < c then [c] else [])) := by
 simp only [PRB.quittanceref12_times.l1]
 by_cases h : 0 < c
 ·rw [if_pos h, if_pos (by omega), if_pos h, Int.tmod_eq_emod_of_nonneg c0, Int.emod_eq_of_lt c0 c1, Int.tdiv_eq_ediv_of_nonneg c0, Int.ediv_eq_zero_of_lt c0 c1, w64' (by omega) (by omega), if_neg (by decide)]
 ·rw [if_neg h, if_neg h, List.append_nil]
theorem times_l0 (l : List Int) (hd : Dg.Dig l) (hl : l.length ≤ 100000) (n : Int) (n0 : 0 ≤ n) (n1 : n ≤ 1000000000) (d : Nat) : ∀ (k i : Nat) (acc : List Int) (c : Int), l.length - i = d → i ≤ l.length → d + 2 < k → acc.length ≤ 100000 + i → 0 ≤ c → c < 1000000000 →
  PRB.quittanceref12_times.l0 k l n acc c (i : Int) = some (acc ++ Dg.tms n c (l.drop i)) := by
 induction d with
 | zero =>
  intro k i acc c h1 h2 h3 h4 c0 c1
  obtain ⟨k, rfl⟩ : ∃ m, k = m + 1 := ⟨k - 1, by omega⟩
  simp only [PRB.quittanceref12_times.l0]
  rw [if_neg (by omega), List.drop_eq_nil_of_le (by omega)]
  obtain ⟨k, rfl⟩ : ∃ m, k = m + 2 := ⟨k - 2, by omega⟩
  exact times_l1 k acc c c0 c1 (by omega)
 | succ d ih =>
  intro k i acc c h1 h2 h3 h4 c0 c1
  obtain ⟨k, rfl⟩ : ∃ m, k = m + 1 := ⟨k - 1, by omega⟩
  have hi : i < l.length := by omega
  have hx := hd _ (List.getElem_mem hi)
  simp only [PRB.quittanceref12_times.l0]
  rw [if_pos (by omega), if_pos (by omega), if_pos (by omega), rd_nat' l i hi]
  obtain ⟨s1, s2, s3, s4, s5⟩ := Dg.step_bd hx.1 hx.2 n0 n1 c0 c1
  rw [w64' (x := l[i] * n) (by omega) (by omega), w64' (x := l[i] * n + c) (by omega) (by omega), Int.tmod_eq_emod_of_nonneg s3, Int.tdiv_eq_ediv_of_nonneg s3, w64' (x := (l[i] * n + c) / 1000000000) (by omega) (by omega), w64' (x := (i : Int) + 1) (by omega) (by omega), show (i : Int) + 1 = ((i + 1 : Nat) : Int) by omega]
  rw [ih k (i + 1) _ _ (by omega) (by omega) (by omega) (by simp; omega) (by omega) s5, List.drop_eq_getElem_cons hi]
  simp only [Dg.tms, List.append_assoc, List.cons_append, List.nil_append]
theorem times_any {A0 : Option Addr} {c0 : Nat} {l : List Int} {n : Int} {w : World} (hr0 : Kd.C (Kd.int .i64) w A0 l.length l) (hc0 : l.length ≤ c0) (hd : Dg.Dig l) (hl : l.length ≤ 1000) (n0 : 0 ≤ n) (n1 : n ≤ 1000000000) :
  Calls Try.prog 99 #[.slice A0 l.length c0, .int .i64 n] w (Digits w (Dg.tms n 0 l)) := by
 refine (PRB.quittanceref12_times.calls 2000 A0 c0 l n (Dg.tms n 0 l) w hr0 hc0 ?_).mono ?_
 ·have := times_l0 l hd (by omega) n n0 n1 l.length 2000 0 [] 0 (by omega) (by omega) (by omega) (by simp) (by omega) (by omega)
  simpa [PRB.quittanceref12_times.f] using this
 ·rintro e w' ⟨v, rfl, hR, hb⟩
  have ho : w'.ownsRow w.heap.size 2 1 v (Dg.tms n 0 l).length (nums .i64 (Dg.tms n 0 l)) := Kd.own_of_R hR
  obtain ⟨A, c, rfl, h1, h2, h3⟩ := digits_of_own ho hb
  exact ⟨A, c, rfl, h1, h2, h3, hb⟩
theorem info_i64 : (Try.prog.info? 2).map (fun i => (i.zero, i.size, i.bytes)) = some (some (.int .i64 0), 1, 8) := by kernel_rfl
theorem nums_get' (l : List Int) (j : Nat) (u : Value) (h : (nums .i64 l)[j]? = some u) : j < l.length ∧ u = .int .i64 (rd l (j : Int)) := by
 have hj : j < l.length := by
  rcases Nat.lt_or_ge j l.length with h' | h'
  ·exact h'
  ·rw [List.getElem?_eq_none (by rw [nums_length]; exact h')] at h; cases h
 refine ⟨hj, ?_⟩
 rw [rd_nat' l j hj]
 simp [nums, hj] at h
 exact h.symm
theorem news_of' {w w1 : World} {ad : Addr} {l : List Int} (hr : Kd.C (Kd.int .i64) w (some ad) l.length l) (hb : Below w.heap.size w w1) : ∀ j u, (nums .i64 l)[j]? = some u → w1.cell? (ad.add j) = some u := by
 intro j u hu
 obtain ⟨hj, rfl⟩ := nums_get' l j u hu
 obtain ⟨ad', e', hc⟩ := Kd.at_int (Kd.C_below hr hb) (j : Int) (by omega) (by omega)
 obtain rfl := Option.some.inj e'
 rw [Int.toNat_natCast] at hc
 exact hc
theorem all_one (l : List Int) : ∀ u ∈ nums .i64 l, u.oneCell' = true := by
 intro u hu
 simp [nums] at hu
 obtain ⟨a, _, rfl⟩ := hu
 rfl
theorem new_one' (w : World) (x : Int) (e : TypeId) : ∀ j u, [Value.int .i64 x][j]? = some u → (w.alloc (.cells #[.int .i64 x] e)).cell? ((⟨w.heap.size, 0, none⟩ : Addr).add j) = some u := by
 intro j u hu
 have hj : j < 1 := by
  rcases Nat.lt_or_ge j 1 with h | h
  ·exact h
  ·rw [List.getElem?_eq_none (by simpa using h)] at hu; cases hu
 obtain rfl : j = 0 := by omega
 simp at hu
 subst hu
 simp [go_sem, Addr.add]
theorem own_form' {w : World} {base n : Nat} {e : TypeId} {v : Value} {xs : List Value} (h : w.ownsRow base e 1 v n xs) (hn : 0 < n) : ∃ g cap, v = .slice (some ⟨g, 0, none⟩) n cap ∧ base ≤ g ∧ n ≤ cap := by
 rcases h.2 with ⟨_, e0⟩ | ⟨g, cap, cur, e', hb, _, h1, _⟩
 ·omega
 ·exact ⟨g, cap, e', hb, h1⟩
structure Mid (w W : World) (v : Value) (done todo : List Int) (k : Nat) : Prop where
 len : done.length = k
 own : W.ownsRow w.heap.size 2 1 v (done ++ todo).length (nums .i64 (done ++ todo))
 below : Below w.heap.size w W
theorem Mid.slice {w W : World} {v : Value} {done todo : List Int} {k : Nat} (h : Mid w W v done todo k) : ∃ A c, v = .slice A (done ++ todo).length c ∧ (done ++ todo).length ≤ c ∧ (A = none → c = 0) := by
 obtain ⟨A, c, h1, _, h3, h4⟩ := digits_of_own h.own h.below
 exact ⟨A, c, h1, h3, h4⟩
theorem Mid.set {w W : World} {g cap : Nat} {done todo : List Int} {d x : Int} {k : Nat} (h : Mid w W (.slice (some ⟨g, 0, none⟩) (done ++ d :: todo).length cap) done (d :: todo) k) (hg : w.heap.size ≤ g) : Mid w (W.setCell ⟨g, k, none⟩ (.int .i64 x)) (.slice (some ⟨g, 0, none⟩) (done ++ d :: todo).length cap) (done ++ [x]) todo (k + 1) := by
 have hl := h.len
 refine ⟨by simp [hl], ?_, h.below.setCell (by exact hg) _⟩
 have h1 := (World.ownsRow.stored h.own k (.int .i64 x)).1
 have e : (nums .i64 (done ++ d :: todo)).set k (.int .i64 x) = nums .i64 ((done ++ [x]) ++ todo) := by
  simp only [nums, List.map_append, List.map_cons, List.append_assoc, List.cons_append, List.nil_append]
  rw [List.set_append_right _ _ (by simp [hl])]
  simp [hl]
 rw [e] at h1
 have e2 : ((done ++ [x]) ++ todo).length = (done ++ d :: todo).length := by simp
 rw [e2]
 exact h1
theorem Mid.cell {w W : World} {g cap : Nat} {done todo : List Int} {d : Int} {k : Nat} (h : Mid w W (.slice (some ⟨g, 0, none⟩) (done ++ d :: todo).length cap) done (d :: todo) k) : W.cell? ⟨g, k, none⟩ = some (.int .i64 d) ∧ W.frozen? ⟨g, k, none⟩ = false := by
 refine ⟨?_, World.ownsRow.frozenAt h.own k⟩
 rw [World.ownsRow.cellAt h.own k (by have := h.len; simp; omega)]
 simp [nums, List.getElem?_append_right, h.len]
theorem Mid.more {w W w1 : World} {v v' : Value} {done : List Int} {k : Nat} (h : Mid w W v done [] k) (hown : w1.ownsRow w.heap.size 2 1 v' ((done ++ []).length + 1) (nums .i64 (done ++ []) ++ [.int .i64 0])) (hg : (W.alloc (.cells #[.int .i64 0] 2)).grownBy w1 v.ownBlock) : Mid w w1 v' done [0] k :=
 ⟨h.len, by simpa [nums] using hown, (h.below.alloc h.below.size _).grown hg (by have := h.below.size; simp; omega) (own_base h.own)⟩
def dgs (x : Int) : Nat := if x ≤ 0 then 0 else if x < 1000000000 then 1 else 2
theorem pls_nil {x : Int} (h : 0 < x) (h1 : x ≤ 1000000000000000) : Dg.pls x [] = x % 1000000000 :: Dg.pls (x / 1000000000) [] ∧ dgs (x / 1000000000) + 1 ≤ dgs x := by
 refine ⟨?_, ?_⟩
 ·simp only [Dg.pls]
  rw [if_pos h]
  by_cases h2 : 0 < x / 1000000000
  ·rw [if_pos h2, if_pos h2, if_neg (show ¬ 0 < x / 1000000000 / 1000000000 by omega), Int.emod_eq_of_lt (a := x / 1000000000) (b := 1000000000) (by omega) (by omega)]
  ·rw [if_neg h2, if_neg h2]
 ·unfold dgs
  rw [if_neg (show ¬ x ≤ 0 by omega)]
  by_cases h2 : x < 1000000000
  ·rw [if_pos h2, if_pos (show x / 1000000000 ≤ 0 by omega)]; decide
  ·rw [if_neg h2, if_neg (show ¬ x / 1000000000 ≤ 0 by omega), if_pos (by omega)]; decide
theorem dgs_cons {x d : Int} (h : 0 < x) (h1 : x ≤ 1000000000000000) (d0 : 0 ≤ d) (d1 : d < 1000000000) : dgs ((x + d) / 1000000000) ≤ dgs x ∧ 1 ≤ dgs x := by
 unfold dgs
 rw [if_neg (show ¬ x ≤ 0 by omega)]
 by_cases h2 : x < 1000000000
 ·rw [if_pos h2]
  by_cases h3 : (x + d) / 1000000000 ≤ 0
  ·rw [if_pos h3]; decide
  ·rw [if_neg h3, if_pos (by omega)]; decide
 ·rw [if_neg h2]
  by_cases h3 : (x + d) / 1000000000 ≤ 0
  ·rw [if_pos h3]; decide
  ·rw [if_neg h3]; split <;> decide
set_option maxHeartbeats 2000000 in
set_option maxRecDepth 100000 in
theorem plus_any {A0 : Option Addr} {c0 : Nat} {l : List Int} {v : Int} {w : World} (hr0 : Kd.C (Kd.int .i64) w A0 l.length l) (hc0 : l.length ≤ c0) (hn0 : A0 = none → c0 = 0) (hd : Dg.Dig l) (hl : l.length ≤ 1000) (v0 : 0 ≤ v) (v1 : v ≤ 1000000000000000) :
  Calls Try.prog 100 #[.slice A0 l.length c0, .int .i64 v] w (Digits w (Dg.pls v l)) := by
 have HD := Aside0.mk hd
 obtain ⟨i0, hi, hz0, hz1, hz2⟩ := info_parts info_i64
 obtain ⟨r, hr⟩ : ∃ r, Dg.pls v l = r := ⟨_, rfl⟩
 have HR := Aside0.mk hr
 rw [hr]
 clear hr hd
 cases A0 with
 | none =>
  obtain rfl := hn0 rfl
  obtain rfl : l = [] := List.eq_nil_of_length_eq_zero (by omega)
  have M0 := Aside0.mk (show Mid w w (.slice none 0 0) [] [] 0 from ⟨rfl, ⟨rfl, Or.inl ⟨rfl, rfl⟩⟩, Below.refl _ _⟩)
  clear hr0 hn0
  go_enter Try.func100, Try.ntmps100
  go_wp2_with fail
  go_loopg [1, 5, 6] 3 (fun gq vv sv iv w' => ∃ (done todo : List Int) (x : Int) (k : Nat), vv = .int .i64 x ∧ iv = .int .i64 (k : Int) ∧ 0 ≤ x ∧ x ≤ 1000000000000000 ∧ k + gq ≤ 1010 ∧ Aside0 (todo.length + dgs x ≤ gq) ∧ Aside0 (Dg.Dig todo) ∧ Aside0 (Mid w w' sv done todo k) ∧ Aside0 (done ++ Dg.pls x todo = r))
  case atStart => exact ⟨[], [], v, 0, rfl, rfl, v0, v1, by omega, ⟨by have : dgs v ≤ 2 := (by unfold dgs; split; decide; split <;> decide); simp; omega⟩, HD, M0, ⟨HR.out⟩⟩
  case round =>
   obtain ⟨done, todo, x, k, rfl, rfl, x0, x1, hk, hg, hD, hM, hq⟩ := hrel
   obtain ⟨A, c, rfl, hle, hA⟩ := hM.out.slice
   have HA := Aside0.mk hA
   clear hA
   by_cases hx : 0 < x
   ·cases todo with
    | nil =>
     obtain ⟨p1, p2⟩ := pls_nil hx x1
     have HQ := Aside0.mk (show (done ++ [x % 1000000000]) ++ Dg.pls (x / 1000000000) [] = r by rw [← hq.out, p1]; simp)
     have HG := Aside0.mk p2
     clear p1 p2 hq
     have hlen : (done ++ []).length = k := by have := hM.out.len; simp; exact this
     rw [hlen] at hle ⊢
     have M1 := Aside0.mk (show Mid w wr (.slice A k c) done [] k by have := hM.out; rw [hlen] at this; exact this)
     have HO := Aside0.mk (show wr.ownsRow w.heap.size 2 1 (.slice A k c) k (nums .i64 (done ++ [])) by have := M1.out.own; rw [hlen] at this; exact this)
     have HLEN := Aside0.mk hlen
     clear hM hlen
     go_wp2_with ((at_builtin; refine wpList_append_own _ rfl _ _ 35 rfl w.heap.size 2 i0 (.int .i64 0) 1 8 Try.underlying35 hi hz0 hz1 hz2 rfl (by decide) _ _ _ rfl (HO.out.alloc _) ⟨wr.heap.size, 0, none⟩ 1 1 [.int .i64 0] rfl rfl (new_one' wr 0 2) (all_one [0]) (by unfold maxLen; omega) (by omega) (by have := M1.out.below.size; simp; omega) ?_); intro v' w1 hown1 hgrow _; have M2 := Mid.more (v := .slice A k c) M1.out (by rw [HLEN.out]; exact hown1) hgrow; obtain ⟨g, cap, rfl, hgb, hcap⟩ := own_form' M2.own (by simp); have hN : (done ++ [(0 : Int)]).length = k + 1 := (by have := M1.out.len; simp; exact this); obtain ⟨hc1, hc2⟩ := M2.cell; have M3 := Aside0.mk (M2.set (x := x % 1000000000) hgb); clear hown1 hgrow M2 M1 HO; rw [hN]; obtain ⟨N, hN1⟩ : ∃ N, k + 1 = N := ⟨_, rfl⟩; rw [hN1]; have hkN : k < N := (by omega); have HN2 := Aside0.mk (hN.trans hN1); clear hN hN1)
     go_roundg (gk - 1)
     case measure => have := hg.out; have := HG.out; omega
     case rel => exact ⟨done ++ [x % 1000000000], [], x / 1000000000, k + 1, rfl, by simp, by omega, by omega, by have := hg.out; have := HG.out; omega, ⟨by have := hg.out; have := HG.out; simp at *; omega⟩, ⟨Dg.Dig.nil⟩, ⟨by have := M3.out; rw [HN2.out] at this; exact this⟩, HQ⟩
    | cons d ds =>
     obtain ⟨d0, d1⟩ := hD.out.head
     obtain ⟨p1, p2⟩ := dgs_cons hx x1 d0 d1
     have HQ := Aside0.mk (show (done ++ [(x + d) % 1000000000]) ++ Dg.pls ((x + d) / 1000000000) ds = r by rw [← hq.out]; simp only [Dg.pls]; rw [if_pos hx]; simp)
     have HG := Aside0.mk (And.intro p1 p2)
     clear p1 p2 hq
     obtain ⟨g, cap, e, hgb, hcap⟩ := own_form' hM.out.own (by simp; omega)
     injection e with e1 e2 e3
     subst e1 e3
     obtain ⟨hc1, hc2⟩ := hM.out.cell
     have M3 := Aside0.mk (hM.out.set (x := (x + d) % 1000000000) hgb)
     obtain ⟨N, hN⟩ : ∃ N, (done ++ d :: ds).length = N := ⟨_, rfl⟩
     have hkN : k < N := by rw [← hN]; have := hM.out.len; simp; omega
     rw [hN]
     have HN2 := Aside0.mk hN
     have hkne : ¬ k = N := by omega
     clear hN hM
     go_wp2_with fail
     go_roundg (gk - 1)
     case measure => have := hg.out; simp at this; omega
     case rel => exact ⟨done ++ [(x + d) % 1000000000], ds, (x + d) / 1000000000, k + 1, rfl, by simp, by omega, by omega, by have := hg.out; simp at this; omega, ⟨by have := hg.out; have := HG.out; simp at *; omega⟩, ⟨hD.out.tail⟩, ⟨by have := M3.out; rw [HN2.out] at this; exact this⟩, HQ⟩
   ·obtain rfl : x = 0 := by omega
    have HQ := Aside0.mk (show done ++ todo = r by rw [← hq.out, Dg.pls_zero])
    have HF := Aside0.mk (digits_of_own hM.out.own hM.out.below)
    have HBB := Aside0.mk hM.out.below
    obtain rfl := HQ.out
    obtain ⟨N, hN⟩ : ∃ N, (done ++ todo).length = N := ⟨_, rfl⟩
    rw [hN]
    have HN2 := Aside0.mk hN
    clear hq HQ hM hN
    go_wp2_with fail
    go_ret
    obtain ⟨A', c', e, h1, h2, h3⟩ := HF.out
    injection e with e1 e2 e3
    subst e1 e3
    exact ⟨_, _, by rw [HN2.out]; rfl, h1, h2, h3, HBB.out⟩
 | some ad =>
  have HN := Aside0.mk (news_of' hr0 (Below.refl w.heap.size w))
  have hnil : w.ownsRow w.heap.size 2 1 (.slice none 0 0) 0 [] := ⟨rfl, Or.inl ⟨rfl, rfl⟩⟩
  have HNL := Aside0.mk hnil
  clear hr0 hn0 hnil
  go_enter Try.func100, Try.ntmps100
  go_wp2_with ((at_builtin; refine wpList_append_own _ rfl _ _ 35 rfl w.heap.size 2 i0 (.int .i64 0) 1 8 Try.underlying35 hi hz0 hz1 hz2 rfl (by decide) _ 0 [] rfl HNL.out ad l.length c0 (nums .i64 l) rfl (by simp [nums]) HN.out (all_one l) (by unfold maxLen; omega) (by omega) (Nat.le_refl _) ?_); intro v' w1 hown1 hgrow _)
  have M0 := Aside0.mk (show Mid w w1 v' [] l 0 from ⟨rfl, by simpa [nums] using hown1, (Below.refl _ _).grown hgrow (Nat.le_refl _) (fun k hk => by cases hk)⟩)
  clear hown1 hgrow
  go_wp2_with fail
  go_loopg [1, 5, 6] (l.length + 3) (fun gq vv sv iv w' => ∃ (done todo : List Int) (x : Int) (k : Nat), vv = .int .i64 x ∧ iv = .int .i64 (k : Int) ∧ 0 ≤ x ∧ x ≤ 1000000000000000 ∧ k + gq ≤ 1010 ∧ Aside0 (todo.length + dgs x ≤ gq) ∧ Aside0 (Dg.Dig todo) ∧ Aside0 (Mid w w' sv done todo k) ∧ Aside0 (done ++ Dg.pls x todo = r))
  case atStart => exact ⟨[], l, v, 0, rfl, rfl, v0, v1, by omega, ⟨by have : dgs v ≤ 2 := (by unfold dgs; split; decide; split <;> decide); simp; omega⟩, HD, M0, ⟨HR.out⟩⟩
  case round =>
   obtain ⟨done, todo, x, k, rfl, rfl, x0, x1, hk, hg, hD, hM, hq⟩ := hrel
   obtain ⟨A, c, rfl, hle, hA⟩ := hM.out.slice
   have HA := Aside0.mk hA
   clear hA
   by_cases hx : 0 < x
   ·cases todo with
    | nil =>
     obtain ⟨p1, p2⟩ := pls_nil hx x1
     have HQ := Aside0.mk (show (done ++ [x % 1000000000]) ++ Dg.pls (x / 1000000000) [] = r by rw [← hq.out, p1]; simp)
     have HG := Aside0.mk p2
     clear p1 p2 hq
     have hlen : (done ++ []).length = k := by have := hM.out.len; simp; exact this
     rw [hlen] at hle ⊢
     have M1 := Aside0.mk (show Mid w wr (.slice A k c) done [] k by have := hM.out; rw [hlen] at this; exact this)
     have HO := Aside0.mk (show wr.ownsRow w.heap.size 2 1 (.slice A k c) k (nums .i64 (done ++ [])) by have := M1.out.own; rw [hlen] at this; exact this)
     have HLEN := Aside0.mk hlen
     clear hM hlen
     go_wp2_with ((at_builtin; refine wpList_append_own _ rfl _ _ 35 rfl w.heap.size 2 i0 (.int .i64 0) 1 8 Try.underlying35 hi hz0 hz1 hz2 rfl (by decide) _ _ _ rfl (HO.out.alloc _) ⟨wr.heap.size, 0, none⟩ 1 1 [.int .i64 0] rfl rfl (new_one' wr 0 2) (all_one [0]) (by unfold maxLen; omega) (by omega) (by have := M1.out.below.size; simp; omega) ?_); intro v' w1 hown1 hgrow _; have M2 := Mid.more (v := .slice A k c) M1.out (by rw [HLEN.out]; exact hown1) hgrow; obtain ⟨g, cap, rfl, hgb, hcap⟩ := own_form' M2.own (by simp); have hN : (done ++ [(0 : Int)]).length = k + 1 := (by have := M1.out.len; simp; exact this); obtain ⟨hc1, hc2⟩ := M2.cell; have M3 := Aside0.mk (M2.set (x := x % 1000000000) hgb); clear hown1 hgrow M2 M1 HO; rw [hN]; obtain ⟨N, hN1⟩ : ∃ N, k + 1 = N := ⟨_, rfl⟩; rw [hN1]; have hkN : k < N := (by omega); have HN2 := Aside0.mk (hN.trans hN1); clear hN hN1)
     go_roundg (gk - 1)
     case measure => have := hg.out; have := HG.out; omega
     case rel => exact ⟨done ++ [x % 1000000000], [], x / 1000000000, k + 1, rfl, by simp, by omega, by omega, by have := hg.out; have := HG.out; omega, ⟨by have := hg.out; have := HG.out; simp at *; omega⟩, ⟨Dg.Dig.nil⟩, ⟨by have := M3.out; rw [HN2.out] at this; exact this⟩, HQ⟩
    | cons d ds =>
     obtain ⟨d0, d1⟩ := hD.out.head
     obtain ⟨p1, p2⟩ := dgs_cons hx x1 d0 d1
     have HQ := Aside0.mk (show (done ++ [(x + d) % 1000000000]) ++ Dg.pls ((x + d) / 1000000000) ds = r by rw [← hq.out]; simp only [Dg.pls]; rw [if_pos hx]; simp)
     have HG := Aside0.mk (And.intro p1 p2)
     clear p1 p2 hq
     obtain ⟨g, cap, e, hgb, hcap⟩ := own_form' hM.out.own (by simp; omega)
     injection e with e1 e2 e3
     subst e1 e3
     obtain ⟨hc1, hc2⟩ := hM.out.cell
     have M3 := Aside0.mk (hM.out.set (x := (x + d) % 1000000000) hgb)
     obtain ⟨N, hN⟩ : ∃ N, (done ++ d :: ds).length = N := ⟨_, rfl⟩
     have hkN : k < N := by rw [← hN]; have := hM.out.len; simp; omega
     rw [hN]
     have HN2 := Aside0.mk hN
     have hkne : ¬ k = N := by omega
     clear hN hM
     go_wp2_with fail
     go_roundg (gk - 1)
     case measure => have := hg.out; simp at this; omega
     case rel => exact ⟨done ++ [(x + d) % 1000000000], ds, (x + d) / 1000000000, k + 1, rfl, by simp, by omega, by omega, by have := hg.out; simp at this; omega, ⟨by have := hg.out; have := HG.out; simp at *; omega⟩, ⟨hD.out.tail⟩, ⟨by have := M3.out; rw [HN2.out] at this; exact this⟩, HQ⟩
   ·obtain rfl : x = 0 := by omega
    have HQ := Aside0.mk (show done ++ todo = r by rw [← hq.out, Dg.pls_zero])
    have HF := Aside0.mk (digits_of_own hM.out.own hM.out.below)
    have HBB := Aside0.mk hM.out.below
    obtain rfl := HQ.out
    obtain ⟨N, hN⟩ : ∃ N, (done ++ todo).length = N := ⟨_, rfl⟩
    rw [hN]
    have HN2 := Aside0.mk hN
    clear hq HQ hM hN
    go_wp2_with fail
    go_ret
    obtain ⟨A', c', e, h1, h2, h3⟩ := HF.out
    injection e with e1 e2 e3
    subst e1 e3
    exact ⟨_, _, by rw [HN2.out]; rfl, h1, h2, h3, HBB.out⟩
end Go.Proofs.Ytcfpkkgdofblfaa.H
/- Contracts by hand: the document's bearer, made. -/
namespace Go.Proofs.Ytcfpkkgdofblfaa.H
open Go.RowKit Go.Proofs.YtcfpkkgdofblfaaW.PrintWords Go.Proofs.YtcfpkkgdofblfaaW.PrintLast Go.Proofs.YtcfpkkgdofblfaaW.PrintMore Go.Proofs.Ytcfpkkgdofblfaa.HW
set_option linter.unusedVariables false
set_option linter.unusedSimpArgs false
structure RefAt (w : World) (gb : Nat) (P : Int) (up : Bool) (rest : Int) : Prop where
 c0 : w.cell? ⟨gb, 0, none⟩ = some (.int .i64 P)
 c1 : w.cell? ⟨gb, 1, none⟩ = some (.bool up)
 c2 : w.cell? ⟨gb, 2, none⟩ = some (.int .i64 rest)
 f2 : w.frozen? ⟨gb, 2, none⟩ = false
 lt : gb < w.heap.size
theorem RefAt.below {w w1 : World} {gb : Nat} {P rest : Int} {up : Bool} (H : RefAt w gb P up rest) (hb : Below w.heap.size w w1) : RefAt w1 gb P up rest :=
 ⟨by rw [hb.cell (by exact H.lt)]; exact H.c0, by rw [hb.cell (by exact H.lt)]; exact H.c1, by rw [hb.cell (by exact H.lt)]; exact H.c2, by rw [hb.frozen (by exact H.lt)]; exact H.f2, Nat.lt_of_lt_of_le H.lt hb.size⟩
theorem RefAt.but {w w1 : World} {gb g2 : Nat} {P rest : Int} {up : Bool} (H : RefAt w g2 P up rest) (hb : But gb w w1) (hn : g2 ≠ gb) : RefAt w1 g2 P up rest :=
 ⟨by rw [hb.cell (by exact H.lt) (by exact hn)]; exact H.c0, by rw [hb.cell (by exact H.lt) (by exact hn)]; exact H.c1, by rw [hb.cell (by exact H.lt) (by exact hn)]; exact H.c2, by rw [hb.frozen (by exact H.lt) (by exact hn)]; exact H.f2, Nat.lt_of_lt_of_le H.lt hb.size⟩
theorem rparts_any (c : Int) (w : World) : Calls Try.prog 98 #[.int .i64 c] w fun e w' => e = .returned (.tuple #[.int .i64 (Fr.parts c).1, .int .i64 (Fr.parts c).2]) ∧ Drawn0 w w' := by
 have hcs : c = 1 ∨ c = 2 ∨ c = 3 ∨ (Fr.parts c = (0, 1) ∧ (c == 1) = false ∧ (c == 2) = false ∧ (c == 3) = false) := by
  rcases Fr.parts_cases c with ⟨v, _, rfl | rfl | rfl⟩ | h
  ·exact Or.inl rfl
  ·exact Or.inr (Or.inl rfl)
  ·exact Or.inr (Or.inr (Or.inl rfl))
  ·exact Or.inr (Or.inr (Or.inr h))
 rcases hcs with rfl | rfl | rfl | ⟨hp, h1, h2, h3⟩
 ·go_enter Try.func98, Try.ntmps98
  go_wp2
  go_ret2
  exact ⟨rfl, Drawn0.refl _⟩
 ·go_enter Try.func98, Try.ntmps98
  go_wp2
  go_ret2
  exact ⟨rfl, Drawn0.refl _⟩
 ·go_enter Try.func98, Try.ntmps98
  go_wp2
  go_ret2
  exact ⟨rfl, Drawn0.refl _⟩
 ·rw [hp]
  clear hp
  go_enter Try.func98, Try.ntmps98
  go_wp2
  go_ret2
  exact ⟨rfl, Drawn0.refl _⟩
def RNewly (c : Int) (up : Bool) (w : World) (e : Ending) (w' : World) : Prop := Below w.heap.size w w' ∧ ∃ gb, w.heap.size ≤ gb ∧ e = .returned (.tuple #[.pointer (some ⟨gb, 0, none⟩), .int .i64 0]) ∧ RefAt w' gb (Gm.gp c) up 0
theorem rnew_any {c r : Int} {up : Bool} (hc : c = 1 ∨ c = 2 ∨ c = 3) (hr : r = 1 ∧ up = true ∨ r = 3 ∧ up = false) (w : World) : Calls Try.prog 77 #[.int .i64 c, .int .i64 r] w (RNewly c up w) := by
 have hp : Fr.parts c = (Gm.gp c, 0) := by rcases hc with rfl | rfl | rfl <;> rfl
 have HP := Aside0.mk (fun w => by have := rparts_any c w; rw [hp] at this; exact this)
 clear hp hc
 generalize hv : Gm.gp c = v at *
 have HV := Aside0.mk hv
 clear hv
 rcases hr with ⟨rfl, rfl⟩ | ⟨rfl, rfl⟩
 all_goals
  go_enter Try.func77, Try.ntmps77
  go_wp2_with fail
  refine (HP.out _).mono ?_
  rintro e w1 ⟨rfl, ⟨m1, rfl⟩⟩
  go_wp2_with fail
  go_ret2
  refine ⟨(pw_below_drewN (Below.refl w.heap.size w) m1).alloc (by simp) _, w.heap.size, Nat.le_refl _, rfl, ?_⟩
  rw [HV.out]
  have e : w.heap.size = (w.drewN m1).heap.size := by simp
  rw [e]
  generalize w.drewN m1 = w1
  constructor <;> simp [go_sem]
theorem rwhole_any {gb : Nat} {P rest : Int} {up : Bool} {w : World} (A : RefAt w gb P up rest) (p0 : 0 ≤ P) (p1 : P ≤ 133590) : Calls Try.prog 101 #[.pointer (some ⟨gb, 0, none⟩)] w fun e w' => e = .returned (.int .i64 (1000000000 * P)) ∧ w' = w := by
 obtain ⟨c0, c1, c2, f2, lt⟩ := A
 go_enter Try.func101, Try.ntmps101
 go_wp2
 go_ret
 exact ⟨rfl, rfl⟩
theorem gp_bd (c : Int) : 360 ≤ Gm.gp c ∧ Gm.gp c ≤ 133590 := by
 unfold Gm.gp
 split
 ·decide
 ·split <;> decide
end Go.Proofs.Ytcfpkkgdofblfaa.H
/- Contracts by hand: what the document's bearer bears. -/
namespace Go.Proofs.Ytcfpkkgdofblfaa.H
open Go.RowKit Go.Proofs.YtcfpkkgdofblfaaW.PrintWords Go.Proofs.YtcfpkkgdofblfaaW.PrintLast Go.Proofs.YtcfpkkgdofblfaaW.PrintMore Go.Proofs.Ytcfpkkgdofblfaa.HW
set_option linter.unusedVariables false
set_option linter.unusedSimpArgs false
def RBore (gb : Nat) (P : Int) (up : Bool) (x : Int × Int × Int) (w : World) (e : Ending) (w' : World) : Prop :=
 e = .returned (.tuple #[.int .i64 x.1, .int .i64 x.2.1]) ∧ RefAt w' gb P up x.2.2 ∧ But gb w w'
theorem rbear_arg {gb : Nat} {bal rate n : Int} (hm : ¬ Gm.may bal rate n) (w : World) : Calls Try.prog 78 #[.pointer (some ⟨gb, 0, none⟩), .int .i64 bal, .int .i64 rate, .int .i64 n] w fun e w' => e = .returned (.tuple #[.int .i64 0, .int .i64 1]) ∧ w' = w := by
 have hno : bal < 0 ∨ (0 ≤ bal ∧ 1000000000000000 < bal) ∨ (0 ≤ bal ∧ bal ≤ 1000000000000000 ∧ rate < 0) ∨ (0 ≤ bal ∧ bal ≤ 1000000000000000 ∧ 0 ≤ rate ∧ 1000000000 < rate) ∨ (0 ≤ bal ∧ bal ≤ 1000000000000000 ∧ 0 ≤ rate ∧ rate ≤ 1000000000 ∧ n < 0) ∨ (0 ≤ bal ∧ bal ≤ 1000000000000000 ∧ 0 ≤ rate ∧ rate ≤ 1000000000 ∧ 0 ≤ n ∧ 53436000 < n) := by
  unfold Gm.may at hm
  omega
 clear hm
 rcases hno with h1 | ⟨h1, h2⟩ | ⟨h1, h2, h3⟩ | ⟨h1, h2, h3, h4⟩ | ⟨h1, h2, h3, h4, h5⟩ | ⟨h1, h2, h3, h4, h5, h6⟩
 all_goals
  go_enter Try.func78, Try.ntmps78
  go_wp2_with fail
  go_ret2
  exact ⟨rfl, rfl⟩
theorem RefAt.put {w : World} {gb : Nat} {P rest : Int} {up : Bool} (A : RefAt w gb P up rest) (v : Int) : RefAt (w.setCell ⟨gb, 2, none⟩ (.int .i64 v)) gb P up v := by
 obtain ⟨c0, c1, c2, f2, lt⟩ := A
 refine ⟨?_, ?_, ?_, ?_, ?_⟩
 ·rw [World.cell?_setCell_other _ _ _ _ (by simp)]; exact c0
 ·rw [World.cell?_setCell_other _ _ _ _ (by simp)]; exact c1
 ·simp [World.cell?_setCell_same, c2]
 ·simp [go_sem, f2]
 ·simp [go_sem]; exact lt
theorem too_much {l : List Int} (hd : Dg.Dig l) {k : Nat} (hk : 1 ≤ k) (hkl : k < l.length) {P q r V h rest x : Int} (hP : 360 ≤ P) (hV : Dg.val l = x + rest + 1000000000 * P) (hy : Dg.val (l.drop (k + 1)) = q * P + r) (r0 : 0 ≤ r) (hq : 4000000 < q) (h0 : 0 ≤ h) : 1000000000000000 < Gm.q (1000000000 * P) h rest x := by
 have h1 := Dg.val_ge hd (k + 1) (by omega)
 rw [hy] at h1
 have h2 : (1000000000000000000 : Int) ≤ 1000000000 ^ (k + 1) := by
  obtain ⟨j, rfl⟩ : ∃ j, k = j + 1 := ⟨k - 1, by omega⟩
  rw [Int.pow_succ, Int.pow_succ]
  have : (0 : Int) < 1000000000 ^ j := Int.pow_pos (by decide)
  omega
 have h3 : 4000001 * P ≤ q * P + r := by
  have := Int.mul_le_mul_of_nonneg_right (show 4000001 ≤ q by omega) (show 0 ≤ P by omega)
  omega
 have h4 : 1000000000000000000 * (4000001 * P) ≤ 1000000000 ^ (k + 1) * (q * P + r) := Int.mul_le_mul h2 h3 (by omega) (by omega)
 unfold Gm.q
 have h5 : 1000000000000001 * (1000000000 * P) ≤ x + (rest + h) := by omega
 have := (Int.le_ediv_iff_mul_le (show 0 < 1000000000 * P by omega)).2 h5
 omega
set_option maxHeartbeats 4000000 in
set_option maxRecDepth 100000 in
theorem rbear_may {gb : Nat} {P W h rest bal rate n : Int} {up : Bool} {w : World} (A : RefAt w gb P up rest) (p0 : 360 ≤ P) (p1 : P ≤ 133590) (hW : W = 1000000000 * P) (hh : up = true ∧ W = 2 * h ∨ up = false ∧ h = 0) (G : Good W h rest) (hm : Gm.may bal rate n) (x : Int × Int × Int) (hx : Gm.bear W h rest bal rate n = x) :
  Calls Try.prog 78 #[.pointer (some ⟨gb, 0, none⟩), .int .i64 bal, .int .i64 rate, .int .i64 n] w (RBore gb P up x w) := by
 subst hW
 obtain ⟨a0, a1, b0, b1, n0, n1⟩ := hm
 have AA := Aside0.mk A
 have GG := Aside0.mk G
 have HH := Aside0.mk hh
 have HX := Aside0.mk hx
 have hrest := And.intro G.r0 G.r1
 obtain ⟨g1, g2, g3, g4, g5, g6⟩ := G
 have dg0 : Dg.Dig [bal % 1000000000, bal / 1000000000] := Dg.Dig.cons (by omega) (by omega) (Dg.Dig.cons (by omega) (by omega) Dg.Dig.nil)
 have v0 : Dg.val [bal % 1000000000, bal / 1000000000] = bal := by simp [Dg.val]; omega
 obtain ⟨d1, v1, l1⟩ := Dg.tms_spec b0 b1 [bal % 1000000000, bal / 1000000000] 0 (by omega) (by omega) dg0
 obtain ⟨d2, v2, l2⟩ := Dg.tms_spec n0 (by omega) (Dg.tms rate 0 [bal % 1000000000, bal / 1000000000]) 0 (by omega) (by omega) d1
 rw [v1, v0, Int.add_zero, Int.add_zero] at v2
 obtain ⟨d3, v3, l3⟩ := Dg.pls_spec (Dg.tms n 0 (Dg.tms rate 0 [bal % 1000000000, bal / 1000000000])) (rest + 1000000000 * P) (by omega) (by omega) d2
 rw [v2] at v3
 have HD0 := Aside0.mk dg0
 have HD1 := Aside0.mk d1
 have HD2 := Aside0.mk d2
 have L1 : (Dg.tms rate 0 [bal % 1000000000, bal / 1000000000]).length ≤ 3 := by simpa using l1
 have L2 : (Dg.tms n 0 (Dg.tms rate 0 [bal % 1000000000, bal / 1000000000])).length ≤ 4 := by omega
 have hread : Kd.C (Kd.int .i64) (w.alloc (.cells #[.int .i64 (bal % 1000000000), .int .i64 (bal / 1000000000)] 2)) (some ⟨w.heap.size, 0, none⟩) [bal % 1000000000, bal / 1000000000].length [bal % 1000000000, bal / 1000000000] := by
  refine Kd.C_of_reads (d := (0 : Int)) ⟨rfl, by simp, fun _ => ⟨_, rfl, fun j hj => ?_⟩⟩
  simp at hj
  rcases (by omega : j = 0 ∨ j = 1) with rfl | rfl <;> simp [go_sem, Addr.add]
 have HRD := Aside0.mk hread
 have hpos := Int.mul_nonneg (Int.mul_nonneg a0 b0) n0
 have V3 := Aside0.mk (show Dg.val (Dg.pls (rest + 1000000000 * P) (Dg.tms n 0 (Dg.tms rate 0 [bal % 1000000000, bal / 1000000000]))) = bal * rate * n + rest + 1000000000 * P by rw [v3]; omega)
 have HD3 := Aside0.mk d3
 have HPOS := Aside0.mk hpos
 clear dg0 d1 d2 d3 v0 v1 v2 v3 l1 l2 hread hh hx A hpos
 go_enter Try.func78, Try.ntmps78
 go_wp2_with fail
 refine (times_any (l := [bal % 1000000000, bal / 1000000000]) (c0 := 2) HRD.out (by simp) HD0.out (by simp) b0 b1).mono ?_
 rintro e w1 ⟨A1, c1, rfl, hc1, hle1, hA1, hb1⟩
 have HC1 := Aside0.mk hc1
 have HB1 := Aside0.mk (((Below.refl w.heap.size w).alloc (Nat.le_refl _) (.cells #[.int .i64 (bal % 1000000000), .int .i64 (bal / 1000000000)] 2)).trans (hb1.mono (by simp)))
 clear hc1 hb1 hA1 HRD
 generalize Dg.tms rate 0 [bal % 1000000000, bal / 1000000000] = t1 at *
 go_wp2_with fail
 refine (times_any HC1.out hle1 HD1.out (by omega) n0 (by omega)).mono ?_
 rintro e w2 ⟨A2, c2, rfl, hc2, hle2, hA2, hb2⟩
 have HC2 := Aside0.mk hc2
 have HA2 := Aside0.mk hA2
 have HB2 := Aside0.mk (below_step HB1.out hb2)
 clear hc2 hb2 hA2 HC1 HB1
 generalize Dg.tms n 0 t1 = t2 at *
 have R2 := Aside0.mk (AA.out.below HB2.out)
 go_wp2_with fail
 have k0 := R2.out.c0
 have k2 := R2.out.c2
 go_still_tail 8, (by kernel_rfl)
 have R2d := R2.out.below (Below.drew (Below.refl _ _))
 have HC2d := Aside0.mk (Kd.C_drew HC2.out)
 have HB2d := Aside0.mk HB2.out.drew
 have RD := Aside0.mk R2d
 still_call (rwhole_any R2d (by omega) p1)
 still_step
 refine wpStill_nil ?_
 clear R2d k0 k2 R2 HC2 HB2
 go_wp2_with fail
 refine (plus_any HC2d.out hle2 HA2.out HD2.out (by omega) (v := rest + 1000000000 * P) (by omega) (by omega)).mono ?_
 rintro e w4 ⟨A3, c3, rfl, hc3, hle3, hA3, hb3⟩
 have HC3 := Aside0.mk hc3
 have HB3 := Aside0.mk (below_step HB2d.out hb3)
 have R3 := Aside0.mk (RD.out.below hb3)
 clear hc3 hb3 hA3 HC2d HB2d RD
 generalize Dg.pls (rest + 1000000000 * P) t2 = l at *
 have k0 := R3.out.c0
 go_wp2_with fail
 have hl0 : 0 < l.length := by
  rcases Nat.eq_zero_or_pos l.length with h' | h'
  ·have hv := V3.out
   rw [List.eq_nil_of_length_eq_zero h'] at hv
   have := HPOS.out
   simp only [Dg.val] at hv
   omega
  ·exact h'
 have hl10 : l.length ≤ 10 := by omega
 have hp2 : (P == 0) = false := by simp; omega
 have hp3 : (P == -1) = false := by simp; omega
 clear k0 l3
 go_loopg [11, 12, 13] l.length (fun gq qv rv iv w' => ∃ (k : Nat) (q r : Int), k < l.length ∧ iv = .int .i64 (k : Int) ∧ qv = .int .i64 q ∧ rv = .int .i64 r ∧ 0 ≤ q ∧ q ≤ 4100000000000000 ∧ 0 ≤ r ∧ r < P ∧ Aside0 (gq = k + 1) ∧ Aside0 (Dg.val (l.drop (k + 1)) = q * P + r) ∧ Drawn0 w4 w')
 case atStart => exact ⟨l.length - 1, 0, 0, by omega, by congr 1; omega, rfl, rfl, by omega, by omega, by omega, by omega, ⟨by omega⟩, ⟨by rw [show l.length - 1 + 1 = l.length by omega, List.drop_length]; simp [Dg.val]⟩, Drawn0.refl _⟩
 case round =>
  obtain ⟨k, q, r, kl, rfl, rfl, rfl, q0, q1, r0, r1, hg, hy, ⟨m1, rfl⟩⟩ := hrel
  have RK := Aside0.mk (R3.out.below (w1 := w4.drewN m1) (Drawn0.below ⟨_, rfl⟩))
  have c0 := R3.out.c0
  obtain ⟨ad, e0, hx0⟩ := Kd.at_int HC3.out (k : Int) (by omega) (by omega)
  subst e0
  rw [Int.toNat_natCast] at hx0
  obtain ⟨hdv, hdd0, hdd1⟩ := Dg.val_drop HD3.out k kl
  have hrd : rd l (k : Int) = l.getD k 0 := by simp [rd]
  rw [hrd] at hx0
  generalize l.getD k 0 = d at *
  have HDV := Aside0.mk hdv
  clear hdv hrd
  by_cases hk : 1 ≤ k
  ·by_cases hq : 4000000 < q
   ·have hbig := too_much (V := 0) HD3.out hk kl p0 V3.out hy.out r0 hq g3
    have ex : x = (0, 3, rest) := by
     rw [← HX.out]
     unfold Gm.bear
     rw [if_pos ⟨a0, a1, b0, b1, n0, n1⟩, if_neg (by omega)]
    subst ex
    have BUT := Aside0.mk (But.of (gb := gb) (pw_below_drewN HB3.out m1))
    clear hx0 hbig c0
    go_wp2_with fail
    go_ret2
    exact ⟨rfl, RK.out, BUT.out⟩
   ·obtain ⟨s1, s2, s3, s4, s5⟩ := Dg.div_step (P := P) (by omega) hy.out r0 r1 hdd0 hdd1
    have HY := Aside0.mk (HDV.out.trans s1)
    obtain ⟨vv, hvv⟩ : ∃ vv, r * 1000000000 + d = vv := ⟨_, rfl⟩
    rw [hvv] at s1 s2 s3 s4 s5 HY
    have vv0 : 0 ≤ vv := by omega
    have vv1 : vv ≤ 140000000000000 := by omega
    obtain ⟨dq, hdq⟩ : ∃ dq, vv / P = dq := ⟨_, rfl⟩
    obtain ⟨dr, hdr⟩ : ∃ dr, vv % P = dr := ⟨_, rfl⟩
    have t1 : Int.tdiv vv P = dq := by rw [Int.tdiv_eq_ediv_of_nonneg vv0]; exact hdq
    have t2 : Int.tmod vv P = dr := by rw [Int.tmod_eq_emod_of_nonneg vv0]; exact hdr
    rw [hdq, hdr] at HY
    rw [hdq] at s2 s3
    rw [hdr] at s4 s5
    have w1 : IntKind.i64.wrap (q * 1000000000) = q * 1000000000 := IntWalk.i64_in _ (by omega)
    have w2 : IntKind.i64.wrap dq = dq := IntWalk.i64_in _ (by omega)
    have w3 : IntKind.i64.wrap dr = dr := IntWalk.i64_in _ (by omega)
    have w4 : IntKind.i64.wrap (q * 1000000000 + dq) = q * 1000000000 + dq := IntWalk.i64_in _ (by omega)
    have hvv2 : IntKind.i64.wrap (r * 1000000000 + d) = vv := by rw [hvv]; exact IntWalk.i64_in _ (by omega)
    have W1 := Aside0.mk w1
    have W2 := Aside0.mk w2
    have W3 := Aside0.mk w3
    have W4 := Aside0.mk w4
    clear s1 hdq hdr w1 w2 w3 w4
    go_wp2_with fail
    have w1 := W1.out
    have w2 := W2.out
    have w3 := W3.out
    have w4 := W4.out
    go_quiet (fail)
    clear w1 w2 w3 w4 t1 t2 hvv hvv2
    go_wp2_with fail
    go_roundg k
    case measure => have := hg.out; omega
    case rel => exact ⟨k - 1, q * 1000000000 + dq, dr, by omega, by congr 1; omega, rfl, rfl, by omega, by omega, by omega, by omega, ⟨by omega⟩, ⟨by rw [show k - 1 + 1 = k by omega]; exact HY.out⟩, ⟨_, by first | rfl | (simp only [World.drewN_drewN]; rfl)⟩⟩
  ·obtain rfl : k = 0 := by omega
   have hx1 : w4.cell? ad = some (.int .i64 d) := by simpa [Addr.add] using hx0
   have hV := V3.out
   have hdv := HDV.out
   have hyo := hy.out
   rw [List.drop_zero] at hdv
   have hvl : bal * rate * n + rest + 1000000000 * P = q * (1000000000 * P) + (r * 1000000000 + d) := by
    rw [← hV, hdv, hyo, Int.mul_add, show q * (1000000000 * P) = 1000000000 * (q * P) by rw [← Int.mul_assoc, Int.mul_comm q, Int.mul_assoc]]
    omega
   obtain ⟨en1, en2⟩ := Dg.ends (P := P) (W := 1000000000 * P) (h := h) (by omega) rfl hvl (by omega) (by omega) up HH.out
   have kc0 := RK.out.c0
   have kc1 := RK.out.c1
   clear hx0 c0 hV hdv hyo hvl
   cases up with
   | true =>
    by_cases hge : 1000000000 * P - (r * 1000000000 + d) ≤ r * 1000000000 + d
    ·obtain ⟨e1, e2⟩ := en1 ⟨rfl, hge⟩
     clear en1 en2
     by_cases hmost : q ≤ 1000000000000000
     ·have ex : x = (q, 0, r * 1000000000 + d - 1000000000 * P) := by
       rw [← HX.out]
       unfold Gm.bear
       rw [if_pos ⟨a0, a1, b0, b1, n0, n1⟩, e1, e2, if_pos hmost]
      subst ex
      have BUT := Aside0.mk ((But.of (gb := gb) (pw_below_drewN HB3.out m1)).setCell (p := ⟨gb, 2, none⟩) (Or.inl rfl) (.int .i64 (r * 1000000000 + d - 1000000000 * P)))
      have RKo := RK.out
      have k2 := RKo.c2
      have kf := RKo.f2
      have RN := Aside0.mk (RefAt.put RKo (r * 1000000000 + d - 1000000000 * P))
      clear e1 e2 RKo
      go_wp2_with fail
      refine (rwhole_any RK.out (by omega) p1).mono ?_
      rintro e _ ⟨rfl, rfl⟩
      go_wp2_with fail
      refine (rwhole_any RK.out (by omega) p1).mono ?_
      rintro e _ ⟨rfl, rfl⟩
      go_wp2_with fail
      go_ret2
      exact ⟨rfl, RN.out, BUT.out⟩
     ·have ex : x = (0, 3, rest) := by
       rw [← HX.out]
       unfold Gm.bear
       rw [if_pos ⟨a0, a1, b0, b1, n0, n1⟩, e1, if_neg hmost]
      subst ex
      have BUT := Aside0.mk (But.of (gb := gb) (pw_below_drewN HB3.out m1))
      clear e1 e2
      go_wp2_with fail
      refine (rwhole_any RK.out (by omega) p1).mono ?_
      rintro e _ ⟨rfl, rfl⟩
      go_wp2_with fail
      refine (rwhole_any RK.out (by omega) p1).mono ?_
      rintro e _ ⟨rfl, rfl⟩
      go_wp2_with fail
      go_ret2
      exact ⟨rfl, RK.out, BUT.out⟩
    ·obtain ⟨e1, e2⟩ := en2 (fun h' => hge h'.2)
     have hge2 : r * 1000000000 + d < 1000000000 * P - (r * 1000000000 + d) := by omega
     clear en1 en2 hge
     by_cases hmost : q - 1 ≤ 1000000000000000
     ·have ex : x = (q - 1, 0, r * 1000000000 + d) := by
       rw [← HX.out]
       unfold Gm.bear
       rw [if_pos ⟨a0, a1, b0, b1, n0, n1⟩, e1, e2, if_pos hmost]
      subst ex
      have BUT := Aside0.mk ((But.of (gb := gb) (pw_below_drewN HB3.out m1)).setCell (p := ⟨gb, 2, none⟩) (Or.inl rfl) (.int .i64 (r * 1000000000 + d)))
      have RKo := RK.out
      have k2 := RKo.c2
      have kf := RKo.f2
      have RN := Aside0.mk (RefAt.put RKo (r * 1000000000 + d))
      clear e1 e2 RKo
      go_wp2_with fail
      refine (rwhole_any RK.out (by omega) p1).mono ?_
      rintro e _ ⟨rfl, rfl⟩
      go_wp2_with fail
      go_ret2
      exact ⟨rfl, RN.out, BUT.out⟩
     ·have ex : x = (0, 3, rest) := by
       rw [← HX.out]
       unfold Gm.bear
       rw [if_pos ⟨a0, a1, b0, b1, n0, n1⟩, e1, if_neg hmost]
      subst ex
      have BUT := Aside0.mk (But.of (gb := gb) (pw_below_drewN HB3.out m1))
      clear e1 e2
      go_wp2_with fail
      refine (rwhole_any RK.out (by omega) p1).mono ?_
      rintro e _ ⟨rfl, rfl⟩
      go_wp2_with fail
      go_ret2
      exact ⟨rfl, RK.out, BUT.out⟩
   | false =>
    obtain ⟨e1, e2⟩ := en2 (fun h' => by cases h'.1)
    clear en1 en2
    by_cases hmost : q - 1 ≤ 1000000000000000
    ·have ex : x = (q - 1, 0, r * 1000000000 + d) := by
      rw [← HX.out]
      unfold Gm.bear
      rw [if_pos ⟨a0, a1, b0, b1, n0, n1⟩, e1, e2, if_pos hmost]
     subst ex
     have BUT := Aside0.mk ((But.of (gb := gb) (pw_below_drewN HB3.out m1)).setCell (p := ⟨gb, 2, none⟩) (Or.inl rfl) (.int .i64 (r * 1000000000 + d)))
     have RKo := RK.out
     have k2 := RKo.c2
     have kf := RKo.f2
     have RN := Aside0.mk (RefAt.put RKo (r * 1000000000 + d))
     clear e1 e2 RKo
     go_wp2_with fail
     go_ret2
     exact ⟨rfl, RN.out, BUT.out⟩
    ·have ex : x = (0, 3, rest) := by
      rw [← HX.out]
      unfold Gm.bear
      rw [if_pos ⟨a0, a1, b0, b1, n0, n1⟩, e1, if_neg hmost]
     subst ex
     have BUT := Aside0.mk (But.of (gb := gb) (pw_below_drewN HB3.out m1))
     clear e1 e2
     go_wp2_with fail
     go_ret2
     exact ⟨rfl, RK.out, BUT.out⟩
theorem rbear_any {gb : Nat} {P W h rest bal rate n : Int} {up : Bool} {w : World} (A : RefAt w gb P up rest) (p0 : 360 ≤ P) (p1 : P ≤ 133590) (hW : W = 1000000000 * P) (hh : up = true ∧ W = 2 * h ∨ up = false ∧ h = 0) (G : Good W h rest) :
  Calls Try.prog 78 #[.pointer (some ⟨gb, 0, none⟩), .int .i64 bal, .int .i64 rate, .int .i64 n] w (RBore gb P up (Gm.bear W h rest bal rate n) w) := by
 by_cases hm : Gm.may bal rate n
 ·exact rbear_may A p0 p1 hW hh G hm _ rfl
 ·unfold Gm.bear
  rw [if_neg hm]
  exact (rbear_arg hm w).mono fun e w' ⟨h1, h2⟩ => by subst h2; exact ⟨h1, A, But.of (Below.refl _ _)⟩
end Go.Proofs.Ytcfpkkgdofblfaa.H
namespace Go.Proofs.Ytcfpkkgdofblfaa.Lv
open Go.RowKit Go.Proofs.YtcfpkkgdofblfaaW.PrintWords Go.Proofs.YtcfpkkgdofblfaaW.PrintLast Go.Proofs.YtcfpkkgdofblfaaW.PrintMore Go.Proofs.Ytcfpkkgdofblfaa.HW
open Pm Pd
set_option linter.unusedVariables false
set_option linter.unusedSimpArgs false
def fine (l : List Int) : Bool := l.all (fun n => decide (0 ≤ n ∧ n ≤ 267180))
def askE (p : Prod) (l : List Int) (m : Int) : Int := if err p ≠ 0 then 9 else if (l.length : Int) = p.times ∧ 1 ≤ m ∧ m ≤ 10000000000000 ∧ fine l = true then 0 else 1
theorem err_two (p : Prod) : err p = 0 ∨ err p = 9 := by unfold err; split <;> simp
abbrev wcs (p : Prod) (A1 : Option Addr) (c1 : Nat) (A2 : Option Addr) (c2 : Nat) (A3 : Option Addr) (c3 : Nat) (A : Option Addr) (l : List Int) (c : Nat) (m : Int) : Array Value :=
 #[.string p.name, .int .i64 p.count, .int .i64 p.round, .int .i64 p.kind, .int .i64 p.every, .int .i64 p.times, .int .i64 p.grace, .int .i64 p.rate, .slice A1 p.resets.length c1, .int .i64 p.penalty, .int .i64 p.o1, .int .i64 p.o2, .int .i64 p.o3, .int .i64 p.o4, .int .i64 p.over, .slice A2 p.late.length c2, .int .i64 p.cap, .int .i64 p.roll, .slice A3 p.hol.length c3, .slice A l.length c, .int .i64 m]
abbrev wv (p : Prod) (A1 : Option Addr) (c1 : Nat) (A2 : Option Addr) (c2 : Nat) (A3 : Option Addr) (c3 : Nat) (A : Option Addr) (l : List Int) (c : Nat) (m : Int) : Value := .agg (wcs p A1 c1 A2 c2 A3 c3 A l c m)
abbrev wzs : Array Value :=
 #[.string ⟨#[]⟩, .int .i64 0, .int .i64 0, .int .i64 0, .int .i64 0, .int .i64 0, .int .i64 0, .int .i64 0, .slice none 0 0, .int .i64 0, .int .i64 0, .int .i64 0, .int .i64 0, .int .i64 0, .int .i64 0, .slice none 0 0, .int .i64 0, .int .i64 0, .slice none 0 0, .slice none 0 0, .int .i64 0]
theorem info_walk : (Try.prog.info? 74).map (·.size) = some 21 := by kernel_rfl
theorem wcs_one (p : Prod) (A1 : Option Addr) (c1 : Nat) (A2 : Option Addr) (c2 : Nat) (A3 : Option Addr) (c3 : Nat) (A : Option Addr) (l : List Int) (c : Nat) (m : Int) : (wcs p A1 c1 A2 c2 A3 c3 A l c m).all (·.oneCell') = true := by simp [Value.oneCell']
theorem w_cells {p : Prod} {A1 : Option Addr} {c1 : Nat} {A2 : Option Addr} {c2 : Nat} {A3 : Option Addr} {c3 : Nat} {A : Option Addr} {l : List Int} {c : Nat} {m : Int} {w : World} {g : Nat} {t : TypeId} (h : w.heap[g]? = some (.cells (wcs p A1 c1 A2 c2 A3 c3 A l c m) t (0, 0))) :
  w.cell? ⟨g, 1, none⟩ = some (.int .i64 p.count) ∧ w.cell? ⟨g, 2, none⟩ = some (.int .i64 p.round) ∧ w.cell? ⟨g, 5, none⟩ = some (.int .i64 p.times) ∧ w.cell? ⟨g, 6, none⟩ = some (.int .i64 p.grace) ∧ w.cell? ⟨g, 7, none⟩ = some (.int .i64 p.rate) ∧ w.cell? ⟨g, 19, none⟩ = some (.slice A l.length c) ∧ w.cell? ⟨g, 20, none⟩ = some (.int .i64 m) :=
 ⟨(blk_cell h 1).trans rfl, (blk_cell h 2).trans rfl, (blk_cell h 5).trans rfl, (blk_cell h 6).trans rfl, (blk_cell h 7).trans rfl, (blk_cell h 19).trans rfl, (blk_cell h 20).trans rfl⟩
theorem w_range {p : Prod} {A1 : Option Addr} {c1 : Nat} {A2 : Option Addr} {c2 : Nat} {A3 : Option Addr} {c3 : Nat} {A : Option Addr} {l : List Int} {c : Nat} {m : Int} {w : World} {g : Nat} {t : TypeId} (h : w.heap[g]? = some (.cells (wcs p A1 c1 A2 c2 A3 c3 A l c m) t (0, 0))) :
  w.rangeAt g 0 (pcs p A1 c1 A2 c2 A3 c3).toList := by
 intro j v hj
 rw [Array.getElem?_toList] at hj
 have hlt : j < (pcs p A1 c1 A2 c2 A3 c3).size := by
  rcases Nat.lt_or_ge j (pcs p A1 c1 A2 c2 A3 c3).size with h1 | h1
  ·exact h1
  ·rw [Array.getElem?_eq_none h1] at hj; cases hj
 rw [Nat.zero_add, blk_cell h j, show wcs p A1 c1 A2 c2 A3 c3 A l c m = pcs p A1 c1 A2 c2 A3 c3 ++ #[.slice A l.length c, .int .i64 m] from rfl, Array.getElem?_append_left hlt]
 exact hj
section
variable {P : Program} {ops : Array Oper} {rest : List Oper} {op : Oper} {a : Act} {w : World} {Q : Exit → Act → World → Prop}
theorem load_part (hgd : op.guard = none) (ty : TypeId) (x : Operand) (ho : op.op = .load ty x) (b : Nat) (hx : a.eval x = .pointer (some ⟨b, 0, none⟩)) (cs : Array Value) (d : TypeDesc) (hc : w.rangeAt b 0 cs.toList)
  (hu : P.underlying ty = some d) (hd : d.isRow = true) (hi : (P.info? ty).map (·.size) = some cs.size) (h : wpList P ops Q rest (a.put op.dst (.agg cs)) w) : wpList P ops Q (op :: rest) a w :=
 wpList_load_mid hgd ty x ho b 0 hx cs.toList d hc hu hd (by simpa using hi) (by simpa using h)
end
theorem fine_drop {l : List Int} {k : Nat} (h : k < l.length) : fine (l.drop k) = (decide (0 ≤ rd l (k : Int) ∧ rd l (k : Int) ≤ 267180) && fine (l.drop (k + 1))) := by
 unfold fine
 have e : rd l (k : Int) = l[k] := by simp [rd, h]
 rw [List.drop_eq_getElem_cons h, List.all_cons, e]
def AskP (p : Prod) (l : List Int) (m : Int) (w : World) (e : Ending) (w' : World) : Prop := e = .returned (.int .i64 (askE p l m)) ∧ Below w.heap.size w w'
set_option maxRecDepth 100000 in
set_option maxHeartbeats 2000000 in
theorem may_bad (p : Prod) (A1 : Option Addr) (c1 : Nat) (A2 : Option Addr) (c2 : Nat) (A3 : Option Addr) (c3 : Nat) (A : Option Addr) (l : List Int) (c : Nat) (m : Int) (w : World) (hg : GV w) (hp : ProdAt w p A1 c1 A2 c2 A3 c3) (hs : Small p) (hr : Kd.C (Kd.int .i64) w A l.length l) (hl : l.length ≤ 1000000) (ha : err p = 9) :
  Calls Try.prog 47 #[wv p A1 c1 A2 c2 A3 c3 A l c m] w (AskP p l m w) := by
 have hx : askE p l m = 9 := by unfold askE; rw [ha, if_pos (by decide)]
 unfold AskP
 rw [hx]
 clear hx
 have HG := Aside0.mk hg
 have HP := Aside0.mk hp
 have HS := Aside0.mk hs
 have HR := Aside0.mk hr
 have HA := Aside0.mk ha
 clear hg hp hs hr ha
 go_enter Try.func47, Try.ntmps47
 go_wp2_with (first
  | ((with_reducible refine gate_dst (N := 1) rfl ?_); refine box_event ?hg (N := 1) ?hd (cs := wcs p A1 c1 A2 c2 A3 c3 A l c m) (t := 74) ?hr ?_; (case hd => rfl); (case hg => rfl); (case hr => first | (go_simp; done) | (go_simp; rfl)); intro g1 hg w1 hbg1 hblg1; have g1ge := (show w.heap.size ≤ g1 by rw [hg]; exact Nat.le_refl _); clear hg; have HBg1 := Aside0.mk hbg1; have BLg1 := Aside0.mk hblg1; clear hbg1 hblg1)
  | ((with_reducible refine gate_dst (N := 7) rfl ?_); refine load_part rfl 27 (.tmp 6) rfl g1 rfl (pcs p A1 c1 A2 c2 A3 c3) _ (w_range HBg1.out) Try.underlying27 rfl info_prod ?_))
 refine (check_any p A1 c1 A2 c2 A3 c3 _ (HG.out.below BLg1.out) (HP.out.below BLg1.out) HS.out).mono ?_
 rintro e w2 ⟨rfl, hb⟩
 have B2 := Aside0.mk (below_step BLg1.out hb)
 obtain ⟨-, -, q5, -, -, q19, q20⟩ := w_cells (Pd.blk_below HBg1.out hb)
 have HR2 := Aside0.mk (Kd.C_below (Kd.C_below HR.out BLg1.out) hb)
 clear hb HBg1 BLg1
 rw [HA.out]
 go_wp2_with fail
 go_ret
 exact ⟨rfl, B2.out⟩
set_option maxRecDepth 100000 in
set_option maxHeartbeats 2000000 in
theorem may_arg (p : Prod) (A1 : Option Addr) (c1 : Nat) (A2 : Option Addr) (c2 : Nat) (A3 : Option Addr) (c3 : Nat) (A : Option Addr) (l : List Int) (c : Nat) (m : Int) (w : World) (hg : GV w) (hp : ProdAt w p A1 c1 A2 c2 A3 c3) (hs : Small p) (hr : Kd.C (Kd.int .i64) w A l.length l) (hl : l.length ≤ 1000000) (ha : err p = 0) (hn : ¬ (l.length : Int) = p.times ∨ ((l.length : Int) = p.times ∧ m < 1) ∨ ((l.length : Int) = p.times ∧ 1 ≤ m ∧ 10000000000000 < m)) :
  Calls Try.prog 47 #[wv p A1 c1 A2 c2 A3 c3 A l c m] w (AskP p l m w) := by
 have hx : askE p l m = 1 := by unfold askE; rw [ha, if_neg (by decide), if_neg (by omega)]
 unfold AskP
 rw [hx]
 clear hx
 have HG := Aside0.mk hg
 have HP := Aside0.mk hp
 have HS := Aside0.mk hs
 have HR := Aside0.mk hr
 have HA := Aside0.mk ha
 clear hg hp hs hr ha
 go_enter Try.func47, Try.ntmps47
 go_wp2_with (first
  | ((with_reducible refine gate_dst (N := 1) rfl ?_); refine box_event ?hg (N := 1) ?hd (cs := wcs p A1 c1 A2 c2 A3 c3 A l c m) (t := 74) ?hr ?_; (case hd => rfl); (case hg => rfl); (case hr => first | (go_simp; done) | (go_simp; rfl)); intro g1 hg w1 hbg1 hblg1; have g1ge := (show w.heap.size ≤ g1 by rw [hg]; exact Nat.le_refl _); clear hg; have HBg1 := Aside0.mk hbg1; have BLg1 := Aside0.mk hblg1; clear hbg1 hblg1)
  | ((with_reducible refine gate_dst (N := 7) rfl ?_); refine load_part rfl 27 (.tmp 6) rfl g1 rfl (pcs p A1 c1 A2 c2 A3 c3) _ (w_range HBg1.out) Try.underlying27 rfl info_prod ?_))
 refine (check_any p A1 c1 A2 c2 A3 c3 _ (HG.out.below BLg1.out) (HP.out.below BLg1.out) HS.out).mono ?_
 rintro e w2 ⟨rfl, hb⟩
 have B2 := Aside0.mk (below_step BLg1.out hb)
 obtain ⟨-, -, q5, -, -, q19, q20⟩ := w_cells (Pd.blk_below HBg1.out hb)
 have HR2 := Aside0.mk (Kd.C_below (Kd.C_below HR.out BLg1.out) hb)
 clear hb HBg1 BLg1
 rw [HA.out]
 rcases hn with h | ⟨h, h2⟩ | ⟨h, h2, h3⟩
 ·have hb : ((l.length : Int) != p.times) = true := by simpa using h
  clear h
  go_wp2_with fail
  go_ret
  exact ⟨rfl, B2.out⟩
 all_goals
  have hb : ((l.length : Int) != p.times) = false := by simpa using h
  clear h
  go_wp2_with fail
  go_ret
  exact ⟨rfl, B2.out⟩
set_option maxRecDepth 100000 in
set_option maxHeartbeats 2000000 in
theorem may_loop (p : Prod) (A1 : Option Addr) (c1 : Nat) (A2 : Option Addr) (c2 : Nat) (A3 : Option Addr) (c3 : Nat) (A : Option Addr) (l : List Int) (c : Nat) (m : Int) (w : World) (hg : GV w) (hp : ProdAt w p A1 c1 A2 c2 A3 c3) (hs : Small p) (hr : Kd.C (Kd.int .i64) w A l.length l) (hl : l.length ≤ 1000000) (ha : err p = 0) (h1 : (l.length : Int) = p.times) (h2 : 1 ≤ m) (h3 : m ≤ 10000000000000) :
  Calls Try.prog 47 #[wv p A1 c1 A2 c2 A3 c3 A l c m] w (AskP p l m w) := by
 have hx : askE p l m = if fine l = true then 0 else 1 := by
  unfold askE
  rw [ha, if_neg (by decide)]
  by_cases hf : fine l = true
  ·rw [if_pos hf, if_pos ⟨h1, h2, h3, hf⟩]
  ·rw [if_neg hf, if_neg (fun h => hf h.2.2.2)]
 unfold AskP
 obtain ⟨v, hv⟩ : ∃ v, (if fine l = true then (0 : Int) else 1) = v := ⟨_, rfl⟩
 rw [hx, hv]
 have HV := Aside0.mk hv
 clear hx hv
 have hb : ((l.length : Int) != p.times) = false := by simpa using h1
 clear h1
 have HG := Aside0.mk hg
 have HP := Aside0.mk hp
 have HS := Aside0.mk hs
 have HR := Aside0.mk hr
 have HA := Aside0.mk ha
 clear hg hp hs hr ha
 go_enter Try.func47, Try.ntmps47
 go_wp2_with (first
  | ((with_reducible refine gate_dst (N := 1) rfl ?_); refine box_event ?hg (N := 1) ?hd (cs := wcs p A1 c1 A2 c2 A3 c3 A l c m) (t := 74) ?hr ?_; (case hd => rfl); (case hg => rfl); (case hr => first | (go_simp; done) | (go_simp; rfl)); intro g1 hg w1 hbg1 hblg1; have g1ge := (show w.heap.size ≤ g1 by rw [hg]; exact Nat.le_refl _); clear hg; have HBg1 := Aside0.mk hbg1; have BLg1 := Aside0.mk hblg1; clear hbg1 hblg1)
  | ((with_reducible refine gate_dst (N := 7) rfl ?_); refine load_part rfl 27 (.tmp 6) rfl g1 rfl (pcs p A1 c1 A2 c2 A3 c3) _ (w_range HBg1.out) Try.underlying27 rfl info_prod ?_))
 refine (check_any p A1 c1 A2 c2 A3 c3 _ (HG.out.below BLg1.out) (HP.out.below BLg1.out) HS.out).mono ?_
 rintro e w2 ⟨rfl, hb⟩
 have B2 := Aside0.mk (below_step BLg1.out hb)
 obtain ⟨-, -, q5, -, -, q19, q20⟩ := w_cells (Pd.blk_below HBg1.out hb)
 have HR2 := Aside0.mk (Kd.C_below (Kd.C_below HR.out BLg1.out) hb)
 clear hb HBg1 BLg1
 rw [HA.out]
 go_wp2_with fail
 go_loopg [32] (l.length + 1) (fun gq iv w' => ∃ (k : Nat), k ≤ l.length ∧ iv = .int .i64 (k : Int) ∧ Aside0 (gq = l.length + 1 - k) ∧ Aside0 ((if fine (l.drop k) = true then (0 : Int) else 1) = v) ∧ w' = w2)
 case atStart => exact ⟨0, by omega, rfl, ⟨rfl⟩, ⟨by rw [List.drop_zero]; exact HV.out⟩, rfl⟩
 case round =>
  obtain ⟨k, hk, rfl, hgq, hv, rfl⟩ := hrel
  by_cases hlt : k < l.length
  ·obtain ⟨ad0, e0, hx0⟩ := Kd.at_int HR2.out (k : Int) (by omega) (by omega)
   cases e0
   simp only [Int.toNat_natCast] at hx0
   have hf := fine_drop hlt
   obtain ⟨d, hd⟩ : ∃ d, rd l (k : Int) = d := ⟨_, rfl⟩
   rw [hd] at hx0 hf
   rcases (by omega : d < 0 ∨ (0 ≤ d ∧ 267180 < d) ∨ (0 ≤ d ∧ d ≤ 267180)) with c0 | ⟨c0, c1⟩ | ⟨c0, c1⟩
   ·have hv1 := hv.out
    rw [hf, decide_eq_false (by omega), Bool.false_and, if_neg (by decide)] at hv1
    have HV1 := Aside0.mk hv1
    clear hv1 hf hd hv
    go_wp2_with fail
    go_ret
    obtain rfl := HV1.out
    exact ⟨rfl, B2.out⟩
   ·have hv1 := hv.out
    rw [hf, decide_eq_false (by omega), Bool.false_and, if_neg (by decide)] at hv1
    have HV1 := Aside0.mk hv1
    clear hv1 hf hd hv
    go_wp2_with fail
    go_ret
    obtain rfl := HV1.out
    exact ⟨rfl, B2.out⟩
   ·have hv1 := hv.out
    rw [hf, decide_eq_true ⟨c0, c1⟩, Bool.true_and] at hv1
    have HV1 := Aside0.mk hv1
    clear hv1 hf hd hv
    go_wp2_with fail
    go_roundg (l.length + 1 - (k + 1))
    case measure => have := hgq.out; omega
    case rel => exact ⟨k + 1, by omega, by simp, ⟨rfl⟩, ⟨HV1.out⟩, rfl⟩
  ·have hv1 := hv.out
   rw [List.drop_of_length_le (by omega)] at hv1
   have HV1 := Aside0.mk (show (0 : Int) = v by simpa [fine] using hv1)
   clear hv1 hv
   go_wp2_with fail
   go_ret
   obtain rfl := HV1.out
   exact ⟨rfl, B2.out⟩
theorem may_any (p : Prod) (A1 : Option Addr) (c1 : Nat) (A2 : Option Addr) (c2 : Nat) (A3 : Option Addr) (c3 : Nat) (A : Option Addr) (l : List Int) (c : Nat) (m : Int) (w : World) (hg : GV w) (hp : ProdAt w p A1 c1 A2 c2 A3 c3) (hs : Small p) (hr : Kd.C (Kd.int .i64) w A l.length l) (hl : l.length ≤ 1000000) : Calls Try.prog 47 #[wv p A1 c1 A2 c2 A3 c3 A l c m] w (AskP p l m w) := by
 rcases err_two p with ha | ha
 ·by_cases h : (l.length : Int) = p.times ∧ 1 ≤ m ∧ m ≤ 10000000000000
  ·exact may_loop p A1 c1 A2 c2 A3 c3 A l c m w hg hp hs hr hl ha h.1 h.2.1 h.2.2
  ·exact may_arg p A1 c1 A2 c2 A3 c3 A l c m w hg hp hs hr hl ha (by omega)
 ·exact may_bad p A1 c1 A2 c2 A3 c3 A l c m w hg hp hs hr hl ha
end Go.Proofs.Ytcfpkkgdofblfaa.Lv
/- Contracts by hand: level: what an instalment leaves. -/
namespace Go.Proofs.Ytcfpkkgdofblfaa.Lv
open Go.RowKit Go.Proofs.YtcfpkkgdofblfaaW.PrintWords Go.Proofs.YtcfpkkgdofblfaaW.PrintLast Go.Proofs.YtcfpkkgdofblfaaW.PrintMore Go.Proofs.Ytcfpkkgdofblfaa.HW
open Pm Pd
set_option linter.unusedVariables false
set_option linter.unusedSimpArgs false
open Go.Proofs.Ytcfpkkgdofblfaa.H
theorem good_in {W h rest bal : Int} (G : H.Good W h rest) (b0 : 0 < bal) (b1 : bal ≤ 1000000000000000) : In W h rest bal := ⟨by have := G.w0; omega, b0, b1, G.r0, G.r1⟩
theorem bear_bd {W h rest bal rate n : Int} (G : H.Good W h rest) (b0 : 0 < bal) (b1 : bal ≤ 1000000000000000) : 0 ≤ (Gm.bear W h rest bal rate n).1 ∧ (Gm.bear W h rest bal rate n).1 ≤ 1000000000000000 := by
 by_cases e : (Gm.bear W h rest bal rate n).2.1 = 0
 ·obtain ⟨_, hq, he⟩ := bear_ok e
  refine ⟨(bear_in (good_in G b0 b1) e).1, ?_⟩
  rw [he]; exact hq
 ·rw [bear_eq] at e ⊢
  split at e
  ·rename_i h
   rw [if_pos h]
   split at e
   ·simp at e
   ·rename_i h2
    rw [if_neg h2]; simp
  ·rename_i h
   rw [if_neg h]; simp
theorem wk_cons {W h rate gr x : Int} {i : Int} {n : Int} {l : List Int} {bal rest : Int} {z : Int × Int × Int} (hz : Gm.bear W h rest bal rate n = z) :
  wk W h rate gr x i (n :: l) bal rest = if z.2.1 ≠ 0 then 1000000000000001 else if i < gr then wk W h rate gr x (i + 1) l bal z.2.2 else if bal + (z.1 - x) ≤ 0 then bal + (z.1 - x) else if 1000000000000000 < bal + (z.1 - x) then 1000000000000001 else wk W h rate gr x (i + 1) l (bal + (z.1 - x)) z.2.2 := by
 rw [wk, hz]
set_option maxRecDepth 100000 in
set_option maxHeartbeats 4000000 in
theorem left_any (p : Prod) (A1 : Option Addr) (c1 : Nat) (A2 : Option Addr) (c2 : Nat) (A3 : Option Addr) (c3 : Nat) (A : Option Addr) (l : List Int) (c : Nat) (m : Int) (x : Int) (w : World) (hc : 1 ≤ p.count ∧ p.count ≤ 3) (hrd : p.round = 1 ∨ p.round = 3) (hra : 0 ≤ p.rate ∧ p.rate ≤ 1000000000) (hgr : 0 ≤ p.grace ∧ p.grace ≤ 600) (hr : Kd.C (Kd.int .i64) w A l.length l) (hl : l.length ≤ 1000000) (hm0 : 1 ≤ m) (hm1 : m ≤ 10000000000000) (x0 : 0 ≤ x) (x1 : x ≤ 1000000000000000) :
  Calls Try.prog 50 #[wv p A1 c1 A2 c2 A3 c3 A l c m, .int .i64 x] w fun e w' => e = .returned (.int .i64 (wk (Gm.whole p.count) (Gm.half p.count p.round) p.rate p.grace x 0 l m 0)) ∧ Below w.heap.size w w' := by
 have HR := Aside0.mk hr
 have HN := Aside0.mk (fun W => bnew_any (c := p.count) (r := p.round) (by omega) hrd W)
 have GN := good_new p.count p.round
 obtain ⟨v, hv⟩ : ∃ v, wk (Gm.whole p.count) (Gm.half p.count p.round) p.rate p.grace x 0 l m 0 = v := ⟨_, rfl⟩
 rw [hv]
 have HV := Aside0.mk hv
 clear hr hc hrd hv
 obtain ⟨Wh, hWh⟩ : ∃ y, Gm.whole p.count = y := ⟨_, rfl⟩
 obtain ⟨Hf, hHf⟩ : ∃ y, Gm.half p.count p.round = y := ⟨_, rfl⟩
 rw [hWh, hHf] at GN HV
 have HWh := Aside0.mk hWh
 have HHf := Aside0.mk hHf
 clear hWh hHf
 have GG := Aside0.mk GN
 clear GN
 go_enter Try.func50, Try.ntmps50
 go_wp2_with ((with_reducible refine gate_dst (N := 2) rfl ?_); refine box_event ?hg (N := 2) ?hd (cs := wcs p A1 c1 A2 c2 A3 c3 A l c m) (t := 74) ?hr ?_; (case hd => rfl); (case hg => rfl); (case hr => first | (go_simp; done) | (go_simp; rfl)); intro g1 hg w1 hbg1 hblg1; have g1ge := (show w.heap.size ≤ g1 by rw [hg]; exact Nat.le_refl _); clear hg; have HBg1 := Aside0.mk hbg1; have BLg1 := Aside0.mk hblg1; obtain ⟨u1, u2, -, -, -, -, -⟩ := w_cells hbg1; clear hbg1 hblg1)
 refine (HN.out _).mono ?_
 rintro e w2 ⟨hb, gb, hgb, rfl, hba⟩
 rw [HWh.out, HHf.out] at hba
 have B2 := Aside0.mk (below_step BLg1.out hb)
 have hne : g1 ≠ gb := by have := Pd.blk_below HBg1.out (Below.refl _ _); have := blk_lt HBg1.out; omega
 have HB2 := Aside0.mk (Pd.blk_below HBg1.out hb)
 have gbge : w.heap.size ≤ gb := Nat.le_trans BLg1.out.size hgb
 have BA := Aside0.mk hba
 obtain ⟨-, -, -, -, -, u19, u20⟩ := w_cells HB2.out
 clear hb hgb hba HBg1 BLg1 u1 u2 HN
 go_wp2_with fail
 clear u20
 go_loopg [7, 27] (l.length + 1) (fun gq bv iv w' => ∃ (k : Nat) (bal rest : Int), k ≤ l.length ∧ iv = .int .i64 (k : Int) ∧ bv = .int .i64 bal ∧ 0 < bal ∧ bal ≤ 1000000000000000 ∧ Aside0 (gq = l.length + 1 - k) ∧ Aside0 (wk Wh Hf p.rate p.grace x (k : Int) (l.drop k) bal rest = v) ∧ Aside0 (BearAt w' gb Wh Hf rest) ∧ Aside0 (H.Good Wh Hf rest) ∧ Aside0 (w'.heap[g1]? = some (.cells (wcs p A1 c1 A2 c2 A3 c3 A l c m) 74 (0, 0))) ∧ Aside0 (Below w.heap.size w w'))
 case atStart => exact ⟨0, m, 0, by omega, rfl, rfl, by omega, by omega, ⟨rfl⟩, ⟨by rw [List.drop_zero]; exact HV.out⟩, BA, GG, HB2, B2⟩
 case round =>
  obtain ⟨k, bal, rest, hk, rfl, rfl, b0, b1, hgq, HW, BA, GG, HB, BB⟩ := hrel
  clear HV B2 HB2 u19
  by_cases hlt : k < l.length
  ·obtain ⟨ad0, e0, hx0⟩ := Kd.at_int HR.out (k : Int) (by omega) (by omega)
   cases e0
   simp only [Int.toNat_natCast] at hx0
   have hx1 := (BB.out.cell (cell_ltR hx0)).trans hx0
   obtain ⟨-, -, -, u6, u7, -, -⟩ := w_cells HB.out
   have hd : l.drop k = rd l (k : Int) :: l.drop (k + 1) := by rw [List.drop_eq_getElem_cons hlt]; simp [rd, hlt]
   have hw := HW.out
   rw [hd] at hw
   obtain ⟨d, hdd⟩ : ∃ d, rd l (k : Int) = d := ⟨_, rfl⟩
   rw [hdd] at hw hx1
   obtain ⟨z, hz⟩ : ∃ z, Gm.bear Wh Hf rest bal p.rate d = z := ⟨_, rfl⟩
   rw [wk_cons hz] at hw
   have zb := bear_bd (rate := p.rate) (n := d) GG.out b0 b1
   have G2 := good_bear (bal := bal) (rate := p.rate) (n := d) GG.out
   have RB := Aside0.mk (bear_any (bal := bal) (rate := p.rate) (n := d) BA.out GG.out)
   rw [hz] at zb G2 RB
   have GG2 := Aside0.mk G2
   have HW2 := Aside0.mk hw
   clear hx0 hd hdd hz hw G2 HW
   obtain ⟨z1, z2, z3⟩ := z
   simp only [] at zb GG2 RB HW2
   go_wp2_with fail
   refine RB.out.mono ?_
   rintro e w3 ⟨rfl, hba, hbut⟩
   have BA3 := Aside0.mk hba
   have HB3 := Aside0.mk ((hbut.block g1 (blk_lt HB.out) hne).trans HB.out)
   have BB3 := Aside0.mk (But.below BB.out BB.out.size gbge hbut)
   obtain ⟨-, -, -, u6, -, -, -⟩ := w_cells HB3.out
   clear hba hbut BA HB BB RB u7 hx1
   by_cases hz2 : z2 = 0
   ·subst hz2
    have hw := HW2.out
    rw [if_neg (by simp)] at hw
    by_cases hi : (k : Int) < p.grace
    ·rw [if_pos hi] at hw
     have HW3 := Aside0.mk hw
     clear hw HW2
     go_wp2_with fail
     go_roundg (l.length + 1 - (k + 1))
     case measure => have := hgq.out; omega
     case rel => exact ⟨k + 1, bal, z3, by omega, by simp, rfl, b0, b1, ⟨rfl⟩, ⟨by exact HW3.out⟩, BA3, GG2, HB3, BB3⟩
    ·rw [if_neg hi] at hw
     obtain ⟨nb, hnb⟩ : ∃ nb, bal + (z1 - x) = nb := ⟨_, rfl⟩
     rw [hnb] at hw
     have s1 : IntKind.i64.wrap (z1 - x) = z1 - x := IntWalk.i64_in _ (by omega)
     have s2 : IntKind.i64.wrap (bal + (z1 - x)) = nb := by rw [hnb]; exact IntWalk.i64_in _ (by omega)
     have nb1 : nb ≤ 2000000000000000 := by omega
     clear hnb HW2
     rcases (by omega : nb ≤ 0 ∨ (0 < nb ∧ 1000000000000000 < nb) ∨ (0 < nb ∧ nb ≤ 1000000000000000)) with h1 | ⟨h1, h2⟩ | ⟨h1, h2⟩
     ·rw [if_pos h1] at hw
      have HW3 := Aside0.mk hw
      clear hw
      go_wp2_with fail
      go_ret
      obtain rfl := HW3.out
      exact ⟨rfl, BB3.out⟩
     ·rw [if_neg (by omega), if_pos h2] at hw
      have HW3 := Aside0.mk hw
      clear hw
      go_wp2_with fail
      go_ret
      obtain rfl := HW3.out
      exact ⟨rfl, BB3.out⟩
     ·rw [if_neg (by omega), if_neg (by omega)] at hw
      have HW3 := Aside0.mk hw
      clear hw
      go_wp2_with fail
      go_roundg (l.length + 1 - (k + 1))
      case measure => have := hgq.out; omega
      case rel => exact ⟨k + 1, nb, z3, by omega, by simp, rfl, h1, h2, ⟨rfl⟩, ⟨by exact HW3.out⟩, BA3, GG2, HB3, BB3⟩
   ·have hw := HW2.out
    rw [if_pos hz2] at hw
    have HW3 := Aside0.mk hw
    have hzb : (z2 != 0) = true := by simpa using hz2
    clear hw hz2 HW2
    go_wp2_with fail
    go_ret
    obtain rfl := HW3.out
    exact ⟨rfl, BB3.out⟩
  ·have hw := HW.out
   rw [List.drop_of_length_le (by omega)] at hw
   have HW3 := Aside0.mk (show bal = v from hw)
   clear hw HW
   go_wp2_with fail
   go_ret
   obtain rfl := HW3.out
   exact ⟨rfl, BB.out⟩
end Go.Proofs.Ytcfpkkgdofblfaa.Lv
/- Contracts by hand: level: the least instalment that leaves nothing. -/
namespace Go.Proofs.Ytcfpkkgdofblfaa.Lv
open Go.RowKit Go.Proofs.YtcfpkkgdofblfaaW.PrintWords Go.Proofs.YtcfpkkgdofblfaaW.PrintLast Go.Proofs.YtcfpkkgdofblfaaW.PrintMore Go.Proofs.Ytcfpkkgdofblfaa.HW
open Pm Pd
set_option linter.unusedVariables false
set_option linter.unusedSimpArgs false
open Go.Proofs.Ytcfpkkgdofblfaa.H
abbrev noneE : Ending := .panicked [{ v := .iface 77 (.agg #[]), recovered := false }]
set_option maxRecDepth 100000 in
set_option maxHeartbeats 2000000 in
theorem least_no (p : Prod) (A1 : Option Addr) (c1 : Nat) (A2 : Option Addr) (c2 : Nat) (A3 : Option Addr) (c3 : Nat) (A : Option Addr) (l : List Int) (c : Nat) (m : Int) (f : Int → Int) (w : World) (LEFT : ∀ (x : Int) (W : World), 0 ≤ x → x ≤ 1000000000000000 → Below w.heap.size w W → Calls Try.prog 50 #[wv p A1 c1 A2 c2 A3 c3 A l c m, .int .i64 x] W fun e w' => e = .returned (.int .i64 (f x)) ∧ Below W.heap.size W w') (hf : 0 < f 1000000000000000) :
  Calls Try.prog 49 #[.func (.func 50) #[wv p A1 c1 A2 c2 A3 c3 A l c m] #[]] w fun e w' => e = noneE ∧ Below w.heap.size w w' := by
 have HL := Aside0.mk (LEFT 1000000000000000 w (by decide) (by decide) (Below.refl _ _))
 clear LEFT
 obtain ⟨y, hy⟩ : ∃ y, f 1000000000000000 = y := ⟨_, rfl⟩
 rw [hy] at hf HL
 clear hy
 go_enter Try.func49, Try.ntmps49
 go_wp2_with fail
 refine HL.out.mono ?_
 rintro e w1 ⟨rfl, hb⟩
 have B1 := Aside0.mk hb
 clear hb HL
 go_wp2_with fail
 exact ⟨rfl, rfl, B1.out⟩
set_option maxRecDepth 100000 in
set_option maxHeartbeats 4000000 in
theorem least_yes (p : Prod) (A1 : Option Addr) (c1 : Nat) (A2 : Option Addr) (c2 : Nat) (A3 : Option Addr) (c3 : Nat) (A : Option Addr) (l : List Int) (c : Nat) (m : Int) (f : Int → Int) (w : World) (LEFT : ∀ (x : Int) (W : World), 0 ≤ x → x ≤ 1000000000000000 → Below w.heap.size w W → Calls Try.prog 50 #[wv p A1 c1 A2 c2 A3 c3 A l c m, .int .i64 x] W fun e w' => e = .returned (.int .i64 (f x)) ∧ Below W.heap.size W w') (hf : f 1000000000000000 ≤ 0) :
  Calls Try.prog 49 #[.func (.func 50) #[wv p A1 c1 A2 c2 A3 c3 A l c m] #[]] w fun e w' => e = .returned (.int .i64 (srch f 50 0 1000000000000000)) ∧ Below w.heap.size w w' := by
 have HL := Aside0.mk (LEFT 1000000000000000 w (by decide) (by decide) (Below.refl _ _))
 have LE := Aside0.mk LEFT
 obtain ⟨v, hv⟩ : ∃ v, srch f 50 0 1000000000000000 = v := ⟨_, rfl⟩
 rw [hv]
 have HV := Aside0.mk hv
 clear LEFT hv
 obtain ⟨y, hy⟩ : ∃ y, f 1000000000000000 = y := ⟨_, rfl⟩
 rw [hy] at hf HL
 clear hy
 go_enter Try.func49, Try.ntmps49
 go_wp2_with fail
 refine HL.out.mono ?_
 rintro e w1 ⟨rfl, hb⟩
 have B1 := Aside0.mk hb
 clear hb HL
 go_wp2_with fail
 clear hf
 go_loopg [3, 4] 50 (fun gq lv hv w' => ∃ (lo hi : Int), lv = .int .i64 lo ∧ hv = .int .i64 hi ∧ 0 ≤ lo ∧ lo < hi ∧ hi ≤ 1000000000000000 ∧ Aside0 (hi - lo ≤ 2 ^ gq) ∧ Aside0 (srch f gq lo hi = v) ∧ Aside0 (Below w.heap.size w w'))
 case atStart => exact ⟨0, 1000000000000000, rfl, rfl, by decide, by decide, by decide, ⟨by decide⟩, HV, B1⟩
 case round =>
  obtain ⟨lo, hi, rfl, rfl, l0, l1, h1, hp, hs, BB⟩ := hrel
  obtain ⟨dd, hdd⟩ : ∃ dd, hi - lo = dd := ⟨_, rfl⟩
  have s1 : IntKind.i64.wrap (hi - lo) = dd := by rw [← hdd]; exact IntWalk.i64_in _ (by omega)
  by_cases hc : 1 < dd
  ·obtain ⟨j, hj⟩ : ∃ j, gk = j + 1 := by
    cases gk with
    | zero => have := hp.out; simp at this; omega
    | succ j => exact ⟨j, rfl⟩
   have hs1 := hs.out
   have hp1 := hp.out
   rw [hj, srch, hdd, if_pos hc] at hs1
   rw [hj, Int.pow_succ] at hp1
   obtain ⟨q, hq⟩ : ∃ q, Int.tdiv dd 2 = q := ⟨_, rfl⟩
   have hqd : q = dd / 2 := by rw [← hq]; exact Int.tdiv_eq_ediv_of_nonneg (by omega)
   rw [hq] at hs1
   obtain ⟨mid, hm⟩ : ∃ mid, lo + q = mid := ⟨_, rfl⟩
   rw [hm] at hs1
   have s2 : IntKind.i64.wrap (Int.tdiv dd 2) = q := by rw [hq]; exact IntWalk.i64_in _ (by omega)
   have s3 : IntKind.i64.wrap (lo + q) = mid := by rw [hm]; exact IntWalk.i64_in _ (by omega)
   have m0 : 0 ≤ mid := by omega
   have m1 : lo < mid := by omega
   have m2 : mid < hi := by omega
   have p1 : mid - lo ≤ 2 ^ j := by omega
   have p2 : hi - mid ≤ 2 ^ j := by omega
   have P1 := Aside0.mk p1
   have P2 := Aside0.mk p2
   have HJ := Aside0.mk hj
   have HS := Aside0.mk hs1
   have HL := Aside0.mk (LE.out mid wr m0 (by omega) BB.out)
   obtain ⟨y, hy⟩ : ∃ y, f mid = y := ⟨_, rfl⟩
   rw [hy] at HL HS
   clear hs hp hs1 hp1 hq hqd hm hdd p1 p2 hj hy
   go_wp2_with fail
   refine HL.out.mono ?_
   rintro e w3 ⟨rfl, hb⟩
   have B3 := Aside0.mk (below_step BB.out hb)
   clear hb HL BB
   by_cases hc2 : 0 < y
   ·have hs2 := HS.out
    rw [if_pos hc2] at hs2
    have HS2 := Aside0.mk hs2
    clear hs2 HS
    go_wp2_with fail
    go_roundg j
    case measure => have := HJ.out; omega
    case rel => exact ⟨mid, hi, rfl, rfl, m0, m2, h1, P2, HS2, B3⟩
   ·have hs2 := HS.out
    rw [if_neg hc2] at hs2
    have HS2 := Aside0.mk hs2
    clear hs2 HS
    go_wp2_with fail
    go_roundg j
    case measure => have := HJ.out; omega
    case rel => exact ⟨lo, mid, rfl, rfl, l0, m1, by omega, P1, HS2, B3⟩
  ·have hs1 := hs.out
   have he : hi = v := by
    cases gk with
    | zero => exact hs1
    | succ j => rw [srch, hdd, if_neg hc] at hs1; exact hs1
   have HE := Aside0.mk he
   clear hs hs1 hp hdd he
   go_wp2_with fail
   go_ret
   obtain rfl := HE.out
   exact ⟨rfl, BB.out⟩
end Go.Proofs.Ytcfpkkgdofblfaa.Lv
/- Contracts by hand: level.Left and level.Of. -/
namespace Go.Proofs.Ytcfpkkgdofblfaa.Lv
open Go.RowKit Go.Proofs.YtcfpkkgdofblfaaW.PrintWords Go.Proofs.YtcfpkkgdofblfaaW.PrintLast Go.Proofs.YtcfpkkgdofblfaaW.PrintMore Go.Proofs.Ytcfpkkgdofblfaa.HW
open Pm Pd
set_option linter.unusedVariables false
set_option linter.unusedSimpArgs false
open Go.Proofs.Ytcfpkkgdofblfaa.H
theorem of_idle (pv_ pe : Addr) (w : World) :
  CallsD Try.prog 48 #[.pointer (some pv_), .pointer (some pe)] .returning w fun e u' w' => e = .returned (.tuple #[]) ∧ u' = .returning ∧ w' = w := by
 refine callsD_of_wpS Try.func48 rfl fun c₀ cs hu => ?_
 simp only [Try.ntmps48, List.size_toArray, List.length_cons, List.length_nil, Nat.reduceAdd, Nat.reduceSub, Array.replicate_succ, Array.replicate_zero, List.push_toArray, List.append_toArray, List.nil_append, List.cons_append]
 apply wpS_seq
 apply wpS_region
 simp [wpOpsS, go_sem, recoverD, hu, Exit.thenS]
 refine rest_plainP fun Q HQ => ?_
 go_wp2
 refine HQ.out _ _ _ ?_
 clear HQ
 simp [bodyPostS, results, Try.results48, hu]
 cases c₀
 simp_all
theorem of_thrown (pv_ pe : Addr) (x y : Int) (older : List PanicEntry) (w : World) (hne : pv_.block ≠ pe.block) (hx : w.cell? pv_ = some (.int .i64 x)) (hy : w.cell? pe = some (.int .i64 y)) (fx : w.frozen? pv_ = false) (fy : w.frozen? pe = false) :
  CallsD Try.prog 48 #[.pointer (some pv_), .pointer (some pe)] (.panicking ({ v := .iface 77 (.agg #[]), recovered := false } :: older)) w fun e u' w' =>
   e = .returned (.tuple #[]) ∧ u' = .panicking ({ v := .iface 77 (.agg #[]), recovered := true } :: older) ∧ w' = ((w.alloc (.cells #[] 77)).setCell pv_ (.int .i64 0)).setCell pe (.int .i64 10) := by
 refine callsD_of_wpS Try.func48 rfl fun c₀ cs hu => ?_
 simp only [Try.ntmps48, List.size_toArray, List.length_cons, List.length_nil, Nat.reduceAdd, Nat.reduceSub, Array.replicate_succ, Array.replicate_zero, List.push_toArray, List.append_toArray, List.nil_append, List.cons_append]
 apply wpS_seq
 apply wpS_region
 simp [wpOpsS, go_sem, recoverD, hu, Exit.thenS]
 refine rest_plainP fun Q HQ => ?_
 have hta : ∀ w, (Instr.typeAssert (.iface 77 (.agg #[])) 20 77 true).run Try.prog w = .ok (.tuple #[.agg #[], .bool true]) w := fun _ => by kernel_rfl
 have hltx := cell_ltR hx
 have hlty := cell_ltR hy
 have hb := (Below.refl w.heap.size w).alloc (Nat.le_refl _) (.cells #[] 77)
 have hx2 : (w.alloc (.cells #[] 77)).cell? pv_ = some (.int .i64 x) := by rw [hb.cell hltx]; exact hx
 have fx2 : (w.alloc (.cells #[] 77)).frozen? pv_ = false := by rw [hb.frozen hltx]; exact fx
 have hy1 : (w.alloc (.cells #[] 77)).cell? pe = some (.int .i64 y) := by rw [hb.cell hlty]; exact hy
 have hy2 : ((w.alloc (.cells #[] 77)).setCell pv_ (.int .i64 0)).cell? pe = some (.int .i64 y) := by rw [World.cell?_setCell_other]; exact hy1; exact fun e => hne (by rw [e])
 have fy2 : (w.alloc (.cells #[] 77)).frozen? pe = false := by rw [hb.frozen hlty]; exact fy
 clear hb hy1
 go_wp2
 refine HQ.out _ _ _ ?_
 clear HQ
 simp [bodyPostS, results, Try.results48, hu]
theorem built_walk (p : Prod) (A1 : Option Addr) (c1 : Nat) (A2 : Option Addr) (c2 : Nat) (A3 : Option Addr) (c3 : Nat) (A : Option Addr) (l : List Int) (c : Nat) (m : Int) :
  Try.prog.built 74 [(0, .agg (pcs p A1 c1 A2 c2 A3 c3)), (1, .slice A l.length c), (2, .int .i64 m)] = some (wcs p A1 c1 A2 c2 A3 c3 A l c m) := by kernel_rfl
theorem ask_known {p : Prod} {l : List Int} {m : Int} (h : askE p l m = 0) : (1 ≤ p.count ∧ p.count ≤ 3) ∧ (p.round = 1 ∨ p.round = 3) ∧ (0 ≤ p.rate ∧ p.rate ≤ 1000000000) ∧ (0 ≤ p.grace ∧ p.grace ≤ 600) ∧ 1 ≤ m ∧ m ≤ 10000000000000 := by
 unfold askE at h
 split at h
 ·simp at h
 ·rename_i h1
  split at h
  ·rename_i h2
   have hk : ok p = true := by
    rcases err_two p with e | e
    ·unfold err at e; split at e; assumption; simp at e
    ·exact absurd e (fun e => h1 (by rw [e]; decide))
   simp only [ok, shapeOk, ratesOk, ordOk, lateOk, daysOk, Bool.and_eq_true, decide_eq_true_eq] at hk
   obtain ⟨⟨⟨⟨⟨_, b1, b2, b3, b4, b5, b6, b7⟩, ⟨d1, _⟩, _⟩, _⟩, _⟩, _⟩ := hk
   exact ⟨b1, b2, d1, ⟨b6.1, by omega⟩, h2.2.1, h2.2.2.1⟩
  ·simp at h
def lf (p : Prod) (l : List Int) (m : Int) (x : Int) : Int := wk (Gm.whole p.count) (Gm.half p.count p.round) p.rate p.grace x 0 l m 0
def leftE (p : Prod) (l : List Int) (m x : Int) : Int × Int := if askE p l m ≠ 0 then (0, askE p l m) else if 0 ≤ x ∧ x ≤ 1000000000000000 then (lf p l m x, 0) else (0, 1)
def ofE (p : Prod) (l : List Int) (m : Int) : Int × Int := if askE p l m ≠ 0 then (0, askE p l m) else if 0 < lf p l m 1000000000000000 then (0, 10) else (srch (lf p l m) 50 0 1000000000000000, 0)
def Two (v : Int × Int) (w : World) (e : Ending) (w' : World) : Prop := e = .returned (.tuple #[.int .i64 v.1, .int .i64 v.2]) ∧ Below w.heap.size w w'
set_option maxRecDepth 100000 in
set_option maxHeartbeats 4000000 in
theorem Left_any (p : Prod) (A1 : Option Addr) (c1 : Nat) (A2 : Option Addr) (c2 : Nat) (A3 : Option Addr) (c3 : Nat) (A : Option Addr) (l : List Int) (c : Nat) (m : Int) (w : World) (hg : GV w) (hp : ProdAt w p A1 c1 A2 c2 A3 c3) (hs : Small p) (hr : Kd.C (Kd.int .i64) w A l.length l) (hl : l.length ≤ 1000000) (x : Int) :
  Calls Try.prog 26 #[pv p A1 c1 A2 c2 A3 c3, .slice A l.length c, .int .i64 m, .int .i64 x] w (Two (leftE p l m x) w) := by
 have MA := Aside0.mk (fun W (hb : Below w.heap.size w W) => may_any p A1 c1 A2 c2 A3 c3 A l c m W (hg.below hb) (hp.below hb) hs (Kd.C_below hr hb) hl)
 have LE := Aside0.mk (fun (h : askE p l m = 0) (x0 : 0 ≤ x) (x1 : x ≤ 1000000000000000) W (hb : Below w.heap.size w W) => left_any p A1 c1 A2 c2 A3 c3 A l c m x W (ask_known h).1 (ask_known h).2.1 (ask_known h).2.2.1 (ask_known h).2.2.2.1 (Kd.C_below hr hb) hl (ask_known h).2.2.2.2.1 (ask_known h).2.2.2.2.2 x0 x1)
 clear hg hp hs hr
 unfold Two
 obtain ⟨v, hv⟩ : ∃ v, leftE p l m x = v := ⟨_, rfl⟩
 rw [hv]
 have HV := Aside0.mk hv
 clear hv
 go_enter Try.func26, Try.ntmps26
 go_wp2_with (first
  | ((with_reducible refine gate_dst (N := 4) rfl ?_); refine box_event ?hg (N := 4) ?hd (cs := pcs p A1 c1 A2 c2 A3 c3) (t := 27) ?hr ?_; (case hd => rfl); (case hg => rfl); (case hr => first | (go_simp; done) | (go_simp; rfl)); intro g1 hg w1 hbg1 hblg1; have g1ge := (show w.heap.size ≤ g1 by rw [hg]; exact Nat.le_refl _); clear hg; have HBg1 := Aside0.mk hbg1; have BLg1 := Aside0.mk hblg1; clear hbg1 hblg1)
  | ((with_reducible refine gate_dst (N := 12) rfl ?_); refine wpList_load_row rfl 27 (.tmp 4) rfl g1 rfl 27 _ (0, 0) _ HBg1.out Try.underlying27 rfl info_prod ?_)
  | ((with_reducible refine gate_dst (N := 15) rfl ?_); refine build_event rfl (t := 74) rfl (cs := wcs p A1 c1 A2 c2 A3 c3 A l c m) ?hb ?_; (case hb => simp only [List.map_toArray, List.map_cons, List.map_nil]; exact built_walk p A1 c1 A2 c2 A3 c3 A l c m))
  | ((with_reducible refine gate_dst (N := 10) rfl ?_); refine copy_event rfl (N := 10) rfl rfl rfl (t := 74) (v := .tmp 15) rfl (cs := wcs p A1 c1 A2 c2 A3 c3 A l c m) (zs := wzs) ?hr rfl rfl info_walk ?hz (wcs_one _ _ _ _ _ _ _ _ _ _ _) ?_; (case hr => first | (go_simp; done) | (go_simp; rfl)); (case hz => rfl); intro g4 hg4 w4 hb4 hbl4; have HB4 := Aside0.mk hb4; have BL4 := Aside0.mk (below_step BLg1.out hbl4); clear hg4 hb4 hbl4)
  | ((with_reducible refine gate_dst (N := 16) rfl ?_); refine wpList_load_row rfl 74 (.tmp 10) rfl g4 rfl 74 _ (0, 0) _ HB4.out Try.underlying74 rfl info_walk ?_)
  | fail)
 refine (MA.out _ BL4.out).mono ?_
 rintro e w5 ⟨rfl, hb⟩
 have HB5 := Aside0.mk (Pd.blk_below HB4.out hb)
 have B5 := Aside0.mk (below_step BL4.out hb)
 clear hb HB4 BL4 HBg1 BLg1
 by_cases ha : askE p l m = 0
 ·have hx := HV.out
  unfold leftE at hx
  rw [if_neg (by rw [ha]; decide)] at hx
  have LL := Aside0.mk (LE.out ha)
  rw [ha]
  clear ha LE
  rcases (by omega : x < 0 ∨ (0 ≤ x ∧ 1000000000000000 < x) ∨ (0 ≤ x ∧ x ≤ 1000000000000000)) with h | ⟨h, h2⟩ | ⟨h, h2⟩
  ·rw [if_neg (by omega)] at hx
   have HX := Aside0.mk hx
   clear hx HV
   go_wp2_with fail
   go_ret2
   obtain rfl := HX.out
   exact ⟨rfl, B5.out⟩
  ·rw [if_neg (by omega)] at hx
   have HX := Aside0.mk hx
   clear hx HV
   go_wp2_with fail
   go_ret2
   obtain rfl := HX.out
   exact ⟨rfl, B5.out⟩
  ·rw [if_pos ⟨h, h2⟩] at hx
   have HX := Aside0.mk hx
   clear hx HV
   go_wp2_with (first
  | ((with_reducible refine gate_dst (N := 27) rfl ?_); refine wpList_load_row rfl 74 (.tmp 10) rfl g4 rfl 74 _ (0, 0) _ HB5.out Try.underlying74 rfl info_walk ?_)
  | fail)
   refine (LL.out h h2 _ B5.out).mono ?_
   rintro e w6 ⟨rfl, hb⟩
   have B6 := Aside0.mk (below_step B5.out hb)
   clear hb B5 HB5 LL
   have hfold : wk (Gm.whole p.count) (Gm.half p.count p.round) p.rate p.grace x 0 l m 0 = lf p l m x := rfl
   rw [hfold]
   clear hfold
   go_wp2_with fail
   go_ret2
   obtain rfl := HX.out
   exact ⟨rfl, B6.out⟩
 ·have hx := HV.out
  unfold leftE at hx
  rw [if_pos ha] at hx
  obtain ⟨ae, hae⟩ : ∃ ae, askE p l m = ae := ⟨_, rfl⟩
  rw [hae] at ha hx ⊢
  have hn : (ae != 0) = true := by simpa using ha
  have HX := Aside0.mk hx
  clear hx HV ha hae LE
  go_wp2_with fail
  go_ret2
  obtain rfl := HX.out
  exact ⟨rfl, B5.out⟩
end Go.Proofs.Ytcfpkkgdofblfaa.Lv
/- Contracts by hand: level.Of. -/
namespace Go.Proofs.Ytcfpkkgdofblfaa.Lv
open Go.RowKit Go.Proofs.YtcfpkkgdofblfaaW.PrintWords Go.Proofs.YtcfpkkgdofblfaaW.PrintLast Go.Proofs.YtcfpkkgdofblfaaW.PrintMore Go.Proofs.Ytcfpkkgdofblfaa.HW
open Pm Pd
set_option linter.unusedVariables false
set_option linter.unusedSimpArgs false
open Go.Proofs.Ytcfpkkgdofblfaa.H
structure ResB (w W : World) (g h : Nat) (x y : Value) : Prop where
 below : Below w.heap.size w W
 gge : w.heap.size ≤ g
 hge : w.heap.size ≤ h
 ne : g ≠ h
 c0 : W.cell? ⟨g, 0, none⟩ = some x
 f0 : W.frozen? ⟨g, 0, none⟩ = false
 c1 : W.cell? ⟨h, 0, none⟩ = some y
 f1 : W.frozen? ⟨h, 0, none⟩ = false
theorem ResB.step {w W W' : World} {g h : Nat} {x y : Value} (r : ResB w W g h x y) (hb : Below W.heap.size W W') : ResB w W' g h x y :=
 ⟨below_step r.below hb, r.gge, r.hge, r.ne, by rw [hb.cell (by exact cell_ltR r.c0)]; exact r.c0, by rw [hb.frozen (by exact cell_ltR r.c0)]; exact r.f0, by rw [hb.cell (by exact cell_ltR r.c1)]; exact r.c1, by rw [hb.frozen (by exact cell_ltR r.c1)]; exact r.f1⟩
theorem ResB.of {w W : World} {g h : Nat} {x y : Value} {t u : TypeId} (hb : Below w.heap.size w W) (hg : w.heap.size ≤ g) (hh : w.heap.size ≤ h) (ne : g ≠ h) (b0 : W.heap[g]? = some (.cells #[x] t (0, 0))) (b1 : W.heap[h]? = some (.cells #[y] u (0, 0))) : ResB w W g h x y :=
 ⟨hb, hg, hh, ne, (blk_cell b0 0).trans rfl, frozen_of_row W g 0 _ _ b0, (blk_cell b1 0).trans rfl, frozen_of_row W h 0 _ _ b1⟩
theorem ResB.put {w W : World} {g h : Nat} {x y : Value} (r : ResB w W g h x y) (u v : Value) : ResB w ((W.setCell ⟨g, 0, none⟩ u).setCell ⟨h, 0, none⟩ v) g h u v := by
 have hn : (⟨h, 0, none⟩ : Addr) ≠ ⟨g, 0, none⟩ := fun e => r.ne (by injection e with e1; exact e1.symm)
 refine ⟨(r.below.setCell (by exact r.gge) _).setCell (by exact r.hge) _, r.gge, r.hge, r.ne, ?_, ?_, ?_, ?_⟩
 ·rw [World.cell?_setCell_other _ _ _ _ (by first | exact hn | exact hn.symm), World.cell?_setCell_same _ _ _ r.c0]
 ·simp [go_sem, r.f0]
 ·rw [World.cell?_setCell_same (v := v) (u := y) _ _ (by rw [World.cell?_setCell_other _ _ _ _ (by first | exact hn | exact hn.symm)]; exact r.c1)]
 ·simp [go_sem, r.f1]
set_option maxRecDepth 100000 in
set_option maxHeartbeats 4000000 in
theorem Of_any (p : Prod) (A1 : Option Addr) (c1 : Nat) (A2 : Option Addr) (c2 : Nat) (A3 : Option Addr) (c3 : Nat) (A : Option Addr) (l : List Int) (c : Nat) (m : Int) (w : World) (hg : GV w) (hp : ProdAt w p A1 c1 A2 c2 A3 c3) (hs : Small p) (hr : Kd.C (Kd.int .i64) w A l.length l) (hl : l.length ≤ 1000000) :
  Calls Try.prog 23 #[pv p A1 c1 A2 c2 A3 c3, .slice A l.length c, .int .i64 m] w (Two (ofE p l m) w) := by
 have MA := Aside0.mk (fun W (hb : Below w.heap.size w W) => may_any p A1 c1 A2 c2 A3 c3 A l c m W (hg.below hb) (hp.below hb) hs (Kd.C_below hr hb) hl)
 have LE := Aside0.mk (fun (h : askE p l m = 0) (x : Int) (x0 : 0 ≤ x) (x1 : x ≤ 1000000000000000) W (hb : Below w.heap.size w W) => show Calls Try.prog 50 #[wv p A1 c1 A2 c2 A3 c3 A l c m, .int .i64 x] W fun e w' => e = .returned (.int .i64 (lf p l m x)) ∧ Below W.heap.size W w' from left_any p A1 c1 A2 c2 A3 c3 A l c m x W (ask_known h).1 (ask_known h).2.1 (ask_known h).2.2.1 (ask_known h).2.2.2.1 (Kd.C_below hr hb) hl (ask_known h).2.2.2.2.1 (ask_known h).2.2.2.2.2 x0 x1)
 clear hg hp hs hr
 unfold Two
 obtain ⟨v, hv⟩ : ∃ v, ofE p l m = v := ⟨_, rfl⟩
 rw [hv]
 have HV := Aside0.mk hv
 clear hv
 go_enter_defers Try.func23, Try.ntmps23
 go_wp2_with (first
  | ((with_reducible refine gate_dst (N := 3) rfl ?_); refine box_event ?hg (N := 3) ?hd (cs := pcs p A1 c1 A2 c2 A3 c3) (t := 27) ?hr ?_; (case hd => rfl); (case hg => rfl); (case hr => first | (go_simp; done) | (go_simp; rfl)); intro g1 hg w1 hbg1 hblg1; have g1ge := (show w.heap.size ≤ g1 by rw [hg]; exact Nat.le_refl _); clear hg; have HBg1 := Aside0.mk hbg1; have BLg1 := Aside0.mk hblg1; clear hbg1 hblg1)
  | ((with_reducible refine gate_dst (N := 6) rfl ?_); refine box_event ?hg (N := 6) ?hd (cs := #[.int .i64 0]) (t := 2) ?hr ?_; (case hd => rfl); (case hg => rfl); (case hr => first | (go_simp; done) | (go_simp; rfl)); intro g6 hg w6 hbg6 hblg6; have g6ge := (show w.heap.size ≤ g6 by rw [hg]; exact BLg1.out.size); have HBg1 := Aside0.mk (Pd.blk_below HBg1.out hblg6); have HBg6 := Aside0.mk hbg6; have BLg6 := Aside0.mk (below_step BLg1.out hblg6); clear hg hbg6 hblg6)
  | ((with_reducible refine gate_dst (N := 7) rfl ?_); refine box_event ?hg (N := 7) ?hd (cs := #[.int .i64 0]) (t := 32) ?hr ?_; (case hd => rfl); (case hg => rfl); (case hr => first | (go_simp; done) | (go_simp; rfl)); intro g7 hg w7 hbg7 hblg7; have g7ge := (show w.heap.size ≤ g7 by rw [hg]; exact BLg6.out.size); have HBg1 := Aside0.mk (Pd.blk_below HBg1.out hblg7); have ne67 : g6 ≠ g7 := (by have := blk_lt HBg6.out; omega); have HBg6 := Aside0.mk (Pd.blk_below HBg6.out hblg7); have HBg7 := Aside0.mk hbg7; have BLg7 := Aside0.mk (below_step BLg6.out hblg7); have R7 := Aside0.mk (ResB.of BLg7.out g6ge g7ge ne67 HBg6.out HBg7.out); clear hg hbg7 hblg7)
  | ((with_reducible refine gate_dst (N := 10) rfl ?_); refine wpList_load_row rfl 27 (.tmp 3) rfl g1 rfl 27 _ (0, 0) _ HBg1.out Try.underlying27 rfl info_prod ?_)
  | ((with_reducible refine gate_dst (N := 13) rfl ?_); refine build_event rfl (t := 74) rfl (cs := wcs p A1 c1 A2 c2 A3 c3 A l c m) ?hb ?_; (case hb => simp only [List.map_toArray, List.map_cons, List.map_nil]; exact built_walk p A1 c1 A2 c2 A3 c3 A l c m))
  | ((with_reducible refine gate_dst (N := 8) rfl ?_); refine copy_event rfl (N := 8) rfl rfl rfl (t := 74) (v := .tmp 13) rfl (cs := wcs p A1 c1 A2 c2 A3 c3 A l c m) (zs := wzs) ?hr rfl rfl info_walk ?hz (wcs_one _ _ _ _ _ _ _ _ _ _ _) ?_; (case hr => first | (go_simp; done) | (go_simp; rfl)); (case hz => rfl); intro g4 hg4 w4 hb4 hbl4; have R4 := Aside0.mk (R7.out.step hbl4); have HB4 := Aside0.mk hb4; have BL4 := Aside0.mk (below_step BLg7.out hbl4); clear hg4 hb4 hbl4)
  | ((with_reducible refine gate_dst (N := 14) rfl ?_); refine wpList_load_row rfl 74 (.tmp 8) rfl g4 rfl 74 _ (0, 0) _ HB4.out Try.underlying74 rfl info_walk ?_)
  | fail)
 refine (MA.out _ BL4.out).mono ?_
 rintro e w5 ⟨rfl, hb⟩
 have HB5 := Aside0.mk (Pd.blk_below HB4.out hb)
 have R5 := Aside0.mk (R4.out.step hb)
 clear hb HB4 BL4 HBg1 BLg1 HBg6 BLg6 HBg7 BLg7 R4 R7
 by_cases ha : askE p l m = 0
 ·have hx := HV.out
  unfold ofE at hx
  rw [if_neg (by rw [ha]; decide)] at hx
  have LL := Aside0.mk (fun (x : Int) (W : World) (x0 : 0 ≤ x) (x1 : x ≤ 1000000000000000) (hb : Below w5.heap.size w5 W) => LE.out ha x x0 x1 W (below_step R5.out.below hb))
  rw [ha]
  clear ha LE
  by_cases hf : 0 < lf p l m 1000000000000000
  ·rw [if_pos hf] at hx
   have HX := Aside0.mk hx
   have LN := Aside0.mk (least_no p A1 c1 A2 c2 A3 c3 A l c m (lf p l m) w5 LL.out hf)
   clear hx HV LL hf
   go_wp2_with (first
  | ((with_reducible refine gate_dst (N := 20) rfl ?_); refine wpList_load_row rfl 74 (.tmp 8) rfl g4 rfl 74 _ (0, 0) _ HB5.out Try.underlying74 rfl info_walk ?_)
  | fail)
   refine LN.out.mono ?_
   rintro e w6 ⟨rfl, hb⟩
   have R6 := Aside0.mk (R5.out.step hb)
   clear hb R5 HB5 LN
   refine leaves_cons (f := 48) (args := #[.pointer (some ⟨g6, 0, none⟩), .pointer (some ⟨g7, 0, none⟩)]) (by simp) (by simp [go_sem]) ?_
   refine (of_thrown ⟨g6, 0, none⟩ ⟨g7, 0, none⟩ 0 0 [] _ (by exact R6.out.ne) R6.out.c0 R6.out.c1 R6.out.f0 R6.out.f1).mono ?_
   rintro e u' w'' ⟨rfl, rfl, rfl⟩
   have RA := (R6.out.step ((Below.refl w6.heap.size w6).alloc (Nat.le_refl _) (.cells #[] 77))).put (.int .i64 0) (.int .i64 10)
   have c0 := RA.c0
   have c1 := RA.c1
   obtain rfl := HX.out
   simp [Leaves, settle, results, Try.results23, go_sem, c0, c1]
   exact RA.below
  ·rw [if_neg hf] at hx
   have HX := Aside0.mk hx
   have LN := Aside0.mk (least_yes p A1 c1 A2 c2 A3 c3 A l c m (lf p l m) w5 LL.out (by omega))
   clear hx HV LL hf
   go_wp2_with (first
  | ((with_reducible refine gate_dst (N := 20) rfl ?_); refine wpList_load_row rfl 74 (.tmp 8) rfl g4 rfl 74 _ (0, 0) _ HB5.out Try.underlying74 rfl info_walk ?_)
  | fail)
   refine LN.out.mono ?_
   rintro e w6 ⟨rfl, hb⟩
   have R6 := Aside0.mk (R5.out.step hb)
   clear hb R5 HB5 LN
   have c0 := R6.out.c0
   have f0 := R6.out.f0
   have c1 := R6.out.c1
   have f1 := R6.out.f1
   have ne := R6.out.ne
   have RP := Aside0.mk (R6.out.put (.int .i64 (srch (lf p l m) 50 0 1000000000000000)) (.int .i64 0))
   have c1' : (w6.setCell ⟨g6, 0, none⟩ (.int .i64 (srch (lf p l m) 50 0 1000000000000000))).cell? ⟨g7, 0, none⟩ = some (.int .i64 0) := by rw [World.cell?_setCell_other _ _ _ _ (by first | (intro e; injection e with e1; exact ne e1.symm) | (intro e; injection e with e1; exact ne e1))]; exact c1
   go_wp2_with fail
   refine leaves_cons (f := 48) (args := #[.pointer (some ⟨g6, 0, none⟩), .pointer (some ⟨g7, 0, none⟩)]) (by simp) (by simp [go_sem]) ?_
   refine (of_idle ⟨g6, 0, none⟩ ⟨g7, 0, none⟩ _).mono ?_
   rintro e u' w'' ⟨rfl, rfl, rfl⟩
   have d0 := RP.out.c0
   have d1 := RP.out.c1
   obtain rfl := HX.out
   simp [Leaves, settle, results, Try.results23, go_sem, d0, d1]
   exact RP.out.below
 ·have hx := HV.out
  unfold ofE at hx
  rw [if_pos ha] at hx
  obtain ⟨ae, hae⟩ : ∃ ae, askE p l m = ae := ⟨_, rfl⟩
  rw [hae] at ha hx ⊢
  have hn : (ae != 0) = true := by simpa using ha
  have HX := Aside0.mk hx
  clear hx HV ha hae LE
  have c0 := R5.out.c0
  have f0 := R5.out.f0
  have c1 := R5.out.c1
  have f1 := R5.out.f1
  have ne := R5.out.ne
  have RP := Aside0.mk (R5.out.put (.int .i64 0) (.int .i64 ae))
  have c1' : (w5.setCell ⟨g6, 0, none⟩ (.int .i64 0)).cell? ⟨g7, 0, none⟩ = some (.int .i64 0) := by rw [World.cell?_setCell_other _ _ _ _ (by first | (intro e; injection e with e1; exact ne e1.symm) | (intro e; injection e with e1; exact ne e1))]; exact c1
  go_wp2_with fail
  have d0 := RP.out.c0
  have d1 := RP.out.c1
  obtain rfl := HX.out
  simp [bodyPostD, Leaves, settle, results, Try.results23, go_sem, d0, d1]
  exact RP.out.below
end Go.Proofs.Ytcfpkkgdofblfaa.Lv
/- Contracts by hand: the document's level: what may be asked; what is left. -/
namespace Go.Proofs.Ytcfpkkgdofblfaa.Lv
open Go.RowKit Go.Proofs.YtcfpkkgdofblfaaW.PrintWords Go.Proofs.YtcfpkkgdofblfaaW.PrintLast Go.Proofs.YtcfpkkgdofblfaaW.PrintMore Go.Proofs.Ytcfpkkgdofblfaa.HW
open Pm Pd
set_option linter.unusedVariables false
set_option linter.unusedSimpArgs false
open Go.Proofs.Ytcfpkkgdofblfaa.H
theorem drop_rd {l : List Int} {k : Nat} (h : k < l.length) : l.drop k = rd l (k : Int) :: l.drop (k + 1) := by rw [List.drop_eq_getElem_cons h]; simp [rd, h]
set_option maxRecDepth 100000 in
set_option maxHeartbeats 2000000 in
theorem asked_bad (p : Prod) (A1 : Option Addr) (c1 : Nat) (A2 : Option Addr) (c2 : Nat) (A3 : Option Addr) (c3 : Nat) (A : Option Addr) (l : List Int) (c : Nat) (m : Int) (w : World) (hp : ProdAt w p A1 c1 A2 c2 A3 c3) (hs : Held p) (hr : Kd.C (Kd.int .i64) w A l.length l) (hl : l.length ≤ 1000000) (ha : err p = 9) : Calls Try.prog 51 #[pv p A1 c1 A2 c2 A3 c3, .slice A l.length c, .int .i64 m] w (AskP p l m w) := by
 have hx : askE p l m = 9 := by unfold askE; rw [ha, if_pos (by decide)]
 unfold AskP
 rw [hx]
 clear hx
 have HP := Aside0.mk hp
 have HS := Aside0.mk hs
 have HR := Aside0.mk hr
 have HA := Aside0.mk ha
 clear hp hs hr ha
 go_enter Try.func51, Try.ntmps51
 go_wp2_with (first
  | ((with_reducible refine gate_dst (N := 3) rfl ?_); refine box_event ?hg (N := 3) ?hd (cs := pcs p A1 c1 A2 c2 A3 c3) (t := 27) ?hr ?_; (case hd => rfl); (case hg => rfl); (case hr => first | (go_simp; done) | (go_simp; rfl)); intro g1 hg w1 hbg1 hblg1; have g1ge := (show w.heap.size ≤ g1 by rw [hg]; exact Nat.le_refl _); clear hg; have HBg1 := Aside0.mk hbg1; have BLg1 := Aside0.mk hblg1; clear hbg1 hblg1)
  | ((with_reducible refine gate_dst (N := 9) rfl ?_); refine wpList_load_row rfl 27 (.tmp 3) rfl g1 rfl 27 _ (0, 0) _ HBg1.out Try.underlying27 rfl info_prod ?_)
  | fail)
 refine (rcheck_any p A1 c1 A2 c2 A3 c3 _ (HP.out.below BLg1.out) HS.out).mono ?_
 rw [HA.out]
 rintro e w2 ⟨rfl, hb⟩
 have B2 := Aside0.mk (below_step BLg1.out hb)
 obtain ⟨-, -, -, -, -, q5, -⟩ := pc_cells (Pd.blk_below HBg1.out hb)
 have HR2 := Aside0.mk (Kd.C_below (Kd.C_below HR.out BLg1.out) hb)
 clear hb HBg1 BLg1
 go_wp2_with fail
 go_ret
 exact ⟨rfl, B2.out⟩
set_option maxRecDepth 100000 in
set_option maxHeartbeats 4000000 in
theorem asked_loop (p : Prod) (A1 : Option Addr) (c1 : Nat) (A2 : Option Addr) (c2 : Nat) (A3 : Option Addr) (c3 : Nat) (A : Option Addr) (l : List Int) (c : Nat) (m : Int) (w : World) (hp : ProdAt w p A1 c1 A2 c2 A3 c3) (hs : Held p) (hr : Kd.C (Kd.int .i64) w A l.length l) (hl : l.length ≤ 1000000) (ha : err p = 0) (b0 : Bool) (hb0 : b0 = decide ((l.length : Int) = p.times ∧ 1 ≤ m ∧ m ≤ 10000000000000)) : Calls Try.prog 51 #[pv p A1 c1 A2 c2 A3 c3, .slice A l.length c, .int .i64 m] w (AskP p l m w) := by
 have hx : askE p l m = if (b0 && fine l) = true then 0 else 1 := by
  unfold askE
  rw [ha, if_neg (by decide), hb0]
  by_cases h : (l.length : Int) = p.times ∧ 1 ≤ m ∧ m ≤ 10000000000000
  ·rw [decide_eq_true h, Bool.true_and]
   by_cases hf : fine l = true
   ·rw [if_pos hf, if_pos ⟨h.1, h.2.1, h.2.2, hf⟩]
   ·rw [if_neg hf, if_neg (fun x => hf x.2.2.2)]
  ·rw [decide_eq_false h, Bool.false_and, if_neg (fun x => h ⟨x.1, x.2.1, x.2.2.1⟩), if_neg (by decide)]
 unfold AskP
 obtain ⟨v, hv⟩ : ∃ v, (if (b0 && fine l) = true then (0 : Int) else 1) = v := ⟨_, rfl⟩
 rw [hx, hv]
 have HV := Aside0.mk hv
 have HB0 := Aside0.mk hb0
 clear hx hv hb0
 have HP := Aside0.mk hp
 have HS := Aside0.mk hs
 have HR := Aside0.mk hr
 have HA := Aside0.mk ha
 clear hp hs hr ha
 go_enter Try.func51, Try.ntmps51
 go_wp2_with (first
  | ((with_reducible refine gate_dst (N := 3) rfl ?_); refine box_event ?hg (N := 3) ?hd (cs := pcs p A1 c1 A2 c2 A3 c3) (t := 27) ?hr ?_; (case hd => rfl); (case hg => rfl); (case hr => first | (go_simp; done) | (go_simp; rfl)); intro g1 hg w1 hbg1 hblg1; have g1ge := (show w.heap.size ≤ g1 by rw [hg]; exact Nat.le_refl _); clear hg; have HBg1 := Aside0.mk hbg1; have BLg1 := Aside0.mk hblg1; clear hbg1 hblg1)
  | ((with_reducible refine gate_dst (N := 9) rfl ?_); refine wpList_load_row rfl 27 (.tmp 3) rfl g1 rfl 27 _ (0, 0) _ HBg1.out Try.underlying27 rfl info_prod ?_)
  | fail)
 refine (rcheck_any p A1 c1 A2 c2 A3 c3 _ (HP.out.below BLg1.out) HS.out).mono ?_
 rw [HA.out]
 rintro e w2 ⟨rfl, hb⟩
 have B2 := Aside0.mk (below_step BLg1.out hb)
 obtain ⟨-, -, -, -, -, q5, -⟩ := pc_cells (Pd.blk_below HBg1.out hb)
 have HR2 := Aside0.mk (Kd.C_below (Kd.C_below HR.out BLg1.out) hb)
 clear hb HBg1 BLg1
 have hcs : ((l.length : Int) == p.times) = false ∧ b0 = false ∨ ((l.length : Int) == p.times) = true ∧ m < 1 ∧ b0 = false ∨ ((l.length : Int) == p.times) = true ∧ 1 ≤ m ∧ 10000000000000 < m ∧ b0 = false ∨ ((l.length : Int) == p.times) = true ∧ 1 ≤ m ∧ m ≤ 10000000000000 ∧ b0 = true := by
  by_cases h : (l.length : Int) = p.times
  ·rcases (by omega : m < 1 ∨ (1 ≤ m ∧ 10000000000000 < m) ∨ (1 ≤ m ∧ m ≤ 10000000000000)) with h2 | ⟨h2, h3⟩ | ⟨h2, h3⟩
   ·exact .inr (.inl ⟨by simpa using h, h2, by rw [HB0.out]; exact decide_eq_false (by omega)⟩)
   ·exact .inr (.inr (.inl ⟨by simpa using h, h2, h3, by rw [HB0.out]; exact decide_eq_false (by omega)⟩))
   ·exact .inr (.inr (.inr ⟨by simpa using h, h2, h3, by rw [HB0.out]; exact decide_eq_true ⟨h, h2, h3⟩⟩))
  ·exact .inl ⟨by simpa using h, by rw [HB0.out]; exact decide_eq_false (fun x => h x.1)⟩
 clear HB0
 rcases hcs with ⟨h, hq⟩ | ⟨h, h2, hq⟩ | ⟨h, h2, h3, hq⟩ | ⟨h, h2, h3, hq⟩
 all_goals
  have HQ := Aside0.mk hq
  clear hq
  go_wp2_with fail
  clear h
  go_loopg [7, 8] (l.length + 1) (fun gq bv iv w' => ∃ (k : Nat) (b : Bool), k ≤ l.length ∧ bv = .bool b ∧ iv = .int .i64 (k : Int) ∧ Aside0 (gq = l.length + 1 - k) ∧ Aside0 ((if (b && fine (l.drop k)) = true then (0 : Int) else 1) = v) ∧ w' = w2)
  case atStart => exact ⟨0, b0, by omega, (by have hq := HQ.out; subst hq; first | rfl | (congr 1; exact decide_eq_false (by omega)) | (congr 1; exact decide_eq_true (by omega))), rfl, ⟨rfl⟩, ⟨by rw [List.drop_zero]; exact HV.out⟩, rfl⟩
  case round =>
   obtain ⟨k, b, hk, rfl, rfl, hgq, hv, rfl⟩ := hrel
   by_cases hlt : k < l.length
   ·obtain ⟨ad0, e0, hx0⟩ := Kd.at_int HR2.out (k : Int) (by omega) (by omega)
    cases e0
    simp only [Int.toNat_natCast] at hx0
    have hf := fine_drop hlt
    obtain ⟨d, hd⟩ : ∃ d, rd l (k : Int) = d := ⟨_, rfl⟩
    rw [hd] at hx0 hf
    have hv1 := hv.out
    rw [hf] at hv1
    cases b with
    | false =>
     rw [Bool.false_and] at hv1
     have HV1 := Aside0.mk (show (if (false && fine (l.drop (k + 1))) = true then (0 : Int) else 1) = v by rw [Bool.false_and]; exact hv1)
     clear hv1 hf hd hv
     go_wp2_with fail
     go_roundg (l.length + 1 - (k + 1))
     case measure => have := hgq.out; omega
     case rel => exact ⟨k + 1, false, by omega, (by first | rfl | (congr 1; exact decide_eq_false (by omega)) | (congr 1; exact decide_eq_true (by omega))), by simp, ⟨rfl⟩, ⟨HV1.out⟩, rfl⟩
    | true =>
     rw [Bool.true_and] at hv1
     rcases (by omega : d < 0 ∨ (0 ≤ d ∧ 267180 < d) ∨ (0 ≤ d ∧ d ≤ 267180)) with c0 | ⟨c0, c1⟩ | ⟨c0, c1⟩
     ·rw [decide_eq_false (by omega), Bool.false_and] at hv1
      have HV1 := Aside0.mk (show (if (false && fine (l.drop (k + 1))) = true then (0 : Int) else 1) = v by rw [Bool.false_and]; exact hv1)
      clear hv1 hf hd hv
      go_wp2_with fail
      go_roundg (l.length + 1 - (k + 1))
      case measure => have := hgq.out; omega
      case rel => exact ⟨k + 1, false, by omega, (by first | rfl | (congr 1; exact decide_eq_false (by omega)) | (congr 1; exact decide_eq_true (by omega))), by simp, ⟨rfl⟩, ⟨HV1.out⟩, rfl⟩
     ·rw [decide_eq_false (by omega), Bool.false_and] at hv1
      have HV1 := Aside0.mk (show (if (false && fine (l.drop (k + 1))) = true then (0 : Int) else 1) = v by rw [Bool.false_and]; exact hv1)
      clear hv1 hf hd hv
      go_wp2_with fail
      go_roundg (l.length + 1 - (k + 1))
      case measure => have := hgq.out; omega
      case rel => exact ⟨k + 1, false, by omega, (by first | rfl | (congr 1; exact decide_eq_false (by omega)) | (congr 1; exact decide_eq_true (by omega))), by simp, ⟨rfl⟩, ⟨HV1.out⟩, rfl⟩
     ·rw [decide_eq_true ⟨c0, c1⟩, Bool.true_and] at hv1
      have HV1 := Aside0.mk (show (if (true && fine (l.drop (k + 1))) = true then (0 : Int) else 1) = v by rw [Bool.true_and]; exact hv1)
      clear hv1 hf hd hv
      go_wp2_with fail
      go_roundg (l.length + 1 - (k + 1))
      case measure => have := hgq.out; omega
      case rel => exact ⟨k + 1, true, by omega, (by first | rfl | (congr 1; exact decide_eq_false (by omega)) | (congr 1; exact decide_eq_true (by omega))), by simp, ⟨rfl⟩, ⟨HV1.out⟩, rfl⟩
   ·have hv1 := hv.out
    rw [List.drop_of_length_le (by omega)] at hv1
    cases b with
    | false =>
     have HV1 := Aside0.mk (show (1 : Int) = v by simpa using hv1)
     clear hv1 hv
     go_wp2_with fail
     go_ret
     obtain rfl := HV1.out
     exact ⟨rfl, B2.out⟩
    | true =>
     have HV1 := Aside0.mk (show (0 : Int) = v by simpa [fine] using hv1)
     clear hv1 hv
     go_wp2_with fail
     go_ret
     obtain rfl := HV1.out
     exact ⟨rfl, B2.out⟩
theorem asked_any (p : Prod) (A1 : Option Addr) (c1 : Nat) (A2 : Option Addr) (c2 : Nat) (A3 : Option Addr) (c3 : Nat) (A : Option Addr) (l : List Int) (c : Nat) (m : Int) (w : World) (hp : ProdAt w p A1 c1 A2 c2 A3 c3) (hs : Held p) (hr : Kd.C (Kd.int .i64) w A l.length l) (hl : l.length ≤ 1000000) : Calls Try.prog 51 #[pv p A1 c1 A2 c2 A3 c3, .slice A l.length c, .int .i64 m] w (AskP p l m w) := by
 rcases err_two p with ha | ha
 ·exact asked_loop p A1 c1 A2 c2 A3 c3 A l c m w hp hs hr hl ha _ rfl
 ·exact asked_bad p A1 c1 A2 c2 A3 c3 A l c m w hp hs hr hl ha
set_option maxRecDepth 100000 in
set_option maxHeartbeats 4000000 in
theorem rwalk_any (p : Prod) (A1 : Option Addr) (c1 : Nat) (A2 : Option Addr) (c2 : Nat) (A3 : Option Addr) (c3 : Nat) (A : Option Addr) (l : List Int) (c : Nat) (m : Int) (x : Int) (w : World) (hc : 1 ≤ p.count ∧ p.count ≤ 3) (hrd : p.round = 1 ∨ p.round = 3) (hra : 0 ≤ p.rate ∧ p.rate ≤ 1000000000) (hgr : 0 ≤ p.grace ∧ p.grace ≤ 600) (hr : Kd.C (Kd.int .i64) w A l.length l) (hl : l.length ≤ 1000000) (hm0 : 1 ≤ m) (hm1 : m ≤ 10000000000000) (x0 : 0 ≤ x) (x1 : x ≤ 1000000000000000) :
  Calls Try.prog 52 #[pv p A1 c1 A2 c2 A3 c3, .slice A l.length c, .int .i64 m, .int .i64 x] w fun e w' => e = .returned (.int .i64 (wk (Gm.whole p.count) (Gm.half p.count p.round) p.rate p.grace x 0 l m 0)) ∧ Below w.heap.size w w' := by
 have HR := Aside0.mk hr
 obtain ⟨up, hup⟩ : ∃ up : Bool, p.round = 1 ∧ up = true ∨ p.round = 3 ∧ up = false := by
  rcases hrd with h | h
  ·exact ⟨true, .inl ⟨h, rfl⟩⟩
  ·exact ⟨false, .inr ⟨h, rfl⟩⟩
 have HN := Aside0.mk (fun W => rnew_any (c := p.count) (r := p.round) (up := up) (by omega) hup W)
 have GN := good_new p.count p.round
 have HH := Aside0.mk (show up = true ∧ Gm.whole p.count = 2 * Gm.half p.count p.round ∨ up = false ∧ Gm.half p.count p.round = 0 by
  rcases hup with ⟨h, h2⟩ | ⟨h, h2⟩
  ·rw [h]; exact .inl ⟨h2, (Gm.half_one p.count).symm⟩
  ·exact .inr ⟨h2, Gm.half_no (by omega)⟩)
 have HPW := Aside0.mk (show Gm.whole p.count = 1000000000 * Gm.gp p.count from rfl)
 have GPB := Aside0.mk (gp_bd p.count)
 obtain ⟨v, hv⟩ : ∃ v, wk (Gm.whole p.count) (Gm.half p.count p.round) p.rate p.grace x 0 l m 0 = v := ⟨_, rfl⟩
 rw [hv]
 have HV := Aside0.mk hv
 clear hr hc hrd hv hup
 obtain ⟨Wh, hWh⟩ : ∃ y, Gm.whole p.count = y := ⟨_, rfl⟩
 obtain ⟨Hf, hHf⟩ : ∃ y, Gm.half p.count p.round = y := ⟨_, rfl⟩
 obtain ⟨Pp, hPp⟩ : ∃ y, Gm.gp p.count = y := ⟨_, rfl⟩
 rw [hWh, hHf] at GN HV HH
 rw [hWh, hPp] at HPW
 rw [hPp] at GPB
 have HPp := Aside0.mk hPp
 clear hWh hHf hPp
 have GG := Aside0.mk GN
 have RB := Aside0.mk (fun (W : World) (gb : Nat) (bal rest n : Int) (G : H.Good Wh Hf rest) (RA : RefAt W gb Pp up rest) => rbear_any (bal := bal) (rate := p.rate) (n := n) RA GPB.out.1 GPB.out.2 HPW.out HH.out G)
 clear GN HH HPW GPB
 go_enter Try.func52, Try.ntmps52
 go_wp2_with ((with_reducible refine gate_dst (N := 4) rfl ?_); refine box_event ?hg (N := 4) ?hd (cs := pcs p A1 c1 A2 c2 A3 c3) (t := 27) ?hr ?_; (case hd => rfl); (case hg => rfl); (case hr => first | (go_simp; done) | (go_simp; rfl)); intro g1 hg w1 hbg1 hblg1; have g1ge := (show w.heap.size ≤ g1 by rw [hg]; exact Nat.le_refl _); clear hg; have HBg1 := Aside0.mk hbg1; have BLg1 := Aside0.mk hblg1; obtain ⟨-, u1, u2, -⟩ := pc_cells hbg1; clear hbg1 hblg1)
 refine (HN.out _).mono ?_
 rintro e w2 ⟨hb, gb, hgb, rfl, hba⟩
 rw [HPp.out] at hba
 have B2 := Aside0.mk (below_step BLg1.out hb)
 have hne : g1 ≠ gb := by have := blk_lt HBg1.out; omega
 have HB2 := Aside0.mk (Pd.blk_below HBg1.out hb)
 have gbge : w.heap.size ≤ gb := Nat.le_trans BLg1.out.size hgb
 have BA := Aside0.mk hba
 clear hb hgb hba HBg1 BLg1 u1 u2 HN HPp
 go_wp2_with fail
 go_loopg [11, 12] (l.length + 1) (fun gq bv iv w' => ∃ (k : Nat) (bal rest : Int), k ≤ l.length ∧ iv = .int .i64 (k : Int) ∧ bv = .int .i64 bal ∧ 0 < bal ∧ bal ≤ 1000000000000000 ∧ Aside0 (gq = l.length + 1 - k) ∧ Aside0 (wk Wh Hf p.rate p.grace x (k : Int) (l.drop k) bal rest = v) ∧ Aside0 (RefAt w' gb Pp up rest) ∧ Aside0 (H.Good Wh Hf rest) ∧ Aside0 (w'.heap[g1]? = some (.cells (pcs p A1 c1 A2 c2 A3 c3) 27 (0, 0))) ∧ Aside0 (Below w.heap.size w w'))
 case atStart => exact ⟨0, m, 0, by omega, rfl, rfl, by omega, by omega, ⟨rfl⟩, ⟨by rw [List.drop_zero]; exact HV.out⟩, BA, GG, HB2, B2⟩
 case round =>
  obtain ⟨k, bal, rest, hk, rfl, rfl, b0, b1, hgq, HW, BA, GG, HB, BB⟩ := hrel
  clear HV B2 HB2
  by_cases hlt : k < l.length
  ·obtain ⟨ad0, e0, hx0⟩ := Kd.at_int HR.out (k : Int) (by omega) (by omega)
   cases e0
   simp only [Int.toNat_natCast] at hx0
   have hx1 := (BB.out.cell (cell_ltR hx0)).trans hx0
   obtain ⟨-, -, -, -, -, -, -, u7, -⟩ := pc_cells HB.out
   have hd := drop_rd hlt
   have hw := HW.out
   rw [hd] at hw
   obtain ⟨d, hdd⟩ : ∃ d, rd l (k : Int) = d := ⟨_, rfl⟩
   rw [hdd] at hw hx1
   obtain ⟨z, hz⟩ : ∃ z, Gm.bear Wh Hf rest bal p.rate d = z := ⟨_, rfl⟩
   rw [wk_cons hz] at hw
   have zb := bear_bd (rate := p.rate) (n := d) GG.out b0 b1
   have G2 := good_bear (bal := bal) (rate := p.rate) (n := d) GG.out
   have RR := Aside0.mk (fun W RA => RB.out W gb bal rest d GG.out RA)
   rw [hz] at zb G2 RR
   have GG2 := Aside0.mk G2
   have HW2 := Aside0.mk hw
   have hadl : (ad0.add k).block < wr.heap.size := Nat.lt_of_lt_of_le (cell_ltR hx0) BB.out.size
   have hadn : (ad0.add k).block ≠ gb := by have := cell_ltR hx0; omega
   have HLT := Aside0.mk (blk_lt HB.out)
   clear hx0 hd hdd hz hw G2 HW
   obtain ⟨z1, z2, z3⟩ := z
   simp only [] at zb GG2 HW2
   have RA := Aside0.mk (BA.out.below (w1 := wr.drew) (Below.drew (Below.refl _ _)))
   have HADL := Aside0.mk hadl
   have HADN := Aside0.mk hadn
   have HNE := Aside0.mk hne
   clear hadl hadn
   go_wp2_with fail
   go_region_held3 (fun W => W.cell? ⟨g1, 7, none⟩ = some (.int .i64 p.rate) ∧ W.cell? (ad0.add k) = some (.int .i64 d)) (first | exact ⟨u7, hx1⟩ | go_keep) ((go_at_call 78; (with_reducible refine (RR.out _ RA.out).mono ?_); rintro e yy ⟨rfl, hba, hbut⟩; have u7 := (hbut.cell (p := ⟨g1, 7, none⟩) HLT.out HNE.out).trans u7; have hx1 := (hbut.cell (p := ad0.add k) HADL.out HADN.out).trans hx1))
   have BA3 := Aside0.mk hba
   have HB3 := Aside0.mk (show yy.heap[g1]? = some (.cells (pcs p A1 c1 A2 c2 A3 c3) 27 (0, 0)) from (hbut.block g1 HLT.out HNE.out).trans HB.out)
   have BB3 := Aside0.mk (But.below (Below.drew BB.out) (by first | exact BB.out.size | (simp; exact BB.out.size)) gbge hbut)
   obtain ⟨-, -, -, -, -, -, u6, -⟩ := pc_cells HB3.out
   clear hba hbut BA HB BB RR RA u7 hx1
   by_cases hz2 : z2 = 0
   ·subst hz2
    have hw := HW2.out
    rw [if_neg (by simp)] at hw
    by_cases hi : (k : Int) < p.grace
    ·rw [if_pos hi] at hw
     have HW3 := Aside0.mk hw
     clear hw HW2
     go_wp2_with fail
     go_roundg (l.length + 1 - (k + 1))
     case measure => have := hgq.out; omega
     case rel => exact ⟨k + 1, bal, z3, by omega, by simp, rfl, b0, b1, ⟨rfl⟩, ⟨by exact HW3.out⟩, BA3, GG2, HB3, BB3⟩
    ·rw [if_neg hi] at hw
     obtain ⟨nb, hnb⟩ : ∃ nb, bal + (z1 - x) = nb := ⟨_, rfl⟩
     rw [hnb] at hw
     have s1 : IntKind.i64.wrap (bal + z1) = bal + z1 := IntWalk.i64_in _ (by omega)
     have s2 : IntKind.i64.wrap (bal + z1 - x) = nb := by rw [← hnb, show bal + z1 - x = bal + (z1 - x) by omega]; exact IntWalk.i64_in _ (by omega)
     have nb1 : nb ≤ 2000000000000000 := by omega
     clear hnb HW2
     rcases (by omega : nb ≤ 0 ∨ (0 < nb ∧ 1000000000000000 < nb) ∨ (0 < nb ∧ nb ≤ 1000000000000000)) with h1 | ⟨h1, h2⟩ | ⟨h1, h2⟩
     ·rw [if_pos h1] at hw
      have HW3 := Aside0.mk hw
      clear hw
      go_wp2_with fail
      go_ret
      obtain rfl := HW3.out
      exact ⟨rfl, BB3.out⟩
     ·rw [if_neg (by omega), if_pos h2] at hw
      have HW3 := Aside0.mk hw
      clear hw
      go_wp2_with fail
      go_ret
      obtain rfl := HW3.out
      exact ⟨rfl, BB3.out⟩
     ·rw [if_neg (by omega), if_neg (by omega)] at hw
      have HW3 := Aside0.mk hw
      clear hw
      go_wp2_with fail
      go_roundg (l.length + 1 - (k + 1))
      case measure => have := hgq.out; omega
      case rel => exact ⟨k + 1, nb, z3, by omega, by simp, rfl, h1, h2, ⟨rfl⟩, ⟨by exact HW3.out⟩, BA3, GG2, HB3, BB3⟩
   ·have hw := HW2.out
    rw [if_pos hz2] at hw
    have HW3 := Aside0.mk hw
    have hzb : (z2 != 0) = true := by simpa using hz2
    clear hw hz2 HW2
    go_wp2_with fail
    go_ret
    obtain rfl := HW3.out
    exact ⟨rfl, BB3.out⟩
  ·have hw := HW.out
   rw [List.drop_of_length_le (by omega)] at hw
   have HW3 := Aside0.mk (show bal = v from hw)
   clear hw HW
   go_wp2_with fail
   go_ret
   obtain rfl := HW3.out
   exact ⟨rfl, BB.out⟩
end Go.Proofs.Ytcfpkkgdofblfaa.Lv
/- Contracts by hand: the document's level: Left and Of. -/
namespace Go.Proofs.Ytcfpkkgdofblfaa.Lv
open Go.RowKit Go.Proofs.YtcfpkkgdofblfaaW.PrintWords Go.Proofs.YtcfpkkgdofblfaaW.PrintLast Go.Proofs.YtcfpkkgdofblfaaW.PrintMore Go.Proofs.Ytcfpkkgdofblfaa.HW
open Pm Pd
set_option linter.unusedVariables false
set_option linter.unusedSimpArgs false
open Go.Proofs.Ytcfpkkgdofblfaa.H
def rofE (p : Prod) (l : List Int) (m : Int) : Int × Int := if askE p l m ≠ 0 then (0, askE p l m) else if 0 < lf p l m 1000000000000000 then (0, 10) else (rsrch (lf p l m) 50 0 1000000000000000, 0)
set_option maxRecDepth 100000 in
set_option maxHeartbeats 4000000 in
theorem rLeft_any (p : Prod) (A1 : Option Addr) (c1 : Nat) (A2 : Option Addr) (c2 : Nat) (A3 : Option Addr) (c3 : Nat) (A : Option Addr) (l : List Int) (c : Nat) (m : Int) (w : World) (hp : ProdAt w p A1 c1 A2 c2 A3 c3) (hs : Held p) (hr : Kd.C (Kd.int .i64) w A l.length l) (hl : l.length ≤ 1000000) (x : Int) :
  Calls Try.prog 27 #[pv p A1 c1 A2 c2 A3 c3, .slice A l.length c, .int .i64 m, .int .i64 x] w (Two (leftE p l m x) w) := by
 have MA := Aside0.mk (fun W (hb : Below w.heap.size w W) => asked_any p A1 c1 A2 c2 A3 c3 A l c m W (hp.below hb) hs (Kd.C_below hr hb) hl)
 have LE := Aside0.mk (fun (h : askE p l m = 0) (x : Int) (x0 : 0 ≤ x) (x1 : x ≤ 1000000000000000) W (hb : Below w.heap.size w W) => show Calls Try.prog 52 #[pv p A1 c1 A2 c2 A3 c3, .slice A l.length c, .int .i64 m, .int .i64 x] W fun e w' => e = .returned (.int .i64 (lf p l m x)) ∧ Below W.heap.size W w' from rwalk_any p A1 c1 A2 c2 A3 c3 A l c m x W (ask_known h).1 (ask_known h).2.1 (ask_known h).2.2.1 (ask_known h).2.2.2.1 (Kd.C_below hr hb) hl (ask_known h).2.2.2.2.1 (ask_known h).2.2.2.2.2 x0 x1)
 clear hp hs hr
 unfold Two
 obtain ⟨v, hv⟩ : ∃ v, leftE p l m x = v := ⟨_, rfl⟩
 rw [hv]
 have HV := Aside0.mk hv
 clear hv
 go_enter Try.func27, Try.ntmps27
 go_wp2_with (first
  | ((with_reducible refine gate_dst (N := 4) rfl ?_); refine box_event ?hg (N := 4) ?hd (cs := pcs p A1 c1 A2 c2 A3 c3) (t := 27) ?hr ?_; (case hd => rfl); (case hg => rfl); (case hr => first | (go_simp; done) | (go_simp; rfl)); intro g1 hg w1 hbg1 hblg1; have g1ge := (show w.heap.size ≤ g1 by rw [hg]; exact Nat.le_refl _); clear hg; have HBg1 := Aside0.mk hbg1; have BLg1 := Aside0.mk hblg1; clear hbg1 hblg1)
  | ((with_reducible refine gate_dst (N := 11) rfl ?_); refine wpList_load_row rfl 27 (.tmp 4) rfl g1 rfl 27 _ (0, 0) _ HBg1.out Try.underlying27 rfl info_prod ?_)
  | fail)
 refine (MA.out _ BLg1.out).mono ?_
 rintro e w5 ⟨rfl, hb⟩
 have HB5 := Aside0.mk (Pd.blk_below HBg1.out hb)
 have B5 := Aside0.mk (below_step BLg1.out hb)
 clear hb HBg1 BLg1
 by_cases ha : askE p l m = 0
 ·have hx := HV.out
  unfold leftE at hx
  rw [if_neg (by rw [ha]; decide)] at hx
  have LL := Aside0.mk (LE.out ha)
  rw [ha]
  clear ha LE
  rcases (by omega : x < 0 ∨ (0 ≤ x ∧ 1000000000000000 < x) ∨ (0 ≤ x ∧ x ≤ 1000000000000000)) with h | ⟨h, h2⟩ | ⟨h, h2⟩
  ·rw [if_neg (by omega)] at hx
   have HX := Aside0.mk hx
   clear hx HV
   go_wp2_with fail
   go_ret2
   obtain rfl := HX.out
   exact ⟨rfl, B5.out⟩
  ·rw [if_neg (by omega)] at hx
   have HX := Aside0.mk hx
   clear hx HV
   go_wp2_with fail
   go_ret2
   obtain rfl := HX.out
   exact ⟨rfl, B5.out⟩
  ·rw [if_pos ⟨h, h2⟩] at hx
   have HX := Aside0.mk hx
   clear hx HV
   go_wp2_with (first
  | ((with_reducible refine gate_dst (N := 24) rfl ?_); refine wpList_load_row rfl 27 (.tmp 4) rfl g1 rfl 27 _ (0, 0) _ HB5.out Try.underlying27 rfl info_prod ?_)
  | fail)
   refine (LL.out x h h2 _ B5.out).mono ?_
   rintro e w6 ⟨rfl, hb⟩
   have B6 := Aside0.mk (below_step B5.out hb)
   clear hb B5 HB5 LL
   go_wp2_with fail
   go_ret2
   obtain rfl := HX.out
   exact ⟨rfl, B6.out⟩
 ·have hx := HV.out
  unfold leftE at hx
  rw [if_pos ha] at hx
  obtain ⟨ae, hae⟩ : ∃ ae, askE p l m = ae := ⟨_, rfl⟩
  rw [hae] at ha hx ⊢
  have hn : (ae != 0) = true := by simpa using ha
  have HX := Aside0.mk hx
  clear hx HV ha hae LE
  go_wp2_with fail
  go_ret2
  obtain rfl := HX.out
  exact ⟨rfl, B5.out⟩
set_option maxRecDepth 100000 in
set_option maxHeartbeats 4000000 in
theorem rOf_any (p : Prod) (A1 : Option Addr) (c1 : Nat) (A2 : Option Addr) (c2 : Nat) (A3 : Option Addr) (c3 : Nat) (A : Option Addr) (l : List Int) (c : Nat) (m : Int) (w : World) (hp : ProdAt w p A1 c1 A2 c2 A3 c3) (hs : Held p) (hr : Kd.C (Kd.int .i64) w A l.length l) (hl : l.length ≤ 1000000) :
  Calls Try.prog 28 #[pv p A1 c1 A2 c2 A3 c3, .slice A l.length c, .int .i64 m] w (Two (rofE p l m) w) := by
 have MA := Aside0.mk (fun W (hb : Below w.heap.size w W) => asked_any p A1 c1 A2 c2 A3 c3 A l c m W (hp.below hb) hs (Kd.C_below hr hb) hl)
 have LE := Aside0.mk (fun (h : askE p l m = 0) (x : Int) (x0 : 0 ≤ x) (x1 : x ≤ 1000000000000000) W (hb : Below w.heap.size w W) => show Calls Try.prog 52 #[pv p A1 c1 A2 c2 A3 c3, .slice A l.length c, .int .i64 m, .int .i64 x] W fun e w' => e = .returned (.int .i64 (lf p l m x)) ∧ Below W.heap.size W w' from rwalk_any p A1 c1 A2 c2 A3 c3 A l c m x W (ask_known h).1 (ask_known h).2.1 (ask_known h).2.2.1 (ask_known h).2.2.2.1 (Kd.C_below hr hb) hl (ask_known h).2.2.2.2.1 (ask_known h).2.2.2.2.2 x0 x1)
 clear hp hs hr
 unfold Two
 obtain ⟨v, hv⟩ : ∃ v, rofE p l m = v := ⟨_, rfl⟩
 rw [hv]
 have HV := Aside0.mk hv
 clear hv
 go_enter Try.func28, Try.ntmps28
 go_wp2_with (first
  | ((with_reducible refine gate_dst (N := 3) rfl ?_); refine box_event ?hg (N := 3) ?hd (cs := pcs p A1 c1 A2 c2 A3 c3) (t := 27) ?hr ?_; (case hd => rfl); (case hg => rfl); (case hr => first | (go_simp; done) | (go_simp; rfl)); intro g1 hg w1 hbg1 hblg1; have g1ge := (show w.heap.size ≤ g1 by rw [hg]; exact Nat.le_refl _); clear hg; have HBg1 := Aside0.mk hbg1; have BLg1 := Aside0.mk hblg1; clear hbg1 hblg1)
  | ((with_reducible refine gate_dst (N := 12) rfl ?_); refine wpList_load_row rfl 27 (.tmp 3) rfl g1 rfl 27 _ (0, 0) _ HBg1.out Try.underlying27 rfl info_prod ?_)
  | fail)
 refine (MA.out _ BLg1.out).mono ?_
 rintro e w5 ⟨rfl, hb⟩
 have HB5 := Aside0.mk (Pd.blk_below HBg1.out hb)
 have B5 := Aside0.mk (below_step BLg1.out hb)
 clear hb HBg1 BLg1
 by_cases ha : askE p l m = 0
 ·have hx := HV.out
  unfold rofE at hx
  rw [if_neg (by rw [ha]; decide)] at hx
  have LL := Aside0.mk (LE.out ha)
  rw [ha]
  clear ha LE HV
  have L1 := Aside0.mk (LL.out 1000000000000000 (by decide) (by decide) w5 B5.out)
  generalize lf p l m = f at *
  obtain ⟨y, hy⟩ : ∃ y, f 1000000000000000 = y := ⟨_, rfl⟩
  rw [hy] at hx L1
  have HX := Aside0.mk hx
  clear hx hy
  go_wp2_with (first
  | ((with_reducible refine gate_dst (N := 19) rfl ?_); refine wpList_load_row rfl 27 (.tmp 3) rfl g1 rfl 27 _ (0, 0) _ HB5.out Try.underlying27 rfl info_prod ?_)
  | fail)
  refine L1.out.mono ?_
  rintro e w6 ⟨rfl, hb⟩
  have HB6 := Aside0.mk (Pd.blk_below HB5.out hb)
  have B6 := Aside0.mk (below_step B5.out hb)
  clear hb B5 HB5 L1
  by_cases hf : 0 < y
  ·have hx := HX.out
   rw [if_pos hf] at hx
   have HX2 := Aside0.mk hx
   clear hx HX
   go_wp2_with fail
   go_ret2
   obtain rfl := HX2.out
   exact ⟨rfl, B6.out⟩
  ·have hx := HX.out
   rw [if_neg hf] at hx
   obtain ⟨u, hu⟩ : ∃ u, rsrch f 50 0 1000000000000000 = u := ⟨_, rfl⟩
   rw [hu] at hx
   have HX2 := Aside0.mk hx
   have HU := Aside0.mk hu
   clear hx HX hu
   go_wp2_with fail
   clear hf
   go_loopg [9, 10] 50 (fun gq lv hv w' => ∃ (lo hi : Int), lv = .int .i64 lo ∧ hv = .int .i64 hi ∧ 0 ≤ lo ∧ lo ≤ hi ∧ hi ≤ 1000000000000000 ∧ Aside0 (hi - lo < 2 ^ gq) ∧ Aside0 (rsrch f gq lo hi = u) ∧ Aside0 (w'.heap[g1]? = some (.cells (pcs p A1 c1 A2 c2 A3 c3) 27 (0, 0))) ∧ Aside0 (Below w.heap.size w w'))
   case atStart => exact ⟨0, 1000000000000000, rfl, rfl, by decide, by decide, by decide, ⟨by decide⟩, HU, HB6, B6⟩
   case round =>
    obtain ⟨lo, hi, rfl, rfl, l0, l1, h1, hp, hs, HBB, BB⟩ := hrel
    clear HB6 B6 HU
    by_cases hc : lo < hi
    ·obtain ⟨j, hj⟩ : ∃ j, gk = j + 1 := by
      cases gk with
      | zero => have := hp.out; simp at this; omega
      | succ j => exact ⟨j, rfl⟩
     obtain ⟨dd, hdd⟩ : ∃ dd, hi - lo = dd := ⟨_, rfl⟩
     have s1 : IntKind.i64.wrap (hi - lo) = dd := by rw [← hdd]; exact IntWalk.i64_in _ (by omega)
     have hs1 := hs.out
     have hp1 := hp.out
     rw [hj, rsrch, hdd, if_pos hc] at hs1
     rw [hj, Int.pow_succ] at hp1
     obtain ⟨q, hq⟩ : ∃ q, Int.tdiv dd 2 = q := ⟨_, rfl⟩
     have hqd : q = dd / 2 := by rw [← hq]; exact Int.tdiv_eq_ediv_of_nonneg (by omega)
     rw [hq] at hs1
     obtain ⟨mid, hm⟩ : ∃ mid, lo + q = mid := ⟨_, rfl⟩
     rw [hm] at hs1
     have s2 : IntKind.i64.wrap (Int.tdiv dd 2) = q := by rw [hq]; exact IntWalk.i64_in _ (by omega)
     have s3 : IntKind.i64.wrap (lo + q) = mid := by rw [hm]; exact IntWalk.i64_in _ (by omega)
     have m0 : 0 ≤ mid := by omega
     have m1 : lo ≤ mid := by omega
     have m2 : mid < hi := by omega
     have p1 : mid - lo < 2 ^ j := by omega
     have p2 : hi - (mid + 1) < 2 ^ j := by omega
     have s4 : IntKind.i64.wrap (mid + 1) = mid + 1 := IntWalk.i64_in _ (by omega)
     have P1 := Aside0.mk p1
     have P2 := Aside0.mk p2
     have HJ := Aside0.mk hj
     have HS := Aside0.mk hs1
     have HL := Aside0.mk (LL.out mid m0 (by omega) wr BB.out)
     obtain ⟨y2, hy⟩ : ∃ y2, f mid = y2 := ⟨_, rfl⟩
     rw [hy] at HL HS
     clear hs hp hs1 hp1 hq hqd hm hdd p1 p2 hj hy
     go_wp2_with (first
  | ((with_reducible refine gate_dst (N := 34) rfl ?_); refine wpList_load_row rfl 27 (.tmp 3) rfl g1 rfl 27 _ (0, 0) _ HBB.out Try.underlying27 rfl info_prod ?_)
  | fail)
     refine HL.out.mono ?_
     rintro e w7 ⟨rfl, hb⟩
     have B7 := Aside0.mk (below_step BB.out hb)
     have HB7 := Aside0.mk (Pd.blk_below HBB.out hb)
     clear hb HL BB HBB
     by_cases hc2 : y2 ≤ 0
     ·have hs2 := HS.out
      rw [if_pos hc2] at hs2
      have HS2 := Aside0.mk hs2
      clear hs2 HS
      go_wp2_with fail
      go_roundg j
      case measure => have := HJ.out; omega
      case rel => exact ⟨lo, mid, rfl, rfl, l0, m1, by omega, P1, HS2, HB7, B7⟩
     ·have hs2 := HS.out
      rw [if_neg hc2] at hs2
      have HS2 := Aside0.mk hs2
      clear hs2 HS
      go_wp2_with fail
      go_roundg j
      case measure => have := HJ.out; omega
      case rel => exact ⟨mid + 1, hi, rfl, rfl, by omega, by omega, h1, P2, HS2, HB7, B7⟩
    ·have hs1 := hs.out
     have he : lo = u := by
      cases gk with
      | zero => exact hs1
      | succ j => rw [rsrch, if_neg hc] at hs1; exact hs1
     have HE := Aside0.mk he
     clear hs hs1 hp he
     go_wp2_with fail
     go_ret2
     obtain rfl := HX2.out
     obtain rfl := HE.out
     exact ⟨rfl, BB.out⟩
 ·have hx := HV.out
  unfold rofE at hx
  rw [if_pos ha] at hx
  obtain ⟨ae, hae⟩ : ∃ ae, askE p l m = ae := ⟨_, rfl⟩
  rw [hae] at ha hx ⊢
  have hn : (ae != 0) = true := by simpa using ha
  have HX := Aside0.mk hx
  clear hx HV ha hae LE
  go_wp2_with fail
  go_ret2
  obtain rfl := HX.out
  exact ⟨rfl, B5.out⟩
theorem lf_mono {p : Prod} {l : List Int} {m : Int} (h : askE p l m = 0) : (∀ x y, 0 ≤ x → x ≤ y → y ≤ 1000000000000000 → lf p l m x ≤ 0 → lf p l m y ≤ 0) ∧ 0 < lf p l m 0 := by
 obtain ⟨_, _, _, _, m0, m1⟩ := ask_known h
 have I : In (Gm.whole p.count) (Gm.half p.count p.round) 0 m := good_in (good_new p.count p.round) (by omega) (by omega)
 exact ⟨fun x y _ hxy _ h0 => wk_mono hxy l 0 m 0 m 0 I I (.inr ⟨rfl, Int.le_refl _⟩) (fun _ => .inr ⟨rfl, rfl⟩) h0, wk_zero l 0 m 0 I⟩
theorem of_rof (p : Prod) (l : List Int) (m : Int) : rofE p l m = ofE p l m := by
 unfold rofE ofE
 by_cases h : askE p l m = 0
 ·have hn : ¬ askE p l m ≠ 0 := by rw [h]; decide
  rw [if_neg hn, if_neg hn]
  by_cases h2 : 0 < lf p l m 1000000000000000
  ·rw [if_pos h2, if_pos h2]
  ·rw [if_neg h2, if_neg h2]
   obtain ⟨hm, hz⟩ := lf_mono h
   have a := srch_least (lf p l m) 50 0 1000000000000000 (by decide) (by decide) (by decide) (by decide) hz (by omega)
   have b := rsrch_least (lf p l m) hm 50 0 1000000000000000 (by decide) (by decide) (by decide) (by decide) (fun x h1 h2 => by omega) hz (by omega)
   rw [Least.uniq hm b a]
 ·rw [if_pos h, if_pos h]
end Go.Proofs.Ytcfpkkgdofblfaa.Lv
