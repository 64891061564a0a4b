/- Texts of this claim, joined in build order. -/
import Derived.RowKit
import Derived.Below
import Derived.Test.YtbbbjjfecblhpaaGreatProg
import Derived.Deep.Draws
import Derived.Deep.AppendLies
import Derived.Maps.AppendAt
import Derived.OwnWalk
import Derived.Laws.BytesArg
import Derived.Laws.MakeOwn
import Derived.Laws.OwnMore
import Derived.Tactics
import Derived.Lib.ConvBytes
import Derived.Laws.Slices
import Derived.WalkKit
import Derived.KernelRfl
import Derived.RowKit3
import Derived.Deep.LoopGhost
import Derived.Deep.QuietTactic
import Derived.BigQuiet
import Derived.WideLaws
import Derived.Deep.DeepCutAuto
import Derived.Deep.CutBlock
import Derived.Deep.RegionHeld3
import Derived.Lib.AppendStr
import Derived.ArgAppend
import Derived.Laws.IdiomCopy
import Derived.OrdersHeld
import Derived.Laws.BitsLemmas
import Derived.Laws.StructEq
import Derived.WalkLawsBesides
import Derived.WalkSpells
import Derived.Lib.IndexMore
import Derived.Deep.Slices
import Derived.Deep.Fields
import Derived.ChangeSame
import Derived.Lib.SmallJoins
import Derived.ProofKit
import Derived.Defers
import Derived.Laws.Tables
import Derived.Deep.WholeRow
import Derived.Recover
import Derived.StillTailTactics
import Derived.SizedLaws
import Derived.ChangeSlices
import Derived.IntWalk
import Derived.Shelf.Small.Bits
import Derived.Shelf.Strconv.Itoa0
import Derived.Shelf.Strings.Search1
import Derived.Shelf.Strings.Search2
import Derived.Shelf.Strings.Search3
import Derived.Shelf.LaysM
import Derived.Shelf.Strings.Shaped
import Derived.Shelf.Bits.Mul64
import Derived.Ground.Names2Prog
import Derived.Shelf.Slices.Clone
import Derived.Ground.SlgnProg
import Derived.Shelf.SlicesE.Clone
import Derived.Lib.SlBytesConst
import Derived.Deep.RegionWith
import Derived.Lib.Hide
import Derived.BigFrame
import Derived.Deep.MidRow
import Derived.Lib.BitFns
import Derived.Laws.BitsAllLaws
import Derived.Laws.Externs
import Derived.RegionTactic
import Derived.Laws.AppendOwnNone
import Derived.OpenShut
import Derived.ShutString
import Derived.ChangeOld
import Derived.Laws.IdiomArrays
import Derived.HandedShaped
import Derived.Shelf.Vars
import Derived.Test.YtbbbjjfecblhpaaGreatJT1
import Derived.Test.YtbbbjjfecblhpaaGreatJT2
import Derived.Test.YtbbbjjfecblhpaaGreatJT3
set_option linter.unusedVariables false
set_option linter.unusedSimpArgs false
-- Written by a program of this session (wip/tools/myprint.py) with the help of the printer of the kit; Lean checks it.
namespace Go.Proofs.YtbbbjjfecblhpaaGreat.PG
open Go.RowKit Go.Proofs.YtbbbjjfecblhpaaGreatW.PrintWords Go.Proofs.YtbbbjjfecblhpaaGreatW.PrintLast Go.Proofs.YtbbbjjfecblhpaaGreatW.PrintMore Go.Proofs.YtbbbjjfecblhpaaGreat.HW
attribute [local go_sem] run_makeFunc_ max2_int min2_int max_two min_two max_three min_three max_four min_four   -- for this text's walks alone
set_option linter.unusedVariables false
set_option linter.unusedSimpArgs false

/-! ### fraction_year: function 74 -/
def fraction_year.f (a0 : Int) : Option (Int) := if a0 = 1 then (some 360) else (if a0 = 2 then (some 365) else (if a0 = 3 then (some 133590) else (none)))
set_option maxHeartbeats 8000000 in
set_option maxRecDepth 100000 in
theorem fraction_year.calls (a0 : Int) (r : Int) (w : World) (h : fraction_year.f a0 = some r) :
    Calls Tryz.prog 74 #[.int .i64 a0] w fun e w' => e = .returned (.int .i64 r) ∧ Drawn0 w w' := by
  have H : (if a0 = 1 then (some 360) else (if a0 = 2 then (some 365) else (if a0 = 3 then (some 133590) else (none)))) = some r := h
  clear h
  by_cases c2 : a0 = 1
  · rw [if_pos c2] at H
    have c2b0 : (a0 == 1) = true := beq_iff_eq.mpr c2
    have c2b1 : (a0 != 1) = false := bne_eq_false_iff_eq.mpr c2
    clear c2
    obtain rfl := Option.some.inj H
    go_enter Tryz.func74, Tryz.ntmps74
    go_wp2
    go_ret
    exact ⟨by first | rfl | (simp; done) | (simp [*]; done), by repeat (first | exact Drawn0.refl _ | apply Drawn0.step)⟩
  · rw [if_neg c2] at H
    have c2b0 : (a0 == 1) = false := beq_eq_false_iff_ne.mpr c2
    have c2b1 : (a0 != 1) = true := bne_iff_ne.mpr c2
    by_cases c3 : a0 = 2
    · rw [if_pos c3] at H
      have c3b0 : (a0 == 2) = true := beq_iff_eq.mpr c3
      have c3b1 : (a0 != 2) = false := bne_eq_false_iff_eq.mpr c3
      clear c3
      obtain rfl := Option.some.inj H
      go_enter Tryz.func74, Tryz.ntmps74
      go_wp2
      go_ret
      exact ⟨by first | rfl | (simp; done) | (simp [*]; done), by repeat (first | exact Drawn0.refl _ | apply Drawn0.step)⟩
    · rw [if_neg c3] at H
      have c3b0 : (a0 == 2) = false := beq_eq_false_iff_ne.mpr c3
      have c3b1 : (a0 != 2) = true := bne_iff_ne.mpr c3
      by_cases c4 : a0 = 3
      · rw [if_pos c4] at H
        have c4b0 : (a0 == 3) = true := beq_iff_eq.mpr c4
        have c4b1 : (a0 != 3) = false := bne_eq_false_iff_eq.mpr c4
        clear c4
        obtain rfl := Option.some.inj H
        go_enter Tryz.func74, Tryz.ntmps74
        go_wp2
        go_ret
        exact ⟨by first | rfl | (simp; done) | (simp [*]; done), by repeat (first | exact Drawn0.refl _ | apply Drawn0.step)⟩
      · rw [if_neg c4] at H
        exact absurd H (by simp)

/-! ### fraction_place: function 75 -/
def fraction_place.f (a0 : Int) (a1 : Int) : Option (Int) := (Go.Proofs.YtbbbjjfecblhpaaGreat.H.civil_Date.f a1).bind fun bt101 => (if bt101.2.2.2 = 0 then (if a0 = 1 then (some (wrap64 ((wrap64 ((wrap64 (360 * bt101.1)) + (wrap64 (30 * bt101.2.1)))) + (mn bt101.2.2.1 30)))) else (if a0 = 2 then (some a1) else ((Go.Proofs.YtbbbjjfecblhpaaGreat.H.civil_Long.f bt101.1).bind fun t106 => (if t106 = true then ((Go.Proofs.YtbbbjjfecblhpaaGreat.H.civil_Opens.f bt101.1).bind fun t107 => (some (wrap64 ((wrap64 ((wrap64 (bt101.1 * 365)) * 366)) + (wrap64 ((wrap64 (a1 - t107)) * 365)))))) else ((Go.Proofs.YtbbbjjfecblhpaaGreat.H.civil_Opens.f bt101.1).bind fun t108 => (some (wrap64 ((wrap64 ((wrap64 (bt101.1 * 365)) * 366)) + (wrap64 ((wrap64 (a1 - t108)) * 366)))))))))) else (none))
set_option maxHeartbeats 8000000 in
set_option maxRecDepth 100000 in
theorem fraction_place.calls (a0 : Int) (a1 : Int) (r : Int) (w : World) (h : fraction_place.f a0 a1 = some r) :
    Calls Tryz.prog 75 #[.int .i64 a0, .int .i64 a1] w fun e w' => e = .returned (.int .i64 r) ∧ Below w.heap.size w w' := by
  have hu78 := Tryz.underlying78
  have HB := Aside0.mk (Below.refl w.heap.size w)
  have H : ((Go.Proofs.YtbbbjjfecblhpaaGreat.H.civil_Date.f a1).bind fun bt101 => (if bt101.2.2.2 = 0 then (if a0 = 1 then (some (wrap64 ((wrap64 ((wrap64 (360 * bt101.1)) + (wrap64 (30 * bt101.2.1)))) + (mn bt101.2.2.1 30)))) else (if a0 = 2 then (some a1) else ((Go.Proofs.YtbbbjjfecblhpaaGreat.H.civil_Long.f bt101.1).bind fun t106 => (if t106 = true then ((Go.Proofs.YtbbbjjfecblhpaaGreat.H.civil_Opens.f bt101.1).bind fun t107 => (some (wrap64 ((wrap64 ((wrap64 (bt101.1 * 365)) * 366)) + (wrap64 ((wrap64 (a1 - t107)) * 365)))))) else ((Go.Proofs.YtbbbjjfecblhpaaGreat.H.civil_Opens.f bt101.1).bind fun t108 => (some (wrap64 ((wrap64 ((wrap64 (bt101.1 * 365)) * 366)) + (wrap64 ((wrap64 (a1 - t108)) * 366)))))))))) else (none))) = some r := h
  clear h
  replace H := Option.bind_eq_some_iff.mp H
  obtain ⟨⟨t101, t102, t103, t104⟩, A30, H⟩ := H
  replace H : (if t104 = 0 then (if a0 = 1 then (some (wrap64 ((wrap64 ((wrap64 (360 * t101)) + (wrap64 (30 * t102)))) + (mn t103 30)))) else (if a0 = 2 then (some a1) else ((Go.Proofs.YtbbbjjfecblhpaaGreat.H.civil_Long.f t101).bind fun t106 => (if t106 = true then ((Go.Proofs.YtbbbjjfecblhpaaGreat.H.civil_Opens.f t101).bind fun t107 => (some (wrap64 ((wrap64 ((wrap64 (t101 * 365)) * 366)) + (wrap64 ((wrap64 (a1 - t107)) * 365)))))) else ((Go.Proofs.YtbbbjjfecblhpaaGreat.H.civil_Opens.f t101).bind fun t108 => (some (wrap64 ((wrap64 ((wrap64 (t101 * 365)) * 366)) + (wrap64 ((wrap64 (a1 - t108)) * 366)))))))))) else (none)) = some r := H
  have A3 := Aside0.mk A30
  clear A30
  by_cases c4 : t104 = 0
  · rw [if_pos c4] at H
    have c4b0 : (t104 == 0) = true := beq_iff_eq.mpr c4
    have c4b1 : (t104 != 0) = false := bne_eq_false_iff_eq.mpr c4
    clear c4
    by_cases c5 : a0 = 1
    · rw [if_pos c5] at H
      have c5b0 : (a0 == 1) = true := beq_iff_eq.mpr c5
      have c5b1 : (a0 != 1) = false := bne_eq_false_iff_eq.mpr c5
      clear c5
      obtain ⟨ji6, hji6⟩ : ∃ j_ : Int, (mn t103 30) = j_ := ⟨_, rfl⟩
      replace H : (some (wrap64 ((wrap64 ((wrap64 (360 * t101)) + (wrap64 (30 * t102)))) + (ji6)))) = some r := by first | (rw [hji6] at H; exact H) | (simp only [hji6] at H ⊢; exact H)
      (try rw [hji6] at A3)
      (try (have hji6h : ji6 ≤ 30 := by (rw [← hji6]; unfold mn; (repeat' split) <;> omega)))
      (try (have hji6g : ji6 ≤ 64 := by omega))
      have hji6_ : (if 30 < t103 then 30 else t103) = ji6 := hji6
      obtain rfl := Option.some.inj H
      go_enter Tryz.func75, Tryz.ntmps75
      go_wp2_with (first | (go_at_call 87; (with_reducible refine (Go.Proofs.YtbbbjjfecblhpaaGreat.H.civil_Date.calls a1 t101 t102 t103 t104 _ A3.out).mono ?_); rintro e w7 ⟨rfl, hb⟩; have n0_ := Aside0.mk (below_step (by repeat (first | (with_reducible first | exact HB.out | apply below_alloc | apply pw_below_drewN | apply below_drew1) | exact HB.out)) hb); clear HB; have HB := n0_; clear n0_; (try clear hb); (try clear hb2); (try clear hk); (try clear hi)) | ((with_reducible refine gate_dst (N := 5) rfl ?_); refine box_event ?hg (N := 5) ?hd (cs := #[.int .i64 0, .int .i64 0, .int .i64 0]) (t := 78) ?hr ?_; (case hd => rfl); (case hg => rfl); (case hr => first | (go_simp; done) | (go_simp; rfl)); intro gb105 hg w8 hbox hb; have n0_ := Aside0.mk (below_step (by repeat (first | (with_reducible first | exact HB.out | apply below_alloc | apply pw_below_drewN | apply below_drew1) | exact HB.out)) hb); have n1_ := Aside0.mk (hbox); have n2_ := Aside0.mk ((by rw [hg]; exact (below_size (by repeat (first | (with_reducible first | exact HB.out | apply below_alloc | apply pw_below_drewN | apply below_drew1) | exact HB.out))) : w.heap.size ≤ gb105)); have n3_ := Aside0.mk ((by rw [hg]; exact (below_size (by repeat (first | (with_reducible first | exact HB.out | apply below_alloc | apply pw_below_drewN | apply below_drew1) | exact HB.out))) : w.heap.size ≤ gb105)); clear HB; have HB := n0_; have BK105 := n1_; have GW105 := n2_; have GE105 := n3_; clear n0_ n1_ n2_ n3_; clear hb hbox hg; (try have hu105_0 : w8.cell? ⟨gb105, 0, none⟩ = some (.int .i64 0) := (blk_cell BK105.out 0).trans rfl); (try have hu105_1 : w8.cell? ⟨gb105, 1, none⟩ = some (.int .i64 0) := (blk_cell BK105.out 1).trans rfl); (try have hu105_2 : w8.cell? ⟨gb105, 2, none⟩ = some (.int .i64 0) := (blk_cell BK105.out 2).trans rfl); (try have hv105_0 := blk_frozen BK105.out 0); (try have hv105_1 := blk_frozen BK105.out 1); (try have hv105_2 := blk_frozen BK105.out 2); have hcz9_0 : w8.cell? ⟨gb105, 0, none⟩ = some (.int .i64 0) := (blk_cell BK105.out 0).trans rfl; have hcz9_1 : w8.cell? ⟨gb105, 1, none⟩ = some (.int .i64 0) := (blk_cell BK105.out 1).trans rfl; have hcz9_2 : w8.cell? ⟨gb105, 2, none⟩ = some (.int .i64 0) := (blk_cell BK105.out 2).trans rfl; have hfz9_0 := blk_frozen BK105.out 0; have hfz9_1 := blk_frozen BK105.out 1; have hfz9_2 := blk_frozen BK105.out 2))
      repeat (go_quiet (first | (go_at_call 87; (with_reducible refine (Go.Proofs.YtbbbjjfecblhpaaGreat.H.civil_Date.calls a1 t101 t102 t103 t104 _ A3.out).mono ?_); rintro e w7 ⟨rfl, hb⟩; have n0_ := Aside0.mk (below_step (by repeat (first | (with_reducible first | exact HB.out | apply below_alloc | apply pw_below_drewN | apply below_drew1) | exact HB.out)) hb); clear HB; have HB := n0_; clear n0_; (try clear hb); (try clear hb2); (try clear hk); (try clear hi)) | ((with_reducible refine gate_dst (N := 5) rfl ?_); refine box_event ?hg (N := 5) ?hd (cs := #[.int .i64 0, .int .i64 0, .int .i64 0]) (t := 78) ?hr ?_; (case hd => rfl); (case hg => rfl); (case hr => first | (go_simp; done) | (go_simp; rfl)); intro gb105 hg w8 hbox hb; have n0_ := Aside0.mk (below_step (by repeat (first | (with_reducible first | exact HB.out | apply below_alloc | apply pw_below_drewN | apply below_drew1) | exact HB.out)) hb); have n1_ := Aside0.mk (hbox); have n2_ := Aside0.mk ((by rw [hg]; exact (below_size (by repeat (first | (with_reducible first | exact HB.out | apply below_alloc | apply pw_below_drewN | apply below_drew1) | exact HB.out))) : w.heap.size ≤ gb105)); have n3_ := Aside0.mk ((by rw [hg]; exact (below_size (by repeat (first | (with_reducible first | exact HB.out | apply below_alloc | apply pw_below_drewN | apply below_drew1) | exact HB.out))) : w.heap.size ≤ gb105)); clear HB; have HB := n0_; have BK105 := n1_; have GW105 := n2_; have GE105 := n3_; clear n0_ n1_ n2_ n3_; clear hb hbox hg; (try have hu105_0 : w8.cell? ⟨gb105, 0, none⟩ = some (.int .i64 0) := (blk_cell BK105.out 0).trans rfl); (try have hu105_1 : w8.cell? ⟨gb105, 1, none⟩ = some (.int .i64 0) := (blk_cell BK105.out 1).trans rfl); (try have hu105_2 : w8.cell? ⟨gb105, 2, none⟩ = some (.int .i64 0) := (blk_cell BK105.out 2).trans rfl); (try have hv105_0 := blk_frozen BK105.out 0); (try have hv105_1 := blk_frozen BK105.out 1); (try have hv105_2 := blk_frozen BK105.out 2); have hcz9_0 : w8.cell? ⟨gb105, 0, none⟩ = some (.int .i64 0) := (blk_cell BK105.out 0).trans rfl; have hcz9_1 : w8.cell? ⟨gb105, 1, none⟩ = some (.int .i64 0) := (blk_cell BK105.out 1).trans rfl; have hcz9_2 : w8.cell? ⟨gb105, 2, none⟩ = some (.int .i64 0) := (blk_cell BK105.out 2).trans rfl; have hfz9_0 := blk_frozen BK105.out 0; have hfz9_1 := blk_frozen BK105.out 1; have hfz9_2 := blk_frozen BK105.out 2)); try go_wp2_with (first | (go_at_call 87; (with_reducible refine (Go.Proofs.YtbbbjjfecblhpaaGreat.H.civil_Date.calls a1 t101 t102 t103 t104 _ A3.out).mono ?_); rintro e w7 ⟨rfl, hb⟩; have n0_ := Aside0.mk (below_step (by repeat (first | (with_reducible first | exact HB.out | apply below_alloc | apply pw_below_drewN | apply below_drew1) | exact HB.out)) hb); clear HB; have HB := n0_; clear n0_; (try clear hb); (try clear hb2); (try clear hk); (try clear hi)) | ((with_reducible refine gate_dst (N := 5) rfl ?_); refine box_event ?hg (N := 5) ?hd (cs := #[.int .i64 0, .int .i64 0, .int .i64 0]) (t := 78) ?hr ?_; (case hd => rfl); (case hg => rfl); (case hr => first | (go_simp; done) | (go_simp; rfl)); intro gb105 hg w8 hbox hb; have n0_ := Aside0.mk (below_step (by repeat (first | (with_reducible first | exact HB.out | apply below_alloc | apply pw_below_drewN | apply below_drew1) | exact HB.out)) hb); have n1_ := Aside0.mk (hbox); have n2_ := Aside0.mk ((by rw [hg]; exact (below_size (by repeat (first | (with_reducible first | exact HB.out | apply below_alloc | apply pw_below_drewN | apply below_drew1) | exact HB.out))) : w.heap.size ≤ gb105)); have n3_ := Aside0.mk ((by rw [hg]; exact (below_size (by repeat (first | (with_reducible first | exact HB.out | apply below_alloc | apply pw_below_drewN | apply below_drew1) | exact HB.out))) : w.heap.size ≤ gb105)); clear HB; have HB := n0_; have BK105 := n1_; have GW105 := n2_; have GE105 := n3_; clear n0_ n1_ n2_ n3_; clear hb hbox hg; (try have hu105_0 : w8.cell? ⟨gb105, 0, none⟩ = some (.int .i64 0) := (blk_cell BK105.out 0).trans rfl); (try have hu105_1 : w8.cell? ⟨gb105, 1, none⟩ = some (.int .i64 0) := (blk_cell BK105.out 1).trans rfl); (try have hu105_2 : w8.cell? ⟨gb105, 2, none⟩ = some (.int .i64 0) := (blk_cell BK105.out 2).trans rfl); (try have hv105_0 := blk_frozen BK105.out 0); (try have hv105_1 := blk_frozen BK105.out 1); (try have hv105_2 := blk_frozen BK105.out 2); have hcz9_0 : w8.cell? ⟨gb105, 0, none⟩ = some (.int .i64 0) := (blk_cell BK105.out 0).trans rfl; have hcz9_1 : w8.cell? ⟨gb105, 1, none⟩ = some (.int .i64 0) := (blk_cell BK105.out 1).trans rfl; have hcz9_2 : w8.cell? ⟨gb105, 2, none⟩ = some (.int .i64 0) := (blk_cell BK105.out 2).trans rfl; have hfz9_0 := blk_frozen BK105.out 0; have hfz9_1 := blk_frozen BK105.out 1; have hfz9_2 := blk_frozen BK105.out 2)))
      go_ret
      exact ⟨by first | rfl | (simp [errW_none, errW_some] <;> rfl) | (simp only [← hji6]; first | rfl | (simp [errW_none, errW_some] <;> rfl)) | (simp [*, errW_none, errW_some] <;> rfl), by repeat (first | (with_reducible first | exact HB.out | apply below_alloc | apply pw_below_drewN | apply below_drew1 | refine below_set ?_ GE105.out) | exact HB.out)⟩
    · rw [if_neg c5] at H
      have c5b0 : (a0 == 1) = false := beq_eq_false_iff_ne.mpr c5
      have c5b1 : (a0 != 1) = true := bne_iff_ne.mpr c5
      by_cases c10 : a0 = 2
      · rw [if_pos c10] at H
        have c10b0 : (a0 == 2) = true := beq_iff_eq.mpr c10
        have c10b1 : (a0 != 2) = false := bne_eq_false_iff_eq.mpr c10
        clear c10
        obtain rfl := Option.some.inj H
        go_enter Tryz.func75, Tryz.ntmps75
        go_wp2_with (first | (go_at_call 87; (with_reducible refine (Go.Proofs.YtbbbjjfecblhpaaGreat.H.civil_Date.calls a1 t101 t102 t103 t104 _ A3.out).mono ?_); rintro e w11 ⟨rfl, hb⟩; have n0_ := Aside0.mk (below_step (by repeat (first | (with_reducible first | exact HB.out | apply below_alloc | apply pw_below_drewN | apply below_drew1) | exact HB.out)) hb); clear HB; have HB := n0_; clear n0_; (try clear hb); (try clear hb2); (try clear hk); (try clear hi)) | ((with_reducible refine gate_dst (N := 5) rfl ?_); refine box_event ?hg (N := 5) ?hd (cs := #[.int .i64 0, .int .i64 0, .int .i64 0]) (t := 78) ?hr ?_; (case hd => rfl); (case hg => rfl); (case hr => first | (go_simp; done) | (go_simp; rfl)); intro gb105 hg w12 hbox hb; have n0_ := Aside0.mk (below_step (by repeat (first | (with_reducible first | exact HB.out | apply below_alloc | apply pw_below_drewN | apply below_drew1) | exact HB.out)) hb); have n1_ := Aside0.mk (hbox); have n2_ := Aside0.mk ((by rw [hg]; exact (below_size (by repeat (first | (with_reducible first | exact HB.out | apply below_alloc | apply pw_below_drewN | apply below_drew1) | exact HB.out))) : w.heap.size ≤ gb105)); have n3_ := Aside0.mk ((by rw [hg]; exact (below_size (by repeat (first | (with_reducible first | exact HB.out | apply below_alloc | apply pw_below_drewN | apply below_drew1) | exact HB.out))) : w.heap.size ≤ gb105)); clear HB; have HB := n0_; have BK105 := n1_; have GW105 := n2_; have GE105 := n3_; clear n0_ n1_ n2_ n3_; clear hb hbox hg; (try have hu105_0 : w12.cell? ⟨gb105, 0, none⟩ = some (.int .i64 0) := (blk_cell BK105.out 0).trans rfl); (try have hu105_1 : w12.cell? ⟨gb105, 1, none⟩ = some (.int .i64 0) := (blk_cell BK105.out 1).trans rfl); (try have hu105_2 : w12.cell? ⟨gb105, 2, none⟩ = some (.int .i64 0) := (blk_cell BK105.out 2).trans rfl); (try have hv105_0 := blk_frozen BK105.out 0); (try have hv105_1 := blk_frozen BK105.out 1); (try have hv105_2 := blk_frozen BK105.out 2); have hcz13_0 : w12.cell? ⟨gb105, 0, none⟩ = some (.int .i64 0) := (blk_cell BK105.out 0).trans rfl; have hcz13_1 : w12.cell? ⟨gb105, 1, none⟩ = some (.int .i64 0) := (blk_cell BK105.out 1).trans rfl; have hcz13_2 : w12.cell? ⟨gb105, 2, none⟩ = some (.int .i64 0) := (blk_cell BK105.out 2).trans rfl; have hfz13_0 := blk_frozen BK105.out 0; have hfz13_1 := blk_frozen BK105.out 1; have hfz13_2 := blk_frozen BK105.out 2))
        repeat (go_quiet (first | (go_at_call 87; (with_reducible refine (Go.Proofs.YtbbbjjfecblhpaaGreat.H.civil_Date.calls a1 t101 t102 t103 t104 _ A3.out).mono ?_); rintro e w11 ⟨rfl, hb⟩; have n0_ := Aside0.mk (below_step (by repeat (first | (with_reducible first | exact HB.out | apply below_alloc | apply pw_below_drewN | apply below_drew1) | exact HB.out)) hb); clear HB; have HB := n0_; clear n0_; (try clear hb); (try clear hb2); (try clear hk); (try clear hi)) | ((with_reducible refine gate_dst (N := 5) rfl ?_); refine box_event ?hg (N := 5) ?hd (cs := #[.int .i64 0, .int .i64 0, .int .i64 0]) (t := 78) ?hr ?_; (case hd => rfl); (case hg => rfl); (case hr => first | (go_simp; done) | (go_simp; rfl)); intro gb105 hg w12 hbox hb; have n0_ := Aside0.mk (below_step (by repeat (first | (with_reducible first | exact HB.out | apply below_alloc | apply pw_below_drewN | apply below_drew1) | exact HB.out)) hb); have n1_ := Aside0.mk (hbox); have n2_ := Aside0.mk ((by rw [hg]; exact (below_size (by repeat (first | (with_reducible first | exact HB.out | apply below_alloc | apply pw_below_drewN | apply below_drew1) | exact HB.out))) : w.heap.size ≤ gb105)); have n3_ := Aside0.mk ((by rw [hg]; exact (below_size (by repeat (first | (with_reducible first | exact HB.out | apply below_alloc | apply pw_below_drewN | apply below_drew1) | exact HB.out))) : w.heap.size ≤ gb105)); clear HB; have HB := n0_; have BK105 := n1_; have GW105 := n2_; have GE105 := n3_; clear n0_ n1_ n2_ n3_; clear hb hbox hg; (try have hu105_0 : w12.cell? ⟨gb105, 0, none⟩ = some (.int .i64 0) := (blk_cell BK105.out 0).trans rfl); (try have hu105_1 : w12.cell? ⟨gb105, 1, none⟩ = some (.int .i64 0) := (blk_cell BK105.out 1).trans rfl); (try have hu105_2 : w12.cell? ⟨gb105, 2, none⟩ = some (.int .i64 0) := (blk_cell BK105.out 2).trans rfl); (try have hv105_0 := blk_frozen BK105.out 0); (try have hv105_1 := blk_frozen BK105.out 1); (try have hv105_2 := blk_frozen BK105.out 2); have hcz13_0 : w12.cell? ⟨gb105, 0, none⟩ = some (.int .i64 0) := (blk_cell BK105.out 0).trans rfl; have hcz13_1 : w12.cell? ⟨gb105, 1, none⟩ = some (.int .i64 0) := (blk_cell BK105.out 1).trans rfl; have hcz13_2 : w12.cell? ⟨gb105, 2, none⟩ = some (.int .i64 0) := (blk_cell BK105.out 2).trans rfl; have hfz13_0 := blk_frozen BK105.out 0; have hfz13_1 := blk_frozen BK105.out 1; have hfz13_2 := blk_frozen BK105.out 2)); try go_wp2_with (first | (go_at_call 87; (with_reducible refine (Go.Proofs.YtbbbjjfecblhpaaGreat.H.civil_Date.calls a1 t101 t102 t103 t104 _ A3.out).mono ?_); rintro e w11 ⟨rfl, hb⟩; have n0_ := Aside0.mk (below_step (by repeat (first | (with_reducible first | exact HB.out | apply below_alloc | apply pw_below_drewN | apply below_drew1) | exact HB.out)) hb); clear HB; have HB := n0_; clear n0_; (try clear hb); (try clear hb2); (try clear hk); (try clear hi)) | ((with_reducible refine gate_dst (N := 5) rfl ?_); refine box_event ?hg (N := 5) ?hd (cs := #[.int .i64 0, .int .i64 0, .int .i64 0]) (t := 78) ?hr ?_; (case hd => rfl); (case hg => rfl); (case hr => first | (go_simp; done) | (go_simp; rfl)); intro gb105 hg w12 hbox hb; have n0_ := Aside0.mk (below_step (by repeat (first | (with_reducible first | exact HB.out | apply below_alloc | apply pw_below_drewN | apply below_drew1) | exact HB.out)) hb); have n1_ := Aside0.mk (hbox); have n2_ := Aside0.mk ((by rw [hg]; exact (below_size (by repeat (first | (with_reducible first | exact HB.out | apply below_alloc | apply pw_below_drewN | apply below_drew1) | exact HB.out))) : w.heap.size ≤ gb105)); have n3_ := Aside0.mk ((by rw [hg]; exact (below_size (by repeat (first | (with_reducible first | exact HB.out | apply below_alloc | apply pw_below_drewN | apply below_drew1) | exact HB.out))) : w.heap.size ≤ gb105)); clear HB; have HB := n0_; have BK105 := n1_; have GW105 := n2_; have GE105 := n3_; clear n0_ n1_ n2_ n3_; clear hb hbox hg; (try have hu105_0 : w12.cell? ⟨gb105, 0, none⟩ = some (.int .i64 0) := (blk_cell BK105.out 0).trans rfl); (try have hu105_1 : w12.cell? ⟨gb105, 1, none⟩ = some (.int .i64 0) := (blk_cell BK105.out 1).trans rfl); (try have hu105_2 : w12.cell? ⟨gb105, 2, none⟩ = some (.int .i64 0) := (blk_cell BK105.out 2).trans rfl); (try have hv105_0 := blk_frozen BK105.out 0); (try have hv105_1 := blk_frozen BK105.out 1); (try have hv105_2 := blk_frozen BK105.out 2); have hcz13_0 : w12.cell? ⟨gb105, 0, none⟩ = some (.int .i64 0) := (blk_cell BK105.out 0).trans rfl; have hcz13_1 : w12.cell? ⟨gb105, 1, none⟩ = some (.int .i64 0) := (blk_cell BK105.out 1).trans rfl; have hcz13_2 : w12.cell? ⟨gb105, 2, none⟩ = some (.int .i64 0) := (blk_cell BK105.out 2).trans rfl; have hfz13_0 := blk_frozen BK105.out 0; have hfz13_1 := blk_frozen BK105.out 1; have hfz13_2 := blk_frozen BK105.out 2)))
        go_ret
        exact ⟨by first | rfl | (simp [errW_none, errW_some] <;> rfl) | (simp [*, errW_none, errW_some] <;> rfl), by repeat (first | (with_reducible first | exact HB.out | apply below_alloc | apply pw_below_drewN | apply below_drew1 | refine below_set ?_ GE105.out) | exact HB.out)⟩
      · rw [if_neg c10] at H
        have c10b0 : (a0 == 2) = false := beq_eq_false_iff_ne.mpr c10
        have c10b1 : (a0 != 2) = true := bne_iff_ne.mpr c10
        replace H := Option.bind_eq_some_iff.mp H
        obtain ⟨t106, A140, H⟩ := H
        replace H : (if t106 = true then ((Go.Proofs.YtbbbjjfecblhpaaGreat.H.civil_Opens.f t101).bind fun t107 => (some (wrap64 ((wrap64 ((wrap64 (t101 * 365)) * 366)) + (wrap64 ((wrap64 (a1 - t107)) * 365)))))) else ((Go.Proofs.YtbbbjjfecblhpaaGreat.H.civil_Opens.f t101).bind fun t108 => (some (wrap64 ((wrap64 ((wrap64 (t101 * 365)) * 366)) + (wrap64 ((wrap64 (a1 - t108)) * 366))))))) = some r := H
        have A14 := Aside0.mk A140
        clear A140
        by_cases c15 : t106 = true
        · subst c15
          have H1 : ((Go.Proofs.YtbbbjjfecblhpaaGreat.H.civil_Opens.f t101).bind fun t107 => (some (wrap64 ((wrap64 ((wrap64 (t101 * 365)) * 366)) + (wrap64 ((wrap64 (a1 - t107)) * 365)))))) = some r := by rw [if_pos rfl] at H; exact H
          clear H
          have H := H1
          clear H1
          replace H := Option.bind_eq_some_iff.mp H
          obtain ⟨t107, A160, H⟩ := H
          replace H : (some (wrap64 ((wrap64 ((wrap64 (t101 * 365)) * 366)) + (wrap64 ((wrap64 (a1 - t107)) * 365))))) = some r := H
          have A16 := Aside0.mk A160
          clear A160
          obtain rfl := Option.some.inj H
          go_enter Tryz.func75, Tryz.ntmps75
          go_wp2_with (first | (go_at_call 87; (with_reducible refine (Go.Proofs.YtbbbjjfecblhpaaGreat.H.civil_Date.calls a1 t101 t102 t103 t104 _ A3.out).mono ?_); rintro e w17 ⟨rfl, hb⟩; have n0_ := Aside0.mk (below_step (by repeat (first | (with_reducible first | exact HB.out | apply below_alloc | apply pw_below_drewN | apply below_drew1) | exact HB.out)) hb); clear HB; have HB := n0_; clear n0_; (try clear hb); (try clear hb2); (try clear hk); (try clear hi)) | ((with_reducible refine gate_dst (N := 5) rfl ?_); refine box_event ?hg (N := 5) ?hd (cs := #[.int .i64 0, .int .i64 0, .int .i64 0]) (t := 78) ?hr ?_; (case hd => rfl); (case hg => rfl); (case hr => first | (go_simp; done) | (go_simp; rfl)); intro gb105 hg w18 hbox hb; have n0_ := Aside0.mk (below_step (by repeat (first | (with_reducible first | exact HB.out | apply below_alloc | apply pw_below_drewN | apply below_drew1) | exact HB.out)) hb); have n1_ := Aside0.mk (hbox); have n2_ := Aside0.mk ((by rw [hg]; exact (below_size (by repeat (first | (with_reducible first | exact HB.out | apply below_alloc | apply pw_below_drewN | apply below_drew1) | exact HB.out))) : w.heap.size ≤ gb105)); have n3_ := Aside0.mk ((by rw [hg]; exact (below_size (by repeat (first | (with_reducible first | exact HB.out | apply below_alloc | apply pw_below_drewN | apply below_drew1) | exact HB.out))) : w.heap.size ≤ gb105)); clear HB; have HB := n0_; have BK105 := n1_; have GW105 := n2_; have GE105 := n3_; clear n0_ n1_ n2_ n3_; clear hb hbox hg; (try have hu105_0 : w18.cell? ⟨gb105, 0, none⟩ = some (.int .i64 0) := (blk_cell BK105.out 0).trans rfl); (try have hu105_1 : w18.cell? ⟨gb105, 1, none⟩ = some (.int .i64 0) := (blk_cell BK105.out 1).trans rfl); (try have hu105_2 : w18.cell? ⟨gb105, 2, none⟩ = some (.int .i64 0) := (blk_cell BK105.out 2).trans rfl); (try have hv105_0 := blk_frozen BK105.out 0); (try have hv105_1 := blk_frozen BK105.out 1); (try have hv105_2 := blk_frozen BK105.out 2); have hcz19_0 : w18.cell? ⟨gb105, 0, none⟩ = some (.int .i64 0) := (blk_cell BK105.out 0).trans rfl; have hcz19_1 : w18.cell? ⟨gb105, 1, none⟩ = some (.int .i64 0) := (blk_cell BK105.out 1).trans rfl; have hcz19_2 : w18.cell? ⟨gb105, 2, none⟩ = some (.int .i64 0) := (blk_cell BK105.out 2).trans rfl; have hfz19_0 := blk_frozen BK105.out 0; have hfz19_1 := blk_frozen BK105.out 1; have hfz19_2 := blk_frozen BK105.out 2) | (go_at_call 88; (with_reducible refine (Go.Proofs.YtbbbjjfecblhpaaGreat.H.civil_Long.calls t101 true _ A14.out).mono ?_); rintro e w' ⟨rfl, ⟨nd, rfl⟩⟩; (try first | exact ⟨rfl, _, World.drewN_drewN _ _ _⟩ | exact ⟨rfl, _, Eq.trans (World.drewN_drewN _ _ _) (congrArg (World.drewN _) (Nat.add_assoc _ _ _))⟩)) | (go_at_call 89; (with_reducible refine (Go.Proofs.YtbbbjjfecblhpaaGreat.H.civil_Opens.calls t101 t107 _ A16.out).mono ?_); rintro e w' ⟨rfl, ⟨nd, rfl⟩⟩; (try first | exact ⟨rfl, _, World.drewN_drewN _ _ _⟩ | exact ⟨rfl, _, Eq.trans (World.drewN_drewN _ _ _) (congrArg (World.drewN _) (Nat.add_assoc _ _ _))⟩)))
          repeat (go_quiet (first | (go_at_call 87; (with_reducible refine (Go.Proofs.YtbbbjjfecblhpaaGreat.H.civil_Date.calls a1 t101 t102 t103 t104 _ A3.out).mono ?_); rintro e w17 ⟨rfl, hb⟩; have n0_ := Aside0.mk (below_step (by repeat (first | (with_reducible first | exact HB.out | apply below_alloc | apply pw_below_drewN | apply below_drew1) | exact HB.out)) hb); clear HB; have HB := n0_; clear n0_; (try clear hb); (try clear hb2); (try clear hk); (try clear hi)) | ((with_reducible refine gate_dst (N := 5) rfl ?_); refine box_event ?hg (N := 5) ?hd (cs := #[.int .i64 0, .int .i64 0, .int .i64 0]) (t := 78) ?hr ?_; (case hd => rfl); (case hg => rfl); (case hr => first | (go_simp; done) | (go_simp; rfl)); intro gb105 hg w18 hbox hb; have n0_ := Aside0.mk (below_step (by repeat (first | (with_reducible first | exact HB.out | apply below_alloc | apply pw_below_drewN | apply below_drew1) | exact HB.out)) hb); have n1_ := Aside0.mk (hbox); have n2_ := Aside0.mk ((by rw [hg]; exact (below_size (by repeat (first | (with_reducible first | exact HB.out | apply below_alloc | apply pw_below_drewN | apply below_drew1) | exact HB.out))) : w.heap.size ≤ gb105)); have n3_ := Aside0.mk ((by rw [hg]; exact (below_size (by repeat (first | (with_reducible first | exact HB.out | apply below_alloc | apply pw_below_drewN | apply below_drew1) | exact HB.out))) : w.heap.size ≤ gb105)); clear HB; have HB := n0_; have BK105 := n1_; have GW105 := n2_; have GE105 := n3_; clear n0_ n1_ n2_ n3_; clear hb hbox hg; (try have hu105_0 : w18.cell? ⟨gb105, 0, none⟩ = some (.int .i64 0) := (blk_cell BK105.out 0).trans rfl); (try have hu105_1 : w18.cell? ⟨gb105, 1, none⟩ = some (.int .i64 0) := (blk_cell BK105.out 1).trans rfl); (try have hu105_2 : w18.cell? ⟨gb105, 2, none⟩ = some (.int .i64 0) := (blk_cell BK105.out 2).trans rfl); (try have hv105_0 := blk_frozen BK105.out 0); (try have hv105_1 := blk_frozen BK105.out 1); (try have hv105_2 := blk_frozen BK105.out 2); have hcz19_0 : w18.cell? ⟨gb105, 0, none⟩ = some (.int .i64 0) := (blk_cell BK105.out 0).trans rfl; have hcz19_1 : w18.cell? ⟨gb105, 1, none⟩ = some (.int .i64 0) := (blk_cell BK105.out 1).trans rfl; have hcz19_2 : w18.cell? ⟨gb105, 2, none⟩ = some (.int .i64 0) := (blk_cell BK105.out 2).trans rfl; have hfz19_0 := blk_frozen BK105.out 0; have hfz19_1 := blk_frozen BK105.out 1; have hfz19_2 := blk_frozen BK105.out 2) | (go_at_call 88; (with_reducible refine (Go.Proofs.YtbbbjjfecblhpaaGreat.H.civil_Long.calls t101 true _ A14.out).mono ?_); rintro e w' ⟨rfl, ⟨nd, rfl⟩⟩; (try first | exact ⟨rfl, _, World.drewN_drewN _ _ _⟩ | exact ⟨rfl, _, Eq.trans (World.drewN_drewN _ _ _) (congrArg (World.drewN _) (Nat.add_assoc _ _ _))⟩)) | (go_at_call 89; (with_reducible refine (Go.Proofs.YtbbbjjfecblhpaaGreat.H.civil_Opens.calls t101 t107 _ A16.out).mono ?_); rintro e w' ⟨rfl, ⟨nd, rfl⟩⟩; (try first | exact ⟨rfl, _, World.drewN_drewN _ _ _⟩ | exact ⟨rfl, _, Eq.trans (World.drewN_drewN _ _ _) (congrArg (World.drewN _) (Nat.add_assoc _ _ _))⟩))); try go_wp2_with (first | (go_at_call 87; (with_reducible refine (Go.Proofs.YtbbbjjfecblhpaaGreat.H.civil_Date.calls a1 t101 t102 t103 t104 _ A3.out).mono ?_); rintro e w17 ⟨rfl, hb⟩; have n0_ := Aside0.mk (below_step (by repeat (first | (with_reducible first | exact HB.out | apply below_alloc | apply pw_below_drewN | apply below_drew1) | exact HB.out)) hb); clear HB; have HB := n0_; clear n0_; (try clear hb); (try clear hb2); (try clear hk); (try clear hi)) | ((with_reducible refine gate_dst (N := 5) rfl ?_); refine box_event ?hg (N := 5) ?hd (cs := #[.int .i64 0, .int .i64 0, .int .i64 0]) (t := 78) ?hr ?_; (case hd => rfl); (case hg => rfl); (case hr => first | (go_simp; done) | (go_simp; rfl)); intro gb105 hg w18 hbox hb; have n0_ := Aside0.mk (below_step (by repeat (first | (with_reducible first | exact HB.out | apply below_alloc | apply pw_below_drewN | apply below_drew1) | exact HB.out)) hb); have n1_ := Aside0.mk (hbox); have n2_ := Aside0.mk ((by rw [hg]; exact (below_size (by repeat (first | (with_reducible first | exact HB.out | apply below_alloc | apply pw_below_drewN | apply below_drew1) | exact HB.out))) : w.heap.size ≤ gb105)); have n3_ := Aside0.mk ((by rw [hg]; exact (below_size (by repeat (first | (with_reducible first | exact HB.out | apply below_alloc | apply pw_below_drewN | apply below_drew1) | exact HB.out))) : w.heap.size ≤ gb105)); clear HB; have HB := n0_; have BK105 := n1_; have GW105 := n2_; have GE105 := n3_; clear n0_ n1_ n2_ n3_; clear hb hbox hg; (try have hu105_0 : w18.cell? ⟨gb105, 0, none⟩ = some (.int .i64 0) := (blk_cell BK105.out 0).trans rfl); (try have hu105_1 : w18.cell? ⟨gb105, 1, none⟩ = some (.int .i64 0) := (blk_cell BK105.out 1).trans rfl); (try have hu105_2 : w18.cell? ⟨gb105, 2, none⟩ = some (.int .i64 0) := (blk_cell BK105.out 2).trans rfl); (try have hv105_0 := blk_frozen BK105.out 0); (try have hv105_1 := blk_frozen BK105.out 1); (try have hv105_2 := blk_frozen BK105.out 2); have hcz19_0 : w18.cell? ⟨gb105, 0, none⟩ = some (.int .i64 0) := (blk_cell BK105.out 0).trans rfl; have hcz19_1 : w18.cell? ⟨gb105, 1, none⟩ = some (.int .i64 0) := (blk_cell BK105.out 1).trans rfl; have hcz19_2 : w18.cell? ⟨gb105, 2, none⟩ = some (.int .i64 0) := (blk_cell BK105.out 2).trans rfl; have hfz19_0 := blk_frozen BK105.out 0; have hfz19_1 := blk_frozen BK105.out 1; have hfz19_2 := blk_frozen BK105.out 2) | (go_at_call 88; (with_reducible refine (Go.Proofs.YtbbbjjfecblhpaaGreat.H.civil_Long.calls t101 true _ A14.out).mono ?_); rintro e w' ⟨rfl, ⟨nd, rfl⟩⟩; (try first | exact ⟨rfl, _, World.drewN_drewN _ _ _⟩ | exact ⟨rfl, _, Eq.trans (World.drewN_drewN _ _ _) (congrArg (World.drewN _) (Nat.add_assoc _ _ _))⟩)) | (go_at_call 89; (with_reducible refine (Go.Proofs.YtbbbjjfecblhpaaGreat.H.civil_Opens.calls t101 t107 _ A16.out).mono ?_); rintro e w' ⟨rfl, ⟨nd, rfl⟩⟩; (try first | exact ⟨rfl, _, World.drewN_drewN _ _ _⟩ | exact ⟨rfl, _, Eq.trans (World.drewN_drewN _ _ _) (congrArg (World.drewN _) (Nat.add_assoc _ _ _))⟩))))
          go_ret
          exact ⟨by first | rfl | (simp [errW_none, errW_some] <;> rfl) | (simp [*, errW_none, errW_some] <;> rfl), by repeat (first | (with_reducible first | exact HB.out | apply below_alloc | apply pw_below_drewN | apply below_drew1 | refine below_set ?_ GE105.out) | exact HB.out)⟩
        · replace c15 := Bool.eq_false_iff.mpr c15
          subst c15
          have H1 : ((Go.Proofs.YtbbbjjfecblhpaaGreat.H.civil_Opens.f t101).bind fun t108 => (some (wrap64 ((wrap64 ((wrap64 (t101 * 365)) * 366)) + (wrap64 ((wrap64 (a1 - t108)) * 366)))))) = some r := by rw [if_neg (show ¬ (false = true) by decide)] at H; exact H
          clear H
          have H := H1
          clear H1
          replace H := Option.bind_eq_some_iff.mp H
          obtain ⟨t108, A200, H⟩ := H
          replace H : (some (wrap64 ((wrap64 ((wrap64 (t101 * 365)) * 366)) + (wrap64 ((wrap64 (a1 - t108)) * 366))))) = some r := H
          have A20 := Aside0.mk A200
          clear A200
          obtain rfl := Option.some.inj H
          go_enter Tryz.func75, Tryz.ntmps75
          go_wp2_with (first | (go_at_call 87; (with_reducible refine (Go.Proofs.YtbbbjjfecblhpaaGreat.H.civil_Date.calls a1 t101 t102 t103 t104 _ A3.out).mono ?_); rintro e w21 ⟨rfl, hb⟩; have n0_ := Aside0.mk (below_step (by repeat (first | (with_reducible first | exact HB.out | apply below_alloc | apply pw_below_drewN | apply below_drew1) | exact HB.out)) hb); clear HB; have HB := n0_; clear n0_; (try clear hb); (try clear hb2); (try clear hk); (try clear hi)) | ((with_reducible refine gate_dst (N := 5) rfl ?_); refine box_event ?hg (N := 5) ?hd (cs := #[.int .i64 0, .int .i64 0, .int .i64 0]) (t := 78) ?hr ?_; (case hd => rfl); (case hg => rfl); (case hr => first | (go_simp; done) | (go_simp; rfl)); intro gb105 hg w22 hbox hb; have n0_ := Aside0.mk (below_step (by repeat (first | (with_reducible first | exact HB.out | apply below_alloc | apply pw_below_drewN | apply below_drew1) | exact HB.out)) hb); have n1_ := Aside0.mk (hbox); have n2_ := Aside0.mk ((by rw [hg]; exact (below_size (by repeat (first | (with_reducible first | exact HB.out | apply below_alloc | apply pw_below_drewN | apply below_drew1) | exact HB.out))) : w.heap.size ≤ gb105)); have n3_ := Aside0.mk ((by rw [hg]; exact (below_size (by repeat (first | (with_reducible first | exact HB.out | apply below_alloc | apply pw_below_drewN | apply below_drew1) | exact HB.out))) : w.heap.size ≤ gb105)); clear HB; have HB := n0_; have BK105 := n1_; have GW105 := n2_; have GE105 := n3_; clear n0_ n1_ n2_ n3_; clear hb hbox hg; (try have hu105_0 : w22.cell? ⟨gb105, 0, none⟩ = some (.int .i64 0) := (blk_cell BK105.out 0).trans rfl); (try have hu105_1 : w22.cell? ⟨gb105, 1, none⟩ = some (.int .i64 0) := (blk_cell BK105.out 1).trans rfl); (try have hu105_2 : w22.cell? ⟨gb105, 2, none⟩ = some (.int .i64 0) := (blk_cell BK105.out 2).trans rfl); (try have hv105_0 := blk_frozen BK105.out 0); (try have hv105_1 := blk_frozen BK105.out 1); (try have hv105_2 := blk_frozen BK105.out 2); have hcz23_0 : w22.cell? ⟨gb105, 0, none⟩ = some (.int .i64 0) := (blk_cell BK105.out 0).trans rfl; have hcz23_1 : w22.cell? ⟨gb105, 1, none⟩ = some (.int .i64 0) := (blk_cell BK105.out 1).trans rfl; have hcz23_2 : w22.cell? ⟨gb105, 2, none⟩ = some (.int .i64 0) := (blk_cell BK105.out 2).trans rfl; have hfz23_0 := blk_frozen BK105.out 0; have hfz23_1 := blk_frozen BK105.out 1; have hfz23_2 := blk_frozen BK105.out 2) | (go_at_call 88; (with_reducible refine (Go.Proofs.YtbbbjjfecblhpaaGreat.H.civil_Long.calls t101 false _ A14.out).mono ?_); rintro e w' ⟨rfl, ⟨nd, rfl⟩⟩; (try first | exact ⟨rfl, _, World.drewN_drewN _ _ _⟩ | exact ⟨rfl, _, Eq.trans (World.drewN_drewN _ _ _) (congrArg (World.drewN _) (Nat.add_assoc _ _ _))⟩)) | (go_at_call 89; (with_reducible refine (Go.Proofs.YtbbbjjfecblhpaaGreat.H.civil_Opens.calls t101 t108 _ A20.out).mono ?_); rintro e w' ⟨rfl, ⟨nd, rfl⟩⟩; (try first | exact ⟨rfl, _, World.drewN_drewN _ _ _⟩ | exact ⟨rfl, _, Eq.trans (World.drewN_drewN _ _ _) (congrArg (World.drewN _) (Nat.add_assoc _ _ _))⟩)))
          repeat (go_quiet (first | (go_at_call 87; (with_reducible refine (Go.Proofs.YtbbbjjfecblhpaaGreat.H.civil_Date.calls a1 t101 t102 t103 t104 _ A3.out).mono ?_); rintro e w21 ⟨rfl, hb⟩; have n0_ := Aside0.mk (below_step (by repeat (first | (with_reducible first | exact HB.out | apply below_alloc | apply pw_below_drewN | apply below_drew1) | exact HB.out)) hb); clear HB; have HB := n0_; clear n0_; (try clear hb); (try clear hb2); (try clear hk); (try clear hi)) | ((with_reducible refine gate_dst (N := 5) rfl ?_); refine box_event ?hg (N := 5) ?hd (cs := #[.int .i64 0, .int .i64 0, .int .i64 0]) (t := 78) ?hr ?_; (case hd => rfl); (case hg => rfl); (case hr => first | (go_simp; done) | (go_simp; rfl)); intro gb105 hg w22 hbox hb; have n0_ := Aside0.mk (below_step (by repeat (first | (with_reducible first | exact HB.out | apply below_alloc | apply pw_below_drewN | apply below_drew1) | exact HB.out)) hb); have n1_ := Aside0.mk (hbox); have n2_ := Aside0.mk ((by rw [hg]; exact (below_size (by repeat (first | (with_reducible first | exact HB.out | apply below_alloc | apply pw_below_drewN | apply below_drew1) | exact HB.out))) : w.heap.size ≤ gb105)); have n3_ := Aside0.mk ((by rw [hg]; exact (below_size (by repeat (first | (with_reducible first | exact HB.out | apply below_alloc | apply pw_below_drewN | apply below_drew1) | exact HB.out))) : w.heap.size ≤ gb105)); clear HB; have HB := n0_; have BK105 := n1_; have GW105 := n2_; have GE105 := n3_; clear n0_ n1_ n2_ n3_; clear hb hbox hg; (try have hu105_0 : w22.cell? ⟨gb105, 0, none⟩ = some (.int .i64 0) := (blk_cell BK105.out 0).trans rfl); (try have hu105_1 : w22.cell? ⟨gb105, 1, none⟩ = some (.int .i64 0) := (blk_cell BK105.out 1).trans rfl); (try have hu105_2 : w22.cell? ⟨gb105, 2, none⟩ = some (.int .i64 0) := (blk_cell BK105.out 2).trans rfl); (try have hv105_0 := blk_frozen BK105.out 0); (try have hv105_1 := blk_frozen BK105.out 1); (try have hv105_2 := blk_frozen BK105.out 2); have hcz23_0 : w22.cell? ⟨gb105, 0, none⟩ = some (.int .i64 0) := (blk_cell BK105.out 0).trans rfl; have hcz23_1 : w22.cell? ⟨gb105, 1, none⟩ = some (.int .i64 0) := (blk_cell BK105.out 1).trans rfl; have hcz23_2 : w22.cell? ⟨gb105, 2, none⟩ = some (.int .i64 0) := (blk_cell BK105.out 2).trans rfl; have hfz23_0 := blk_frozen BK105.out 0; have hfz23_1 := blk_frozen BK105.out 1; have hfz23_2 := blk_frozen BK105.out 2) | (go_at_call 88; (with_reducible refine (Go.Proofs.YtbbbjjfecblhpaaGreat.H.civil_Long.calls t101 false _ A14.out).mono ?_); rintro e w' ⟨rfl, ⟨nd, rfl⟩⟩; (try first | exact ⟨rfl, _, World.drewN_drewN _ _ _⟩ | exact ⟨rfl, _, Eq.trans (World.drewN_drewN _ _ _) (congrArg (World.drewN _) (Nat.add_assoc _ _ _))⟩)) | (go_at_call 89; (with_reducible refine (Go.Proofs.YtbbbjjfecblhpaaGreat.H.civil_Opens.calls t101 t108 _ A20.out).mono ?_); rintro e w' ⟨rfl, ⟨nd, rfl⟩⟩; (try first | exact ⟨rfl, _, World.drewN_drewN _ _ _⟩ | exact ⟨rfl, _, Eq.trans (World.drewN_drewN _ _ _) (congrArg (World.drewN _) (Nat.add_assoc _ _ _))⟩))); try go_wp2_with (first | (go_at_call 87; (with_reducible refine (Go.Proofs.YtbbbjjfecblhpaaGreat.H.civil_Date.calls a1 t101 t102 t103 t104 _ A3.out).mono ?_); rintro e w21 ⟨rfl, hb⟩; have n0_ := Aside0.mk (below_step (by repeat (first | (with_reducible first | exact HB.out | apply below_alloc | apply pw_below_drewN | apply below_drew1) | exact HB.out)) hb); clear HB; have HB := n0_; clear n0_; (try clear hb); (try clear hb2); (try clear hk); (try clear hi)) | ((with_reducible refine gate_dst (N := 5) rfl ?_); refine box_event ?hg (N := 5) ?hd (cs := #[.int .i64 0, .int .i64 0, .int .i64 0]) (t := 78) ?hr ?_; (case hd => rfl); (case hg => rfl); (case hr => first | (go_simp; done) | (go_simp; rfl)); intro gb105 hg w22 hbox hb; have n0_ := Aside0.mk (below_step (by repeat (first | (with_reducible first | exact HB.out | apply below_alloc | apply pw_below_drewN | apply below_drew1) | exact HB.out)) hb); have n1_ := Aside0.mk (hbox); have n2_ := Aside0.mk ((by rw [hg]; exact (below_size (by repeat (first | (with_reducible first | exact HB.out | apply below_alloc | apply pw_below_drewN | apply below_drew1) | exact HB.out))) : w.heap.size ≤ gb105)); have n3_ := Aside0.mk ((by rw [hg]; exact (below_size (by repeat (first | (with_reducible first | exact HB.out | apply below_alloc | apply pw_below_drewN | apply below_drew1) | exact HB.out))) : w.heap.size ≤ gb105)); clear HB; have HB := n0_; have BK105 := n1_; have GW105 := n2_; have GE105 := n3_; clear n0_ n1_ n2_ n3_; clear hb hbox hg; (try have hu105_0 : w22.cell? ⟨gb105, 0, none⟩ = some (.int .i64 0) := (blk_cell BK105.out 0).trans rfl); (try have hu105_1 : w22.cell? ⟨gb105, 1, none⟩ = some (.int .i64 0) := (blk_cell BK105.out 1).trans rfl); (try have hu105_2 : w22.cell? ⟨gb105, 2, none⟩ = some (.int .i64 0) := (blk_cell BK105.out 2).trans rfl); (try have hv105_0 := blk_frozen BK105.out 0); (try have hv105_1 := blk_frozen BK105.out 1); (try have hv105_2 := blk_frozen BK105.out 2); have hcz23_0 : w22.cell? ⟨gb105, 0, none⟩ = some (.int .i64 0) := (blk_cell BK105.out 0).trans rfl; have hcz23_1 : w22.cell? ⟨gb105, 1, none⟩ = some (.int .i64 0) := (blk_cell BK105.out 1).trans rfl; have hcz23_2 : w22.cell? ⟨gb105, 2, none⟩ = some (.int .i64 0) := (blk_cell BK105.out 2).trans rfl; have hfz23_0 := blk_frozen BK105.out 0; have hfz23_1 := blk_frozen BK105.out 1; have hfz23_2 := blk_frozen BK105.out 2) | (go_at_call 88; (with_reducible refine (Go.Proofs.YtbbbjjfecblhpaaGreat.H.civil_Long.calls t101 false _ A14.out).mono ?_); rintro e w' ⟨rfl, ⟨nd, rfl⟩⟩; (try first | exact ⟨rfl, _, World.drewN_drewN _ _ _⟩ | exact ⟨rfl, _, Eq.trans (World.drewN_drewN _ _ _) (congrArg (World.drewN _) (Nat.add_assoc _ _ _))⟩)) | (go_at_call 89; (with_reducible refine (Go.Proofs.YtbbbjjfecblhpaaGreat.H.civil_Opens.calls t101 t108 _ A20.out).mono ?_); rintro e w' ⟨rfl, ⟨nd, rfl⟩⟩; (try first | exact ⟨rfl, _, World.drewN_drewN _ _ _⟩ | exact ⟨rfl, _, Eq.trans (World.drewN_drewN _ _ _) (congrArg (World.drewN _) (Nat.add_assoc _ _ _))⟩))))
          go_ret
          exact ⟨by first | rfl | (simp [errW_none, errW_some] <;> rfl) | (simp [*, errW_none, errW_some] <;> rfl), by repeat (first | (with_reducible first | exact HB.out | apply below_alloc | apply pw_below_drewN | apply below_drew1 | refine below_set ?_ GE105.out) | exact HB.out)⟩
  · rw [if_neg c4] at H
    exact absurd H (by simp)

end Go.Proofs.YtbbbjjfecblhpaaGreat.PG
/- Contracts by hand: parts of a year: what is thrown, and caught. -/
namespace Go.Proofs.YtbbbjjfecblhpaaGreat.H
open Go.RowKit Go.Proofs.YtbbbjjfecblhpaaGreatW.PrintWords Go.Proofs.YtbbbjjfecblhpaaGreatW.PrintLast Go.Proofs.YtbbbjjfecblhpaaGreatW.PrintMore
open Go.Proofs.YtbbbjjfecblhpaaGreat.Math
set_option linter.unusedVariables false
set_option linter.unusedSimpArgs false

/-- What does not recover is walked as1 ever. -/
theorem rest_plain {P : Program} {c : Code} {Q0 : Exit → Act → List Frame → World → Prop} {a : Act} {cs : List Frame} {w : World}
    (h : ∀ Q : Exit → Act → World → Prop, Aside0 (∀ e a' w', Q0 e a' cs w' → Q e a' w') → c.wp P Q a w) : c.wpS P Q0 a cs w :=
  wpS_of_wp (h _ ⟨fun _ _ _ x => x⟩)

/-- Two result cells, new at w. -/
structure Res2 (w W : World) (x y : Value) : Prop where
  below : Below w.heap.size w W
  c0 : W.cell? ⟨w.heap.size, 0, none⟩ = some x
  c1 : W.cell? ⟨w.heap.size + 1, 0, none⟩ = some y
  f0 : W.frozen? ⟨w.heap.size, 0, none⟩ = false
  f1 : W.frozen? ⟨w.heap.size + 1, 0, none⟩ = false
  size : w.heap.size + 2 ≤ W.heap.size
theorem Res2.made (w : World) (x y : Value) (t u : TypeId) : Res2 w ((w.alloc (.cells #[x] t)).alloc (.cells #[y] u)) x y := by
  refine ⟨((Below.refl _ _).alloc (Nat.le_refl _) _).alloc (by simp) _, ?_, ?_, ?_, ?_, ?_⟩ <;> simp [go_sem]
theorem Res2.step {w W W' : World} {x y : Value} (h : Res2 w W x y) (hb : Below W.heap.size W W') : Res2 w W' x y := by
  have hs := h.size
  refine ⟨h.below.trans (hb.mono (by omega)), ?_, ?_, ?_, ?_, Nat.le_trans h.size hb.size⟩
  · rw [hb.cell (by simp; omega)]; exact h.c0
  · rw [hb.cell (by simp; omega)]; exact h.c1
  · rw [hb.frozen (by simp; omega)]; exact h.f0
  · rw [hb.frozen (by simp; omega)]; exact h.f1
theorem Res2.drawn {w W W' : World} {x y : Value} (h : Res2 w W x y) (hb : Drawn0 W W') : Res2 w W' x y := h.step hb.below
theorem Res2.put {w W : World} {x y : Value} (h : Res2 w W x y) (u v : Value) : Below w.heap.size w ((W.setCell ⟨w.heap.size, 0, none⟩ u).setCell ⟨w.heap.size + 1, 0, none⟩ v) :=
  (h.below.setCell (by simp) _).setCell (by simp) _

theorem frac_idle (pv pe : Addr) (w : World) :
    CallsD Tryz.prog 73 #[.pointer (some pv), .pointer (some pe)] .returning w fun e u' w' => e = .returned (.tuple #[]) ∧ u' = .returning ∧ w' = w := by
  refine callsD_of_wpS Tryz.func73 rfl fun c₀ cs hu => ?_
  simp only [Tryz.ntmps73, List.size_toArray, List.length_cons, List.length_nil, Nat.reduceAdd, Nat.reduceSub, Array.replicate_succ, Array.replicate_zero, List.push_toArray, List.append_toArray, List.nil_append, List.cons_append]
  apply wpS_seq
  apply wpS_region
  simp [wpOpsS, go_sem, recoverD, hu, Exit.thenS]
  refine rest_plain fun Q HQ => ?_
  go_wp2
  refine HQ.out _ _ _ ?_
  clear HQ
  simp [bodyPostS, results, Tryz.results73, hu]
  cases c₀
  simp_all
theorem frac_thrown (pv pe : Addr) (x y : Int) (c : Int) (older : List PanicEntry) (w : World) (hne : pv.block ≠ pe.block) (hx : w.cell? pv = some (.int .i64 x)) (hy : w.cell? pe = some (.int .i64 y)) (fx : w.frozen? pv = false) (fy : w.frozen? pe = false) :
    CallsD Tryz.prog 73 #[.pointer (some pv), .pointer (some pe)] (.panicking ({ v := .iface 139 (.int .i64 c), recovered := false } :: older)) w fun e u' w' =>
      e = .returned (.tuple #[]) ∧ u' = .panicking ({ v := .iface 139 (.int .i64 c), recovered := true } :: older) ∧ w' = (w.setCell pv (.int .i64 0)).setCell pe (.int .i64 c) := by
  refine callsD_of_wpS Tryz.func73 rfl fun c₀ cs hu => ?_
  simp only [Tryz.ntmps73, List.size_toArray, List.length_cons, List.length_nil, Nat.reduceAdd, Nat.reduceSub, Array.replicate_succ, Array.replicate_zero, List.push_toArray, List.append_toArray, List.nil_append, List.cons_append]
  apply wpS_seq
  apply wpS_region
  simp [wpOpsS, go_sem, recoverD, hu, Exit.thenS]
  refine rest_plain fun Q HQ => ?_
  have hta : ∀ w, (Instr.typeAssert (.iface 139 (.int .i64 c)) 20 139 true).run Tryz.prog w = .ok (.tuple #[.int .i64 c, .bool true]) w := fun _ => by kernel_rfl
  have hy2 : (w.setCell pv (.int .i64 0)).cell? pe = some (.int .i64 y) := by rw [World.cell?_setCell_other]; exact hy; exact fun e => hne (by rw [e])
  go_wp2
  refine HQ.out _ _ _ ?_
  clear HQ
  simp [bodyPostS, results, Tryz.results73, hu]

/-- How many parts a year has, or which error. -/
def parts (c : Int) : Int × Int := if c = 1 then (360, 0) else if c = 2 then (365, 0) else if c = 3 then (133590, 0) else (0, 1)
theorem year_yes {c v : Int} (h : parts c = (v, 0)) (w : World) : Calls Tryz.prog 74 #[.int .i64 c] w fun e w' => e = .returned (.int .i64 v) ∧ Drawn0 w w' := by
  refine PG.fraction_year.calls c v w ?_
  unfold parts at h
  unfold PG.fraction_year.f
  repeat' split at h
  all_goals simp_all
theorem year_no {c : Int} (h1 : (c == 1) = false) (h2 : (c == 2) = false) (h3 : (c == 3) = false) (w : World) : Calls Tryz.prog 74 #[.int .i64 c] w fun e w' => e = .panicked [{ v := .iface 139 (.int .i64 1), recovered := false }] ∧ w' = w := by
  go_enter Tryz.func74, Tryz.ntmps74
  go_wp2
  exact ⟨rfl, rfl, rfl⟩
theorem place_yes {c n : Int} (hc : c = 1 ∨ c = 2 ∨ c = 3) (h : isDay n) (w : World) : Calls Tryz.prog 75 #[.int .i64 c, .int .i64 n] w fun e w' => e = .returned (.int .i64 (place c n)) ∧ Below w.heap.size w w' := by
  refine PG.fraction_place.calls c n (place c n) w ?_
  obtain ⟨y1, y2, y3, y4⟩ := yearOf_spec h
  obtain ⟨_, _, m1, m2, d1, d2⟩ := date_bd h
  have hl := leap_01 (yearOf n)
  have ho := opens_succ (yearOf n)
  obtain ⟨n1, n2⟩ := id h
  have hob := opens_bd (y := yearOf n) (by omega) (by omega)
  unfold PG.fraction_place.f place
  simp only [civil_Date.f, civil_Long.f, civil_Opens.f, Option.bind_some]
  rw [date_yes h]
  simp only [if_true]
  rcases hc with rfl | rfl | rfl
  · simp only [if_true, mn_min]
    unfold thirty
    rw [if_pos h, w64 (x := 360 * yearOf n) (by omega) (by omega), w64 (x := 30 * monthOf n) (by omega) (by omega), w64 (x := 360 * yearOf n + 30 * monthOf n) (by omega) (by omega), w64 (by omega) (by omega)]
  · simp
  · simp only [show ¬ ((3 : Int) = 1) by decide, show ¬ ((3 : Int) = 2) by decide, if_false]
    rw [if_pos (show 1 ≤ yearOf n ∧ yearOf n ≤ 1000000 by omega)]
    simp only [Option.bind_some]
    unfold actual
    rw [w64 (x := yearOf n * 365) (by omega) (by omega), w64 (x := yearOf n * 365 * 366) (by omega) (by omega), w64 (x := n - opens (yearOf n)) (by omega) (by omega)]
    cases hb : long (yearOf n) with
    | true =>
      rw [leap_of_long hb]
      simp only [if_true]
      rw [w64 (x := (n - opens (yearOf n)) * 365) (by omega) (by omega), w64 (by omega) (by omega)]
      congr 1; omega
    | false =>
      rw [leap_of_not hb]
      simp only [Bool.false_eq_true, if_false]
      rw [w64 (x := (n - opens (yearOf n)) * 366) (by omega) (by omega), w64 (by omega) (by omega)]
      congr 1; omega
theorem place_no {c n : Int} (h : ¬ isDay n) (w : World) : Calls Tryz.prog 75 #[.int .i64 c, .int .i64 n] w fun e w' => e = .panicked [{ v := .iface 139 (.int .i64 5), recovered := false }] ∧ Below w.heap.size w w' := by
  have HD := Aside0.mk (show civil_Date.f n = some (0, 0, 0, 5) by unfold civil_Date.f; rw [date_no h])
  clear h
  go_enter Tryz.func75, Tryz.ntmps75
  go_wp2_with fail
  refine (civil_Date.calls n 0 0 0 5 _ HD.out).mono ?_
  rintro e w1 ⟨rfl, hb⟩
  have HB := Aside0.mk hb
  clear hb
  go_wp2
  exact ⟨rfl, rfl, by repeat (first | exact HB.out | (refine Below.alloc ?_ HB.out.size _) | (refine Below.setCell ?_ HB.out.size _))⟩

theorem Parts_yes {c v : Int} (h : parts c = (v, 0)) (w : World) : Calls Tryz.prog 84 #[.int .i64 c] w fun e w' => e = .returned (.tuple #[.int .i64 v, .int .i64 0]) ∧ Below w.heap.size w w' := by
  have R0 := Aside0.mk (Res2.made w (.int .i64 0) (.int .i64 0) 2 41)
  have HY := Aside0.mk h
  clear h
  go_enter_defers Tryz.func84, Tryz.ntmps84
  go_wp2_with fail
  refine (year_yes HY.out _).mono ?_
  rintro e w1 ⟨rfl, hd⟩
  have R1 := R0.out.drawn hd
  have c0 := R1.c0
  have c1 := R1.c1
  have f0 := R1.f0
  have f1 := R1.f1
  have RR := Aside0.mk R1
  clear hd R1 R0
  go_wp2
  refine leaves_cons (f := 73) (args := #[.pointer (some ⟨w.heap.size, 0, none⟩), .pointer (some ⟨w.heap.size + 1, 0, none⟩)]) (by simp) (by simp [go_sem]) ?_
  refine (frac_idle _ _ _).mono ?_
  rintro e u' w'' ⟨rfl, rfl, rfl⟩
  simp [Leaves, settle, results, Tryz.results84, go_sem, c0, c1]
  exact RR.out.put _ _
theorem Parts_no {c : Int} (h1 : (c == 1) = false) (h2 : (c == 2) = false) (h3 : (c == 3) = false) (w : World) : Calls Tryz.prog 84 #[.int .i64 c] w fun e w' => e = .returned (.tuple #[.int .i64 0, .int .i64 1]) ∧ Below w.heap.size w w' := by
  have R0 := Aside0.mk (Res2.made w (.int .i64 0) (.int .i64 0) 2 41)
  go_enter_defers Tryz.func84, Tryz.ntmps84
  go_wp2_with fail
  refine (year_no h1 h2 h3 _).mono ?_
  rintro e w1 ⟨rfl, rfl⟩
  refine leaves_cons (f := 73) (args := #[.pointer (some ⟨w.heap.size, 0, none⟩), .pointer (some ⟨w.heap.size + 1, 0, none⟩)]) (by simp) (by simp [go_sem]) ?_
  refine (frac_thrown _ _ 0 0 1 [] _ (by simp) R0.out.c0 R0.out.c1 R0.out.f0 R0.out.f1).mono ?_
  rintro e u' w'' ⟨rfl, rfl, rfl⟩
  have c0 := R0.out.c0
  have c1 := R0.out.c1
  simp [Leaves, settle, results, Tryz.results84, go_sem, c0, c1]
  first | exact R0.out.put _ _ | exact ((Below.refl _ _).alloc (Nat.le_refl _) _).alloc (by simp) _

theorem Between_yes {c a b v : Int} (h : parts c = (v, 0)) (hc : c = 1 ∨ c = 2 ∨ c = 3) (ha : isDay a) (hb : isDay b) (w : World) :
    Calls Tryz.prog 56 #[.int .i64 c, .int .i64 a, .int .i64 b] w fun e w' => e = .returned (.tuple #[.int .i64 (place c b - place c a), .int .i64 0]) ∧ Below w.heap.size w w' := by
  have R0 := Aside0.mk (Res2.made w (.int .i64 0) (.int .i64 0) 2 41)
  have HY := Aside0.mk h
  have HC := Aside0.mk hc
  have HA := Aside0.mk ha
  have HB := Aside0.mk hb
  obtain ⟨pa1, pa2⟩ := place_bd (c := c) ha
  obtain ⟨pb1, pb2⟩ := place_bd (c := c) hb
  clear h hc ha hb
  generalize hpa : place c a = pa at *
  generalize hpb : place c b = pb at *
  have HPA := Aside0.mk hpa
  have HPB := Aside0.mk hpb
  clear hpa hpb
  go_enter_defers Tryz.func56, Tryz.ntmps56
  go_wp2_with fail
  refine (year_yes HY.out _).mono ?_
  rintro e w1 ⟨rfl, hd⟩
  have R1 := Aside0.mk (R0.out.drawn hd)
  clear hd R0
  go_wp2_with fail
  refine (place_yes HC.out HA.out _).mono ?_
  rw [HPA.out]
  rintro e w2 ⟨rfl, hd⟩
  have R2 := Aside0.mk (R1.out.step hd)
  clear hd R1
  go_wp2_with fail
  refine (place_yes HC.out HB.out _).mono ?_
  rw [HPB.out]
  rintro e w3 ⟨rfl, hd⟩
  have R3 := R2.out.step hd
  have c0 := R3.c0
  have c1 := R3.c1
  have f0 := R3.f0
  have f1 := R3.f1
  have RR := Aside0.mk R3
  clear hd R2 R3
  go_wp2
  refine leaves_cons (f := 73) (args := #[.pointer (some ⟨w.heap.size, 0, none⟩), .pointer (some ⟨w.heap.size + 1, 0, none⟩)]) (by simp) (by simp [go_sem]) ?_
  refine (frac_idle _ _ _).mono ?_
  rintro e u' w'' ⟨rfl, rfl, rfl⟩
  simp [Leaves, settle, results, Tryz.results56, go_sem, c0, c1]
  exact RR.out.put _ _
theorem Between_count {c a b : Int} (h1 : (c == 1) = false) (h2 : (c == 2) = false) (h3 : (c == 3) = false) (w : World) :
    Calls Tryz.prog 56 #[.int .i64 c, .int .i64 a, .int .i64 b] w fun e w' => e = .returned (.tuple #[.int .i64 0, .int .i64 1]) ∧ Below w.heap.size w w' := by
  have R0 := Aside0.mk (Res2.made w (.int .i64 0) (.int .i64 0) 2 41)
  go_enter_defers Tryz.func56, Tryz.ntmps56
  go_wp2_with fail
  refine (year_no h1 h2 h3 _).mono ?_
  rintro e w1 ⟨rfl, rfl⟩
  refine leaves_cons (f := 73) (args := #[.pointer (some ⟨w.heap.size, 0, none⟩), .pointer (some ⟨w.heap.size + 1, 0, none⟩)]) (by simp) (by simp [go_sem]) ?_
  refine (frac_thrown _ _ 0 0 1 [] _ (by simp) R0.out.c0 R0.out.c1 R0.out.f0 R0.out.f1).mono ?_
  rintro e u' w'' ⟨rfl, rfl, rfl⟩
  have c0 := R0.out.c0
  have c1 := R0.out.c1
  simp [Leaves, settle, results, Tryz.results56, go_sem, c0, c1]
  first | exact R0.out.put _ _ | exact ((Below.refl _ _).alloc (Nat.le_refl _) _).alloc (by simp) _
theorem Between_from {c a b v : Int} (h : parts c = (v, 0)) (ha : ¬ isDay a) (w : World) :
    Calls Tryz.prog 56 #[.int .i64 c, .int .i64 a, .int .i64 b] w fun e w' => e = .returned (.tuple #[.int .i64 0, .int .i64 5]) ∧ Below w.heap.size w w' := by
  have R0 := Aside0.mk (Res2.made w (.int .i64 0) (.int .i64 0) 2 41)
  have HY := Aside0.mk h
  have HA := Aside0.mk ha
  clear h ha
  go_enter_defers Tryz.func56, Tryz.ntmps56
  go_wp2_with fail
  refine (year_yes HY.out _).mono ?_
  rintro e w1 ⟨rfl, hd⟩
  have R1 := Aside0.mk (R0.out.drawn hd)
  clear hd R0
  go_wp2_with fail
  refine (place_no HA.out _).mono ?_
  rintro e w2 ⟨rfl, hd⟩
  have R2 := Aside0.mk (R1.out.step hd)
  clear hd R1
  refine leaves_cons (f := 73) (args := #[.pointer (some ⟨w.heap.size, 0, none⟩), .pointer (some ⟨w.heap.size + 1, 0, none⟩)]) (by simp) (by simp [go_sem]) ?_
  refine (frac_thrown _ _ 0 0 5 [] _ (by simp) R2.out.c0 R2.out.c1 R2.out.f0 R2.out.f1).mono ?_
  rintro e u' w'' ⟨rfl, rfl, rfl⟩
  have c0 := R2.out.c0
  have c1 := R2.out.c1
  simp [Leaves, settle, results, Tryz.results56, go_sem, c0, c1]
  exact R2.out.put _ _
theorem Between_to {c a b v : Int} (h : parts c = (v, 0)) (hc : c = 1 ∨ c = 2 ∨ c = 3) (ha : isDay a) (hb : ¬ isDay b) (w : World) :
    Calls Tryz.prog 56 #[.int .i64 c, .int .i64 a, .int .i64 b] w fun e w' => e = .returned (.tuple #[.int .i64 0, .int .i64 5]) ∧ Below w.heap.size w w' := by
  have R0 := Aside0.mk (Res2.made w (.int .i64 0) (.int .i64 0) 2 41)
  have HY := Aside0.mk h
  have HC := Aside0.mk hc
  have HA := Aside0.mk ha
  have HB := Aside0.mk hb
  clear h hc ha hb
  go_enter_defers Tryz.func56, Tryz.ntmps56
  go_wp2_with fail
  refine (year_yes HY.out _).mono ?_
  rintro e w1 ⟨rfl, hd⟩
  have R1 := Aside0.mk (R0.out.drawn hd)
  clear hd R0
  go_wp2_with fail
  refine (place_yes HC.out HA.out _).mono ?_
  rintro e w2 ⟨rfl, hd⟩
  have R2 := Aside0.mk (R1.out.step hd)
  clear hd R1
  go_wp2_with fail
  refine (place_no HB.out _).mono ?_
  rintro e w3 ⟨rfl, hd⟩
  have R3 := Aside0.mk (R2.out.step hd)
  clear hd R2
  refine leaves_cons (f := 73) (args := #[.pointer (some ⟨w.heap.size, 0, none⟩), .pointer (some ⟨w.heap.size + 1, 0, none⟩)]) (by simp) (by simp [go_sem]) ?_
  refine (frac_thrown _ _ 0 0 5 [] _ (by simp) R3.out.c0 R3.out.c1 R3.out.f0 R3.out.f1).mono ?_
  rintro e u' w'' ⟨rfl, rfl, rfl⟩
  have c0 := R3.out.c0
  have c1 := R3.out.c1
  simp [Leaves, settle, results, Tryz.results56, go_sem, c0, c1]
  exact R3.out.put _ _

/-! ### The contracts, as1 the printed callers ask them -/
theorem parts_cases (c : Int) : (∃ v, parts c = (v, 0) ∧ (c = 1 ∨ c = 2 ∨ c = 3)) ∨ (parts c = (0, 1) ∧ (c == 1) = false ∧ (c == 2) = false ∧ (c == 3) = false) := by
  unfold parts
  by_cases h1 : c = 1
  · left; exact ⟨360, by simp [h1], Or.inl h1⟩
  by_cases h2 : c = 2
  · left; exact ⟨365, by simp [h2], Or.inr (Or.inl h2)⟩
  by_cases h3 : c = 3
  · left; exact ⟨133590, by simp [h3], Or.inr (Or.inr h3)⟩
  · right; simp [h1, h2, h3]
def fraction_Parts.f (c : Int) : Option (Int × Int) := some (parts c)
theorem fraction_Parts.calls (a0 r1 r2 : Int) (w : World) (h : fraction_Parts.f a0 = some (r1, r2)) :
    Calls Tryz.prog 84 #[.int .i64 a0] w fun e w' => e = .returned (.tuple #[.int .i64 r1, .int .i64 r2]) ∧ Below w.heap.size w w' := by
  have h' := Option.some.inj h
  rcases parts_cases a0 with ⟨v, hp, _⟩ | ⟨hp, h1, h2, h3⟩
  · rw [hp] at h'; obtain ⟨rfl, rfl⟩ := Prod.mk.inj h'; exact Parts_yes hp w
  · rw [hp] at h'; obtain ⟨rfl, rfl⟩ := Prod.mk.inj h'; exact Parts_no h1 h2 h3 w
def fraction_Between.f (c a b : Int) : Option (Int × Int) := some (between c a b)
theorem fraction_Between.calls (a0 a1 a2 r1 r2 : Int) (w : World) (h : fraction_Between.f a0 a1 a2 = some (r1, r2)) :
    Calls Tryz.prog 56 #[.int .i64 a0, .int .i64 a1, .int .i64 a2] w fun e w' => e = .returned (.tuple #[.int .i64 r1, .int .i64 r2]) ∧ Below w.heap.size w w' := by
  have h' := Option.some.inj h
  unfold between at h'
  rcases parts_cases a0 with ⟨v, hp, hc⟩ | ⟨hp, h1, h2, h3⟩
  · rw [if_pos hc] at h'
    by_cases ha : isDay a1
    · by_cases hb : isDay a2
      · rw [if_pos (show isDay a1 ∧ isDay a2 from ⟨ha, hb⟩)] at h'; obtain ⟨rfl, rfl⟩ := Prod.mk.inj h'; exact Between_yes hp hc ha hb w
      · rw [if_neg (show ¬ (isDay a1 ∧ isDay a2) from fun h => hb h.2)] at h'; obtain ⟨rfl, rfl⟩ := Prod.mk.inj h'; exact Between_to hp hc ha hb w
    · rw [if_neg (show ¬ (isDay a1 ∧ isDay a2) from fun h => ha h.1)] at h'; obtain ⟨rfl, rfl⟩ := Prod.mk.inj h'; exact Between_from hp ha w
  · rw [if_neg (by simpa using ⟨by simpa using h1, by simpa using h2, by simpa using h3⟩)] at h'; obtain ⟨rfl, rfl⟩ := Prod.mk.inj h'; exact Between_count h1 h2 h3 w
end Go.Proofs.YtbbbjjfecblhpaaGreat.H
/- dues.Parts, where there are days: how many parts of a year lie between. -/
namespace Go.Proofs.YtbbbjjfecblhpaaGreat.Du
open Go.RowKit Go.Proofs.YtbbbjjfecblhpaaGreatW.PrintWords Go.Proofs.YtbbbjjfecblhpaaGreatW.PrintLast Go.Proofs.YtbbbjjfecblhpaaGreatW.PrintMore Go.Proofs.YtbbbjjfecblhpaaGreat.HW
open Go.Proofs.YtbbbjjfecblhpaaGreat.Math Go.Proofs.YtbbbjjfecblhpaaGreat.H Go.Proofs.YtbbbjjfecblhpaaGreat.Pd Pm
set_option linter.unusedVariables false
set_option linter.unusedSimpArgs false
theorem between_any (c a b v e : Int) (h : between c a b = (v, e)) (w : World) : Calls Tryz.prog 56 #[.int .i64 c, .int .i64 a, .int .i64 b] w fun en w' => en = .returned (.tuple #[.int .i64 v, .int .i64 e]) ∧ Below w.heap.size w w' :=
  fraction_Between.calls c a b v e w (by unfold fraction_Between.f; rw [h])
end Go.Proofs.YtbbbjjfecblhpaaGreat.Du
/- Both parts between days are one. -/
namespace Go.Proofs.YtbbbjjfecblhpaaGreat.Du
open Go.RowKit Go.Proofs.YtbbbjjfecblhpaaGreatW.PrintWords Go.Proofs.YtbbbjjfecblhpaaGreatW.PrintLast Go.Proofs.YtbbbjjfecblhpaaGreatW.PrintMore Go.Proofs.YtbbbjjfecblhpaaGreat.HW
open Go.Proofs.YtbbbjjfecblhpaaGreat.Math Go.Proofs.YtbbbjjfecblhpaaGreat.H Go.Proofs.YtbbbjjfecblhpaaGreat.Pd Pm
set_option linter.unusedVariables false
set_option linter.unusedSimpArgs false
theorem between_ok {c a b : Int} (hc : c = 1 ∨ c = 2 ∨ c = 3) (ha : isDay a) (hb : isDay b) : between c a b = (place c b - place c a, 0) := by
  unfold between
  rw [if_pos hc, if_pos ⟨ha, hb⟩]
end Go.Proofs.YtbbbjjfecblhpaaGreat.Du
/- quittanceplay.Product: this product, or one near it. -/
namespace Go.Proofs.YtbbbjjfecblhpaaGreat.Du
open Go.RowKit Go.Proofs.YtbbbjjfecblhpaaGreatW.PrintWords Go.Proofs.YtbbbjjfecblhpaaGreatW.PrintLast Go.Proofs.YtbbbjjfecblhpaaGreatW.PrintMore Go.Proofs.YtbbbjjfecblhpaaGreat.HW
open Go.Proofs.YtbbbjjfecblhpaaGreat.Math Go.Proofs.YtbbbjjfecblhpaaGreat.H Go.Proofs.YtbbbjjfecblhpaaGreat.Pd Pm
set_option linter.unusedVariables false
set_option linter.unusedSimpArgs false
section
variable {P : Program} {ops : Array Oper} {rest : List Oper} {a : Act} {Q : Exit → Act → World → Prop}
theorem But.setRow (g : Nat) (w : World) (cs : Array Value) : H.But g w (w.setRow g cs) := ⟨rfl, rfl, rfl, by rw [size_setRow]; exact Nat.le_refl _, fun k _ hk => setRow_other w g k cs hk⟩
/-- A whole value into a variable that is there. -/
theorem row_event {W : World} {o : Oper} (hgd : o.guard = none) {t : TypeId} {p : Tmp} {v : Operand} (ho : o.op = .store t (.tmp p) v) (hd : o.dst = none) {g : Nat} {cs zs : Array Value}
    (hp : a.eval (.tmp p) = .pointer (some ⟨g, 0, none⟩)) (hv : a.eval v = .agg cs) (hb : W.heap[g]? = some (.cells zs t (0, 0))) (hi : (P.info? t).map (·.size) = some cs.size) (hz : zs.size = cs.size) (h1 : cs.all (·.oneCell') = true)
    (h : ∀ w1, w1.heap[g]? = some (.cells cs t (0, 0)) → H.But g W w1 → wpList P ops Q rest a w1) : wpList P ops Q (o :: rest) a W := by
  refine wpList_store_row hgd t (.tmp p) v ho g cs hp hv t zs hb hi hz h1 ?_
  rw [hd]
  exact h _ (setRow_heap W g zs cs t (0, 0) hb) (But.setRow g W cs)
end
/-- A number of 64 bits without a sign, its remainder. -/
def U (x : Int) (m : Int) : Int := x % 18446744073709551616 % m
theorem U_bd (x : Int) {m : Int} (h : 0 < m) : 0 ≤ U x m ∧ U x m < m := ⟨Int.emod_nonneg _ (by omega), Int.emod_lt_of_pos _ h⟩
theorem U_is (x : Int) {m : Int} (h : 0 < m) (h2 : m ≤ 1000000000) : IntKind.i64.wrap (Int.tmod (IntKind.u64.wrap x) m) = U x m := by
  have e : IntKind.u64.wrap x = x % 18446744073709551616 := rfl
  have hn := Int.emod_nonneg x (show (18446744073709551616 : Int) ≠ 0 by omega)
  have hb := U_bd x h
  rw [e, Int.tmod_eq_emod_of_nonneg hn]
  show IntKind.i64.wrap (U x m) = U x m
  generalize U x m = j at *
  rw [i64_w]
  exact w64 (x := j) (by omega) (by omega)
/-- One that may be, near this one. -/
def nearB (p : Prod) (n : Int) : Prod :=
  { plainP with count := 1 + U p.count 3, round := if U p.round 2 = 0 then 1 else 3, kind := 1 + U p.kind 3, every := if U p.every 6 = 0 then 1 else if U p.every 6 = 1 then 2 else if U p.every 6 = 2 then 3 else if U p.every 6 = 3 then 4 else if U p.every 6 = 4 then 6 else 12, times := 1 + U p.times n, rate := U p.rate 300000000, penalty := U p.penalty 500000000, over := 1 + U p.over 3 }
def nearD (q : Prod) : Prod := if q.times ≤ q.grace ∨ q.kind = 3 then { q with grace := 0 } else q
/-- This product, cut to so many instalments; or one near it. -/
def nearP (p : Prod) (n : Int) : Prod := if ok p = true then nearD (if n < p.times then { p with times := n, resets := [] } else p) else nearD (nearB p n)
/-- What play.Product gives. -/
def NearE (p : Prod) (A1 : Option Addr) (c1 : Nat) (A2 : Option Addr) (c2 : Nat) (A3 : Option Addr) (c3 : Nat) (q : Prod) (w : World) (e : Ending) (w' : World) : Prop := ∃ B1 d1 B2 d2 B3 d3, e = .returned (pv q B1 d1 B2 d2 B3 d3) ∧ (∀ w0, ProdAt w0 p A1 c1 A2 c2 A3 c3 → ProdAt w0 q B1 d1 B2 d2 B3 d3) ∧ Below w.heap.size w w'
set_option maxRecDepth 100000 in
set_option maxHeartbeats 8000000 in
theorem near_ok (p : Prod) (A1 : Option Addr) (c1 : Nat) (A2 : Option Addr) (c2 : Nat) (A3 : Option Addr) (c3 : Nat) (n : Int) (w : World) (hp : ProdAt w p A1 c1 A2 c2 A3 c3) (hs : Held p) (ho : ok p = true) :
    Calls Tryz.prog 6 #[pv p A1 c1 A2 c2 A3 c3, .int .i64 n] w (NearE p A1 c1 A2 c2 A3 c3 (nearP p n) w) := by
  have er : err p = 0 := by unfold err; rw [ho]; rfl
  have en : nearP p n = nearD (if n < p.times then { p with times := n, resets := [] } else p) := by unfold nearP; rw [if_pos ho]
  have HP := Aside0.mk hp
  have CK := Aside0.mk (fun w1 (hb : Below w.heap.size w w1) => rcheck_any p A1 c1 A2 c2 A3 c3 w1 (HP.out.below hb) hs)
  rw [er] at CK
  rw [en]
  have EN : True := trivial
  clear hp er en ho hs
  by_cases hn : n < p.times
  · have k1 : decide (n < p.times) = true := decide_eq_true hn
    rw [if_pos hn]
    unfold nearD
    dsimp only
    by_cases hg : n ≤ p.grace
    · rw [if_pos (Or.inl hg)]
      have k2 : decide (n ≤ p.grace) = true := decide_eq_true hg
      clear hn hg
      go_enter Tryz.func6, Tryz.ntmps6
      go_wp2_with ((with_reducible refine gate_dst (N := 2) rfl ?_); refine box_event ?hg (N := 2) ?hd (cs := pcs p A1 c1 A2 c2 A3 c3) (t := 27) ?hr ?_; (case hd => rfl); (case hg => rfl); (case hr => first | (go_simp; done) | (go_simp; rfl)); intro g2 hg v0 hb1 hbl1; clear hg; have G2 := Aside0.mk hb1; have HB := Aside0.mk hbl1; clear hb1 hbl1; refine Hid.out ?_)
      refine Lib.hid ?_
      go_wp2_with (first
        | ((with_reducible refine gate_dst (N := 4) rfl ?_); refine box_event ?hg (N := 4) ?hd (cs := pzs) (t := 27) ?hr ?_; (case hd => rfl); (case hg => rfl); (case hr => first | (go_simp; done) | (go_simp; rfl)); intro g4 hg w4 hb1 hbl1; have ge4 := (show w.heap.size ≤ g4 by rw [hg]; exact HB.out.size); have ne42 := (show g4 ≠ g2 by have := blk_lt G2.out; omega); clear hg; have G2 := Aside0.mk (Pd.blk_below G2.out hbl1); have G4 := Aside0.mk hb1; have HB := Aside0.mk (below_step HB.out hbl1); clear hb1 hbl1)
        | (go_at_call 14; (with_reducible refine (plain_any _).mono ?_); rintro e w5 ⟨rfl, hb⟩; have G2 := Aside0.mk (Pd.blk_below G2.out hb); have G4 := Aside0.mk (Pd.blk_below G4.out hb); have HB := Aside0.mk (below_step HB.out hb); clear hb)
        | ((with_reducible refine gate_dst (N := 5) rfl ?_); refine copy_event rfl (N := 5) rfl rfl rfl (t := 27) (v := .tmp 6) rfl (cs := plainC) (zs := pzs) ?hr rfl rfl info_prod ?hz plainC_one ?_; (case hr => first | (go_simp; done) | (go_simp; rfl)); (case hz => rfl); intro g5 hg w6 hb0 hb; have ge5 := (show w.heap.size ≤ g5 by rw [hg]; exact HB.out.size); have ne52 := (show g5 ≠ g2 by have := blk_lt G2.out; omega); have ne54 := (show g5 ≠ g4 by have := blk_lt G4.out; omega); clear hg; have G2 := Aside0.mk (Pd.blk_below G2.out hb); have G4 := Aside0.mk (Pd.blk_below G4.out hb); have G5 := Aside0.mk hb0; have HB := Aside0.mk (below_step HB.out hb); clear hb0 hb)
        | ((with_reducible refine gate_dst (N := 7) rfl ?_); refine wpList_load_row rfl 27 (.tmp 2) rfl g2 rfl 27 _ (0, 0) _ G2.out Tryz.underlying27 rfl info_prod ?_)
        | (go_at_call 15; (with_reducible refine (CK.out _ HB.out).mono ?_); rintro e w7 ⟨rfl, hb⟩; have G2 := Aside0.mk (Pd.blk_below G2.out hb); have G4 := Aside0.mk (Pd.blk_below G4.out hb); have G5 := Aside0.mk (Pd.blk_below G5.out hb); have HB := Aside0.mk (below_step HB.out hb); clear hb)
        | ((with_reducible refine gate_dst (N := 10) rfl ?_); refine wpList_load_row rfl 27 (.tmp 2) rfl g2 rfl 27 _ (0, 0) _ G2.out Tryz.underlying27 rfl info_prod ?_)
        | ((with_reducible refine gate_store (t := 27) (p := 5) rfl ?_); refine row_event rfl (t := 27) (p := 5) (v := .tmp 10) rfl rfl (g := g5) (cs := pcs p A1 c1 A2 c2 A3 c3) (zs := plainC) rfl rfl G5.out info_prod rfl (pcs_one _ _ _ _ _ _ _) ?_; intro w8 hb8 hbut; have G5 := Aside0.mk hb8; have G2 := Aside0.mk ((hbut.block g2 (blk_lt G2.out) (Ne.symm ne52)).trans G2.out); have G4 := Aside0.mk ((hbut.block g4 (blk_lt G4.out) (Ne.symm ne54)).trans G4.out); have HB := Aside0.mk (But.below HB.out HB.out.size ge5 hbut); clear hb8 hbut; refine Hid.out ?_))
      refine Lib.hid ?_
      try go_frame
      obtain ⟨-, -, -, u3, -, u5, u6, -, u8, -, -, -, -, -, -, -, -, -, -⟩ := pc_cells G5.out
      have f5 := frozen_of_row w8 g5 5 _ _ G5.out
      have f6 := frozen_of_row w8 g5 6 _ _ G5.out
      have f8 := frozen_of_row w8 g5 8 _ _ G5.out
      have bfin : (((w8.setCell ⟨g5, 5, none⟩ (.int .i64 n)).setCell ⟨g5, 8, none⟩ (.slice none 0 0)).setCell ⟨g5, 6, none⟩ (.int .i64 0)).heap[g5]? = some (.cells (pcs { p with times := n, resets := [], grace := 0 } none 0 A2 c2 A3 c3) 27 (0, 0)) := (heap_setCell_same _ g5 6 _ _ _ (heap_setCell_same _ g5 8 _ _ _ (heap_setCell_same _ g5 5 _ _ _ G5.out))).trans rfl
      have hbut : H.But g5 w8 (((w8.setCell ⟨g5, 5, none⟩ (.int .i64 n)).setCell ⟨g5, 8, none⟩ (.slice none 0 0)).setCell ⟨g5, 6, none⟩ (.int .i64 0)) := ((((H.But.of (Below.refl w8.heap.size w8)).setCell (p := ⟨g5, 5, none⟩) (Or.inl rfl) (.int .i64 n)).setCell (p := ⟨g5, 8, none⟩) (Or.inl rfl) (.slice none 0 0)).setCell (p := ⟨g5, 6, none⟩) (Or.inl rfl) (.int .i64 0))
      have g4fin : (((w8.setCell ⟨g5, 5, none⟩ (.int .i64 n)).setCell ⟨g5, 8, none⟩ (.slice none 0 0)).setCell ⟨g5, 6, none⟩ (.int .i64 0)).heap[g4]? = some (.cells pzs 27 (0, 0)) := (hbut.block g4 (blk_lt G4.out) (Ne.symm ne54)).trans G4.out
      have hbfin : Below w.heap.size w (((w8.setCell ⟨g5, 5, none⟩ (.int .i64 n)).setCell ⟨g5, 8, none⟩ (.slice none 0 0)).setCell ⟨g5, 6, none⟩ (.int .i64 0)) := But.below HB.out HB.out.size ge5 hbut
      have F5 := Aside0.mk bfin
      have F4 := Aside0.mk g4fin
      have FB := Aside0.mk hbfin
      clear bfin hbut g4fin hbfin
      go_wp2_with (first
        | ((with_reducible refine gate_dst (N := 89) rfl ?_); refine wpList_load_row rfl 27 (.tmp 5) rfl g5 rfl 27 _ (0, 0) _ F5.out Tryz.underlying27 rfl info_prod ?_)
        | ((with_reducible refine gate_store (t := 27) (p := 4) rfl ?_); refine Hid.out ?_))
      refine Lib.hid ?_
      refine row_event rfl (t := 27) (p := 4) (v := .tmp 89) rfl rfl (g := g4) (cs := pcs { p with times := n, resets := [], grace := 0 } none 0 A2 c2 A3 c3) (zs := pzs) rfl rfl F4.out info_prod rfl (pcs_one _ _ _ _ _ _ _) ?_
      intro w20 hb20 hbut20
      have H20 := Aside0.mk hb20
      have HB20 := Aside0.mk (But.below FB.out FB.out.size ge4 hbut20)
      clear hb20 hbut20
      try go_frame
      go_wp2_with fail
      exact bodyPost_ret (v := pv { p with times := n, resets := [], grace := 0 } none 0 A2 c2 A3 c3) (results_cell_row (g := g4) Tryz.results6 _ _ _ _ _ _ rfl H20.out Tryz.underlying27 rfl info_prod) rfl ⟨none, 0, A2, c2, A3, c3, rfl, (fun w0 h => ⟨nilRows _, Nat.le_refl _, fun _ => rfl, h.r2, h.l2, h.n2, h.r3, h.l3, h.n3⟩), HB20.out⟩
    · have k2 : decide (n ≤ p.grace) = false := decide_eq_false hg
      by_cases h3 : p.kind = 3
      · rw [if_pos (Or.inr h3)]
        have k3 : (p.kind == 3) = true := by simpa using h3
        clear hn hg h3
        go_enter Tryz.func6, Tryz.ntmps6
        go_wp2_with ((with_reducible refine gate_dst (N := 2) rfl ?_); refine box_event ?hg (N := 2) ?hd (cs := pcs p A1 c1 A2 c2 A3 c3) (t := 27) ?hr ?_; (case hd => rfl); (case hg => rfl); (case hr => first | (go_simp; done) | (go_simp; rfl)); intro g2 hg v0 hb1 hbl1; clear hg; have G2 := Aside0.mk hb1; have HB := Aside0.mk hbl1; clear hb1 hbl1; refine Hid.out ?_)
        refine Lib.hid ?_
        go_wp2_with (first
          | ((with_reducible refine gate_dst (N := 4) rfl ?_); refine box_event ?hg (N := 4) ?hd (cs := pzs) (t := 27) ?hr ?_; (case hd => rfl); (case hg => rfl); (case hr => first | (go_simp; done) | (go_simp; rfl)); intro g4 hg w4 hb1 hbl1; have ge4 := (show w.heap.size ≤ g4 by rw [hg]; exact HB.out.size); have ne42 := (show g4 ≠ g2 by have := blk_lt G2.out; omega); clear hg; have G2 := Aside0.mk (Pd.blk_below G2.out hbl1); have G4 := Aside0.mk hb1; have HB := Aside0.mk (below_step HB.out hbl1); clear hb1 hbl1)
          | (go_at_call 14; (with_reducible refine (plain_any _).mono ?_); rintro e w5 ⟨rfl, hb⟩; have G2 := Aside0.mk (Pd.blk_below G2.out hb); have G4 := Aside0.mk (Pd.blk_below G4.out hb); have HB := Aside0.mk (below_step HB.out hb); clear hb)
          | ((with_reducible refine gate_dst (N := 5) rfl ?_); refine copy_event rfl (N := 5) rfl rfl rfl (t := 27) (v := .tmp 6) rfl (cs := plainC) (zs := pzs) ?hr rfl rfl info_prod ?hz plainC_one ?_; (case hr => first | (go_simp; done) | (go_simp; rfl)); (case hz => rfl); intro g5 hg w6 hb0 hb; have ge5 := (show w.heap.size ≤ g5 by rw [hg]; exact HB.out.size); have ne52 := (show g5 ≠ g2 by have := blk_lt G2.out; omega); have ne54 := (show g5 ≠ g4 by have := blk_lt G4.out; omega); clear hg; have G2 := Aside0.mk (Pd.blk_below G2.out hb); have G4 := Aside0.mk (Pd.blk_below G4.out hb); have G5 := Aside0.mk hb0; have HB := Aside0.mk (below_step HB.out hb); clear hb0 hb)
          | ((with_reducible refine gate_dst (N := 7) rfl ?_); refine wpList_load_row rfl 27 (.tmp 2) rfl g2 rfl 27 _ (0, 0) _ G2.out Tryz.underlying27 rfl info_prod ?_)
          | (go_at_call 15; (with_reducible refine (CK.out _ HB.out).mono ?_); rintro e w7 ⟨rfl, hb⟩; have G2 := Aside0.mk (Pd.blk_below G2.out hb); have G4 := Aside0.mk (Pd.blk_below G4.out hb); have G5 := Aside0.mk (Pd.blk_below G5.out hb); have HB := Aside0.mk (below_step HB.out hb); clear hb)
          | ((with_reducible refine gate_dst (N := 10) rfl ?_); refine wpList_load_row rfl 27 (.tmp 2) rfl g2 rfl 27 _ (0, 0) _ G2.out Tryz.underlying27 rfl info_prod ?_)
          | ((with_reducible refine gate_store (t := 27) (p := 5) rfl ?_); refine row_event rfl (t := 27) (p := 5) (v := .tmp 10) rfl rfl (g := g5) (cs := pcs p A1 c1 A2 c2 A3 c3) (zs := plainC) rfl rfl G5.out info_prod rfl (pcs_one _ _ _ _ _ _ _) ?_; intro w8 hb8 hbut; have G5 := Aside0.mk hb8; have G2 := Aside0.mk ((hbut.block g2 (blk_lt G2.out) (Ne.symm ne52)).trans G2.out); have G4 := Aside0.mk ((hbut.block g4 (blk_lt G4.out) (Ne.symm ne54)).trans G4.out); have HB := Aside0.mk (But.below HB.out HB.out.size ge5 hbut); clear hb8 hbut; refine Hid.out ?_))
        refine Lib.hid ?_
        try go_frame
        obtain ⟨-, -, -, u3, -, u5, u6, -, u8, -, -, -, -, -, -, -, -, -, -⟩ := pc_cells G5.out
        have f5 := frozen_of_row w8 g5 5 _ _ G5.out
        have f6 := frozen_of_row w8 g5 6 _ _ G5.out
        have f8 := frozen_of_row w8 g5 8 _ _ G5.out
        have bfin : (((w8.setCell ⟨g5, 5, none⟩ (.int .i64 n)).setCell ⟨g5, 8, none⟩ (.slice none 0 0)).setCell ⟨g5, 6, none⟩ (.int .i64 0)).heap[g5]? = some (.cells (pcs { p with times := n, resets := [], grace := 0 } none 0 A2 c2 A3 c3) 27 (0, 0)) := (heap_setCell_same _ g5 6 _ _ _ (heap_setCell_same _ g5 8 _ _ _ (heap_setCell_same _ g5 5 _ _ _ G5.out))).trans rfl
        have hbut : H.But g5 w8 (((w8.setCell ⟨g5, 5, none⟩ (.int .i64 n)).setCell ⟨g5, 8, none⟩ (.slice none 0 0)).setCell ⟨g5, 6, none⟩ (.int .i64 0)) := ((((H.But.of (Below.refl w8.heap.size w8)).setCell (p := ⟨g5, 5, none⟩) (Or.inl rfl) (.int .i64 n)).setCell (p := ⟨g5, 8, none⟩) (Or.inl rfl) (.slice none 0 0)).setCell (p := ⟨g5, 6, none⟩) (Or.inl rfl) (.int .i64 0))
        have g4fin : (((w8.setCell ⟨g5, 5, none⟩ (.int .i64 n)).setCell ⟨g5, 8, none⟩ (.slice none 0 0)).setCell ⟨g5, 6, none⟩ (.int .i64 0)).heap[g4]? = some (.cells pzs 27 (0, 0)) := (hbut.block g4 (blk_lt G4.out) (Ne.symm ne54)).trans G4.out
        have hbfin : Below w.heap.size w (((w8.setCell ⟨g5, 5, none⟩ (.int .i64 n)).setCell ⟨g5, 8, none⟩ (.slice none 0 0)).setCell ⟨g5, 6, none⟩ (.int .i64 0)) := But.below HB.out HB.out.size ge5 hbut
        have F5 := Aside0.mk bfin
        have F4 := Aside0.mk g4fin
        have FB := Aside0.mk hbfin
        clear bfin hbut g4fin hbfin
        go_wp2_with (first
          | ((with_reducible refine gate_dst (N := 89) rfl ?_); refine wpList_load_row rfl 27 (.tmp 5) rfl g5 rfl 27 _ (0, 0) _ F5.out Tryz.underlying27 rfl info_prod ?_)
          | ((with_reducible refine gate_store (t := 27) (p := 4) rfl ?_); refine Hid.out ?_))
        refine Lib.hid ?_
        refine row_event rfl (t := 27) (p := 4) (v := .tmp 89) rfl rfl (g := g4) (cs := pcs { p with times := n, resets := [], grace := 0 } none 0 A2 c2 A3 c3) (zs := pzs) rfl rfl F4.out info_prod rfl (pcs_one _ _ _ _ _ _ _) ?_
        intro w20 hb20 hbut20
        have H20 := Aside0.mk hb20
        have HB20 := Aside0.mk (But.below FB.out FB.out.size ge4 hbut20)
        clear hb20 hbut20
        try go_frame
        go_wp2_with fail
        exact bodyPost_ret (v := pv { p with times := n, resets := [], grace := 0 } none 0 A2 c2 A3 c3) (results_cell_row (g := g4) Tryz.results6 _ _ _ _ _ _ rfl H20.out Tryz.underlying27 rfl info_prod) rfl ⟨none, 0, A2, c2, A3, c3, rfl, (fun w0 h => ⟨nilRows _, Nat.le_refl _, fun _ => rfl, h.r2, h.l2, h.n2, h.r3, h.l3, h.n3⟩), HB20.out⟩
      · rw [if_neg (fun h => h.elim hg h3)]
        have k3 : (p.kind == 3) = false := by simpa using h3
        clear hn hg h3
        go_enter Tryz.func6, Tryz.ntmps6
        go_wp2_with ((with_reducible refine gate_dst (N := 2) rfl ?_); refine box_event ?hg (N := 2) ?hd (cs := pcs p A1 c1 A2 c2 A3 c3) (t := 27) ?hr ?_; (case hd => rfl); (case hg => rfl); (case hr => first | (go_simp; done) | (go_simp; rfl)); intro g2 hg v0 hb1 hbl1; clear hg; have G2 := Aside0.mk hb1; have HB := Aside0.mk hbl1; clear hb1 hbl1; refine Hid.out ?_)
        refine Lib.hid ?_
        go_wp2_with (first
          | ((with_reducible refine gate_dst (N := 4) rfl ?_); refine box_event ?hg (N := 4) ?hd (cs := pzs) (t := 27) ?hr ?_; (case hd => rfl); (case hg => rfl); (case hr => first | (go_simp; done) | (go_simp; rfl)); intro g4 hg w4 hb1 hbl1; have ge4 := (show w.heap.size ≤ g4 by rw [hg]; exact HB.out.size); have ne42 := (show g4 ≠ g2 by have := blk_lt G2.out; omega); clear hg; have G2 := Aside0.mk (Pd.blk_below G2.out hbl1); have G4 := Aside0.mk hb1; have HB := Aside0.mk (below_step HB.out hbl1); clear hb1 hbl1)
          | (go_at_call 14; (with_reducible refine (plain_any _).mono ?_); rintro e w5 ⟨rfl, hb⟩; have G2 := Aside0.mk (Pd.blk_below G2.out hb); have G4 := Aside0.mk (Pd.blk_below G4.out hb); have HB := Aside0.mk (below_step HB.out hb); clear hb)
          | ((with_reducible refine gate_dst (N := 5) rfl ?_); refine copy_event rfl (N := 5) rfl rfl rfl (t := 27) (v := .tmp 6) rfl (cs := plainC) (zs := pzs) ?hr rfl rfl info_prod ?hz plainC_one ?_; (case hr => first | (go_simp; done) | (go_simp; rfl)); (case hz => rfl); intro g5 hg w6 hb0 hb; have ge5 := (show w.heap.size ≤ g5 by rw [hg]; exact HB.out.size); have ne52 := (show g5 ≠ g2 by have := blk_lt G2.out; omega); have ne54 := (show g5 ≠ g4 by have := blk_lt G4.out; omega); clear hg; have G2 := Aside0.mk (Pd.blk_below G2.out hb); have G4 := Aside0.mk (Pd.blk_below G4.out hb); have G5 := Aside0.mk hb0; have HB := Aside0.mk (below_step HB.out hb); clear hb0 hb)
          | ((with_reducible refine gate_dst (N := 7) rfl ?_); refine wpList_load_row rfl 27 (.tmp 2) rfl g2 rfl 27 _ (0, 0) _ G2.out Tryz.underlying27 rfl info_prod ?_)
          | (go_at_call 15; (with_reducible refine (CK.out _ HB.out).mono ?_); rintro e w7 ⟨rfl, hb⟩; have G2 := Aside0.mk (Pd.blk_below G2.out hb); have G4 := Aside0.mk (Pd.blk_below G4.out hb); have G5 := Aside0.mk (Pd.blk_below G5.out hb); have HB := Aside0.mk (below_step HB.out hb); clear hb)
          | ((with_reducible refine gate_dst (N := 10) rfl ?_); refine wpList_load_row rfl 27 (.tmp 2) rfl g2 rfl 27 _ (0, 0) _ G2.out Tryz.underlying27 rfl info_prod ?_)
          | ((with_reducible refine gate_store (t := 27) (p := 5) rfl ?_); refine row_event rfl (t := 27) (p := 5) (v := .tmp 10) rfl rfl (g := g5) (cs := pcs p A1 c1 A2 c2 A3 c3) (zs := plainC) rfl rfl G5.out info_prod rfl (pcs_one _ _ _ _ _ _ _) ?_; intro w8 hb8 hbut; have G5 := Aside0.mk hb8; have G2 := Aside0.mk ((hbut.block g2 (blk_lt G2.out) (Ne.symm ne52)).trans G2.out); have G4 := Aside0.mk ((hbut.block g4 (blk_lt G4.out) (Ne.symm ne54)).trans G4.out); have HB := Aside0.mk (But.below HB.out HB.out.size ge5 hbut); clear hb8 hbut; refine Hid.out ?_))
        refine Lib.hid ?_
        try go_frame
        obtain ⟨-, -, -, u3, -, u5, u6, -, u8, -, -, -, -, -, -, -, -, -, -⟩ := pc_cells G5.out
        have f5 := frozen_of_row w8 g5 5 _ _ G5.out
        have f6 := frozen_of_row w8 g5 6 _ _ G5.out
        have f8 := frozen_of_row w8 g5 8 _ _ G5.out
        have bfin : ((w8.setCell ⟨g5, 5, none⟩ (.int .i64 n)).setCell ⟨g5, 8, none⟩ (.slice none 0 0)).heap[g5]? = some (.cells (pcs { p with times := n, resets := [] } none 0 A2 c2 A3 c3) 27 (0, 0)) := (heap_setCell_same _ g5 8 _ _ _ (heap_setCell_same _ g5 5 _ _ _ G5.out)).trans rfl
        have hbut : H.But g5 w8 ((w8.setCell ⟨g5, 5, none⟩ (.int .i64 n)).setCell ⟨g5, 8, none⟩ (.slice none 0 0)) := (((H.But.of (Below.refl w8.heap.size w8)).setCell (p := ⟨g5, 5, none⟩) (Or.inl rfl) (.int .i64 n)).setCell (p := ⟨g5, 8, none⟩) (Or.inl rfl) (.slice none 0 0))
        have g4fin : ((w8.setCell ⟨g5, 5, none⟩ (.int .i64 n)).setCell ⟨g5, 8, none⟩ (.slice none 0 0)).heap[g4]? = some (.cells pzs 27 (0, 0)) := (hbut.block g4 (blk_lt G4.out) (Ne.symm ne54)).trans G4.out
        have hbfin : Below w.heap.size w ((w8.setCell ⟨g5, 5, none⟩ (.int .i64 n)).setCell ⟨g5, 8, none⟩ (.slice none 0 0)) := But.below HB.out HB.out.size ge5 hbut
        have F5 := Aside0.mk bfin
        have F4 := Aside0.mk g4fin
        have FB := Aside0.mk hbfin
        clear bfin hbut g4fin hbfin
        go_wp2_with (first
          | ((with_reducible refine gate_dst (N := 89) rfl ?_); refine wpList_load_row rfl 27 (.tmp 5) rfl g5 rfl 27 _ (0, 0) _ F5.out Tryz.underlying27 rfl info_prod ?_)
          | ((with_reducible refine gate_store (t := 27) (p := 4) rfl ?_); refine Hid.out ?_))
        refine Lib.hid ?_
        refine row_event rfl (t := 27) (p := 4) (v := .tmp 89) rfl rfl (g := g4) (cs := pcs { p with times := n, resets := [] } none 0 A2 c2 A3 c3) (zs := pzs) rfl rfl F4.out info_prod rfl (pcs_one _ _ _ _ _ _ _) ?_
        intro w20 hb20 hbut20
        have H20 := Aside0.mk hb20
        have HB20 := Aside0.mk (But.below FB.out FB.out.size ge4 hbut20)
        clear hb20 hbut20
        try go_frame
        go_wp2_with fail
        exact bodyPost_ret (v := pv { p with times := n, resets := [] } none 0 A2 c2 A3 c3) (results_cell_row (g := g4) Tryz.results6 _ _ _ _ _ _ rfl H20.out Tryz.underlying27 rfl info_prod) rfl ⟨none, 0, A2, c2, A3, c3, rfl, (fun w0 h => ⟨nilRows _, Nat.le_refl _, fun _ => rfl, h.r2, h.l2, h.n2, h.r3, h.l3, h.n3⟩), HB20.out⟩
  · have k1 : decide (n < p.times) = false := decide_eq_false hn
    rw [if_neg hn]
    unfold nearD
    by_cases hg : p.times ≤ p.grace
    · rw [if_pos (Or.inl hg)]
      have k2 : decide (p.times ≤ p.grace) = true := decide_eq_true hg
      clear hn hg
      go_enter Tryz.func6, Tryz.ntmps6
      go_wp2_with ((with_reducible refine gate_dst (N := 2) rfl ?_); refine box_event ?hg (N := 2) ?hd (cs := pcs p A1 c1 A2 c2 A3 c3) (t := 27) ?hr ?_; (case hd => rfl); (case hg => rfl); (case hr => first | (go_simp; done) | (go_simp; rfl)); intro g2 hg v0 hb1 hbl1; clear hg; have G2 := Aside0.mk hb1; have HB := Aside0.mk hbl1; clear hb1 hbl1; refine Hid.out ?_)
      refine Lib.hid ?_
      go_wp2_with (first
        | ((with_reducible refine gate_dst (N := 4) rfl ?_); refine box_event ?hg (N := 4) ?hd (cs := pzs) (t := 27) ?hr ?_; (case hd => rfl); (case hg => rfl); (case hr => first | (go_simp; done) | (go_simp; rfl)); intro g4 hg w4 hb1 hbl1; have ge4 := (show w.heap.size ≤ g4 by rw [hg]; exact HB.out.size); have ne42 := (show g4 ≠ g2 by have := blk_lt G2.out; omega); clear hg; have G2 := Aside0.mk (Pd.blk_below G2.out hbl1); have G4 := Aside0.mk hb1; have HB := Aside0.mk (below_step HB.out hbl1); clear hb1 hbl1)
        | (go_at_call 14; (with_reducible refine (plain_any _).mono ?_); rintro e w5 ⟨rfl, hb⟩; have G2 := Aside0.mk (Pd.blk_below G2.out hb); have G4 := Aside0.mk (Pd.blk_below G4.out hb); have HB := Aside0.mk (below_step HB.out hb); clear hb)
        | ((with_reducible refine gate_dst (N := 5) rfl ?_); refine copy_event rfl (N := 5) rfl rfl rfl (t := 27) (v := .tmp 6) rfl (cs := plainC) (zs := pzs) ?hr rfl rfl info_prod ?hz plainC_one ?_; (case hr => first | (go_simp; done) | (go_simp; rfl)); (case hz => rfl); intro g5 hg w6 hb0 hb; have ge5 := (show w.heap.size ≤ g5 by rw [hg]; exact HB.out.size); have ne52 := (show g5 ≠ g2 by have := blk_lt G2.out; omega); have ne54 := (show g5 ≠ g4 by have := blk_lt G4.out; omega); clear hg; have G2 := Aside0.mk (Pd.blk_below G2.out hb); have G4 := Aside0.mk (Pd.blk_below G4.out hb); have G5 := Aside0.mk hb0; have HB := Aside0.mk (below_step HB.out hb); clear hb0 hb)
        | ((with_reducible refine gate_dst (N := 7) rfl ?_); refine wpList_load_row rfl 27 (.tmp 2) rfl g2 rfl 27 _ (0, 0) _ G2.out Tryz.underlying27 rfl info_prod ?_)
        | (go_at_call 15; (with_reducible refine (CK.out _ HB.out).mono ?_); rintro e w7 ⟨rfl, hb⟩; have G2 := Aside0.mk (Pd.blk_below G2.out hb); have G4 := Aside0.mk (Pd.blk_below G4.out hb); have G5 := Aside0.mk (Pd.blk_below G5.out hb); have HB := Aside0.mk (below_step HB.out hb); clear hb)
        | ((with_reducible refine gate_dst (N := 10) rfl ?_); refine wpList_load_row rfl 27 (.tmp 2) rfl g2 rfl 27 _ (0, 0) _ G2.out Tryz.underlying27 rfl info_prod ?_)
        | ((with_reducible refine gate_store (t := 27) (p := 5) rfl ?_); refine row_event rfl (t := 27) (p := 5) (v := .tmp 10) rfl rfl (g := g5) (cs := pcs p A1 c1 A2 c2 A3 c3) (zs := plainC) rfl rfl G5.out info_prod rfl (pcs_one _ _ _ _ _ _ _) ?_; intro w8 hb8 hbut; have G5 := Aside0.mk hb8; have G2 := Aside0.mk ((hbut.block g2 (blk_lt G2.out) (Ne.symm ne52)).trans G2.out); have G4 := Aside0.mk ((hbut.block g4 (blk_lt G4.out) (Ne.symm ne54)).trans G4.out); have HB := Aside0.mk (But.below HB.out HB.out.size ge5 hbut); clear hb8 hbut; refine Hid.out ?_))
      refine Lib.hid ?_
      try go_frame
      obtain ⟨-, -, -, u3, -, u5, u6, -, u8, -, -, -, -, -, -, -, -, -, -⟩ := pc_cells G5.out
      have f5 := frozen_of_row w8 g5 5 _ _ G5.out
      have f6 := frozen_of_row w8 g5 6 _ _ G5.out
      have f8 := frozen_of_row w8 g5 8 _ _ G5.out
      have bfin : (w8.setCell ⟨g5, 6, none⟩ (.int .i64 0)).heap[g5]? = some (.cells (pcs { p with grace := 0 } A1 c1 A2 c2 A3 c3) 27 (0, 0)) := (heap_setCell_same _ g5 6 _ _ _ G5.out).trans rfl
      have hbut : H.But g5 w8 (w8.setCell ⟨g5, 6, none⟩ (.int .i64 0)) := ((H.But.of (Below.refl w8.heap.size w8)).setCell (p := ⟨g5, 6, none⟩) (Or.inl rfl) (.int .i64 0))
      have g4fin : (w8.setCell ⟨g5, 6, none⟩ (.int .i64 0)).heap[g4]? = some (.cells pzs 27 (0, 0)) := (hbut.block g4 (blk_lt G4.out) (Ne.symm ne54)).trans G4.out
      have hbfin : Below w.heap.size w (w8.setCell ⟨g5, 6, none⟩ (.int .i64 0)) := But.below HB.out HB.out.size ge5 hbut
      have F5 := Aside0.mk bfin
      have F4 := Aside0.mk g4fin
      have FB := Aside0.mk hbfin
      clear bfin hbut g4fin hbfin
      go_wp2_with (first
        | ((with_reducible refine gate_dst (N := 89) rfl ?_); refine wpList_load_row rfl 27 (.tmp 5) rfl g5 rfl 27 _ (0, 0) _ F5.out Tryz.underlying27 rfl info_prod ?_)
        | ((with_reducible refine gate_store (t := 27) (p := 4) rfl ?_); refine Hid.out ?_))
      refine Lib.hid ?_
      refine row_event rfl (t := 27) (p := 4) (v := .tmp 89) rfl rfl (g := g4) (cs := pcs { p with grace := 0 } A1 c1 A2 c2 A3 c3) (zs := pzs) rfl rfl F4.out info_prod rfl (pcs_one _ _ _ _ _ _ _) ?_
      intro w20 hb20 hbut20
      have H20 := Aside0.mk hb20
      have HB20 := Aside0.mk (But.below FB.out FB.out.size ge4 hbut20)
      clear hb20 hbut20
      try go_frame
      go_wp2_with fail
      exact bodyPost_ret (v := pv { p with grace := 0 } A1 c1 A2 c2 A3 c3) (results_cell_row (g := g4) Tryz.results6 _ _ _ _ _ _ rfl H20.out Tryz.underlying27 rfl info_prod) rfl ⟨A1, c1, A2, c2, A3, c3, rfl, (fun w0 h => ⟨h.r1, h.l1, h.n1, h.r2, h.l2, h.n2, h.r3, h.l3, h.n3⟩), HB20.out⟩
    · have k2 : decide (p.times ≤ p.grace) = false := decide_eq_false hg
      by_cases h3 : p.kind = 3
      · rw [if_pos (Or.inr h3)]
        have k3 : (p.kind == 3) = true := by simpa using h3
        clear hn hg h3
        go_enter Tryz.func6, Tryz.ntmps6
        go_wp2_with ((with_reducible refine gate_dst (N := 2) rfl ?_); refine box_event ?hg (N := 2) ?hd (cs := pcs p A1 c1 A2 c2 A3 c3) (t := 27) ?hr ?_; (case hd => rfl); (case hg => rfl); (case hr => first | (go_simp; done) | (go_simp; rfl)); intro g2 hg v0 hb1 hbl1; clear hg; have G2 := Aside0.mk hb1; have HB := Aside0.mk hbl1; clear hb1 hbl1; refine Hid.out ?_)
        refine Lib.hid ?_
        go_wp2_with (first
          | ((with_reducible refine gate_dst (N := 4) rfl ?_); refine box_event ?hg (N := 4) ?hd (cs := pzs) (t := 27) ?hr ?_; (case hd => rfl); (case hg => rfl); (case hr => first | (go_simp; done) | (go_simp; rfl)); intro g4 hg w4 hb1 hbl1; have ge4 := (show w.heap.size ≤ g4 by rw [hg]; exact HB.out.size); have ne42 := (show g4 ≠ g2 by have := blk_lt G2.out; omega); clear hg; have G2 := Aside0.mk (Pd.blk_below G2.out hbl1); have G4 := Aside0.mk hb1; have HB := Aside0.mk (below_step HB.out hbl1); clear hb1 hbl1)
          | (go_at_call 14; (with_reducible refine (plain_any _).mono ?_); rintro e w5 ⟨rfl, hb⟩; have G2 := Aside0.mk (Pd.blk_below G2.out hb); have G4 := Aside0.mk (Pd.blk_below G4.out hb); have HB := Aside0.mk (below_step HB.out hb); clear hb)
          | ((with_reducible refine gate_dst (N := 5) rfl ?_); refine copy_event rfl (N := 5) rfl rfl rfl (t := 27) (v := .tmp 6) rfl (cs := plainC) (zs := pzs) ?hr rfl rfl info_prod ?hz plainC_one ?_; (case hr => first | (go_simp; done) | (go_simp; rfl)); (case hz => rfl); intro g5 hg w6 hb0 hb; have ge5 := (show w.heap.size ≤ g5 by rw [hg]; exact HB.out.size); have ne52 := (show g5 ≠ g2 by have := blk_lt G2.out; omega); have ne54 := (show g5 ≠ g4 by have := blk_lt G4.out; omega); clear hg; have G2 := Aside0.mk (Pd.blk_below G2.out hb); have G4 := Aside0.mk (Pd.blk_below G4.out hb); have G5 := Aside0.mk hb0; have HB := Aside0.mk (below_step HB.out hb); clear hb0 hb)
          | ((with_reducible refine gate_dst (N := 7) rfl ?_); refine wpList_load_row rfl 27 (.tmp 2) rfl g2 rfl 27 _ (0, 0) _ G2.out Tryz.underlying27 rfl info_prod ?_)
          | (go_at_call 15; (with_reducible refine (CK.out _ HB.out).mono ?_); rintro e w7 ⟨rfl, hb⟩; have G2 := Aside0.mk (Pd.blk_below G2.out hb); have G4 := Aside0.mk (Pd.blk_below G4.out hb); have G5 := Aside0.mk (Pd.blk_below G5.out hb); have HB := Aside0.mk (below_step HB.out hb); clear hb)
          | ((with_reducible refine gate_dst (N := 10) rfl ?_); refine wpList_load_row rfl 27 (.tmp 2) rfl g2 rfl 27 _ (0, 0) _ G2.out Tryz.underlying27 rfl info_prod ?_)
          | ((with_reducible refine gate_store (t := 27) (p := 5) rfl ?_); refine row_event rfl (t := 27) (p := 5) (v := .tmp 10) rfl rfl (g := g5) (cs := pcs p A1 c1 A2 c2 A3 c3) (zs := plainC) rfl rfl G5.out info_prod rfl (pcs_one _ _ _ _ _ _ _) ?_; intro w8 hb8 hbut; have G5 := Aside0.mk hb8; have G2 := Aside0.mk ((hbut.block g2 (blk_lt G2.out) (Ne.symm ne52)).trans G2.out); have G4 := Aside0.mk ((hbut.block g4 (blk_lt G4.out) (Ne.symm ne54)).trans G4.out); have HB := Aside0.mk (But.below HB.out HB.out.size ge5 hbut); clear hb8 hbut; refine Hid.out ?_))
        refine Lib.hid ?_
        try go_frame
        obtain ⟨-, -, -, u3, -, u5, u6, -, u8, -, -, -, -, -, -, -, -, -, -⟩ := pc_cells G5.out
        have f5 := frozen_of_row w8 g5 5 _ _ G5.out
        have f6 := frozen_of_row w8 g5 6 _ _ G5.out
        have f8 := frozen_of_row w8 g5 8 _ _ G5.out
        have bfin : (w8.setCell ⟨g5, 6, none⟩ (.int .i64 0)).heap[g5]? = some (.cells (pcs { p with grace := 0 } A1 c1 A2 c2 A3 c3) 27 (0, 0)) := (heap_setCell_same _ g5 6 _ _ _ G5.out).trans rfl
        have hbut : H.But g5 w8 (w8.setCell ⟨g5, 6, none⟩ (.int .i64 0)) := ((H.But.of (Below.refl w8.heap.size w8)).setCell (p := ⟨g5, 6, none⟩) (Or.inl rfl) (.int .i64 0))
        have g4fin : (w8.setCell ⟨g5, 6, none⟩ (.int .i64 0)).heap[g4]? = some (.cells pzs 27 (0, 0)) := (hbut.block g4 (blk_lt G4.out) (Ne.symm ne54)).trans G4.out
        have hbfin : Below w.heap.size w (w8.setCell ⟨g5, 6, none⟩ (.int .i64 0)) := But.below HB.out HB.out.size ge5 hbut
        have F5 := Aside0.mk bfin
        have F4 := Aside0.mk g4fin
        have FB := Aside0.mk hbfin
        clear bfin hbut g4fin hbfin
        go_wp2_with (first
          | ((with_reducible refine gate_dst (N := 89) rfl ?_); refine wpList_load_row rfl 27 (.tmp 5) rfl g5 rfl 27 _ (0, 0) _ F5.out Tryz.underlying27 rfl info_prod ?_)
          | ((with_reducible refine gate_store (t := 27) (p := 4) rfl ?_); refine Hid.out ?_))
        refine Lib.hid ?_
        refine row_event rfl (t := 27) (p := 4) (v := .tmp 89) rfl rfl (g := g4) (cs := pcs { p with grace := 0 } A1 c1 A2 c2 A3 c3) (zs := pzs) rfl rfl F4.out info_prod rfl (pcs_one _ _ _ _ _ _ _) ?_
        intro w20 hb20 hbut20
        have H20 := Aside0.mk hb20
        have HB20 := Aside0.mk (But.below FB.out FB.out.size ge4 hbut20)
        clear hb20 hbut20
        try go_frame
        go_wp2_with fail
        exact bodyPost_ret (v := pv { p with grace := 0 } A1 c1 A2 c2 A3 c3) (results_cell_row (g := g4) Tryz.results6 _ _ _ _ _ _ rfl H20.out Tryz.underlying27 rfl info_prod) rfl ⟨A1, c1, A2, c2, A3, c3, rfl, (fun w0 h => ⟨h.r1, h.l1, h.n1, h.r2, h.l2, h.n2, h.r3, h.l3, h.n3⟩), HB20.out⟩
      · rw [if_neg (fun h => h.elim hg h3)]
        have k3 : (p.kind == 3) = false := by simpa using h3
        clear hn hg h3
        go_enter Tryz.func6, Tryz.ntmps6
        go_wp2_with ((with_reducible refine gate_dst (N := 2) rfl ?_); refine box_event ?hg (N := 2) ?hd (cs := pcs p A1 c1 A2 c2 A3 c3) (t := 27) ?hr ?_; (case hd => rfl); (case hg => rfl); (case hr => first | (go_simp; done) | (go_simp; rfl)); intro g2 hg v0 hb1 hbl1; clear hg; have G2 := Aside0.mk hb1; have HB := Aside0.mk hbl1; clear hb1 hbl1; refine Hid.out ?_)
        refine Lib.hid ?_
        go_wp2_with (first
          | ((with_reducible refine gate_dst (N := 4) rfl ?_); refine box_event ?hg (N := 4) ?hd (cs := pzs) (t := 27) ?hr ?_; (case hd => rfl); (case hg => rfl); (case hr => first | (go_simp; done) | (go_simp; rfl)); intro g4 hg w4 hb1 hbl1; have ge4 := (show w.heap.size ≤ g4 by rw [hg]; exact HB.out.size); have ne42 := (show g4 ≠ g2 by have := blk_lt G2.out; omega); clear hg; have G2 := Aside0.mk (Pd.blk_below G2.out hbl1); have G4 := Aside0.mk hb1; have HB := Aside0.mk (below_step HB.out hbl1); clear hb1 hbl1)
          | (go_at_call 14; (with_reducible refine (plain_any _).mono ?_); rintro e w5 ⟨rfl, hb⟩; have G2 := Aside0.mk (Pd.blk_below G2.out hb); have G4 := Aside0.mk (Pd.blk_below G4.out hb); have HB := Aside0.mk (below_step HB.out hb); clear hb)
          | ((with_reducible refine gate_dst (N := 5) rfl ?_); refine copy_event rfl (N := 5) rfl rfl rfl (t := 27) (v := .tmp 6) rfl (cs := plainC) (zs := pzs) ?hr rfl rfl info_prod ?hz plainC_one ?_; (case hr => first | (go_simp; done) | (go_simp; rfl)); (case hz => rfl); intro g5 hg w6 hb0 hb; have ge5 := (show w.heap.size ≤ g5 by rw [hg]; exact HB.out.size); have ne52 := (show g5 ≠ g2 by have := blk_lt G2.out; omega); have ne54 := (show g5 ≠ g4 by have := blk_lt G4.out; omega); clear hg; have G2 := Aside0.mk (Pd.blk_below G2.out hb); have G4 := Aside0.mk (Pd.blk_below G4.out hb); have G5 := Aside0.mk hb0; have HB := Aside0.mk (below_step HB.out hb); clear hb0 hb)
          | ((with_reducible refine gate_dst (N := 7) rfl ?_); refine wpList_load_row rfl 27 (.tmp 2) rfl g2 rfl 27 _ (0, 0) _ G2.out Tryz.underlying27 rfl info_prod ?_)
          | (go_at_call 15; (with_reducible refine (CK.out _ HB.out).mono ?_); rintro e w7 ⟨rfl, hb⟩; have G2 := Aside0.mk (Pd.blk_below G2.out hb); have G4 := Aside0.mk (Pd.blk_below G4.out hb); have G5 := Aside0.mk (Pd.blk_below G5.out hb); have HB := Aside0.mk (below_step HB.out hb); clear hb)
          | ((with_reducible refine gate_dst (N := 10) rfl ?_); refine wpList_load_row rfl 27 (.tmp 2) rfl g2 rfl 27 _ (0, 0) _ G2.out Tryz.underlying27 rfl info_prod ?_)
          | ((with_reducible refine gate_store (t := 27) (p := 5) rfl ?_); refine row_event rfl (t := 27) (p := 5) (v := .tmp 10) rfl rfl (g := g5) (cs := pcs p A1 c1 A2 c2 A3 c3) (zs := plainC) rfl rfl G5.out info_prod rfl (pcs_one _ _ _ _ _ _ _) ?_; intro w8 hb8 hbut; have G5 := Aside0.mk hb8; have G2 := Aside0.mk ((hbut.block g2 (blk_lt G2.out) (Ne.symm ne52)).trans G2.out); have G4 := Aside0.mk ((hbut.block g4 (blk_lt G4.out) (Ne.symm ne54)).trans G4.out); have HB := Aside0.mk (But.below HB.out HB.out.size ge5 hbut); clear hb8 hbut; refine Hid.out ?_))
        refine Lib.hid ?_
        try go_frame
        obtain ⟨-, -, -, u3, -, u5, u6, -, u8, -, -, -, -, -, -, -, -, -, -⟩ := pc_cells G5.out
        have f5 := frozen_of_row w8 g5 5 _ _ G5.out
        have f6 := frozen_of_row w8 g5 6 _ _ G5.out
        have f8 := frozen_of_row w8 g5 8 _ _ G5.out
        have bfin : w8.heap[g5]? = some (.cells (pcs p A1 c1 A2 c2 A3 c3) 27 (0, 0)) := G5.out
        have hbut : H.But g5 w8 w8 := (H.But.of (Below.refl w8.heap.size w8))
        have g4fin : w8.heap[g4]? = some (.cells pzs 27 (0, 0)) := (hbut.block g4 (blk_lt G4.out) (Ne.symm ne54)).trans G4.out
        have hbfin : Below w.heap.size w w8 := But.below HB.out HB.out.size ge5 hbut
        have F5 := Aside0.mk bfin
        have F4 := Aside0.mk g4fin
        have FB := Aside0.mk hbfin
        clear bfin hbut g4fin hbfin
        go_wp2_with (first
          | ((with_reducible refine gate_dst (N := 89) rfl ?_); refine wpList_load_row rfl 27 (.tmp 5) rfl g5 rfl 27 _ (0, 0) _ F5.out Tryz.underlying27 rfl info_prod ?_)
          | ((with_reducible refine gate_store (t := 27) (p := 4) rfl ?_); refine Hid.out ?_))
        refine Lib.hid ?_
        refine row_event rfl (t := 27) (p := 4) (v := .tmp 89) rfl rfl (g := g4) (cs := pcs p A1 c1 A2 c2 A3 c3) (zs := pzs) rfl rfl F4.out info_prod rfl (pcs_one _ _ _ _ _ _ _) ?_
        intro w20 hb20 hbut20
        have H20 := Aside0.mk hb20
        have HB20 := Aside0.mk (But.below FB.out FB.out.size ge4 hbut20)
        clear hb20 hbut20
        try go_frame
        go_wp2_with fail
        exact bodyPost_ret (v := pv p A1 c1 A2 c2 A3 c3) (results_cell_row (g := g4) Tryz.results6 _ _ _ _ _ _ rfl H20.out Tryz.underlying27 rfl info_prod) rfl ⟨A1, c1, A2, c2, A3, c3, rfl, (fun w0 h => ⟨h.r1, h.l1, h.n1, h.r2, h.l2, h.n2, h.r3, h.l3, h.n3⟩), HB20.out⟩
end Go.Proofs.YtbbbjjfecblhpaaGreat.Du
/- Contracts by hand: what of money is right. -/
namespace Go.Proofs.YtbbbjjfecblhpaaGreat.Nt
open Go.RowKit Go.Proofs.YtbbbjjfecblhpaaGreatW.PrintWords Go.Proofs.YtbbbjjfecblhpaaGreatW.PrintLast Go.Proofs.YtbbbjjfecblhpaaGreatW.PrintMore Go.Proofs.YtbbbjjfecblhpaaGreat.HW
open Go.Proofs.YtbbbjjfecblhpaaGreat.Math Go.Proofs.YtbbbjjfecblhpaaGreat.H Go.Proofs.YtbbbjjfecblhpaaGreat.Pd Go.Proofs.YtbbbjjfecblhpaaGreat.Du Go.Proofs.YtbbbjjfecblhpaaGreat.Lv Pm
set_option linter.unusedVariables false
set_option linter.unusedSimpArgs false
attribute [local go_sem] max2_int min2_int max_two min_two
theorem info_dueN : (Tryz.prog.info? 39).map (·.size) = some 4 := by kernel_rfl
theorem info_sum : (Tryz.prog.info? 124).map (·.size) = some 2 := by kernel_rfl
theorem cell_laterN {w w1 : World} {a : Addr} {v : Value} (hb : Below w.heap.size w w1) (hc : w.cell? a = some v) : w1.cell? a = some v := (hb.cell (World.block_lt_of_cell? w a hc)).trans hc
theorem built_sum0 : Tryz.prog.built 124 [] = some #[.int .i64 0, .int .i64 0] := by kernel_rfl
theorem four_at {w : World} {A : Option Addr} {rows : List (List Int)} (h : Op.IntRows w A 4 rows) (k : Nat) (hk : k < rows.length) : ∃ ad n d i q, A = some ad ∧ rows[k]? = some [n, d, i, q] ∧ w.cell? (ad.add (k * 4)) = some (.int .i64 n) ∧ w.cell? ⟨(ad.add (k * 4)).block, (ad.add (k * 4)).off + 1, none⟩ = some (.int .i64 d) ∧ w.cell? ⟨(ad.add (k * 4)).block, (ad.add (k * 4)).off + 2, none⟩ = some (.int .i64 i) ∧ w.cell? ⟨(ad.add (k * 4)).block, (ad.add (k * 4)).off + 3, none⟩ = some (.int .i64 q) ∧ (Lit.int .i64 n).wf = true ∧ (Lit.int .i64 i).wf = true ∧ (Lit.int .i64 q).wf = true := by
  obtain ⟨h1, h2⟩ := h.1 _ (List.getElem_mem hk)
  obtain ⟨ad, e, hc⟩ := h.2 k _ (List.getElem?_eq_getElem hk)
  rw [List.getElem?_eq_getElem hk]
  generalize rows[k] = r at *
  match r, h1 with
  | [n, d, i, q], _ => exact ⟨ad, n, d, i, q, e, rfl, hc 0 n rfl, by rw [← add_fieldR _ _ _ (by decide)]; exact hc 1 d rfl, by rw [← add_fieldR _ _ _ (by decide)]; exact hc 2 i rfl, by rw [← add_fieldR _ _ _ (by decide)]; exact hc 3 q rfl, h2 n (by simp), h2 i (by simp), h2 q (by simp)⟩
theorem results_cell_tmp {P : Program} {fn : Func} {p q : Tmp} {ty : TypeId} (h : fn.results = #[.cell p ty, .tmp q]) (tmps : Array Value) (w : World) (g : Nat) (t : TypeId) (cs : Array Value) (d : TypeDesc)
    (hp : tmps.getD p undef = .pointer (some ⟨g, 0, none⟩)) (hg : w.heap[g]? = some (.cells cs t (0, 0)))
    (hu : P.underlying ty = some d) (hd : (match d with | .struct _ | .array _ _ => true | _ => false) = true) (hi : (P.info? ty).map (·.size) = some cs.size) :
    (results fn tmps).run P w = .ok (.tuple #[.agg cs, tmps.getD q undef]) w := by
  have hp' : tmps[p]?.getD undef = .pointer (some ⟨g, 0, none⟩) := by simpa using hp
  simp [results, h, hp', asAddr, run_loadVar_row w g t ty cs (0, 0) d hg hu hd hi]
theorem may_any (v : Int) (r : Bool) (h : mayB v = r) (w : World) : Calls Tryz.prog 85 #[.int .i64 v] w fun e w' => e = .returned (.bool r) ∧ w' = w := by
  unfold mayB at h
  by_cases h0 : 0 ≤ v
  · by_cases h1 : v ≤ 1000000000000000
    · rw [decide_eq_true h0, decide_eq_true h1] at h
      obtain rfl : true = r := h
      go_enter Tryz.func85, Tryz.ntmps85
      go_wp2
      go_ret
      exact ⟨rfl, rfl⟩
    · rw [decide_eq_true h0, decide_eq_false h1] at h
      obtain rfl : false = r := h
      go_enter Tryz.func85, Tryz.ntmps85
      go_wp2
      go_ret
      exact ⟨rfl, rfl⟩
  · rw [decide_eq_false h0] at h
    obtain rfl : false = r := h
    go_enter Tryz.func85, Tryz.ntmps85
    go_wp2
    go_ret
    exact ⟨rfl, rfl⟩
/-- What stands ahead of a due. -/
def pvA (rows : List (List Int)) : Nat → Option (Int × Int)
  | 0 => none
  | k + 1 => match rows[k]? with
    | some (n :: d :: _) => some (n, d)
    | _ => none
def sumsV (r : Option (Int × Int)) : Value := match r with
  | none => .tuple #[.agg #[.int .i64 0, .int .i64 0], .bool false]
  | some (a, b) => .tuple #[.agg #[.int .i64 a, .int .i64 b], .bool true]
theorem dsum_step {pv : Option (Int × Int)} {n d i q a b : Int} {r : List (List Int)} : dsum pv ([n, d, i, q] :: r) a b = if (okDue pv n d i q && mayB (a + i) && mayB (b + q)) = true then dsum (some (n, d)) r (a + i) (b + q) else none := rfl
set_option maxRecDepth 100000 in
set_option maxHeartbeats 20000000 in
theorem of_any (A : Option Addr) (c : Nat) (rows : List (List Int)) (w : World) (hr : Op.IntRows w A 4 rows) (hm : rows.length ≤ 140737488351232) :
    Calls Tryz.prog 86 #[.slice A rows.length c] w fun e w' => e = .returned (sumsV (dsum none rows 0 0)) ∧ Below w.heap.size w w' := by
  have HR := Aside0.mk hr
  clear hr
  obtain ⟨res, hres⟩ : ∃ r, dsum none rows 0 0 = r := ⟨_, rfl⟩
  rw [hres]
  have RES := Aside0.mk hres
  clear hres
  go_enter Tryz.func86, Tryz.ntmps86
  go_wp2_with (first
    | ((with_reducible refine gate_dst (N := 2) rfl ?_); refine box_event rfl (N := 2) rfl (cs := #[.int .i64 0, .int .i64 0]) (t := 124) ?hr ?_; (case hr => first | (go_simp; done) | (go_simp; rfl)); intro gr hg w1 hb1 hb; have grge := (show w.heap.size ≤ gr by rw [hg]; exact Nat.le_refl _); clear hg; have GR := Aside0.mk hb1; have HB := Aside0.mk hb; clear hb1 hb)
    | ((with_reducible refine gate_dst (N := 4) rfl ?_); refine box_event rfl (N := 4) rfl (cs := #[.int .i64 0, .int .i64 0]) (t := 124) ?hr ?_; (case hr => first | (go_simp; done) | (go_simp; rfl)); intro gs hg w1 hb1 hb; have gsge := (show w.heap.size ≤ gs by rw [hg]; exact HB.out.size); have grs := (show gr ≠ gs by have := blk_lt GR.out; omega); clear hg; have GS := Aside0.mk hb1; have HB := Aside0.mk (below_step HB.out hb); have GR := Aside0.mk (Pd.blk_below GR.out hb); clear hb1 hb))
  go_loopg [9] (rows.length + 1) (fun gq iv w' => ∃ (k : Nat) (a b : Int), k ≤ rows.length ∧ iv = .int .i64 (k : Int) ∧ Aside0 (gq = rows.length + 1 - k) ∧ Aside0 (dsum (pvA rows k) (rows.drop k) a b = res) ∧ Aside0 (mayB a = true ∧ mayB b = true) ∧ Aside0 (w'.heap[gs]? = some (.cells #[.int .i64 a, .int .i64 b] 124 (0, 0))) ∧ Aside0 (w'.heap[gr]? = some (.cells #[.int .i64 0, .int .i64 0] 124 (0, 0))) ∧ Aside0 (Below w.heap.size w w'))
  case atStart => exact ⟨0, 0, 0, by omega, rfl, ⟨rfl⟩, ⟨by rw [List.drop_zero]; exact RES.out⟩, ⟨by decide, by decide⟩, GS, GR, HB⟩
  case round =>
    obtain ⟨k, a, b, kn, rfl, hgq, HD, MAB, GS, GR, HB⟩ := hrel
    by_cases hlt : k < rows.length
    · obtain ⟨ad, n, d, i, q, rfl, hrow, p0, p1, p2, p3, wn, wi, wq⟩ := four_at (HR.out.below HB.out) k hlt
      have hd := HD.out
      rw [List.drop_eq_getElem_cons hlt, show rows[k] = [n, d, i, q] from (List.getElem?_eq_some_iff.1 hrow).2, dsum_step] at hd
      have hpv : pvA rows (k + 1) = some (n, d) := by simp only [pvA, hrow]
      have HPV := Aside0.mk hpv
      obtain ⟨ma, mb⟩ := MAB.out
      have ma := mayB_iff.1 ma
      have mb := mayB_iff.1 mb
      have kl : (k : Int) < (rows.length : Int) := by omega
      have HRW := Aside0.mk (fun W (hb : Below w.heap.size w W) => HR.out.below hb)
      clear hrow hpv wn
      cases hI : mayB i with
      | false =>
        have MI := Aside0.mk (fun W => may_any i false hI W)
        have MQ := MI
        have hd : none = res := by rw [← hd]; simp [okDue, hI]
        subst hd
        clear hI wi wq
        go_wp2_with ((with_reducible refine gate_dst (N := 6) rfl ?_); refine copy_event3 rfl (N := 6) rfl rfl rfl rfl (t := 39) (v := .tmp 13) rfl (cs := #[.int .i64 n, .int .i64 d, .int .i64 i, .int .i64 q]) (zs := #[.int .i64 0, .int .i64 0, .int .i64 0, .int .i64 0]) (vm := .int .i64 (k : Int)) ?hr ?hrm rfl rfl info_dueN ?hz (by simp [Value.oneCell']) ?_; (case hr => first | (go_simp; done) | (go_simp; rfl)); (case hrm => intro W'; first | (go_simp; done) | (go_simp; rfl)); (case hz => rfl); intro gd hg wd hb1 hb; have gds := (show gd ≠ gs by have := blk_lt GS.out; omega); clear hg; have GD := Aside0.mk hb1; have GS := Aside0.mk (Pd.blk_below GS.out hb); have GR := Aside0.mk (Pd.blk_below GR.out hb); have HB := Aside0.mk (below_step HB.out hb); have c0 := (show wd.cell? ⟨gd, 0, none⟩ = some (.int .i64 n) from (blk_cell hb1 0).trans rfl); have c1 := (show wd.cell? ⟨gd, 1, none⟩ = some (.int .i64 d) from (blk_cell hb1 1).trans rfl); have c2 := (show wd.cell? ⟨gd, 2, none⟩ = some (.int .i64 i) from (blk_cell hb1 2).trans rfl); have c3 := (show wd.cell? ⟨gd, 3, none⟩ = some (.int .i64 q) from (blk_cell hb1 3).trans rfl); clear hb; clear hb1)
        (try simp only [Act.put, List.setIfInBounds_toArray, List.set_cons_zero, List.set_cons_succ])
        go_quiet ((go_at_call 85; (first | (with_reducible refine (MI.out _).mono ?_) | (with_reducible refine (MQ.out _).mono ?_)); rintro e w' ⟨rfl, rfl⟩; exact ⟨rfl, _, rfl⟩))
        obtain ⟨wq, hwq⟩ : ∃ x, wd.drewN nq = x := ⟨_, rfl⟩
        have B0 : Below wd.heap.size wd wq := by rw [← hwq]; exact pw_below_drewN (Below.refl _ _) nq
        rw [hwq]
        have GS := Aside0.mk (Pd.blk_below GS.out B0)
        have GR := Aside0.mk (Pd.blk_below GR.out B0)
        have GD := Aside0.mk (Pd.blk_below GD.out B0)
        have HB := Aside0.mk (below_step HB.out B0)
        clear hwq B0 c0 c1 c2 c3
        go_wp2_with (first
          | ((with_reducible refine gate_dst (N := 63) rfl ?_); refine build_event rfl (t := 124) rfl (cs := #[.int .i64 0, .int .i64 0]) ?hb ?_; (case hb => simp only [List.map_toArray, List.map_cons, List.map_nil]; exact built_sum0))
          | ((with_reducible refine gate_store (t := 124) (p := 2) rfl ?_); refine row_event rfl (t := 124) (p := 2) (v := .tmp 63) rfl rfl (g := gr) (cs := #[.int .i64 0, .int .i64 0]) (zs := #[.int .i64 0, .int .i64 0]) rfl rfl GR.out info_sum rfl (by simp [Value.oneCell']) ?_; intro x1 hb8 hbut; have GR := Aside0.mk hb8; have HB := Aside0.mk (But.below (by first | exact HB.out | exact Below.drew HB.out | exact pw_below_drewN HB.out _) (by first | exact HB.out.size | (simp; exact HB.out.size)) grge hbut); clear hb8 hbut))
        exact bodyPost_ret (v := .tuple #[.agg #[.int .i64 0, .int .i64 0], .bool false]) (results_cell_tmp (g := gr) (cs := #[.int .i64 0, .int .i64 0]) Tryz.results86 _ _ _ _ rfl GR.out Tryz.underlying124 rfl info_sum) rfl ⟨rfl, HB.out⟩
      | true =>
        have MI := Aside0.mk (fun W => may_any i true hI W)
        have bi := mayB_iff.1 hI
        cases hQ : mayB q with
        | false =>
          have MQ := Aside0.mk (fun W => may_any q false hQ W)
          have hd : none = res := by rw [← hd]; simp [okDue, hQ]
          subst hd
          clear hI hQ wi wq
          go_wp2_with ((with_reducible refine gate_dst (N := 6) rfl ?_); refine copy_event3 rfl (N := 6) rfl rfl rfl rfl (t := 39) (v := .tmp 13) rfl (cs := #[.int .i64 n, .int .i64 d, .int .i64 i, .int .i64 q]) (zs := #[.int .i64 0, .int .i64 0, .int .i64 0, .int .i64 0]) (vm := .int .i64 (k : Int)) ?hr ?hrm rfl rfl info_dueN ?hz (by simp [Value.oneCell']) ?_; (case hr => first | (go_simp; done) | (go_simp; rfl)); (case hrm => intro W'; first | (go_simp; done) | (go_simp; rfl)); (case hz => rfl); intro gd hg wd hb1 hb; have gds := (show gd ≠ gs by have := blk_lt GS.out; omega); clear hg; have GD := Aside0.mk hb1; have GS := Aside0.mk (Pd.blk_below GS.out hb); have GR := Aside0.mk (Pd.blk_below GR.out hb); have HB := Aside0.mk (below_step HB.out hb); have c0 := (show wd.cell? ⟨gd, 0, none⟩ = some (.int .i64 n) from (blk_cell hb1 0).trans rfl); have c1 := (show wd.cell? ⟨gd, 1, none⟩ = some (.int .i64 d) from (blk_cell hb1 1).trans rfl); have c2 := (show wd.cell? ⟨gd, 2, none⟩ = some (.int .i64 i) from (blk_cell hb1 2).trans rfl); have c3 := (show wd.cell? ⟨gd, 3, none⟩ = some (.int .i64 q) from (blk_cell hb1 3).trans rfl); clear hb; clear hb1)
          (try simp only [Act.put, List.setIfInBounds_toArray, List.set_cons_zero, List.set_cons_succ])
          go_quiet ((go_at_call 85; (first | (with_reducible refine (MI.out _).mono ?_) | (with_reducible refine (MQ.out _).mono ?_)); rintro e w' ⟨rfl, rfl⟩; exact ⟨rfl, _, rfl⟩))
          obtain ⟨wq, hwq⟩ : ∃ x, wd.drewN nq = x := ⟨_, rfl⟩
          have B0 : Below wd.heap.size wd wq := by rw [← hwq]; exact pw_below_drewN (Below.refl _ _) nq
          rw [hwq]
          have GS := Aside0.mk (Pd.blk_below GS.out B0)
          have GR := Aside0.mk (Pd.blk_below GR.out B0)
          have GD := Aside0.mk (Pd.blk_below GD.out B0)
          have HB := Aside0.mk (below_step HB.out B0)
          clear hwq B0 c0 c1 c2 c3
          go_wp2_with (first
            | ((with_reducible refine gate_dst (N := 63) rfl ?_); refine build_event rfl (t := 124) rfl (cs := #[.int .i64 0, .int .i64 0]) ?hb ?_; (case hb => simp only [List.map_toArray, List.map_cons, List.map_nil]; exact built_sum0))
            | ((with_reducible refine gate_store (t := 124) (p := 2) rfl ?_); refine row_event rfl (t := 124) (p := 2) (v := .tmp 63) rfl rfl (g := gr) (cs := #[.int .i64 0, .int .i64 0]) (zs := #[.int .i64 0, .int .i64 0]) rfl rfl GR.out info_sum rfl (by simp [Value.oneCell']) ?_; intro x1 hb8 hbut; have GR := Aside0.mk hb8; have HB := Aside0.mk (But.below (by first | exact HB.out | exact Below.drew HB.out | exact pw_below_drewN HB.out _) (by first | exact HB.out.size | (simp; exact HB.out.size)) grge hbut); clear hb8 hbut))
          exact bodyPost_ret (v := .tuple #[.agg #[.int .i64 0, .int .i64 0], .bool false]) (results_cell_tmp (g := gr) (cs := #[.int .i64 0, .int .i64 0]) Tryz.results86 _ _ _ _ rfl GR.out Tryz.underlying124 rfl info_sum) rfl ⟨rfl, HB.out⟩
        | true =>
          have MQ := Aside0.mk (fun W => may_any q true hQ W)
          have bq := mayB_iff.1 hQ
          have e1 : IntKind.i64.wrap (i + q) = i + q := IntWalk.i64_in _ (by omega)
          by_cases hz : i + q = 0
          · have hz1 : (i + q == 0) = true := by simp [hz]
            have hd : none = res := by rw [← hd]; simp [okDue, hz]
            subst hd
            clear hI hQ wi wq hz
            go_wp2_with ((with_reducible refine gate_dst (N := 6) rfl ?_); refine copy_event3 rfl (N := 6) rfl rfl rfl rfl (t := 39) (v := .tmp 13) rfl (cs := #[.int .i64 n, .int .i64 d, .int .i64 i, .int .i64 q]) (zs := #[.int .i64 0, .int .i64 0, .int .i64 0, .int .i64 0]) (vm := .int .i64 (k : Int)) ?hr ?hrm rfl rfl info_dueN ?hz (by simp [Value.oneCell']) ?_; (case hr => first | (go_simp; done) | (go_simp; rfl)); (case hrm => intro W'; first | (go_simp; done) | (go_simp; rfl)); (case hz => rfl); intro gd hg wd hb1 hb; have gds := (show gd ≠ gs by have := blk_lt GS.out; omega); clear hg; have GD := Aside0.mk hb1; have GS := Aside0.mk (Pd.blk_below GS.out hb); have GR := Aside0.mk (Pd.blk_below GR.out hb); have HB := Aside0.mk (below_step HB.out hb); have c0 := (show wd.cell? ⟨gd, 0, none⟩ = some (.int .i64 n) from (blk_cell hb1 0).trans rfl); have c1 := (show wd.cell? ⟨gd, 1, none⟩ = some (.int .i64 d) from (blk_cell hb1 1).trans rfl); have c2 := (show wd.cell? ⟨gd, 2, none⟩ = some (.int .i64 i) from (blk_cell hb1 2).trans rfl); have c3 := (show wd.cell? ⟨gd, 3, none⟩ = some (.int .i64 q) from (blk_cell hb1 3).trans rfl); clear hb; clear hb1)
            (try simp only [Act.put, List.setIfInBounds_toArray, List.set_cons_zero, List.set_cons_succ])
            go_quiet ((go_at_call 85; (first | (with_reducible refine (MI.out _).mono ?_) | (with_reducible refine (MQ.out _).mono ?_)); rintro e w' ⟨rfl, rfl⟩; exact ⟨rfl, _, rfl⟩))
            obtain ⟨wq, hwq⟩ : ∃ x, wd.drewN nq = x := ⟨_, rfl⟩
            have B0 : Below wd.heap.size wd wq := by rw [← hwq]; exact pw_below_drewN (Below.refl _ _) nq
            rw [hwq]
            have GS := Aside0.mk (Pd.blk_below GS.out B0)
            have GR := Aside0.mk (Pd.blk_below GR.out B0)
            have GD := Aside0.mk (Pd.blk_below GD.out B0)
            have HB := Aside0.mk (below_step HB.out B0)
            clear hwq B0 c0 c1 c2 c3
            go_wp2_with (first
              | ((with_reducible refine gate_dst (N := 63) rfl ?_); refine build_event rfl (t := 124) rfl (cs := #[.int .i64 0, .int .i64 0]) ?hb ?_; (case hb => simp only [List.map_toArray, List.map_cons, List.map_nil]; exact built_sum0))
              | ((with_reducible refine gate_store (t := 124) (p := 2) rfl ?_); refine row_event rfl (t := 124) (p := 2) (v := .tmp 63) rfl rfl (g := gr) (cs := #[.int .i64 0, .int .i64 0]) (zs := #[.int .i64 0, .int .i64 0]) rfl rfl GR.out info_sum rfl (by simp [Value.oneCell']) ?_; intro x1 hb8 hbut; have GR := Aside0.mk hb8; have HB := Aside0.mk (But.below (by first | exact HB.out | exact Below.drew HB.out | exact pw_below_drewN HB.out _) (by first | exact HB.out.size | (simp; exact HB.out.size)) grge hbut); clear hb8 hbut))
            exact bodyPost_ret (v := .tuple #[.agg #[.int .i64 0, .int .i64 0], .bool false]) (results_cell_tmp (g := gr) (cs := #[.int .i64 0, .int .i64 0]) Tryz.results86 _ _ _ _ rfl GR.out Tryz.underlying124 rfl info_sum) rfl ⟨rfl, HB.out⟩
          · have hz1 : (i + q == 0) = false := by simp [hz]
            by_cases hn : n < 1
            · have hn1 : decide (n < 1) = true := decide_eq_true hn
              have hd : none = res := by rw [← hd]; simp [okDue, show ¬ (1 ≤ n) by omega]
              subst hd
              clear hI hQ wi wq hz
              go_wp2_with ((with_reducible refine gate_dst (N := 6) rfl ?_); refine copy_event3 rfl (N := 6) rfl rfl rfl rfl (t := 39) (v := .tmp 13) rfl (cs := #[.int .i64 n, .int .i64 d, .int .i64 i, .int .i64 q]) (zs := #[.int .i64 0, .int .i64 0, .int .i64 0, .int .i64 0]) (vm := .int .i64 (k : Int)) ?hr ?hrm rfl rfl info_dueN ?hz (by simp [Value.oneCell']) ?_; (case hr => first | (go_simp; done) | (go_simp; rfl)); (case hrm => intro W'; first | (go_simp; done) | (go_simp; rfl)); (case hz => rfl); intro gd hg wd hb1 hb; have gds := (show gd ≠ gs by have := blk_lt GS.out; omega); clear hg; have GD := Aside0.mk hb1; have GS := Aside0.mk (Pd.blk_below GS.out hb); have GR := Aside0.mk (Pd.blk_below GR.out hb); have HB := Aside0.mk (below_step HB.out hb); have c0 := (show wd.cell? ⟨gd, 0, none⟩ = some (.int .i64 n) from (blk_cell hb1 0).trans rfl); have c1 := (show wd.cell? ⟨gd, 1, none⟩ = some (.int .i64 d) from (blk_cell hb1 1).trans rfl); have c2 := (show wd.cell? ⟨gd, 2, none⟩ = some (.int .i64 i) from (blk_cell hb1 2).trans rfl); have c3 := (show wd.cell? ⟨gd, 3, none⟩ = some (.int .i64 q) from (blk_cell hb1 3).trans rfl); clear hb; clear hb1)
              (try simp only [Act.put, List.setIfInBounds_toArray, List.set_cons_zero, List.set_cons_succ])
              go_quiet ((go_at_call 85; (first | (with_reducible refine (MI.out _).mono ?_) | (with_reducible refine (MQ.out _).mono ?_)); rintro e w' ⟨rfl, rfl⟩; exact ⟨rfl, _, rfl⟩))
              obtain ⟨wq, hwq⟩ : ∃ x, wd.drewN nq = x := ⟨_, rfl⟩
              have B0 : Below wd.heap.size wd wq := by rw [← hwq]; exact pw_below_drewN (Below.refl _ _) nq
              rw [hwq]
              have GS := Aside0.mk (Pd.blk_below GS.out B0)
              have GR := Aside0.mk (Pd.blk_below GR.out B0)
              have GD := Aside0.mk (Pd.blk_below GD.out B0)
              have HB := Aside0.mk (below_step HB.out B0)
              clear hwq B0 c0 c1 c2 c3
              go_wp2_with (first
                | ((with_reducible refine gate_dst (N := 63) rfl ?_); refine build_event rfl (t := 124) rfl (cs := #[.int .i64 0, .int .i64 0]) ?hb ?_; (case hb => simp only [List.map_toArray, List.map_cons, List.map_nil]; exact built_sum0))
                | ((with_reducible refine gate_store (t := 124) (p := 2) rfl ?_); refine row_event rfl (t := 124) (p := 2) (v := .tmp 63) rfl rfl (g := gr) (cs := #[.int .i64 0, .int .i64 0]) (zs := #[.int .i64 0, .int .i64 0]) rfl rfl GR.out info_sum rfl (by simp [Value.oneCell']) ?_; intro x1 hb8 hbut; have GR := Aside0.mk hb8; have HB := Aside0.mk (But.below (by first | exact HB.out | exact Below.drew HB.out | exact pw_below_drewN HB.out _) (by first | exact HB.out.size | (simp; exact HB.out.size)) grge hbut); clear hb8 hbut))
              exact bodyPost_ret (v := .tuple #[.agg #[.int .i64 0, .int .i64 0], .bool false]) (results_cell_tmp (g := gr) (cs := #[.int .i64 0, .int .i64 0]) Tryz.results86 _ _ _ _ rfl GR.out Tryz.underlying124 rfl info_sum) rfl ⟨rfl, HB.out⟩
            · have hn1 : decide (n < 1) = false := decide_eq_false hn
              clear hI hQ wi wq hz
              rcases (show k = 0 ∨ ∃ j, k = j + 1 by cases k with | zero => exact .inl rfl | succ j => exact .inr ⟨j, rfl⟩) with hk0 | ⟨j, hkj⟩
              · have hj0 : decide ((0 : Int) < (k : Int)) = false := decide_eq_false (by omega)
                have hj0' : decide (0 < k) = false := decide_eq_false (by omega)
                have hok : okDue (pvA rows k) n d i q = true := by rw [hk0]; simp [okDue, pvA, behind, mayB_iff.2 bi, mayB_iff.2 bq, hz1]; omega
                clear hk0
                go_wp2_with ((with_reducible refine gate_dst (N := 6) rfl ?_); refine copy_event3 rfl (N := 6) rfl rfl rfl rfl (t := 39) (v := .tmp 13) rfl (cs := #[.int .i64 n, .int .i64 d, .int .i64 i, .int .i64 q]) (zs := #[.int .i64 0, .int .i64 0, .int .i64 0, .int .i64 0]) (vm := .int .i64 (k : Int)) ?hr ?hrm rfl rfl info_dueN ?hz (by simp [Value.oneCell']) ?_; (case hr => first | (go_simp; done) | (go_simp; rfl)); (case hrm => intro W'; first | (go_simp; done) | (go_simp; rfl)); (case hz => rfl); intro gd hg wd hb1 hb; have gds := (show gd ≠ gs by have := blk_lt GS.out; omega); clear hg; have GD := Aside0.mk hb1; have GS := Aside0.mk (Pd.blk_below GS.out hb); have GR := Aside0.mk (Pd.blk_below GR.out hb); have HB := Aside0.mk (below_step HB.out hb); have c0 := (show wd.cell? ⟨gd, 0, none⟩ = some (.int .i64 n) from (blk_cell hb1 0).trans rfl); have c1 := (show wd.cell? ⟨gd, 1, none⟩ = some (.int .i64 d) from (blk_cell hb1 1).trans rfl); have c2 := (show wd.cell? ⟨gd, 2, none⟩ = some (.int .i64 i) from (blk_cell hb1 2).trans rfl); have c3 := (show wd.cell? ⟨gd, 3, none⟩ = some (.int .i64 q) from (blk_cell hb1 3).trans rfl); clear hb; clear hb1)
                (try simp only [Act.put, List.setIfInBounds_toArray, List.set_cons_zero, List.set_cons_succ])
                go_quiet ((go_at_call 85; (first | (with_reducible refine (MI.out _).mono ?_) | (with_reducible refine (MQ.out _).mono ?_)); rintro e w' ⟨rfl, rfl⟩; exact ⟨rfl, _, rfl⟩))
                obtain ⟨wq, hwq⟩ : ∃ x, wd.drewN nq = x := ⟨_, rfl⟩
                have B0 : Below wd.heap.size wd wq := by rw [← hwq]; exact pw_below_drewN (Below.refl _ _) nq
                rw [hwq]
                have GS := Aside0.mk (Pd.blk_below GS.out B0)
                have GR := Aside0.mk (Pd.blk_below GR.out B0)
                have GD := Aside0.mk (Pd.blk_below GD.out B0)
                have HB := Aside0.mk (below_step HB.out B0)
                clear hwq B0 c0 c1 c2 c3
                clear hj0 hj0' e1 hz1 hn1 hn p0 p1 p2 p3
                have u0 := (show wq.cell? ⟨gs, 0, none⟩ = some (.int .i64 a) from (blk_cell GS.out 0).trans rfl)
                have u1 := (show wq.cell? ⟨gs, 1, none⟩ = some (.int .i64 b) from (blk_cell GS.out 1).trans rfl)
                have f0 := frozen_of_row wq gs 0 _ _ GS.out
                have f1 := frozen_of_row wq gs 1 _ _ GS.out
                have c2 := (show wq.cell? ⟨gd, 2, none⟩ = some (.int .i64 i) from (blk_cell GD.out 2).trans rfl)
                have c3 := (show wq.cell? ⟨gd, 3, none⟩ = some (.int .i64 q) from (blk_cell GD.out 3).trans rfl)
                obtain ⟨a2, ha2⟩ : ∃ x, a + i = x := ⟨_, rfl⟩
                obtain ⟨b2, hb2⟩ : ∃ x, b + q = x := ⟨_, rfl⟩
                have wa : IntKind.i64.wrap (a + i) = a2 := by rw [ha2]; exact IntWalk.i64_in _ (by omega)
                have wb : IntKind.i64.wrap (b + q) = b2 := by rw [hb2]; exact IntWalk.i64_in _ (by omega)
                rw [hok, Bool.true_and, ha2, hb2] at hd
                clear ha2 hb2 bi bq ma mb
                go_upto_region 9 with (fail)
                obtain ⟨w2_, hw2⟩ : ∃ x, (wq.setCell ⟨gs, 0, none⟩ (.int .i64 a2)).setCell ⟨gs, 1, none⟩ (.int .i64 b2) = x := ⟨_, rfl⟩
                have GS := Aside0.mk (show w2_.heap[gs]? = some (.cells #[.int .i64 a2, .int .i64 b2] 124 (0, 0)) by rw [← hw2]; exact blk_set (blk_set GS.out 0 _) 1 _)
                have GR := Aside0.mk (show w2_.heap[gr]? = some (.cells #[.int .i64 0, .int .i64 0] 124 (0, 0)) by rw [← hw2]; exact blk_far (blk_far GR.out grs _) grs _)
                have HB := Aside0.mk (show Below w.heap.size w w2_ by rw [← hw2]; exact Below.setCell (Below.setCell HB.out gsge _) gsge _)
                rw [hw2]
                clear hw2 u0 u1 f0 f1 c2 c3
                have u0 := (show w2_.cell? ⟨gs, 0, none⟩ = some (.int .i64 a2) from (blk_cell GS.out 0).trans rfl)
                have u1 := (show w2_.cell? ⟨gs, 1, none⟩ = some (.int .i64 b2) from (blk_cell GS.out 1).trans rfl)
                cases hA : mayB a2 with
                | false =>
                  have hd : none = res := by rw [← hd]; simp [hA]
                  subst hd
                  have MI := Aside0.mk (fun W => may_any a2 false hA W)
                  have MQ := MI
                  clear hA
                  go_wp2_with (first
                      | (go_at_call 85; (first | (with_reducible refine (MI.out _).mono ?_) | (with_reducible refine (MQ.out _).mono ?_)); rintro e w' ⟨rfl, rfl⟩)
                      | ((with_reducible refine gate_dst (N := 86) rfl ?_); refine build_event rfl (t := 124) rfl (cs := #[.int .i64 0, .int .i64 0]) ?hb ?_; (case hb => simp only [List.map_toArray, List.map_cons, List.map_nil]; exact built_sum0))
                      | ((with_reducible refine gate_store (t := 124) (p := 2) rfl ?_); refine row_event rfl (t := 124) (p := 2) (v := .tmp 86) rfl rfl (g := gr) (cs := #[.int .i64 0, .int .i64 0]) (zs := #[.int .i64 0, .int .i64 0]) rfl rfl GR.out info_sum rfl (by simp [Value.oneCell']) ?_; intro x1 hb8 hbut; have GR := Aside0.mk hb8; have HB := Aside0.mk (But.below (by first | exact HB.out | exact Below.drew HB.out | exact pw_below_drewN HB.out _) (by first | exact HB.out.size | (simp; exact HB.out.size)) grge hbut); clear hb8 hbut))
                  exact bodyPost_ret (v := .tuple #[.agg #[.int .i64 0, .int .i64 0], .bool false]) (results_cell_tmp (g := gr) (cs := #[.int .i64 0, .int .i64 0]) Tryz.results86 _ _ _ _ rfl GR.out Tryz.underlying124 rfl info_sum) rfl ⟨rfl, HB.out⟩
                | true =>
                  have MI := Aside0.mk (fun W => may_any a2 true hA W)
                  cases hB : mayB b2 with
                  | false =>
                    have hd : none = res := by rw [← hd]; simp [hB]
                    subst hd
                    have MQ := Aside0.mk (fun W => may_any b2 false hB W)
                    clear hA hB
                    go_wp2_with (first
                        | (go_at_call 85; (first | (with_reducible refine (MI.out _).mono ?_) | (with_reducible refine (MQ.out _).mono ?_)); rintro e w' ⟨rfl, rfl⟩)
                        | ((with_reducible refine gate_dst (N := 86) rfl ?_); refine build_event rfl (t := 124) rfl (cs := #[.int .i64 0, .int .i64 0]) ?hb ?_; (case hb => simp only [List.map_toArray, List.map_cons, List.map_nil]; exact built_sum0))
                        | ((with_reducible refine gate_store (t := 124) (p := 2) rfl ?_); refine row_event rfl (t := 124) (p := 2) (v := .tmp 86) rfl rfl (g := gr) (cs := #[.int .i64 0, .int .i64 0]) (zs := #[.int .i64 0, .int .i64 0]) rfl rfl GR.out info_sum rfl (by simp [Value.oneCell']) ?_; intro x1 hb8 hbut; have GR := Aside0.mk hb8; have HB := Aside0.mk (But.below (by first | exact HB.out | exact Below.drew HB.out | exact pw_below_drewN HB.out _) (by first | exact HB.out.size | (simp; exact HB.out.size)) grge hbut); clear hb8 hbut))
                    exact bodyPost_ret (v := .tuple #[.agg #[.int .i64 0, .int .i64 0], .bool false]) (results_cell_tmp (g := gr) (cs := #[.int .i64 0, .int .i64 0]) Tryz.results86 _ _ _ _ rfl GR.out Tryz.underlying124 rfl info_sum) rfl ⟨rfl, HB.out⟩
                  | true =>
                    have hd : dsum (some (n, d)) (rows.drop (k + 1)) a2 b2 = res := by rw [← hd]; simp [hA, hB]
                    have hd := Aside0.mk hd
                    have MAB2 := Aside0.mk (And.intro hA hB)
                    have MQ := Aside0.mk (fun W => may_any b2 true hB W)
                    clear hA hB
                    go_wp2_with (first
                        | (go_at_call 85; (first | (with_reducible refine (MI.out _).mono ?_) | (with_reducible refine (MQ.out _).mono ?_)); rintro e w' ⟨rfl, rfl⟩))
                    go_roundg (rows.length + 1 - (k + 1))
                    case measure => have := hgq.out; omega
                    case rel => exact ⟨k + 1, a2, b2, by omega, by simp, ⟨rfl⟩, ⟨by rw [HPV.out]; exact hd.out⟩, ⟨MAB2.out⟩, GS, GR, ⟨HB.out⟩⟩
              · obtain ⟨ad', pn, pd, pi, pq, e', hrow', r0, r1, -⟩ := four_at (HR.out.below HB.out) j (by omega)
                obtain rfl := Option.some.inj e'
                have hj1 : decide ((0 : Int) < (k : Int)) = true := decide_eq_true (by omega)
                have hj1' : decide (0 < k) = true := decide_eq_true (by omega)
                have hjs : IntKind.i64.wrap ((k : Int) - 1) = (j : Int) := by rw [IntWalk.i64_in _ (by omega)]; omega
                have hjl : (j : Int) < (rows.length : Int) := by omega
                have hpj : pvA rows k = some (pn, pd) := by rw [hkj]; simp only [pvA, hrow']
                by_cases h1 : n ≤ pn
                · have o1 : decide (n ≤ pn) = true := decide_eq_true h1
                  have hd : none = res := by rw [← hd, hpj]; simp [okDue, behind, show ¬ (pn < n) by omega]
                  subst hd
                  clear hkj hpj hrow' bi bq ma mb hn
                  go_wp2_with ((with_reducible refine gate_dst (N := 6) rfl ?_); refine copy_event3 rfl (N := 6) rfl rfl rfl rfl (t := 39) (v := .tmp 13) rfl (cs := #[.int .i64 n, .int .i64 d, .int .i64 i, .int .i64 q]) (zs := #[.int .i64 0, .int .i64 0, .int .i64 0, .int .i64 0]) (vm := .int .i64 (k : Int)) ?hr ?hrm rfl rfl info_dueN ?hz (by simp [Value.oneCell']) ?_; (case hr => first | (go_simp; done) | (go_simp; rfl)); (case hrm => intro W'; first | (go_simp; done) | (go_simp; rfl)); (case hz => rfl); intro gd hg wd hb1 hb; have gds := (show gd ≠ gs by have := blk_lt GS.out; omega); clear hg; have GD := Aside0.mk hb1; have GS := Aside0.mk (Pd.blk_below GS.out hb); have GR := Aside0.mk (Pd.blk_below GR.out hb); have HB := Aside0.mk (below_step HB.out hb); have c0 := (show wd.cell? ⟨gd, 0, none⟩ = some (.int .i64 n) from (blk_cell hb1 0).trans rfl); have c1 := (show wd.cell? ⟨gd, 1, none⟩ = some (.int .i64 d) from (blk_cell hb1 1).trans rfl); have c2 := (show wd.cell? ⟨gd, 2, none⟩ = some (.int .i64 i) from (blk_cell hb1 2).trans rfl); have c3 := (show wd.cell? ⟨gd, 3, none⟩ = some (.int .i64 q) from (blk_cell hb1 3).trans rfl); have r0 := cell_laterN hb r0; have r1 := cell_laterN hb r1; clear hb; clear hb1)
                  (try simp only [Act.put, List.setIfInBounds_toArray, List.set_cons_zero, List.set_cons_succ])
                  go_quiet ((go_at_call 85; (first | (with_reducible refine (MI.out _).mono ?_) | (with_reducible refine (MQ.out _).mono ?_)); rintro e w' ⟨rfl, rfl⟩; exact ⟨rfl, _, rfl⟩))
                  obtain ⟨wq, hwq⟩ : ∃ x, wd.drewN nq = x := ⟨_, rfl⟩
                  have B0 : Below wd.heap.size wd wq := by rw [← hwq]; exact pw_below_drewN (Below.refl _ _) nq
                  rw [hwq]
                  have GS := Aside0.mk (Pd.blk_below GS.out B0)
                  have GR := Aside0.mk (Pd.blk_below GR.out B0)
                  have GD := Aside0.mk (Pd.blk_below GD.out B0)
                  have HB := Aside0.mk (below_step HB.out B0)
                  clear hwq B0 c0 c1 c2 c3
                  go_wp2_with (first
                    | ((with_reducible refine gate_dst (N := 63) rfl ?_); refine build_event rfl (t := 124) rfl (cs := #[.int .i64 0, .int .i64 0]) ?hb ?_; (case hb => simp only [List.map_toArray, List.map_cons, List.map_nil]; exact built_sum0))
                    | ((with_reducible refine gate_store (t := 124) (p := 2) rfl ?_); refine row_event rfl (t := 124) (p := 2) (v := .tmp 63) rfl rfl (g := gr) (cs := #[.int .i64 0, .int .i64 0]) (zs := #[.int .i64 0, .int .i64 0]) rfl rfl GR.out info_sum rfl (by simp [Value.oneCell']) ?_; intro x1 hb8 hbut; have GR := Aside0.mk hb8; have HB := Aside0.mk (But.below (by first | exact HB.out | exact Below.drew HB.out | exact pw_below_drewN HB.out _) (by first | exact HB.out.size | (simp; exact HB.out.size)) grge hbut); clear hb8 hbut))
                  exact bodyPost_ret (v := .tuple #[.agg #[.int .i64 0, .int .i64 0], .bool false]) (results_cell_tmp (g := gr) (cs := #[.int .i64 0, .int .i64 0]) Tryz.results86 _ _ _ _ rfl GR.out Tryz.underlying124 rfl info_sum) rfl ⟨rfl, HB.out⟩
                · have o1 : decide (n ≤ pn) = false := decide_eq_false h1
                  by_cases h2 : d ≤ pd
                  · have o2 : decide (d ≤ pd) = true := decide_eq_true h2
                    have hd : none = res := by rw [← hd, hpj]; simp [okDue, behind, show ¬ (pd < d) by omega]
                    subst hd
                    clear hkj hpj hrow' bi bq ma mb hn h1
                    go_wp2_with ((with_reducible refine gate_dst (N := 6) rfl ?_); refine copy_event3 rfl (N := 6) rfl rfl rfl rfl (t := 39) (v := .tmp 13) rfl (cs := #[.int .i64 n, .int .i64 d, .int .i64 i, .int .i64 q]) (zs := #[.int .i64 0, .int .i64 0, .int .i64 0, .int .i64 0]) (vm := .int .i64 (k : Int)) ?hr ?hrm rfl rfl info_dueN ?hz (by simp [Value.oneCell']) ?_; (case hr => first | (go_simp; done) | (go_simp; rfl)); (case hrm => intro W'; first | (go_simp; done) | (go_simp; rfl)); (case hz => rfl); intro gd hg wd hb1 hb; have gds := (show gd ≠ gs by have := blk_lt GS.out; omega); clear hg; have GD := Aside0.mk hb1; have GS := Aside0.mk (Pd.blk_below GS.out hb); have GR := Aside0.mk (Pd.blk_below GR.out hb); have HB := Aside0.mk (below_step HB.out hb); have c0 := (show wd.cell? ⟨gd, 0, none⟩ = some (.int .i64 n) from (blk_cell hb1 0).trans rfl); have c1 := (show wd.cell? ⟨gd, 1, none⟩ = some (.int .i64 d) from (blk_cell hb1 1).trans rfl); have c2 := (show wd.cell? ⟨gd, 2, none⟩ = some (.int .i64 i) from (blk_cell hb1 2).trans rfl); have c3 := (show wd.cell? ⟨gd, 3, none⟩ = some (.int .i64 q) from (blk_cell hb1 3).trans rfl); have r0 := cell_laterN hb r0; have r1 := cell_laterN hb r1; clear hb; clear hb1)
                    (try simp only [Act.put, List.setIfInBounds_toArray, List.set_cons_zero, List.set_cons_succ])
                    go_quiet ((go_at_call 85; (first | (with_reducible refine (MI.out _).mono ?_) | (with_reducible refine (MQ.out _).mono ?_)); rintro e w' ⟨rfl, rfl⟩; exact ⟨rfl, _, rfl⟩))
                    obtain ⟨wq, hwq⟩ : ∃ x, wd.drewN nq = x := ⟨_, rfl⟩
                    have B0 : Below wd.heap.size wd wq := by rw [← hwq]; exact pw_below_drewN (Below.refl _ _) nq
                    rw [hwq]
                    have GS := Aside0.mk (Pd.blk_below GS.out B0)
                    have GR := Aside0.mk (Pd.blk_below GR.out B0)
                    have GD := Aside0.mk (Pd.blk_below GD.out B0)
                    have HB := Aside0.mk (below_step HB.out B0)
                    clear hwq B0 c0 c1 c2 c3
                    go_wp2_with (first
                      | ((with_reducible refine gate_dst (N := 63) rfl ?_); refine build_event rfl (t := 124) rfl (cs := #[.int .i64 0, .int .i64 0]) ?hb ?_; (case hb => simp only [List.map_toArray, List.map_cons, List.map_nil]; exact built_sum0))
                      | ((with_reducible refine gate_store (t := 124) (p := 2) rfl ?_); refine row_event rfl (t := 124) (p := 2) (v := .tmp 63) rfl rfl (g := gr) (cs := #[.int .i64 0, .int .i64 0]) (zs := #[.int .i64 0, .int .i64 0]) rfl rfl GR.out info_sum rfl (by simp [Value.oneCell']) ?_; intro x1 hb8 hbut; have GR := Aside0.mk hb8; have HB := Aside0.mk (But.below (by first | exact HB.out | exact Below.drew HB.out | exact pw_below_drewN HB.out _) (by first | exact HB.out.size | (simp; exact HB.out.size)) grge hbut); clear hb8 hbut))
                    exact bodyPost_ret (v := .tuple #[.agg #[.int .i64 0, .int .i64 0], .bool false]) (results_cell_tmp (g := gr) (cs := #[.int .i64 0, .int .i64 0]) Tryz.results86 _ _ _ _ rfl GR.out Tryz.underlying124 rfl info_sum) rfl ⟨rfl, HB.out⟩
                  · have o2 : decide (d ≤ pd) = false := decide_eq_false h2
                    have hok : okDue (pvA rows k) n d i q = true := by rw [hpj]; simp [okDue, behind, mayB_iff.2 bi, mayB_iff.2 bq, hz1]; omega
                    clear hkj hpj hrow' h1 h2
                    go_wp2_with ((with_reducible refine gate_dst (N := 6) rfl ?_); refine copy_event3 rfl (N := 6) rfl rfl rfl rfl (t := 39) (v := .tmp 13) rfl (cs := #[.int .i64 n, .int .i64 d, .int .i64 i, .int .i64 q]) (zs := #[.int .i64 0, .int .i64 0, .int .i64 0, .int .i64 0]) (vm := .int .i64 (k : Int)) ?hr ?hrm rfl rfl info_dueN ?hz (by simp [Value.oneCell']) ?_; (case hr => first | (go_simp; done) | (go_simp; rfl)); (case hrm => intro W'; first | (go_simp; done) | (go_simp; rfl)); (case hz => rfl); intro gd hg wd hb1 hb; have gds := (show gd ≠ gs by have := blk_lt GS.out; omega); clear hg; have GD := Aside0.mk hb1; have GS := Aside0.mk (Pd.blk_below GS.out hb); have GR := Aside0.mk (Pd.blk_below GR.out hb); have HB := Aside0.mk (below_step HB.out hb); have c0 := (show wd.cell? ⟨gd, 0, none⟩ = some (.int .i64 n) from (blk_cell hb1 0).trans rfl); have c1 := (show wd.cell? ⟨gd, 1, none⟩ = some (.int .i64 d) from (blk_cell hb1 1).trans rfl); have c2 := (show wd.cell? ⟨gd, 2, none⟩ = some (.int .i64 i) from (blk_cell hb1 2).trans rfl); have c3 := (show wd.cell? ⟨gd, 3, none⟩ = some (.int .i64 q) from (blk_cell hb1 3).trans rfl); have r0 := cell_laterN hb r0; have r1 := cell_laterN hb r1; clear hb; clear hb1)
                    (try simp only [Act.put, List.setIfInBounds_toArray, List.set_cons_zero, List.set_cons_succ])
                    go_quiet ((go_at_call 85; (first | (with_reducible refine (MI.out _).mono ?_) | (with_reducible refine (MQ.out _).mono ?_)); rintro e w' ⟨rfl, rfl⟩; exact ⟨rfl, _, rfl⟩))
                    obtain ⟨wq, hwq⟩ : ∃ x, wd.drewN nq = x := ⟨_, rfl⟩
                    have B0 : Below wd.heap.size wd wq := by rw [← hwq]; exact pw_below_drewN (Below.refl _ _) nq
                    rw [hwq]
                    have GS := Aside0.mk (Pd.blk_below GS.out B0)
                    have GR := Aside0.mk (Pd.blk_below GR.out B0)
                    have GD := Aside0.mk (Pd.blk_below GD.out B0)
                    have HB := Aside0.mk (below_step HB.out B0)
                    clear hwq B0 c0 c1 c2 c3
                    clear hj1 hj1' hjs hjl e1 hz1 hn1 hn p0 p1 p2 p3 o1 o2 r0 r1
                    have u0 := (show wq.cell? ⟨gs, 0, none⟩ = some (.int .i64 a) from (blk_cell GS.out 0).trans rfl)
                    have u1 := (show wq.cell? ⟨gs, 1, none⟩ = some (.int .i64 b) from (blk_cell GS.out 1).trans rfl)
                    have f0 := frozen_of_row wq gs 0 _ _ GS.out
                    have f1 := frozen_of_row wq gs 1 _ _ GS.out
                    have c2 := (show wq.cell? ⟨gd, 2, none⟩ = some (.int .i64 i) from (blk_cell GD.out 2).trans rfl)
                    have c3 := (show wq.cell? ⟨gd, 3, none⟩ = some (.int .i64 q) from (blk_cell GD.out 3).trans rfl)
                    obtain ⟨a2, ha2⟩ : ∃ x, a + i = x := ⟨_, rfl⟩
                    obtain ⟨b2, hb2⟩ : ∃ x, b + q = x := ⟨_, rfl⟩
                    have wa : IntKind.i64.wrap (a + i) = a2 := by rw [ha2]; exact IntWalk.i64_in _ (by omega)
                    have wb : IntKind.i64.wrap (b + q) = b2 := by rw [hb2]; exact IntWalk.i64_in _ (by omega)
                    rw [hok, Bool.true_and, ha2, hb2] at hd
                    clear ha2 hb2 bi bq ma mb
                    go_upto_region 9 with (fail)
                    obtain ⟨w2_, hw2⟩ : ∃ x, (wq.setCell ⟨gs, 0, none⟩ (.int .i64 a2)).setCell ⟨gs, 1, none⟩ (.int .i64 b2) = x := ⟨_, rfl⟩
                    have GS := Aside0.mk (show w2_.heap[gs]? = some (.cells #[.int .i64 a2, .int .i64 b2] 124 (0, 0)) by rw [← hw2]; exact blk_set (blk_set GS.out 0 _) 1 _)
                    have GR := Aside0.mk (show w2_.heap[gr]? = some (.cells #[.int .i64 0, .int .i64 0] 124 (0, 0)) by rw [← hw2]; exact blk_far (blk_far GR.out grs _) grs _)
                    have HB := Aside0.mk (show Below w.heap.size w w2_ by rw [← hw2]; exact Below.setCell (Below.setCell HB.out gsge _) gsge _)
                    rw [hw2]
                    clear hw2 u0 u1 f0 f1 c2 c3
                    have u0 := (show w2_.cell? ⟨gs, 0, none⟩ = some (.int .i64 a2) from (blk_cell GS.out 0).trans rfl)
                    have u1 := (show w2_.cell? ⟨gs, 1, none⟩ = some (.int .i64 b2) from (blk_cell GS.out 1).trans rfl)
                    cases hA : mayB a2 with
                    | false =>
                      have hd : none = res := by rw [← hd]; simp [hA]
                      subst hd
                      have MI := Aside0.mk (fun W => may_any a2 false hA W)
                      have MQ := MI
                      clear hA
                      go_wp2_with (first
                          | (go_at_call 85; (first | (with_reducible refine (MI.out _).mono ?_) | (with_reducible refine (MQ.out _).mono ?_)); rintro e w' ⟨rfl, rfl⟩)
                          | ((with_reducible refine gate_dst (N := 86) rfl ?_); refine build_event rfl (t := 124) rfl (cs := #[.int .i64 0, .int .i64 0]) ?hb ?_; (case hb => simp only [List.map_toArray, List.map_cons, List.map_nil]; exact built_sum0))
                          | ((with_reducible refine gate_store (t := 124) (p := 2) rfl ?_); refine row_event rfl (t := 124) (p := 2) (v := .tmp 86) rfl rfl (g := gr) (cs := #[.int .i64 0, .int .i64 0]) (zs := #[.int .i64 0, .int .i64 0]) rfl rfl GR.out info_sum rfl (by simp [Value.oneCell']) ?_; intro x1 hb8 hbut; have GR := Aside0.mk hb8; have HB := Aside0.mk (But.below (by first | exact HB.out | exact Below.drew HB.out | exact pw_below_drewN HB.out _) (by first | exact HB.out.size | (simp; exact HB.out.size)) grge hbut); clear hb8 hbut))
                      exact bodyPost_ret (v := .tuple #[.agg #[.int .i64 0, .int .i64 0], .bool false]) (results_cell_tmp (g := gr) (cs := #[.int .i64 0, .int .i64 0]) Tryz.results86 _ _ _ _ rfl GR.out Tryz.underlying124 rfl info_sum) rfl ⟨rfl, HB.out⟩
                    | true =>
                      have MI := Aside0.mk (fun W => may_any a2 true hA W)
                      cases hB : mayB b2 with
                      | false =>
                        have hd : none = res := by rw [← hd]; simp [hB]
                        subst hd
                        have MQ := Aside0.mk (fun W => may_any b2 false hB W)
                        clear hA hB
                        go_wp2_with (first
                            | (go_at_call 85; (first | (with_reducible refine (MI.out _).mono ?_) | (with_reducible refine (MQ.out _).mono ?_)); rintro e w' ⟨rfl, rfl⟩)
                            | ((with_reducible refine gate_dst (N := 86) rfl ?_); refine build_event rfl (t := 124) rfl (cs := #[.int .i64 0, .int .i64 0]) ?hb ?_; (case hb => simp only [List.map_toArray, List.map_cons, List.map_nil]; exact built_sum0))
                            | ((with_reducible refine gate_store (t := 124) (p := 2) rfl ?_); refine row_event rfl (t := 124) (p := 2) (v := .tmp 86) rfl rfl (g := gr) (cs := #[.int .i64 0, .int .i64 0]) (zs := #[.int .i64 0, .int .i64 0]) rfl rfl GR.out info_sum rfl (by simp [Value.oneCell']) ?_; intro x1 hb8 hbut; have GR := Aside0.mk hb8; have HB := Aside0.mk (But.below (by first | exact HB.out | exact Below.drew HB.out | exact pw_below_drewN HB.out _) (by first | exact HB.out.size | (simp; exact HB.out.size)) grge hbut); clear hb8 hbut))
                        exact bodyPost_ret (v := .tuple #[.agg #[.int .i64 0, .int .i64 0], .bool false]) (results_cell_tmp (g := gr) (cs := #[.int .i64 0, .int .i64 0]) Tryz.results86 _ _ _ _ rfl GR.out Tryz.underlying124 rfl info_sum) rfl ⟨rfl, HB.out⟩
                      | true =>
                        have hd : dsum (some (n, d)) (rows.drop (k + 1)) a2 b2 = res := by rw [← hd]; simp [hA, hB]
                        have hd := Aside0.mk hd
                        have MAB2 := Aside0.mk (And.intro hA hB)
                        have MQ := Aside0.mk (fun W => may_any b2 true hB W)
                        clear hA hB
                        go_wp2_with (first
                            | (go_at_call 85; (first | (with_reducible refine (MI.out _).mono ?_) | (with_reducible refine (MQ.out _).mono ?_)); rintro e w' ⟨rfl, rfl⟩))
                        go_roundg (rows.length + 1 - (k + 1))
                        case measure => have := hgq.out; omega
                        case rel => exact ⟨k + 1, a2, b2, by omega, by simp, ⟨rfl⟩, ⟨by rw [HPV.out]; exact hd.out⟩, ⟨MAB2.out⟩, GS, GR, ⟨HB.out⟩⟩
    · obtain rfl : k = rows.length := by omega
      have hd : some (a, b) = res := by have := HD.out; rw [List.drop_of_length_le (Nat.le_refl _)] at this; exact this
      subst hd
      go_wp2_with (first
        | ((with_reducible refine gate_dst (N := 88) rfl ?_); refine wpList_load_row rfl 124 (.tmp 4) rfl gs rfl 124 _ (0, 0) _ GS.out Tryz.underlying124 rfl info_sum ?_)
        | ((with_reducible refine gate_store (t := 124) (p := 2) rfl ?_); refine row_event rfl (t := 124) (p := 2) (v := .tmp 88) rfl rfl (g := gr) (cs := #[.int .i64 a, .int .i64 b]) (zs := #[.int .i64 0, .int .i64 0]) rfl rfl GR.out info_sum rfl (by simp [Value.oneCell']) ?_; intro x1 hb8 hbut; have GR := Aside0.mk hb8; have HB := Aside0.mk (But.below HB.out HB.out.size grge hbut); clear hb8 hbut))
      exact bodyPost_ret (v := .tuple #[.agg #[.int .i64 a, .int .i64 b], .bool true]) (results_cell_tmp (g := gr) (cs := #[.int .i64 a, .int .i64 b]) Tryz.results86 _ _ _ _ rfl GR.out Tryz.underlying124 rfl info_sum) rfl ⟨rfl, HB.out⟩
end Go.Proofs.YtbbbjjfecblhpaaGreat.Nt
/- quittanceplay.Product, where the product may not be: one that is near. -/
namespace Go.Proofs.YtbbbjjfecblhpaaGreat.Du
open Go.RowKit Go.Proofs.YtbbbjjfecblhpaaGreatW.PrintWords Go.Proofs.YtbbbjjfecblhpaaGreatW.PrintLast Go.Proofs.YtbbbjjfecblhpaaGreatW.PrintMore Go.Proofs.YtbbbjjfecblhpaaGreat.HW
open Go.Proofs.YtbbbjjfecblhpaaGreat.Math Go.Proofs.YtbbbjjfecblhpaaGreat.H Go.Proofs.YtbbbjjfecblhpaaGreat.Pd Pm
set_option linter.unusedVariables false
set_option linter.unusedSimpArgs false
section
variable {P : Program} {ops : Array Oper} {rest : List Oper} {a : Act} {Q : Exit → Act → World → Prop}
theorem But.one (g i : Nat) (W : World) (x : Value) : H.But g W (W.setCell ⟨g, i, none⟩ x) := (H.But.of (Below.refl W.heap.size W)).setCell (p := ⟨g, i, none⟩) (Or.inl rfl) x
/-- One cell of a known row is written. -/
theorem put_event {W : World} {o : Oper} (hgd : o.guard = none) {t : TypeId} {p : Tmp} {v : Operand} (_ho : o.op = .store t (.tmp p) v) (hd : o.dst = none) {g i : Nat} {cs cs' : Array Value} {T : TypeId} {x : Value}
    (hrun : (execOp a.eval o).run P W = .ok .skip (W.setCell ⟨g, i, none⟩ x)) (hb : W.heap[g]? = some (.cells cs T (0, 0))) (hc : cs.setIfInBounds i x = cs')
    (h : ∀ w1, w1.heap[g]? = some (.cells cs' T (0, 0)) → H.But g W w1 → wpList P ops Q rest a w1) : wpList P ops Q (o :: rest) a W := by
  refine store_event hgd _ho hd hrun ?_
  rintro w' rfl
  exact h _ (by rw [heap_setCell_same W g i cs T x hb, hc]) (But.one g i W x)
/-- A literal slice. -/
theorem lit_event {W : World} {o : Oper} (hgd : o.guard = none) {N : Tmp} (_hd : o.dst = some N) {cs : Array Value} {t : TypeId} {n : Nat}
    (hrun : (execOp a.eval o).run P W = .ok (.value (.slice (some ⟨W.heap.size, 0, none⟩) n n)) (W.alloc (.cells cs t (0, 0))))
    (h : ∀ g, g = W.heap.size → ∀ w1, w1.heap[g]? = some (.cells cs t (0, 0)) → Below W.heap.size W w1 → wpList P ops Q rest (a.put o.dst (.slice (some ⟨g, 0, none⟩) n n)) w1) : wpList P ops Q (o :: rest) a W :=
  Kd.event_run hgd hrun (h _ rfl _ (blk_new W _) (below_alloc (Below.refl _ _) _))
end
theorem U_nat (x : Int) (m : Nat) (h : 0 < m) (h2 : m ≤ 1000000000) : ∃ r : Nat, r < m ∧ U x m = (r : Int) := by
  have b := U_bd x (m := (m : Int)) (by omega)
  exact ⟨(U x m).toNat, by omega, by omega⟩
theorem pick2 (x : Int) : ∃ r : Nat, (r : Int) < 2 ∧ IntKind.i64.wrap (Int.tmod (IntKind.u64.wrap x) 2) = (r : Int) ∧ (#[Value.int .i64 1, .int .i64 3] : Array Value)[r]? = some (.int .i64 (if U x 2 = 0 then (1 : Int) else 3)) := by
  obtain ⟨r, hr, e⟩ := U_nat x 2 (by omega) (by omega)
  have e2 : U x 2 = (r : Int) := e
  refine ⟨r, by omega, (U_is x (m := 2) (by omega) (by omega)).trans e2, ?_⟩
  rw [e2]
  rcases (by omega : r = 0 ∨ r = 1) with rfl | rfl <;> rfl
theorem pick6 (x : Int) : ∃ r : Nat, (r : Int) < 6 ∧ IntKind.i64.wrap (Int.tmod (IntKind.u64.wrap x) 6) = (r : Int) ∧ (#[Value.int .i64 1, .int .i64 2, .int .i64 3, .int .i64 4, .int .i64 6, .int .i64 12] : Array Value)[r]? = some (.int .i64 (if U x 6 = 0 then (1 : Int) else if U x 6 = 1 then 2 else if U x 6 = 2 then 3 else if U x 6 = 3 then 4 else if U x 6 = 4 then 6 else 12)) := by
  obtain ⟨r, hr, e⟩ := U_nat x 6 (by omega) (by omega)
  have e2 : U x 6 = (r : Int) := e
  refine ⟨r, by omega, (U_is x (m := 6) (by omega) (by omega)).trans e2, ?_⟩
  rw [e2]
  rcases (by omega : r = 0 ∨ r = 1 ∨ r = 2 ∨ r = 3 ∨ r = 4 ∨ r = 5) with rfl | rfl | rfl | rfl | rfl | rfl <;> rfl
set_option maxRecDepth 100000 in
set_option maxHeartbeats 8000000 in
theorem near_not (p : Prod) (A1 : Option Addr) (c1 : Nat) (A2 : Option Addr) (c2 : Nat) (A3 : Option Addr) (c3 : Nat) (n : Int) (w : World) (hp : ProdAt w p A1 c1 A2 c2 A3 c3) (hs : Held p) (ho : ok p = false) (n1 : 1 ≤ n) (n2 : n ≤ 1000) :
    Calls Tryz.prog 6 #[pv p A1 c1 A2 c2 A3 c3, .int .i64 n] w (NearE p A1 c1 A2 c2 A3 c3 (nearP p n) w) := by
  have er : err p = 9 := by unfold err; rw [ho]; rfl
  have en : nearP p n = nearB p n := by unfold nearP; rw [if_neg (by rw [ho]; decide)]; unfold nearD; split <;> rfl
  have HP := Aside0.mk hp
  have CK := Aside0.mk (fun w1 (hb : Below w.heap.size w w1) => rcheck_any p A1 c1 A2 c2 A3 c3 w1 (HP.out.below hb) hs)
  rw [er] at CK
  obtain ⟨x2, hx2⟩ : ∃ x, x = (if U p.round 2 = 0 then (1 : Int) else 3) := ⟨_, rfl⟩
  obtain ⟨x6, hx6⟩ : ∃ x, x = (if U p.every 6 = 0 then (1 : Int) else if U p.every 6 = 1 then 2 else if U p.every 6 = 2 then 3 else if U p.every 6 = 3 then 4 else if U p.every 6 = 4 then 6 else 12) := ⟨_, rfl⟩
  obtain ⟨qf, hqf⟩ : ∃ q, q = (show Prod from { plainP with count := 1 + U p.count 3, kind := 1 + U p.kind 3, round := x2, every := x6, times := 1 + U p.times n, rate := U p.rate 300000000, penalty := U p.penalty 500000000, over := 1 + U p.over 3 }) := ⟨_, rfl⟩
  have en2 : nearB p n = qf := by rw [hqf, hx2, hx6]; rfl
  have HQ := Aside0.mk hqf
  clear hqf
  rw [en, en2]
  have m1 := U_is p.count (m := 3) (by omega) (by omega)
  obtain ⟨b1a, b1b⟩ := U_bd p.count (m := 3) (by omega)
  have m3 := U_is p.kind (m := 3) (by omega) (by omega)
  obtain ⟨b3a, b3b⟩ := U_bd p.kind (m := 3) (by omega)
  obtain ⟨r2, r2b, m2, p2⟩ := pick2 p.round
  obtain ⟨r6, r6b, m6, p6⟩ := pick6 p.every
  have m5 := U_is p.times (m := n) (by omega) (by omega)
  obtain ⟨b5a, b5b⟩ := U_bd p.times (m := n) (by omega)
  have m7 := U_is p.rate (m := 300000000) (by omega) (by omega)
  have m9 := U_is p.penalty (m := 500000000) (by omega) (by omega)
  have m14 := U_is p.over (m := 3) (by omega) (by omega)
  obtain ⟨b14a, b14b⟩ := U_bd p.over (m := 3) (by omega)
  have mn : IntKind.u64.wrap n = n := by show n % 18446744073709551616 = n; omega
  have nz : (n == 0) = false := by simp; omega
  rw [← hx2] at p2
  rw [← hx6] at p6
  clear hx2 hx6 en2
  have P2 := Aside0.mk p2
  have P6 := Aside0.mk p6
  clear hp er en ho hs p2 p6
  go_enter Tryz.func6, Tryz.ntmps6
  go_wp2_with ((with_reducible refine gate_dst (N := 2) rfl ?_); refine box_event ?hg (N := 2) ?hd (cs := pcs p A1 c1 A2 c2 A3 c3) (t := 27) ?hr ?_; (case hd => rfl); (case hg => rfl); (case hr => first | (go_simp; done) | (go_simp; rfl)); intro g2 hg v0 hb1 hbl1; clear hg; have G2 := Aside0.mk hb1; have HB := Aside0.mk hbl1; clear hb1 hbl1; refine Hid.out ?_)
  refine Lib.hid ?_
  go_wp2_with (first
    | ((with_reducible refine gate_dst (N := 4) rfl ?_); refine box_event ?hg (N := 4) ?hd (cs := pzs) (t := 27) ?hr ?_; (case hd => rfl); (case hg => rfl); (case hr => first | (go_simp; done) | (go_simp; rfl)); intro g4 hg w4 hb1 hbl1; have ge4 := (show w.heap.size ≤ g4 by rw [hg]; exact HB.out.size); have ne42 := (show g4 ≠ g2 by have := blk_lt G2.out; omega); clear hg; have G2 := Aside0.mk (Pd.blk_below G2.out hbl1); have G4 := Aside0.mk hb1; have HB := Aside0.mk (below_step HB.out hbl1); clear hb1 hbl1)
    | (go_at_call 14; (with_reducible refine (plain_any _).mono ?_); rintro e w5 ⟨rfl, hb⟩; have G2 := Aside0.mk (Pd.blk_below G2.out hb); have G4 := Aside0.mk (Pd.blk_below G4.out hb); have HB := Aside0.mk (below_step HB.out hb); clear hb)
    | ((with_reducible refine gate_dst (N := 5) rfl ?_); refine copy_event rfl (N := 5) rfl rfl rfl (t := 27) (v := .tmp 6) rfl (cs := plainC) (zs := pzs) ?hr rfl rfl info_prod ?hz plainC_one ?_; (case hr => first | (go_simp; done) | (go_simp; rfl)); (case hz => rfl); intro g5 hg w6 hb0 hb; have ge5 := (show w.heap.size ≤ g5 by rw [hg]; exact HB.out.size); have ne52 := (show g5 ≠ g2 by have := blk_lt G2.out; omega); have ne54 := (show g5 ≠ g4 by have := blk_lt G4.out; omega); clear hg; have G2 := Aside0.mk (Pd.blk_below G2.out hb); have G4 := Aside0.mk (Pd.blk_below G4.out hb); have G5 := Aside0.mk hb0; have HB := Aside0.mk (below_step HB.out hb); clear hb0 hb)
    | ((with_reducible refine gate_dst (N := 7) rfl ?_); refine wpList_load_row rfl 27 (.tmp 2) rfl g2 rfl 27 _ (0, 0) _ G2.out Tryz.underlying27 rfl info_prod ?_)
    | (go_at_call 15; (with_reducible refine (CK.out _ HB.out).mono ?_); rintro e w7 ⟨rfl, hb⟩; have G2 := Aside0.mk (Pd.blk_below G2.out hb); have G4 := Aside0.mk (Pd.blk_below G4.out hb); have G5 := Aside0.mk (Pd.blk_below G5.out hb); have HB := Aside0.mk (below_step HB.out hb); clear hb))
  obtain ⟨-, q1, q2, q3, q4, q5, -, q7, -, q9, -, -, -, -, q14, -, -, -, -⟩ := pc_cells G2.out
  obtain ⟨-, u1, -, u3, -, -, -, -, -, -, -, -, -, -, -, -, -, -, -⟩ := pc_cells (p := plainP) (A1 := none) (c1 := 0) (A2 := none) (c2 := 0) (A3 := none) (c3 := 0) G5.out
  have f1 := frozen_of_row w7 g5 1 _ _ G5.out
  have f3 := frozen_of_row w7 g5 3 _ _ G5.out
  go_region
  obtain ⟨W5, hW5⟩ : ∃ W, W = ((w7.setCell ⟨g5, 1, none⟩ (.int .i64 (1 + U p.count 3))).setCell ⟨g5, 3, none⟩ (.int .i64 (1 + U p.kind 3))).drew := ⟨_, rfl⟩
  rw [← hW5]
  have n5 : W5.heap[g5]? = some (.cells (pcs { plainP with count := 1 + U p.count 3, kind := 1 + U p.kind 3 } none 0 none 0 none 0) 27 (0, 0)) := by rw [hW5]; exact (heap_setCell_same _ g5 3 _ _ _ (heap_setCell_same _ g5 1 _ _ _ G5.out)).trans rfl
  have nb : H.But g5 w7 W5 := by rw [hW5]; exact (let h : H.But g5 w7 ((w7.setCell ⟨g5, 1, none⟩ (.int .i64 (1 + U p.count 3))).setCell ⟨g5, 3, none⟩ (.int .i64 (1 + U p.kind 3))) := (But.one g5 1 w7 _).setCell (p := ⟨g5, 3, none⟩) (Or.inl rfl) _; ⟨h.os, h.tape, h.output, h.size, h.block⟩)
  have n2 := (nb.block g2 (blk_lt G2.out) (Ne.symm ne52)).trans G2.out
  have n4 := (nb.block g4 (blk_lt G4.out) (Ne.symm ne54)).trans G4.out
  have nH := But.below HB.out HB.out.size ge5 nb
  have G5 := Aside0.mk n5
  have G2 := Aside0.mk n2
  have G4 := Aside0.mk n4
  have HB := Aside0.mk nH
  clear hW5 nb n5 n2 n4 nH q1 q2 q3 q4 q5 q7 q9 q14 u1 u3 f1 f3
  obtain ⟨-, q1, q2, q3, q4, q5, -, q7, -, q9, -, -, -, -, q14, -, -, -, -⟩ := pc_cells G2.out
  go_wp2_with (first
    | ((with_reducible refine gate_dst (N := 25) rfl ?_); refine lit_event rfl (N := 25) rfl (cs := #[.int .i64 1, .int .i64 3]) (t := 3) (n := 2) ?hr ?_; (case hr => first | (go_simp; done) | (go_simp; rfl)); intro gl25 hgl wl25 hbl hb; have cl := (blk_cell hbl r2).trans P2.out; have G2 := Aside0.mk (Pd.blk_below G2.out hb); have G4 := Aside0.mk (Pd.blk_below G4.out hb); have G5 := Aside0.mk (Pd.blk_below G5.out hb); have HB := Aside0.mk (below_step HB.out hb); clear hgl hbl hb; obtain ⟨-, q1, q2, q3, q4, q5, -, q7, -, q9, -, -, -, -, q14, -, -, -, -⟩ := pc_cells G2.out; obtain ⟨-, -, u2, -, u4, u5, -, u7, -, u9, -, -, -, -, u14, -, -, -, -⟩ := pc_cells (c1 := 0) (c2 := 0) (c3 := 0) G5.out; have f2 := frozen_of_row wl25 g5 2 _ _ G5.out; have f4 := frozen_of_row wl25 g5 4 _ _ G5.out)
    | ((with_reducible refine gate_store (t := 3) (p := 33) rfl ?_); refine put_event rfl (t := 3) (p := 33) (v := .tmp 32) rfl rfl (g := g5) (i := 2) (cs := pcs { plainP with count := 1 + U p.count 3, kind := 1 + U p.kind 3 } none 0 none 0 none 0) (cs' := pcs { plainP with count := 1 + U p.count 3, kind := 1 + U p.kind 3, round := x2 } none 0 none 0 none 0) (x := .int .i64 x2) ?hr G5.out ?hc ?_; (case hc => rfl); (case hr => go_simp); intro w31 hb8 hbut; have G5 := Aside0.mk hb8; have G2 := Aside0.mk ((hbut.block g2 (blk_lt G2.out) (Ne.symm ne52)).trans G2.out); have G4 := Aside0.mk ((hbut.block g4 (blk_lt G4.out) (Ne.symm ne54)).trans G4.out); have HB := Aside0.mk (But.below HB.out HB.out.size ge5 hbut); clear hb8 hbut; obtain ⟨-, q1, q2, q3, q4, q5, -, q7, -, q9, -, -, -, -, q14, -, -, -, -⟩ := pc_cells G2.out; obtain ⟨-, -, u2, u3, u4, u5, u6, u7, -, u9, -, -, -, -, u14, -, -, -, -⟩ := pc_cells (c1 := 0) (c2 := 0) (c3 := 0) G5.out; have f6 := frozen_of_row w31 g5 6 _ _ G5.out; have f2 := frozen_of_row w31 g5 2 _ _ G5.out; have f4 := frozen_of_row w31 g5 4 _ _ G5.out; have f5 := frozen_of_row w31 g5 5 _ _ G5.out; have f7 := frozen_of_row w31 g5 7 _ _ G5.out; have f9 := frozen_of_row w31 g5 9 _ _ G5.out)
    | ((with_reducible refine gate_dst (N := 34) rfl ?_); refine lit_event rfl (N := 34) rfl (cs := #[.int .i64 1, .int .i64 2, .int .i64 3, .int .i64 4, .int .i64 6, .int .i64 12]) (t := 3) (n := 6) ?hr ?_; (case hr => first | (go_simp; done) | (go_simp; rfl)); intro gl34 hgl wl34 hbl hb; have cl := (blk_cell hbl r6).trans P6.out; have G2 := Aside0.mk (Pd.blk_below G2.out hb); have G4 := Aside0.mk (Pd.blk_below G4.out hb); have G5 := Aside0.mk (Pd.blk_below G5.out hb); have HB := Aside0.mk (below_step HB.out hb); clear hgl hbl hb; obtain ⟨-, q1, q2, q3, q4, q5, -, q7, -, q9, -, -, -, -, q14, -, -, -, -⟩ := pc_cells G2.out; obtain ⟨-, -, u2, -, u4, u5, -, u7, -, u9, -, -, -, -, u14, -, -, -, -⟩ := pc_cells (c1 := 0) (c2 := 0) (c3 := 0) G5.out; have f2 := frozen_of_row wl34 g5 2 _ _ G5.out; have f4 := frozen_of_row wl34 g5 4 _ _ G5.out)
    | ((with_reducible refine gate_store (t := 3) (p := 42) rfl ?_); refine put_event rfl (t := 3) (p := 42) (v := .tmp 41) rfl rfl (g := g5) (i := 4) (cs := pcs { plainP with count := 1 + U p.count 3, kind := 1 + U p.kind 3, round := x2 } none 0 none 0 none 0) (cs' := pcs { plainP with count := 1 + U p.count 3, kind := 1 + U p.kind 3, round := x2, every := x6 } none 0 none 0 none 0) (x := .int .i64 x6) ?hr G5.out ?hc ?_; (case hc => rfl); (case hr => go_simp); intro w32 hb8 hbut; have G5 := Aside0.mk hb8; have G2 := Aside0.mk ((hbut.block g2 (blk_lt G2.out) (Ne.symm ne52)).trans G2.out); have G4 := Aside0.mk ((hbut.block g4 (blk_lt G4.out) (Ne.symm ne54)).trans G4.out); have HB := Aside0.mk (But.below HB.out HB.out.size ge5 hbut); clear hb8 hbut; obtain ⟨-, q1, q2, q3, q4, q5, -, q7, -, q9, -, -, -, -, q14, -, -, -, -⟩ := pc_cells G2.out; obtain ⟨-, -, u2, u3, u4, u5, u6, u7, -, u9, -, -, -, -, u14, -, -, -, -⟩ := pc_cells (c1 := 0) (c2 := 0) (c3 := 0) G5.out; have f6 := frozen_of_row w32 g5 6 _ _ G5.out; have f2 := frozen_of_row w32 g5 2 _ _ G5.out; have f4 := frozen_of_row w32 g5 4 _ _ G5.out; have f5 := frozen_of_row w32 g5 5 _ _ G5.out; have f7 := frozen_of_row w32 g5 7 _ _ G5.out; have f9 := frozen_of_row w32 g5 9 _ _ G5.out)
    | ((with_reducible refine gate_store (t := 3) (p := 51) rfl ?_); refine put_event rfl (t := 3) (p := 51) (v := .tmp 50) rfl rfl (g := g5) (i := 5) (cs := pcs { plainP with count := 1 + U p.count 3, kind := 1 + U p.kind 3, round := x2, every := x6 } none 0 none 0 none 0) (cs' := pcs { plainP with count := 1 + U p.count 3, kind := 1 + U p.kind 3, round := x2, every := x6, times := 1 + U p.times n } none 0 none 0 none 0) (x := .int .i64 (1 + U p.times n)) ?hr G5.out ?hc ?_; (case hc => rfl); (case hr => go_simp); intro w33 hb8 hbut; have G5 := Aside0.mk hb8; have G2 := Aside0.mk ((hbut.block g2 (blk_lt G2.out) (Ne.symm ne52)).trans G2.out); have G4 := Aside0.mk ((hbut.block g4 (blk_lt G4.out) (Ne.symm ne54)).trans G4.out); have HB := Aside0.mk (But.below HB.out HB.out.size ge5 hbut); clear hb8 hbut; obtain ⟨-, q1, q2, q3, q4, q5, -, q7, -, q9, -, -, -, -, q14, -, -, -, -⟩ := pc_cells G2.out; obtain ⟨-, -, u2, u3, u4, u5, u6, u7, -, u9, -, -, -, -, u14, -, -, -, -⟩ := pc_cells (c1 := 0) (c2 := 0) (c3 := 0) G5.out; have f6 := frozen_of_row w33 g5 6 _ _ G5.out; have f2 := frozen_of_row w33 g5 2 _ _ G5.out; have f4 := frozen_of_row w33 g5 4 _ _ G5.out; have f5 := frozen_of_row w33 g5 5 _ _ G5.out; have f7 := frozen_of_row w33 g5 7 _ _ G5.out; have f9 := frozen_of_row w33 g5 9 _ _ G5.out))
  go_region
  obtain ⟨W8, hW8⟩ : ∃ W, W = ((w33.setCell ⟨g5, 7, none⟩ (.int .i64 (U p.rate 300000000))).setCell ⟨g5, 9, none⟩ (.int .i64 (U p.penalty 500000000))).drew := ⟨_, rfl⟩
  rw [← hW8]
  have n5 : W8.heap[g5]? = some (.cells (pcs { plainP with count := 1 + U p.count 3, kind := 1 + U p.kind 3, round := x2, every := x6, times := 1 + U p.times n, rate := U p.rate 300000000, penalty := U p.penalty 500000000 } none 0 none 0 none 0) 27 (0, 0)) := by rw [hW8]; exact (heap_setCell_same _ g5 9 _ _ _ (heap_setCell_same _ g5 7 _ _ _ G5.out)).trans rfl
  have nb : H.But g5 w33 W8 := by rw [hW8]; exact (let h : H.But g5 w33 ((w33.setCell ⟨g5, 7, none⟩ (.int .i64 (U p.rate 300000000))).setCell ⟨g5, 9, none⟩ (.int .i64 (U p.penalty 500000000))) := (But.one g5 7 w33 _).setCell (p := ⟨g5, 9, none⟩) (Or.inl rfl) _; ⟨h.os, h.tape, h.output, h.size, h.block⟩)
  have n2 := (nb.block g2 (blk_lt G2.out) (Ne.symm ne52)).trans G2.out
  have n4 := (nb.block g4 (blk_lt G4.out) (Ne.symm ne54)).trans G4.out
  have nH := But.below HB.out HB.out.size ge5 nb
  have G5 := Aside0.mk n5
  have G2 := Aside0.mk n2
  have G4 := Aside0.mk n4
  have HB := Aside0.mk nH
  clear hW8 nb n5 n2 n4 nH q1 q2 q3 q4 q5 q7 q9 q14 u2 u4 u5 u7 u9 u14 f2 f4 f5 f7 f9
  obtain ⟨-, q1, q2, q3, q4, q5, -, q7, -, q9, -, -, -, -, q14, -, -, -, -⟩ := pc_cells G2.out
  obtain ⟨-, -, u2, -, u4, u5, -, u7, -, u9, -, -, -, -, u14, -, -, -, -⟩ := pc_cells (c1 := 0) (c2 := 0) (c3 := 0) G5.out
  have f14 := frozen_of_row W8 g5 14 _ _ G5.out
  have hgp : plainP.grace = 0 := rfl
  have tl : decide (n < 1 + U p.times n) = false := decide_eq_false (by omega)
  have tg : decide (1 + U p.times n ≤ 0) = false := decide_eq_false (by omega)
  cases hk : (1 + U p.kind 3 == 3) with
  | true =>
    go_wp2_with ((with_reducible refine gate_store (t := 3) (p := 70) rfl ?_); refine put_event rfl (t := 3) (p := 70) (v := .tmp 69) rfl rfl (g := g5) (i := 14) (cs := pcs { plainP with count := 1 + U p.count 3, kind := 1 + U p.kind 3, round := x2, every := x6, times := 1 + U p.times n, rate := U p.rate 300000000, penalty := U p.penalty 500000000 } none 0 none 0 none 0) (cs' := pcs { plainP with count := 1 + U p.count 3, kind := 1 + U p.kind 3, round := x2, every := x6, times := 1 + U p.times n, rate := U p.rate 300000000, penalty := U p.penalty 500000000, over := 1 + U p.over 3 } none 0 none 0 none 0) (x := .int .i64 (1 + U p.over 3)) ?hr G5.out ?hc ?_; (case hc => rfl); (case hr => go_simp); intro w34 hb8 hbut; have G5 := Aside0.mk hb8; have G2 := Aside0.mk ((hbut.block g2 (blk_lt G2.out) (Ne.symm ne52)).trans G2.out); have G4 := Aside0.mk ((hbut.block g4 (blk_lt G4.out) (Ne.symm ne54)).trans G4.out); have HB := Aside0.mk (But.below HB.out HB.out.size ge5 hbut); clear hb8 hbut; obtain ⟨-, q1, q2, q3, q4, q5, -, q7, -, q9, -, -, -, -, q14, -, -, -, -⟩ := pc_cells G2.out; obtain ⟨-, -, u2, u3, u4, u5, u6, u7, -, u9, -, -, -, -, u14, -, -, -, -⟩ := pc_cells (c1 := 0) (c2 := 0) (c3 := 0) G5.out; have f6 := frozen_of_row w34 g5 6 _ _ G5.out; have f2 := frozen_of_row w34 g5 2 _ _ G5.out; have f4 := frozen_of_row w34 g5 4 _ _ G5.out; have f5 := frozen_of_row w34 g5 5 _ _ G5.out; have f7 := frozen_of_row w34 g5 7 _ _ G5.out; have f9 := frozen_of_row w34 g5 9 _ _ G5.out; refine Hid.out ?_)
    refine Lib.hid ?_
    try go_frame
    have bfin : (w34.setCell ⟨g5, 6, none⟩ (.int .i64 0)).heap[g5]? = some (.cells (pcs qf none 0 none 0 none 0) 27 (0, 0)) := by rw [HQ.out]; exact (heap_setCell_same _ g5 6 _ _ _ G5.out).trans rfl
    have hbut : H.But g5 w34 (w34.setCell ⟨g5, 6, none⟩ (.int .i64 0)) := ((H.But.of (Below.refl w34.heap.size w34)).setCell (p := ⟨g5, 6, none⟩) (Or.inl rfl) (.int .i64 0))
    have g4fin : (w34.setCell ⟨g5, 6, none⟩ (.int .i64 0)).heap[g4]? = some (.cells pzs 27 (0, 0)) := (hbut.block g4 (blk_lt G4.out) (Ne.symm ne54)).trans G4.out
    have hbfin : Below w.heap.size w (w34.setCell ⟨g5, 6, none⟩ (.int .i64 0)) := But.below HB.out HB.out.size ge5 hbut
    have F5 := Aside0.mk bfin
    have F4 := Aside0.mk g4fin
    have FB := Aside0.mk hbfin
    clear bfin hbut g4fin hbfin
    go_wp2_with (first
      | ((with_reducible refine gate_dst (N := 89) rfl ?_); refine wpList_load_row rfl 27 (.tmp 5) rfl g5 rfl 27 _ (0, 0) _ F5.out Tryz.underlying27 rfl info_prod ?_)
      | ((with_reducible refine gate_store (t := 27) (p := 4) rfl ?_); refine Hid.out ?_))
    refine Lib.hid ?_
    refine row_event rfl (t := 27) (p := 4) (v := .tmp 89) rfl rfl (g := g4) (cs := pcs qf none 0 none 0 none 0) (zs := pzs) rfl rfl F4.out info_prod rfl (pcs_one _ _ _ _ _ _ _) ?_
    intro w20 hb20 hbut20
    have H20 := Aside0.mk hb20
    have HB20 := Aside0.mk (But.below FB.out FB.out.size ge4 hbut20)
    clear hb20 hbut20
    try go_frame
    go_wp2_with fail
    exact bodyPost_ret (v := pv qf none 0 none 0 none 0) (results_cell_row (g := g4) Tryz.results6 _ _ _ _ _ _ rfl H20.out Tryz.underlying27 rfl info_prod) rfl ⟨none, 0, none, 0, none, 0, rfl, fun w0 _ => nilAt (by rw [HQ.out]; rfl) (by rw [HQ.out]; rfl) (by rw [HQ.out]; rfl), HB20.out⟩
  | false =>
    go_wp2_with ((with_reducible refine gate_store (t := 3) (p := 70) rfl ?_); refine put_event rfl (t := 3) (p := 70) (v := .tmp 69) rfl rfl (g := g5) (i := 14) (cs := pcs { plainP with count := 1 + U p.count 3, kind := 1 + U p.kind 3, round := x2, every := x6, times := 1 + U p.times n, rate := U p.rate 300000000, penalty := U p.penalty 500000000 } none 0 none 0 none 0) (cs' := pcs { plainP with count := 1 + U p.count 3, kind := 1 + U p.kind 3, round := x2, every := x6, times := 1 + U p.times n, rate := U p.rate 300000000, penalty := U p.penalty 500000000, over := 1 + U p.over 3 } none 0 none 0 none 0) (x := .int .i64 (1 + U p.over 3)) ?hr G5.out ?hc ?_; (case hc => rfl); (case hr => go_simp); intro w34 hb8 hbut; have G5 := Aside0.mk hb8; have G2 := Aside0.mk ((hbut.block g2 (blk_lt G2.out) (Ne.symm ne52)).trans G2.out); have G4 := Aside0.mk ((hbut.block g4 (blk_lt G4.out) (Ne.symm ne54)).trans G4.out); have HB := Aside0.mk (But.below HB.out HB.out.size ge5 hbut); clear hb8 hbut; obtain ⟨-, q1, q2, q3, q4, q5, -, q7, -, q9, -, -, -, -, q14, -, -, -, -⟩ := pc_cells G2.out; obtain ⟨-, -, u2, u3, u4, u5, u6, u7, -, u9, -, -, -, -, u14, -, -, -, -⟩ := pc_cells (c1 := 0) (c2 := 0) (c3 := 0) G5.out; have f6 := frozen_of_row w34 g5 6 _ _ G5.out; have f2 := frozen_of_row w34 g5 2 _ _ G5.out; have f4 := frozen_of_row w34 g5 4 _ _ G5.out; have f5 := frozen_of_row w34 g5 5 _ _ G5.out; have f7 := frozen_of_row w34 g5 7 _ _ G5.out; have f9 := frozen_of_row w34 g5 9 _ _ G5.out; refine Hid.out ?_)
    refine Lib.hid ?_
    try go_frame
    have bfin : w34.heap[g5]? = some (.cells (pcs qf none 0 none 0 none 0) 27 (0, 0)) := by rw [HQ.out]; exact G5.out
    have hbut : H.But g5 w34 w34 := (H.But.of (Below.refl w34.heap.size w34))
    have g4fin : w34.heap[g4]? = some (.cells pzs 27 (0, 0)) := (hbut.block g4 (blk_lt G4.out) (Ne.symm ne54)).trans G4.out
    have hbfin : Below w.heap.size w w34 := But.below HB.out HB.out.size ge5 hbut
    have F5 := Aside0.mk bfin
    have F4 := Aside0.mk g4fin
    have FB := Aside0.mk hbfin
    clear bfin hbut g4fin hbfin
    go_wp2_with (first
      | ((with_reducible refine gate_dst (N := 89) rfl ?_); refine wpList_load_row rfl 27 (.tmp 5) rfl g5 rfl 27 _ (0, 0) _ F5.out Tryz.underlying27 rfl info_prod ?_)
      | ((with_reducible refine gate_store (t := 27) (p := 4) rfl ?_); refine Hid.out ?_))
    refine Lib.hid ?_
    refine row_event rfl (t := 27) (p := 4) (v := .tmp 89) rfl rfl (g := g4) (cs := pcs qf none 0 none 0 none 0) (zs := pzs) rfl rfl F4.out info_prod rfl (pcs_one _ _ _ _ _ _ _) ?_
    intro w20 hb20 hbut20
    have H20 := Aside0.mk hb20
    have HB20 := Aside0.mk (But.below FB.out FB.out.size ge4 hbut20)
    clear hb20 hbut20
    try go_frame
    go_wp2_with fail
    exact bodyPost_ret (v := pv qf none 0 none 0 none 0) (results_cell_row (g := g4) Tryz.results6 _ _ _ _ _ _ rfl H20.out Tryz.underlying27 rfl info_prod) rfl ⟨none, 0, none, 0, none, 0, rfl, fun w0 _ => nilAt (by rw [HQ.out]; rfl) (by rw [HQ.out]; rfl) (by rw [HQ.out]; rfl), HB20.out⟩
end Go.Proofs.YtbbbjjfecblhpaaGreat.Du
/- Contracts by hand: money that is right, and what is owed. -/
namespace Go.Proofs.YtbbbjjfecblhpaaGreat.Nt
open Go.RowKit Go.Proofs.YtbbbjjfecblhpaaGreatW.PrintWords Go.Proofs.YtbbbjjfecblhpaaGreatW.PrintLast Go.Proofs.YtbbbjjfecblhpaaGreatW.PrintMore Go.Proofs.YtbbbjjfecblhpaaGreat.HW
open Go.Proofs.YtbbbjjfecblhpaaGreat.Math Go.Proofs.YtbbbjjfecblhpaaGreat.H Go.Proofs.YtbbbjjfecblhpaaGreat.Pd Go.Proofs.YtbbbjjfecblhpaaGreat.Du Go.Proofs.YtbbbjjfecblhpaaGreat.Lv Pm
set_option linter.unusedVariables false
set_option linter.unusedSimpArgs false
attribute [local go_sem] max2_int min2_int max_two min_two
/-- Money, by its cells. -/
abbrev mcs (m : Mny) (D : Option Addr) (dc : Nat) : Array Value := #[.int .i64 m.p, .int .i64 m.acc, .slice D m.dues.length dc, .int .i64 m.pen, .int .i64 m.fees, .int .i64 m.un, .int .i64 m.cash, .int .i64 m.earned, .int .i64 m.fined, .int .i64 m.charged]
abbrev mv (m : Mny) (D : Option Addr) (dc : Nat) : Value := .agg (mcs m D dc)
theorem info_mny : (Tryz.prog.info? 31).map (·.size) = some 10 := by kernel_rfl
structure MAt (w : World) (m : Mny) (D : Option Addr) : Prop where
  rows : Op.IntRows w D 4 m.dues
  len : m.dues.length ≤ 140737488351232
theorem MAt.below {w w1 : World} {m : Mny} {D : Option Addr} (h : MAt w m D) (hb : Below w.heap.size w w1) : MAt w1 m D := ⟨h.rows.below hb, h.len⟩
theorem far2 {w : World} {k g : Nat} (hk : k ≠ g) (x y : Value) (i : Nat) {v : Value} (h : w.cell? ⟨k, i, none⟩ = some v) : ((w.setCell ⟨g, 0, none⟩ x).setCell ⟨g, 1, none⟩ y).cell? ⟨k, i, none⟩ = some v := (World.cell?_of_block (a := ⟨k, i, none⟩) ((Below.heap_setCell _ _ _ _ hk).trans (Below.heap_setCell _ _ _ _ hk))).trans h
theorem keep6 {w : World} {gm gs g : Nat} {m : Mny} {D : Option Addr} {dc : Nat} {a b : Int} {t t2 : TypeId} (hm : w.heap[gm]? = some (.cells (mcs m D dc) t (0, 0))) (hs : w.heap[gs]? = some (.cells #[.int .i64 a, .int .i64 b] t2 (0, 0))) (h1 : gm ≠ g) (h2 : gs ≠ g) (x y : Value) :
    ((w.setCell ⟨g, 0, none⟩ x).setCell ⟨g, 1, none⟩ y).drew.cell? ⟨gm, 5, none⟩ = some (.int .i64 m.un) ∧ ((w.setCell ⟨g, 0, none⟩ x).setCell ⟨g, 1, none⟩ y).drew.cell? ⟨gm, 7, none⟩ = some (.int .i64 m.earned) ∧ ((w.setCell ⟨g, 0, none⟩ x).setCell ⟨g, 1, none⟩ y).drew.cell? ⟨gm, 8, none⟩ = some (.int .i64 m.fined) ∧ ((w.setCell ⟨g, 0, none⟩ x).setCell ⟨g, 1, none⟩ y).drew.cell? ⟨gm, 9, none⟩ = some (.int .i64 m.charged) ∧ ((w.setCell ⟨g, 0, none⟩ x).setCell ⟨g, 1, none⟩ y).drew.cell? ⟨gs, 0, none⟩ = some (.int .i64 a) ∧ ((w.setCell ⟨g, 0, none⟩ x).setCell ⟨g, 1, none⟩ y).drew.cell? ⟨gs, 1, none⟩ = some (.int .i64 b) :=
  ⟨far2 h1 x y 5 ((blk_cell hm 5).trans rfl), far2 h1 x y 7 ((blk_cell hm 7).trans rfl), far2 h1 x y 8 ((blk_cell hm 8).trans rfl), far2 h1 x y 9 ((blk_cell hm 9).trans rfl), far2 h2 x y 0 ((blk_cell hs 0).trans rfl), far2 h2 x y 1 ((blk_cell hs 1).trans rfl)⟩
theorem readM_bad {m : Mny} {v : Int} (h : v ∈ m.flat) (hv : mayB v = false) : readM m = none := by
  unfold readM
  rw [if_neg]
  intro ha
  rw [List.all_eq_true] at ha
  rw [ha v h] at hv
  cases hv
set_option maxRecDepth 100000 in
set_option maxHeartbeats 20000000 in
theorem read_any (m : Mny) (D : Option Addr) (dc : Nat) (w : World) (hm : MAt w m D) :
    Calls Tryz.prog 72 #[mv m D dc] w fun e w' => ∃ a b, e = .returned (.tuple #[.agg #[.int .i64 a, .int .i64 b], .bool (readM m).isSome]) ∧ (∀ x y, readM m = some (x, y) → a = x ∧ b = y) ∧ Below w.heap.size w w' := by
  have OA := Aside0.mk (fun (W : World) (hb : Below w.heap.size w W) => of_any D dc m.dues W (hm.rows.below hb) hm.len)
  obtain ⟨rd, hrd⟩ : ∃ r, readM m = r := ⟨_, rfl⟩
  rw [hrd]
  have HRD := Aside0.mk hrd
  clear hm hrd
  go_enter Tryz.func72, Tryz.ntmps72
  go_wp2_with ((with_reducible refine gate_dst (N := 1) rfl ?_); refine box_event ?hg (N := 1) ?hd (cs := mcs m D dc) (t := 31) ?hr ?_; (case hd => rfl); (case hg => rfl); (case hr => first | (go_simp; done) | (go_simp; rfl)); intro gm hg w1 hb1 hb; clear hg; have GM := Aside0.mk hb1; have HB := Aside0.mk hb; clear hb1 hb; refine Hid.out ?_)
  refine Lib.hid ?_
  go_wp2_with (first
    | ((with_reducible refine gate_dst (N := 2) rfl ?_); refine box_event rfl (N := 2) rfl (cs := #[.int .i64 0, .int .i64 0]) (t := 124) ?hr ?_; (case hr => first | (go_simp; done) | (go_simp; rfl)); intro gr hg w2 hb1 hb; have grge := (show w.heap.size ≤ gr by rw [hg]; exact HB.out.size); have gmr := (show gm ≠ gr by have := blk_lt GM.out; omega); clear hg; have GR := Aside0.mk hb1; have HB := Aside0.mk (below_step HB.out hb); have GM := Aside0.mk (Pd.blk_below GM.out hb); clear hb1 hb; have u0 := (show w2.cell? ⟨gm, 0, none⟩ = some (.int .i64 m.p) from (blk_cell GM.out 0).trans rfl); have u1 := (show w2.cell? ⟨gm, 1, none⟩ = some (.int .i64 m.acc) from (blk_cell GM.out 1).trans rfl); have u3 := (show w2.cell? ⟨gm, 3, none⟩ = some (.int .i64 m.pen) from (blk_cell GM.out 3).trans rfl); have u4 := (show w2.cell? ⟨gm, 4, none⟩ = some (.int .i64 m.fees) from (blk_cell GM.out 4).trans rfl); have u5 := (show w2.cell? ⟨gm, 5, none⟩ = some (.int .i64 m.un) from (blk_cell GM.out 5).trans rfl); have u7 := (show w2.cell? ⟨gm, 7, none⟩ = some (.int .i64 m.earned) from (blk_cell GM.out 7).trans rfl); have u8 := (show w2.cell? ⟨gm, 8, none⟩ = some (.int .i64 m.fined) from (blk_cell GM.out 8).trans rfl); have u9 := (show w2.cell? ⟨gm, 9, none⟩ = some (.int .i64 m.charged) from (blk_cell GM.out 9).trans rfl); have u6 := (show w2.cell? ⟨gm, 6, none⟩ = some (.int .i64 m.cash) from (blk_cell GM.out 6).trans rfl); have u2 := (show w2.cell? ⟨gm, 2, none⟩ = some (.slice D m.dues.length dc) from (blk_cell GM.out 2).trans rfl))
    | ((with_reducible refine gate_dst (N := 25) rfl ?_); refine lit_event rfl (N := 25) rfl (cs := #[.int .i64 m.p, .int .i64 m.acc, .int .i64 m.pen, .int .i64 m.fees, .int .i64 m.un, .int .i64 m.earned, .int .i64 m.fined, .int .i64 m.charged]) (t := 2) (n := 8) ?hr ?_; (case hr => first | (go_simp; done) | (go_simp; rfl)); intro gl hg w3 hb1 hb; clear hg; have GL := Aside0.mk hb1; have HB := Aside0.mk (below_step HB.out hb); have GM := Aside0.mk (Pd.blk_below GM.out hb); have GR := Aside0.mk (Pd.blk_below GR.out hb); clear hb1 hb u0 u1 u2 u3 u4 u5 u6 u7 u8 u9))
  go_loopg [27] 9 (fun gq iv w' => ∃ (k : Nat), k ≤ 8 ∧ iv = .int .i64 (k : Int) ∧ Aside0 (gq = 9 - k) ∧ Aside0 (∀ j, j < k → ∀ v, m.flat[j]? = some v → mayB v = true) ∧ Aside0 (w'.heap[gl]? = some (.cells #[.int .i64 m.p, .int .i64 m.acc, .int .i64 m.pen, .int .i64 m.fees, .int .i64 m.un, .int .i64 m.earned, .int .i64 m.fined, .int .i64 m.charged] 2 (0, 0))) ∧ Aside0 (w'.heap[gm]? = some (.cells (mcs m D dc) 31 (0, 0))) ∧ Aside0 (w'.heap[gr]? = some (.cells #[.int .i64 0, .int .i64 0] 124 (0, 0))) ∧ Aside0 (Below w.heap.size w w'))
  case atStart => exact ⟨0, by omega, rfl, ⟨rfl⟩, ⟨fun j hj => absurd hj (Nat.not_lt_zero j)⟩, GL, GM, GR, HB⟩
  case round =>
    obtain ⟨k, k8, rfl, hgq, HF, GL, GM, GR, HB⟩ := hrel
    by_cases hlt : (k : Int) < 8
    · obtain ⟨v, hv⟩ : ∃ v, m.flat[k]? = some v := ⟨_, List.getElem?_eq_getElem (show k < 8 by omega)⟩
      have hcl : wr.cell? ⟨gl, k, none⟩ = some (.int .i64 v) := (blk_cell GL.out k).trans (by
        rcases (by omega : k = 0 ∨ k = 1 ∨ k = 2 ∨ k = 3 ∨ k = 4 ∨ k = 5 ∨ k = 6 ∨ k = 7) with rfl | rfl | rfl | rfl | rfl | rfl | rfl | rfl <;> exact congrArg (Option.map (Value.int .i64)) hv)
      cases hM : mayB v with
      | false =>
        have MI := Aside0.mk (fun W => may_any v false hM W)
        have hn : rd = none := by rw [← HRD.out]; exact readM_bad (List.mem_of_getElem? hv) hM
        subst hn
        clear hM hv
        go_wp2_with (first
          | (go_at_call 85; (with_reducible refine (MI.out _).mono ?_); rintro e w' ⟨rfl, rfl⟩)
          | ((with_reducible refine gate_dst (N := 34) rfl ?_); refine build_event rfl (t := 124) rfl (cs := #[.int .i64 0, .int .i64 0]) ?hb ?_; (case hb => simp only [List.map_toArray, List.map_cons, List.map_nil]; exact built_sum0))
          | ((with_reducible refine gate_store (t := 124) (p := 2) rfl ?_); refine row_event rfl (t := 124) (p := 2) (v := .tmp 34) rfl rfl (g := gr) (cs := #[.int .i64 0, .int .i64 0]) (zs := #[.int .i64 0, .int .i64 0]) rfl rfl GR.out info_sum rfl (by simp [Value.oneCell']) ?_; intro x1 hb8 hbut; have GR := Aside0.mk hb8; have HB := Aside0.mk (But.below (by first | exact HB.out | exact Below.drew HB.out | exact pw_below_drewN HB.out _) (by first | exact HB.out.size | (simp; exact HB.out.size)) grge hbut); clear hb8 hbut))
        refine bodyPost_ret (v := .tuple #[.agg #[.int .i64 0, .int .i64 0], .bool false]) (results_cell_tmp (g := gr) (cs := #[.int .i64 0, .int .i64 0]) Tryz.results72 _ _ _ _ rfl GR.out Tryz.underlying124 rfl info_sum) rfl ?_
        exact ⟨0, 0, rfl, fun x y h => by simp at h, HB.out⟩
      | true =>
        have MI := Aside0.mk (fun W => may_any v true hM W)
        have HF2 := Aside0.mk (show ∀ j, j < k + 1 → ∀ v, m.flat[j]? = some v → mayB v = true from fun j hj x hx => by
          rcases (by omega : j < k ∨ j = k) with h | rfl
          · exact HF.out j h x hx
          · rw [hv] at hx; obtain rfl := Option.some.inj hx; exact hM)
        clear hM hv
        go_wp2_with (go_at_call 85; (with_reducible refine (MI.out _).mono ?_); rintro e w' ⟨rfl, rfl⟩)
        go_roundg (9 - (k + 1))
        case measure => have := hgq.out; omega
        case rel => exact ⟨k + 1, by omega, by simp, ⟨rfl⟩, HF2, GL, GM, GR, HB⟩
    · obtain rfl : k = 8 := by omega
      have hall : m.flat.all mayB = true := by
        rw [List.all_eq_true]
        intro x hx
        obtain ⟨j, hj⟩ := List.getElem?_of_mem hx
        have : j < 8 := (List.getElem?_eq_some_iff.1 hj).1
        exact HF.out j this x hj
      have hrd := HRD.out
      unfold readM at hrd
      rw [if_pos hall] at hrd
      simp only [Mny.flat, List.all_cons, List.all_nil, Bool.and_true, Bool.and_eq_true, mayB_iff] at hall
      obtain ⟨k1, k2, k3, k4, k5, k6, k7, k9⟩ := hall
      have u0 := (show wr.cell? ⟨gm, 0, none⟩ = some (.int .i64 m.p) from (blk_cell GM.out 0).trans rfl)
      have u1 := (show wr.cell? ⟨gm, 1, none⟩ = some (.int .i64 m.acc) from (blk_cell GM.out 1).trans rfl)
      have u3 := (show wr.cell? ⟨gm, 3, none⟩ = some (.int .i64 m.pen) from (blk_cell GM.out 3).trans rfl)
      have u4 := (show wr.cell? ⟨gm, 4, none⟩ = some (.int .i64 m.fees) from (blk_cell GM.out 4).trans rfl)
      have u5 := (show wr.cell? ⟨gm, 5, none⟩ = some (.int .i64 m.un) from (blk_cell GM.out 5).trans rfl)
      have u7 := (show wr.cell? ⟨gm, 7, none⟩ = some (.int .i64 m.earned) from (blk_cell GM.out 7).trans rfl)
      have u8 := (show wr.cell? ⟨gm, 8, none⟩ = some (.int .i64 m.fined) from (blk_cell GM.out 8).trans rfl)
      have u9 := (show wr.cell? ⟨gm, 9, none⟩ = some (.int .i64 m.charged) from (blk_cell GM.out 9).trans rfl)
      have u6 := (show wr.cell? ⟨gm, 6, none⟩ = some (.int .i64 m.cash) from (blk_cell GM.out 6).trans rfl)
      have u2 := (show wr.cell? ⟨gm, 2, none⟩ = some (.slice D m.dues.length dc) from (blk_cell GM.out 2).trans rfl)
      clear HF GL
      cases hds : dsum none m.dues 0 0 with
      | none =>
        rw [hds] at hrd OA
        have hn : none = rd := hrd
        subst hn
        simp only [sumsV] at OA
        clear hrd hds k1 k2 k3 k4 k5 k6 k7 k9
        go_wp2_with (first
          | (go_at_call 86; (with_reducible refine (OA.out _ HB.out).mono ?_); rintro e w4 ⟨rfl, hb⟩; have GM := Aside0.mk (Pd.blk_below GM.out hb); have GR := Aside0.mk (Pd.blk_below GR.out hb); have HB := Aside0.mk (below_step HB.out hb); clear hb)
          | ((with_reducible refine gate_dst (N := 6) rfl ?_); refine copy_event rfl (N := 6) rfl rfl rfl (t := 124) (v := .tmp 40) rfl (cs := #[.int .i64 0, .int .i64 0]) (zs := #[.int .i64 0, .int .i64 0]) ?hr rfl rfl info_sum ?hz (by simp [Value.oneCell']) ?_; (case hr => first | (go_simp; done) | (go_simp; rfl)); (case hz => rfl); intro gs hg w5 hb1 hb; have gsr := (show gs ≠ gr by have := blk_lt GR.out; omega); clear hg; have GS := Aside0.mk hb1; have GM := Aside0.mk (Pd.blk_below GM.out hb); have GR := Aside0.mk (Pd.blk_below GR.out hb); have HB := Aside0.mk (below_step HB.out hb); clear hb hb1 u0 u1 u2 u3 u4 u5 u6 u7 u8 u9; have u0 := (show w5.cell? ⟨gm, 0, none⟩ = some (.int .i64 m.p) from (blk_cell GM.out 0).trans rfl); have u1 := (show w5.cell? ⟨gm, 1, none⟩ = some (.int .i64 m.acc) from (blk_cell GM.out 1).trans rfl); have u3 := (show w5.cell? ⟨gm, 3, none⟩ = some (.int .i64 m.pen) from (blk_cell GM.out 3).trans rfl); have u4 := (show w5.cell? ⟨gm, 4, none⟩ = some (.int .i64 m.fees) from (blk_cell GM.out 4).trans rfl); have u5 := (show w5.cell? ⟨gm, 5, none⟩ = some (.int .i64 m.un) from (blk_cell GM.out 5).trans rfl); have u7 := (show w5.cell? ⟨gm, 7, none⟩ = some (.int .i64 m.earned) from (blk_cell GM.out 7).trans rfl); have u8 := (show w5.cell? ⟨gm, 8, none⟩ = some (.int .i64 m.fined) from (blk_cell GM.out 8).trans rfl); have u9 := (show w5.cell? ⟨gm, 9, none⟩ = some (.int .i64 m.charged) from (blk_cell GM.out 9).trans rfl); have u6 := (show w5.cell? ⟨gm, 6, none⟩ = some (.int .i64 m.cash) from (blk_cell GM.out 6).trans rfl); have u2 := (show w5.cell? ⟨gm, 2, none⟩ = some (.slice D m.dues.length dc) from (blk_cell GM.out 2).trans rfl); have v0 := (show w5.cell? ⟨gs, 0, none⟩ = some (.int .i64 0) from (blk_cell GS.out 0).trans rfl); have v1 := (show w5.cell? ⟨gs, 1, none⟩ = some (.int .i64 0) from (blk_cell GS.out 1).trans rfl))
          | ((with_reducible refine gate_dst (N := 54) rfl ?_); refine build_event rfl (t := 124) rfl (cs := #[.int .i64 0, .int .i64 0]) ?hb ?_; (case hb => simp only [List.map_toArray, List.map_cons, List.map_nil]; exact built_sum0))
          | ((with_reducible refine gate_store (t := 124) (p := 2) rfl ?_); refine row_event rfl (t := 124) (p := 2) (v := .tmp 54) rfl rfl (g := gr) (cs := #[.int .i64 0, .int .i64 0]) (zs := #[.int .i64 0, .int .i64 0]) rfl rfl GR.out info_sum rfl (by simp [Value.oneCell']) ?_; intro x1 hb8 hbut; have GR := Aside0.mk hb8; have HB := Aside0.mk (But.below (by first | exact HB.out | exact Below.drew HB.out | exact pw_below_drewN HB.out _) (by first | exact HB.out.size | (simp; exact HB.out.size)) grge hbut); clear hb8 hbut))
        refine bodyPost_ret (v := .tuple #[.agg #[.int .i64 0, .int .i64 0], .bool false]) (results_cell_tmp (g := gr) (cs := #[.int .i64 0, .int .i64 0]) Tryz.results72 _ _ _ _ rfl GR.out Tryz.underlying124 rfl info_sum) rfl ?_
        exact ⟨0, 0, rfl, fun x y h => by simp at h, HB.out⟩
      | some ab =>
        obtain ⟨a, b⟩ := ab
        obtain ⟨ba, bb⟩ := dsum_bd m.dues none 0 0 a b (by decide) (by decide) hds
        rw [mayB_iff] at ba bb
        rw [hds] at hrd OA
        have hrd : (if -1000000000000000 ≤ m.cash ∧ m.cash ≤ 1000000000000000 ∧ m.cash + m.p + m.acc + a + b + m.pen + m.fees = m.un + m.earned + m.fined + m.charged then some (a, b) else none) = rd := hrd
        simp only [sumsV] at OA
        clear hds
        rcases (by omega : m.cash < -1000000000000000 ∨ ¬ m.cash < -1000000000000000 ∧ 1000000000000000 < m.cash ∨ -1000000000000000 ≤ m.cash ∧ m.cash ≤ 1000000000000000) with h | ⟨h, h2⟩ | ⟨h, h2⟩
        · rw [if_neg (by omega)] at hrd
          subst hrd
          clear k1 k2 k3 k4 k5 k6 k7 k9 ba bb
          go_wp2_with (first
            | (go_at_call 86; (with_reducible refine (OA.out _ HB.out).mono ?_); rintro e w4 ⟨rfl, hb⟩; have GM := Aside0.mk (Pd.blk_below GM.out hb); have GR := Aside0.mk (Pd.blk_below GR.out hb); have HB := Aside0.mk (below_step HB.out hb); clear hb)
            | ((with_reducible refine gate_dst (N := 6) rfl ?_); refine copy_event rfl (N := 6) rfl rfl rfl (t := 124) (v := .tmp 40) rfl (cs := #[.int .i64 a, .int .i64 b]) (zs := #[.int .i64 0, .int .i64 0]) ?hr rfl rfl info_sum ?hz (by simp [Value.oneCell']) ?_; (case hr => first | (go_simp; done) | (go_simp; rfl)); (case hz => rfl); intro gs hg w5 hb1 hb; have gsr := (show gs ≠ gr by have := blk_lt GR.out; omega); clear hg; have GS := Aside0.mk hb1; have GM := Aside0.mk (Pd.blk_below GM.out hb); have GR := Aside0.mk (Pd.blk_below GR.out hb); have HB := Aside0.mk (below_step HB.out hb); clear hb hb1 u0 u1 u2 u3 u4 u5 u6 u7 u8 u9; have u0 := (show w5.cell? ⟨gm, 0, none⟩ = some (.int .i64 m.p) from (blk_cell GM.out 0).trans rfl); have u1 := (show w5.cell? ⟨gm, 1, none⟩ = some (.int .i64 m.acc) from (blk_cell GM.out 1).trans rfl); have u3 := (show w5.cell? ⟨gm, 3, none⟩ = some (.int .i64 m.pen) from (blk_cell GM.out 3).trans rfl); have u4 := (show w5.cell? ⟨gm, 4, none⟩ = some (.int .i64 m.fees) from (blk_cell GM.out 4).trans rfl); have u5 := (show w5.cell? ⟨gm, 5, none⟩ = some (.int .i64 m.un) from (blk_cell GM.out 5).trans rfl); have u7 := (show w5.cell? ⟨gm, 7, none⟩ = some (.int .i64 m.earned) from (blk_cell GM.out 7).trans rfl); have u8 := (show w5.cell? ⟨gm, 8, none⟩ = some (.int .i64 m.fined) from (blk_cell GM.out 8).trans rfl); have u9 := (show w5.cell? ⟨gm, 9, none⟩ = some (.int .i64 m.charged) from (blk_cell GM.out 9).trans rfl); have u6 := (show w5.cell? ⟨gm, 6, none⟩ = some (.int .i64 m.cash) from (blk_cell GM.out 6).trans rfl); have u2 := (show w5.cell? ⟨gm, 2, none⟩ = some (.slice D m.dues.length dc) from (blk_cell GM.out 2).trans rfl); have v0 := (show w5.cell? ⟨gs, 0, none⟩ = some (.int .i64 a) from (blk_cell GS.out 0).trans rfl); have v1 := (show w5.cell? ⟨gs, 1, none⟩ = some (.int .i64 b) from (blk_cell GS.out 1).trans rfl))
            | ((with_reducible refine gate_dst (N := 54) rfl ?_); refine build_event rfl (t := 124) rfl (cs := #[.int .i64 0, .int .i64 0]) ?hb ?_; (case hb => simp only [List.map_toArray, List.map_cons, List.map_nil]; exact built_sum0))
            | ((with_reducible refine gate_store (t := 124) (p := 2) rfl ?_); refine row_event rfl (t := 124) (p := 2) (v := .tmp 54) rfl rfl (g := gr) (cs := #[.int .i64 0, .int .i64 0]) (zs := #[.int .i64 0, .int .i64 0]) rfl rfl GR.out info_sum rfl (by simp [Value.oneCell']) ?_; intro x1 hb8 hbut; have GR := Aside0.mk hb8; have HB := Aside0.mk (But.below (by first | exact HB.out | exact Below.drew HB.out | exact pw_below_drewN HB.out _) (by first | exact HB.out.size | (simp; exact HB.out.size)) grge hbut); clear hb8 hbut))
          refine bodyPost_ret (v := .tuple #[.agg #[.int .i64 0, .int .i64 0], .bool false]) (results_cell_tmp (g := gr) (cs := #[.int .i64 0, .int .i64 0]) Tryz.results72 _ _ _ _ rfl GR.out Tryz.underlying124 rfl info_sum) rfl ?_
          exact ⟨0, 0, rfl, fun x y h => by simp at h, HB.out⟩
        · rw [if_neg (by omega)] at hrd
          subst hrd
          clear k1 k2 k3 k4 k5 k6 k7 k9 ba bb
          go_wp2_with (first
            | (go_at_call 86; (with_reducible refine (OA.out _ HB.out).mono ?_); rintro e w4 ⟨rfl, hb⟩; have GM := Aside0.mk (Pd.blk_below GM.out hb); have GR := Aside0.mk (Pd.blk_below GR.out hb); have HB := Aside0.mk (below_step HB.out hb); clear hb)
            | ((with_reducible refine gate_dst (N := 6) rfl ?_); refine copy_event rfl (N := 6) rfl rfl rfl (t := 124) (v := .tmp 40) rfl (cs := #[.int .i64 a, .int .i64 b]) (zs := #[.int .i64 0, .int .i64 0]) ?hr rfl rfl info_sum ?hz (by simp [Value.oneCell']) ?_; (case hr => first | (go_simp; done) | (go_simp; rfl)); (case hz => rfl); intro gs hg w5 hb1 hb; have gsr := (show gs ≠ gr by have := blk_lt GR.out; omega); clear hg; have GS := Aside0.mk hb1; have GM := Aside0.mk (Pd.blk_below GM.out hb); have GR := Aside0.mk (Pd.blk_below GR.out hb); have HB := Aside0.mk (below_step HB.out hb); clear hb hb1 u0 u1 u2 u3 u4 u5 u6 u7 u8 u9; have u0 := (show w5.cell? ⟨gm, 0, none⟩ = some (.int .i64 m.p) from (blk_cell GM.out 0).trans rfl); have u1 := (show w5.cell? ⟨gm, 1, none⟩ = some (.int .i64 m.acc) from (blk_cell GM.out 1).trans rfl); have u3 := (show w5.cell? ⟨gm, 3, none⟩ = some (.int .i64 m.pen) from (blk_cell GM.out 3).trans rfl); have u4 := (show w5.cell? ⟨gm, 4, none⟩ = some (.int .i64 m.fees) from (blk_cell GM.out 4).trans rfl); have u5 := (show w5.cell? ⟨gm, 5, none⟩ = some (.int .i64 m.un) from (blk_cell GM.out 5).trans rfl); have u7 := (show w5.cell? ⟨gm, 7, none⟩ = some (.int .i64 m.earned) from (blk_cell GM.out 7).trans rfl); have u8 := (show w5.cell? ⟨gm, 8, none⟩ = some (.int .i64 m.fined) from (blk_cell GM.out 8).trans rfl); have u9 := (show w5.cell? ⟨gm, 9, none⟩ = some (.int .i64 m.charged) from (blk_cell GM.out 9).trans rfl); have u6 := (show w5.cell? ⟨gm, 6, none⟩ = some (.int .i64 m.cash) from (blk_cell GM.out 6).trans rfl); have u2 := (show w5.cell? ⟨gm, 2, none⟩ = some (.slice D m.dues.length dc) from (blk_cell GM.out 2).trans rfl); have v0 := (show w5.cell? ⟨gs, 0, none⟩ = some (.int .i64 a) from (blk_cell GS.out 0).trans rfl); have v1 := (show w5.cell? ⟨gs, 1, none⟩ = some (.int .i64 b) from (blk_cell GS.out 1).trans rfl))
            | ((with_reducible refine gate_dst (N := 54) rfl ?_); refine build_event rfl (t := 124) rfl (cs := #[.int .i64 0, .int .i64 0]) ?hb ?_; (case hb => simp only [List.map_toArray, List.map_cons, List.map_nil]; exact built_sum0))
            | ((with_reducible refine gate_store (t := 124) (p := 2) rfl ?_); refine row_event rfl (t := 124) (p := 2) (v := .tmp 54) rfl rfl (g := gr) (cs := #[.int .i64 0, .int .i64 0]) (zs := #[.int .i64 0, .int .i64 0]) rfl rfl GR.out info_sum rfl (by simp [Value.oneCell']) ?_; intro x1 hb8 hbut; have GR := Aside0.mk hb8; have HB := Aside0.mk (But.below (by first | exact HB.out | exact Below.drew HB.out | exact pw_below_drewN HB.out _) (by first | exact HB.out.size | (simp; exact HB.out.size)) grge hbut); clear hb8 hbut))
          refine bodyPost_ret (v := .tuple #[.agg #[.int .i64 0, .int .i64 0], .bool false]) (results_cell_tmp (g := gr) (cs := #[.int .i64 0, .int .i64 0]) Tryz.results72 _ _ _ _ rfl GR.out Tryz.underlying124 rfl info_sum) rfl ?_
          exact ⟨0, 0, rfl, fun x y h => by simp at h, HB.out⟩
        · have s1 : IntKind.i64.wrap (m.cash + m.p) = m.cash + m.p := IntWalk.i64_in _ (by omega)
          have s2 : IntKind.i64.wrap (m.cash + m.p + m.acc) = m.cash + m.p + m.acc := IntWalk.i64_in _ (by omega)
          have s3 : IntKind.i64.wrap (m.cash + m.p + m.acc + a) = m.cash + m.p + m.acc + a := IntWalk.i64_in _ (by omega)
          have s4 : IntKind.i64.wrap (m.cash + m.p + m.acc + a + b) = m.cash + m.p + m.acc + a + b := IntWalk.i64_in _ (by omega)
          have s5 : IntKind.i64.wrap (m.cash + m.p + m.acc + a + b + m.pen) = m.cash + m.p + m.acc + a + b + m.pen := IntWalk.i64_in _ (by omega)
          obtain ⟨X, hX⟩ : ∃ X, m.cash + m.p + m.acc + a + b + m.pen + m.fees = X := ⟨_, rfl⟩
          have s6 : IntKind.i64.wrap (m.cash + m.p + m.acc + a + b + m.pen + m.fees) = X := by rw [hX]; exact IntWalk.i64_in _ (by omega)
          have r1 : IntKind.i64.wrap (m.un + m.earned) = m.un + m.earned := IntWalk.i64_in _ (by omega)
          have r2 : IntKind.i64.wrap (m.un + m.earned + m.fined) = m.un + m.earned + m.fined := IntWalk.i64_in _ (by omega)
          obtain ⟨Y, hY⟩ : ∃ Y, m.un + m.earned + m.fined + m.charged = Y := ⟨_, rfl⟩
          have r3 : IntKind.i64.wrap (m.un + m.earned + m.fined + m.charged) = Y := by rw [hY]; exact IntWalk.i64_in _ (by omega)
          rw [hX, hY] at hrd
          have n1 : decide (m.cash < -1000000000000000) = false := decide_eq_false (by omega)
          have n2 : decide (1000000000000000 < m.cash) = false := decide_eq_false (by omega)
          obtain ⟨eq, heq⟩ : ∃ q, (X == Y) = q := ⟨_, rfl⟩
          have HO := Aside0.mk (show rd.isSome = eq ∧ ∀ x y, rd = some (x, y) → a = x ∧ b = y from by
            rw [← hrd, ← heq]
            by_cases hxy : X = Y
            · rw [if_pos ⟨h, h2, hxy⟩, hxy]
              exact ⟨by simp, fun x y g => by obtain ⟨rfl, rfl⟩ := Prod.mk.inj (Option.some.inj g); exact ⟨rfl, rfl⟩⟩
            · rw [if_neg (fun g => hxy g.2.2)]
              exact ⟨by simp [hxy], fun x y g => by cases g⟩)
          clear hrd hX hY k1 k2 k3 k4 k5 k6 k7 k9 ba bb h h2
          go_wp2_with (first
            | (go_at_call 86; (with_reducible refine (OA.out _ HB.out).mono ?_); rintro e w4 ⟨rfl, hb⟩; have GM := Aside0.mk (Pd.blk_below GM.out hb); have GR := Aside0.mk (Pd.blk_below GR.out hb); have HB := Aside0.mk (below_step HB.out hb); clear hb)
            | ((with_reducible refine gate_dst (N := 6) rfl ?_); refine copy_event rfl (N := 6) rfl rfl rfl (t := 124) (v := .tmp 40) rfl (cs := #[.int .i64 a, .int .i64 b]) (zs := #[.int .i64 0, .int .i64 0]) ?hr rfl rfl info_sum ?hz (by simp [Value.oneCell']) ?_; (case hr => first | (go_simp; done) | (go_simp; rfl)); (case hz => rfl); intro gs hg w5 hb1 hb; have gsr := (show gs ≠ gr by have := blk_lt GR.out; omega); clear hg; have GS := Aside0.mk hb1; have GM := Aside0.mk (Pd.blk_below GM.out hb); have GR := Aside0.mk (Pd.blk_below GR.out hb); have HB := Aside0.mk (below_step HB.out hb); clear hb hb1 u0 u1 u2 u3 u4 u5 u6 u7 u8 u9; have u0 := (show w5.cell? ⟨gm, 0, none⟩ = some (.int .i64 m.p) from (blk_cell GM.out 0).trans rfl); have u1 := (show w5.cell? ⟨gm, 1, none⟩ = some (.int .i64 m.acc) from (blk_cell GM.out 1).trans rfl); have u3 := (show w5.cell? ⟨gm, 3, none⟩ = some (.int .i64 m.pen) from (blk_cell GM.out 3).trans rfl); have u4 := (show w5.cell? ⟨gm, 4, none⟩ = some (.int .i64 m.fees) from (blk_cell GM.out 4).trans rfl); have u5 := (show w5.cell? ⟨gm, 5, none⟩ = some (.int .i64 m.un) from (blk_cell GM.out 5).trans rfl); have u7 := (show w5.cell? ⟨gm, 7, none⟩ = some (.int .i64 m.earned) from (blk_cell GM.out 7).trans rfl); have u8 := (show w5.cell? ⟨gm, 8, none⟩ = some (.int .i64 m.fined) from (blk_cell GM.out 8).trans rfl); have u9 := (show w5.cell? ⟨gm, 9, none⟩ = some (.int .i64 m.charged) from (blk_cell GM.out 9).trans rfl); have u6 := (show w5.cell? ⟨gm, 6, none⟩ = some (.int .i64 m.cash) from (blk_cell GM.out 6).trans rfl); have u2 := (show w5.cell? ⟨gm, 2, none⟩ = some (.slice D m.dues.length dc) from (blk_cell GM.out 2).trans rfl); have v0 := (show w5.cell? ⟨gs, 0, none⟩ = some (.int .i64 a) from (blk_cell GS.out 0).trans rfl); have v1 := (show w5.cell? ⟨gs, 1, none⟩ = some (.int .i64 b) from (blk_cell GS.out 1).trans rfl)))
          have z0 := (show w5.cell? ⟨gr, 0, none⟩ = some (.int .i64 0) from (blk_cell GR.out 0).trans rfl)
          have z1 := (show w5.cell? ⟨gr, 1, none⟩ = some (.int .i64 0) from (blk_cell GR.out 1).trans rfl)
          have fz0 := frozen_of_row w5 gr 0 _ _ GR.out
          have fz1 := frozen_of_row w5 gr 1 _ _ GR.out
          have KT := Aside0.mk (keep6 GM.out GS.out gmr gsr (.int .i64 a) (.int .i64 b))
          go_region_held3 (fun W => W.cell? ⟨gm, 5, none⟩ = some (.int .i64 m.un) ∧ W.cell? ⟨gm, 7, none⟩ = some (.int .i64 m.earned) ∧ W.cell? ⟨gm, 8, none⟩ = some (.int .i64 m.fined) ∧ W.cell? ⟨gm, 9, none⟩ = some (.int .i64 m.charged) ∧ W.cell? ⟨gs, 0, none⟩ = some (.int .i64 a) ∧ W.cell? ⟨gs, 1, none⟩ = some (.int .i64 b)) (first | exact ⟨u5, u7, u8, u9, v0, v1⟩ | exact KT.out | go_keep) (fail)
          have GR := Aside0.mk (show ((w5.setCell ⟨gr, 0, none⟩ (.int .i64 a)).setCell ⟨gr, 1, none⟩ (.int .i64 b)).drew.heap[gr]? = some (.cells #[.int .i64 a, .int .i64 b] 124 (0, 0)) from blk_set (blk_set GR.out 0 _) 1 _)
          have HB := Aside0.mk (show Below w.heap.size w ((w5.setCell ⟨gr, 0, none⟩ (.int .i64 a)).setCell ⟨gr, 1, none⟩ (.int .i64 b)).drew from Below.drew (Below.setCell (Below.setCell HB.out grge _) grge _))
          go_wp2_with fail
          refine bodyPost_ret (v := .tuple #[.agg #[.int .i64 a, .int .i64 b], .bool eq]) (results_cell_tmp (g := gr) (cs := #[.int .i64 a, .int .i64 b]) Tryz.results72 _ _ _ _ rfl GR.out Tryz.underlying124 rfl info_sum) rfl ?_
          exact ⟨a, b, by rw [HO.out.1], HO.out.2, HB.out⟩
end Go.Proofs.YtbbbjjfecblhpaaGreat.Nt
/- Contracts by hand: Right, Owed. -/
namespace Go.Proofs.YtbbbjjfecblhpaaGreat.Nt
open Go.RowKit Go.Proofs.YtbbbjjfecblhpaaGreatW.PrintWords Go.Proofs.YtbbbjjfecblhpaaGreatW.PrintLast Go.Proofs.YtbbbjjfecblhpaaGreatW.PrintMore Go.Proofs.YtbbbjjfecblhpaaGreat.HW
open Go.Proofs.YtbbbjjfecblhpaaGreat.Math Go.Proofs.YtbbbjjfecblhpaaGreat.H Go.Proofs.YtbbbjjfecblhpaaGreat.Pd Go.Proofs.YtbbbjjfecblhpaaGreat.Du Go.Proofs.YtbbbjjfecblhpaaGreat.Lv Pm
set_option linter.unusedVariables false
set_option linter.unusedSimpArgs false
attribute [local go_sem] max2_int min2_int max_two min_two
theorem built_owes (m : Mny) (D : Option Addr) (dc : Nat) (a b : Int) : Tryz.prog.built 130 [(0, mv m D dc), (1, .agg #[.int .i64 a, .int .i64 b])] = some #[.int .i64 m.p, .int .i64 m.acc, .slice D m.dues.length dc, .int .i64 m.pen, .int .i64 m.fees, .int .i64 m.un, .int .i64 m.cash, .int .i64 m.earned, .int .i64 m.fined, .int .i64 m.charged, .int .i64 a, .int .i64 b] := by kernel_rfl
set_option maxRecDepth 100000 in
set_option maxHeartbeats 4000000 in
theorem right_any (m : Mny) (D : Option Addr) (dc : Nat) (w : World) (hm : MAt w m D) :
    Calls Tryz.prog 55 #[mv m D dc] w fun e w' => e = .returned (.bool (readM m).isSome) ∧ Below w.heap.size w w' := by
  have RA := Aside0.mk (fun (W : World) (hb : Below w.heap.size w W) => read_any m D dc W (hm.below hb))
  obtain ⟨rd, hrd⟩ : ∃ r, readM m = r := ⟨_, rfl⟩
  rw [hrd] at RA ⊢
  clear hm hrd
  go_enter Tryz.func55, Tryz.ntmps55
  go_wp2_with ((with_reducible refine gate_dst (N := 1) rfl ?_); refine box_event ?hg (N := 1) ?hd (cs := mcs m D dc) (t := 31) ?hr ?_; (case hd => rfl); (case hg => rfl); (case hr => first | (go_simp; done) | (go_simp; rfl)); intro gm hg w1 hb1 hb; clear hg; have GM := Aside0.mk hb1; have HB := Aside0.mk hb; clear hb1 hb; refine Hid.out ?_)
  refine Lib.hid ?_
  go_wp2_with (first
    | ((with_reducible refine gate_dst (N := 6) rfl ?_); refine wpList_load_row rfl 31 (.tmp 1) rfl gm rfl 31 _ (0, 0) _ GM.out Tryz.underlying31 rfl info_mny ?_)
    | (go_at_call 72; (with_reducible refine (RA.out _ HB.out).mono ?_); rintro e w2 ⟨a, b, rfl, hab, hb⟩; have HAB := Aside0.mk hab; have GM := Aside0.mk (Pd.blk_below GM.out hb); have HB := Aside0.mk (below_step HB.out hb); clear hb hab)
    | ((with_reducible refine gate_dst (N := 3) rfl ?_); refine copy_event rfl (N := 3) rfl rfl rfl (t := 124) (v := .tmp 8) rfl (cs := #[.int .i64 a, .int .i64 b]) (zs := #[.int .i64 0, .int .i64 0]) ?hr rfl rfl info_sum ?hz (by simp [Value.oneCell']) ?_; (case hr => first | (go_simp; done) | (go_simp; rfl)); (case hz => rfl); intro gs hg w3 hb1 hb; clear hg; have GS := Aside0.mk hb1; have GM := Aside0.mk (Pd.blk_below GM.out hb); have HB := Aside0.mk (below_step HB.out hb); clear hb hb1))
  go_ret
  exact ⟨rfl, HB.out⟩
set_option maxRecDepth 100000 in
set_option maxHeartbeats 4000000 in
theorem kind_any (m : Mny) (D : Option Addr) (dc : Nat) (a b : Int) (w : World) :
    Calls Tryz.prog 78 #[.agg #[.int .i64 m.p, .int .i64 m.acc, .slice D m.dues.length dc, .int .i64 m.pen, .int .i64 m.fees, .int .i64 m.un, .int .i64 m.cash, .int .i64 m.earned, .int .i64 m.fined, .int .i64 m.charged, .int .i64 a, .int .i64 b], .int .i64 4] w fun e w' => e = .returned (.int .i64 b) ∧ Below w.heap.size w w' := by
  go_enter Tryz.func78, Tryz.ntmps78
  go_wp2_with ((with_reducible refine gate_dst (N := 2) rfl ?_); refine box_event ?hg (N := 2) ?hd (cs := #[.int .i64 m.p, .int .i64 m.acc, .slice D m.dues.length dc, .int .i64 m.pen, .int .i64 m.fees, .int .i64 m.un, .int .i64 m.cash, .int .i64 m.earned, .int .i64 m.fined, .int .i64 m.charged, .int .i64 a, .int .i64 b]) (t := 130) ?hr ?_; (case hd => rfl); (case hg => rfl); (case hr => first | (go_simp; done) | (go_simp; rfl)); intro go hg w1 hb1 hb; clear hg; have GO := Aside0.mk hb1; have HB := Aside0.mk hb; clear hb1 hb; refine Hid.out ?_)
  refine Lib.hid ?_
  have u11 := (show w1.cell? ⟨go, 11, none⟩ = some (.int .i64 b) from (blk_cell GO.out 11).trans rfl)
  go_wp2_with fail
  go_ret
  exact ⟨rfl, HB.out⟩
set_option maxRecDepth 100000 in
set_option maxHeartbeats 4000000 in
theorem owed_any (m : Mny) (D : Option Addr) (dc : Nat) (w : World) (hm : MAt w m D) :
    Calls Tryz.prog 58 #[mv m D dc, .int .i64 4] w fun e w' => e = .returned (.int .i64 (owedP m)) ∧ Below w.heap.size w w' := by
  have RA := Aside0.mk (fun (W : World) (hb : Below w.heap.size w W) => read_any m D dc W (hm.below hb))
  have KA := Aside0.mk (fun (a b : Int) (W : World) => kind_any m D dc a b W)
  unfold owedP
  cases hrd : readM m with
  | none =>
    rw [hrd] at RA
    clear hm hrd KA
    simp only [Option.isSome_none] at RA
    go_enter Tryz.func58, Tryz.ntmps58
    go_wp2_with ((with_reducible refine gate_dst (N := 2) rfl ?_); refine box_event ?hg (N := 2) ?hd (cs := mcs m D dc) (t := 31) ?hr ?_; (case hd => rfl); (case hg => rfl); (case hr => first | (go_simp; done) | (go_simp; rfl)); intro gm hg w1 hb1 hb; clear hg; have GM := Aside0.mk hb1; have HB := Aside0.mk hb; clear hb1 hb; refine Hid.out ?_)
    refine Lib.hid ?_
    go_wp2_with (first
      | ((with_reducible refine gate_dst (N := 8) rfl ?_); refine wpList_load_row rfl 31 (.tmp 2) rfl gm rfl 31 _ (0, 0) _ GM.out Tryz.underlying31 rfl info_mny ?_)
      | (go_at_call 72; (with_reducible refine (RA.out _ HB.out).mono ?_); rintro e w2 ⟨a, b, rfl, hab, hb⟩; have HAB := Aside0.mk hab; have GM := Aside0.mk (Pd.blk_below GM.out hb); have HB := Aside0.mk (below_step HB.out hb); clear hb hab)
      | ((with_reducible refine gate_dst (N := 5) rfl ?_); refine copy_event rfl (N := 5) rfl rfl rfl (t := 124) (v := .tmp 10) rfl (cs := #[.int .i64 a, .int .i64 b]) (zs := #[.int .i64 0, .int .i64 0]) ?hr rfl rfl info_sum ?hz (by simp [Value.oneCell']) ?_; (case hr => first | (go_simp; done) | (go_simp; rfl)); (case hz => rfl); intro gs hg w3 hb1 hb; clear hg; have GS := Aside0.mk hb1; have GM := Aside0.mk (Pd.blk_below GM.out hb); have HB := Aside0.mk (below_step HB.out hb); clear hb hb1))
    go_ret
    exact ⟨rfl, HB.out⟩
  | some ab =>
    obtain ⟨x, y⟩ := ab
    rw [hrd] at RA
    clear hm hrd
    simp only [Option.isSome_some] at RA
    go_enter Tryz.func58, Tryz.ntmps58
    go_wp2_with ((with_reducible refine gate_dst (N := 2) rfl ?_); refine box_event ?hg (N := 2) ?hd (cs := mcs m D dc) (t := 31) ?hr ?_; (case hd => rfl); (case hg => rfl); (case hr => first | (go_simp; done) | (go_simp; rfl)); intro gm hg w1 hb1 hb; clear hg; have GM := Aside0.mk hb1; have HB := Aside0.mk hb; clear hb1 hb; refine Hid.out ?_)
    refine Lib.hid ?_
    go_wp2_with (first
      | ((with_reducible refine gate_dst (N := 8) rfl ?_); refine wpList_load_row rfl 31 (.tmp 2) rfl gm rfl 31 _ (0, 0) _ GM.out Tryz.underlying31 rfl info_mny ?_)
      | (go_at_call 72; (with_reducible refine (RA.out _ HB.out).mono ?_); rintro e w2 ⟨a, b, rfl, hab, hb⟩; have HAB := Aside0.mk hab; have GM := Aside0.mk (Pd.blk_below GM.out hb); have HB := Aside0.mk (below_step HB.out hb); clear hb hab)
      | ((with_reducible refine gate_dst (N := 5) rfl ?_); refine copy_event rfl (N := 5) rfl rfl rfl (t := 124) (v := .tmp 10) rfl (cs := #[.int .i64 a, .int .i64 b]) (zs := #[.int .i64 0, .int .i64 0]) ?hr rfl rfl info_sum ?hz (by simp [Value.oneCell']) ?_; (case hr => first | (go_simp; done) | (go_simp; rfl)); (case hz => rfl); intro gs hg w3 hb1 hb; clear hg; have GS := Aside0.mk hb1; have GM := Aside0.mk (Pd.blk_below GM.out hb); have HB := Aside0.mk (below_step HB.out hb); clear hb hb1)
      | ((with_reducible refine gate_dst (N := 14) rfl ?_); refine wpList_load_row rfl 31 (.tmp 2) rfl gm rfl 31 _ (0, 0) _ GM.out Tryz.underlying31 rfl info_mny ?_)
      | ((with_reducible refine gate_dst (N := 15) rfl ?_); refine wpList_load_row rfl 124 (.tmp 5) rfl gs rfl 124 _ (0, 0) _ GS.out Tryz.underlying124 rfl info_sum ?_)
      | ((with_reducible refine gate_dst (N := 16) rfl ?_); refine build_event rfl (t := 130) rfl (cs := #[.int .i64 m.p, .int .i64 m.acc, .slice D m.dues.length dc, .int .i64 m.pen, .int .i64 m.fees, .int .i64 m.un, .int .i64 m.cash, .int .i64 m.earned, .int .i64 m.fined, .int .i64 m.charged, .int .i64 a, .int .i64 b]) ?hb ?_; (case hb => simp only [List.map_toArray, List.map_cons, List.map_nil]; exact built_owes m D dc a b))
      | (go_at_call 78; (with_reducible refine (KA.out _ _ _).mono ?_); rintro e w4 ⟨rfl, hb⟩; have HB := Aside0.mk (below_step HB.out hb); clear hb))
    go_ret
    exact ⟨by have h := (HAB.out x y rfl).2; subst h; rfl, HB.out⟩
end Go.Proofs.YtbbbjjfecblhpaaGreat.Nt
/- The library's bits, as1 the printed callers ask them. -/
namespace Go.Proofs.YtbbbjjfecblhpaaGreat.H
open Go.RowKit Go.Proofs.YtbbbjjfecblhpaaGreatW.PrintWords Go.Proofs.YtbbbjjfecblhpaaGreatW.PrintLast
set_option linter.unusedVariables false
set_option linter.unusedSimpArgs false
def bits_LeadingZeros64.f (x : Int) : Option Int := if 0 ≤ x ∧ x ≤ 18446744073709551615 then some (64 - (Lib.bitLen x.toNat : Int)) else none
theorem bits_LeadingZeros64.calls (a0 r : Int) (w : World) (h : bits_LeadingZeros64.f a0 = some r) : Calls Tryz.prog 100 #[.int .u64 a0] w fun e w' => e = .returned (.int .i64 r) ∧ Drawn0 w w' := by
  unfold bits_LeadingZeros64.f at h
  split at h
  · rename_i hb
    obtain rfl := Option.some.inj h
    exact (Tryz.bits_LeadingZeros64 a0 w hb.1 hb.2).mono fun e w' ⟨h1, h2⟩ => ⟨h1, h2 ▸ Drawn0.refl _⟩
  · cases h
def bits_Mul64.f (x y : Int) : Option (Int × Int) := if 0 ≤ x ∧ x ≤ 18446744073709551615 ∧ 0 ≤ y ∧ y ≤ 18446744073709551615 then some (x * y / 18446744073709551616, x * y % 18446744073709551616) else none
theorem bits_Mul64.calls (a0 a1 r1 r2 : Int) (w : World) (h : bits_Mul64.f a0 a1 = some (r1, r2)) : Calls Tryz.prog 96 #[.int .u64 a0, .int .u64 a1] w fun e w' => e = .returned (.tuple #[.int .u64 r1, .int .u64 r2]) ∧ Drawn0 w w' := by
  unfold bits_Mul64.f at h
  split at h
  · rename_i hb
    obtain ⟨h1, h2, h3, h4⟩ := hb
    obtain ⟨x, rfl⟩ := Int.eq_ofNat_of_zero_le h1
    obtain ⟨y, rfl⟩ := Int.eq_ofNat_of_zero_le h3
    obtain ⟨rfl, rfl⟩ := Prod.mk.inj (Option.some.inj h)
    refine (Tryz.bits_Mul64 x y (by omega) (by omega) w).mono fun e w' ⟨h1, h2⟩ => ⟨?_, h2 ▸ Drawn0.refl _⟩
    rw [h1]
    simp
  · cases h
end Go.Proofs.YtbbbjjfecblhpaaGreat.H
/- Division of 128 bits by 64, digit by digit, in plain numbers. -/
namespace Go.Proofs.YtbbbjjfecblhpaaGreat.Math64

/-- One digit's guess q, with what is left by the upper half alone, r. Q: the true digit. -/
def dig (y1 y0 u d : Int) : Int := (u * 4294967296 + d) / (y1 * 4294967296 + y0)
structure Inv (y1 y0 u d q r : Int) : Prop where
  q0 : 0 ≤ q
  q1 : q ≤ 4294967297
  r0 : 0 ≤ r
  hu : u = q * y1 + r
  hq : dig y1 y0 u d ≤ q
structure Base (y1 y0 u d : Int) : Prop where
  y1lo : 2147483648 ≤ y1
  y1hi : y1 < 4294967296
  y0lo : 0 ≤ y0
  y0hi : y0 < 4294967296
  ulo : 0 ≤ u
  uhi : u < y1 * 4294967296 + y0
  dlo : 0 ≤ d
  dhi : d < 4294967296
section
variable {y1 y0 u d q r : Int} (b : Base y1 y0 u d)
include b
theorem Base.pos : 0 < y1 * 4294967296 + y0 := by have := b.y1lo; have := b.y0lo; omega
theorem dig_lo : 0 ≤ dig y1 y0 u d := Int.ediv_nonneg (by have := b.ulo; have := b.dlo; omega) (by have := b.pos; omega)
theorem dig_hi : dig y1 y0 u d < 4294967296 := by
  refine Int.ediv_lt_of_lt_mul b.pos ?_
  have := b.uhi; have := b.dhi
  omega
theorem le_dig (q : Int) : q ≤ dig y1 y0 u d ↔ q * (y1 * 4294967296 + y0) ≤ u * 4294967296 + d := Int.le_ediv_iff_mul_le b.pos
set_option linter.unusedSectionVars false in
theorem cross (q : Int) : q * (y1 * 4294967296 + y0) = (q * y1) * 4294967296 + q * y0 := by rw [Int.mul_add, ← Int.mul_assoc]
theorem mul_bd {q : Int} (h0 : 0 ≤ q) (h1 : q ≤ 4294967297) : 0 ≤ q * y0 ∧ q * y0 ≤ 18446744073709551615 := by
  have a := b.y0lo
  have c := b.y0hi
  refine ⟨Int.mul_nonneg h0 a, ?_⟩
  have := Int.mul_le_mul h1 (show y0 ≤ 4294967295 by omega) a (by omega)
  omega
theorem Inv.big (h : Inv y1 y0 u d q r) (hb : 4294967296 ≤ q) : dig y1 y0 u d < q := by have := dig_hi b; omega
theorem Inv.more (h : Inv y1 y0 u d q r) (hb : 4294967296 * r + d < q * y0) : dig y1 y0 u d < q := by
  have h1 := le_dig b q
  have h2 := cross b q
  have h3 := h.hu
  have : ¬ q ≤ dig y1 y0 u d := by rw [h1, h2]; omega
  omega
theorem Inv.done (h : Inv y1 y0 u d q r) (hb : ¬ 4294967296 * r + d < q * y0) : q = dig y1 y0 u d := by
  have h1 := le_dig b q
  have h2 := cross b q
  have h3 := h.hu
  have h4 := h.hq
  have : q ≤ dig y1 y0 u d := by rw [h1, h2]; omega
  omega
theorem Inv.next (h : Inv y1 y0 u d q r) (hl : dig y1 y0 u d < q) : Inv y1 y0 u d (q - 1) (r + y1) := by
  have h0 := dig_lo b
  have h1 := h.q1
  have h2 := h.r0
  have h3 := h.hu
  have h4 := b.y1lo
  refine ⟨by omega, by omega, by omega, ?_, by omega⟩
  rw [Int.sub_mul]; omega
theorem Inv.last (h : Inv y1 y0 u d q r) (hl : dig y1 y0 u d < q) (hr : 4294967296 ≤ r + y1) : q - 1 = dig y1 y0 u d := by
  have n := h.next b hl
  refine n.done b ?_
  have h1 := h.q1
  have h0 := dig_lo b
  have a := b.y0lo
  have c := b.y0hi
  have e := b.dlo
  have := Int.mul_le_mul (show q - 1 ≤ 4294967296 by omega) (show y0 ≤ 4294967295 by omega) a (by omega)
  omega
theorem Inv.first : Inv y1 y0 u d (u / y1) (u - u / y1 * y1) := by
  have h1 := b.y1lo
  have h2 := b.y1hi
  have h3 := b.ulo
  have h4 := b.uhi
  have h5 := b.y0hi
  have h6 := b.dhi
  have h7 := b.y0lo
  have e := Int.emod_add_mul_ediv u y1
  have m0 := Int.emod_nonneg u (show y1 ≠ 0 by omega)
  have c := Int.mul_comm y1 (u / y1)
  refine ⟨Int.ediv_nonneg h3 (by omega), ?_, by omega, by omega, ?_⟩
  · have : u / y1 < 4294967298 := Int.ediv_lt_of_lt_mul (by omega) (by omega)
    omega
  · have q := (le_dig b (dig y1 y0 u d)).1 (Int.le_refl _)
    rw [cross b] at q
    have z := (mul_bd b (dig_lo b) (by have := dig_hi b; omega)).1
    exact (Int.le_ediv_iff_mul_le (by omega)).2 (by omega)
theorem first_lt : u - u / y1 * y1 < 4294967296 := by
  have h1 := b.y1lo
  have h2 := b.y1hi
  have e := Int.emod_add_mul_ediv u y1
  have m0 := Int.emod_lt_of_pos u (show 0 < y1 by omega)
  have c := Int.mul_comm y1 (u / y1)
  omega
/-- What is left behind a digit. -/
theorem left_bd : 0 ≤ u * 4294967296 + d - dig y1 y0 u d * (y1 * 4294967296 + y0) ∧ u * 4294967296 + d - dig y1 y0 u d * (y1 * 4294967296 + y0) < y1 * 4294967296 + y0 := by
  have e := Int.emod_add_mul_ediv (u * 4294967296 + d) (y1 * 4294967296 + y0)
  have m0 := Int.emod_nonneg (u * 4294967296 + d) (show y1 * 4294967296 + y0 ≠ 0 by have := b.pos; omega)
  have m1 := Int.emod_lt_of_pos (u * 4294967296 + d) b.pos
  have c := Int.mul_comm (y1 * 4294967296 + y0) (dig y1 y0 u d)
  unfold dig at *
  omega
end
/-- Two digits are the quotient. -/
theorem two_digits {y u d e q1 q0 r : Int} (hy : 0 < y) (h1 : u * 4294967296 + d - q1 * y = r) (h2 : 0 ≤ r * 4294967296 + e - q0 * y) (h3 : r * 4294967296 + e - q0 * y < y) :
    (u * 18446744073709551616 + d * 4294967296 + e) / y = q1 * 4294967296 + q0 ∧ (u * 18446744073709551616 + d * 4294967296 + e) % y = r * 4294967296 + e - q0 * y := by
  have a : (q1 * 4294967296 + q0) * y = (q1 * y) * 4294967296 + q0 * y := by rw [Int.add_mul, Int.mul_assoc, Int.mul_comm 4294967296 y, ← Int.mul_assoc]
  have hd : (u * 18446744073709551616 + d * 4294967296 + e) / y = q1 * 4294967296 + q0 := by
    have l1 := (Int.le_ediv_iff_mul_le hy).2 (show (q1 * 4294967296 + q0) * y ≤ u * 18446744073709551616 + d * 4294967296 + e by rw [a]; omega)
    have l2 := Int.ediv_lt_of_lt_mul hy (show u * 18446744073709551616 + d * 4294967296 + e < (q1 * 4294967296 + q0 + 1) * y by rw [Int.add_mul, a]; omega)
    omega
  refine ⟨hd, ?_⟩
  have e1 := Int.emod_add_mul_ediv (u * 18446744073709551616 + d * 4294967296 + e) y
  rw [hd, Int.mul_comm y, a] at e1
  omega

/-- How many bits a number has. -/
theorem bitLen_aux : ∀ (f x : Nat), x < 2 ^ f → x ≠ 0 → 1 ≤ Lib.bitLenAux f x ∧ Lib.bitLenAux f x ≤ f ∧ 2 ^ (Lib.bitLenAux f x - 1) ≤ x ∧ x < 2 ^ (Lib.bitLenAux f x) := by
  intro f
  induction f with
  | zero => intro x h h0; simp at h; omega
  | succ f ih =>
    intro x h h0
    simp only [Lib.bitLenAux, if_neg h0]
    by_cases hx : x / 2 = 0
    · have e : Lib.bitLenAux f (x / 2) = 0 := by rw [hx]; cases f <;> simp [Lib.bitLenAux]
      rw [e]
      refine ⟨by omega, by omega, ?_, ?_⟩ <;> simp <;> omega
    · have hp : 2 ^ (f + 1) = 2 * 2 ^ f := by rw [Nat.pow_succ]; omega
      obtain ⟨a, b, c, d⟩ := ih (x / 2) (by omega) hx
      generalize Lib.bitLenAux f (x / 2) = L at *
      obtain ⟨L, rfl⟩ : ∃ m, L = m + 1 := ⟨L - 1, by omega⟩
      have e1 : 2 ^ (1 + (L + 1) - 1) = 2 * 2 ^ L := by rw [show 1 + (L + 1) - 1 = L + 1 by omega, Nat.pow_succ]; omega
      have e2 : 2 ^ (1 + (L + 1)) = 2 * 2 ^ (L + 1) := by rw [show 1 + (L + 1) = (L + 1) + 1 by omega, Nat.pow_succ]; omega
      rw [show L + 1 - 1 = L by omega] at c
      rw [e1, e2]
      exact ⟨by omega, by omega, by omega, by omega⟩
theorem bitLen_spec {x : Nat} (h : x < 18446744073709551616) (h0 : x ≠ 0) : 1 ≤ Lib.bitLen x ∧ Lib.bitLen x ≤ 64 ∧ 2 ^ (Lib.bitLen x - 1) ≤ x ∧ x < 2 ^ (Lib.bitLen x) := bitLen_aux 64 x h h0
end Go.Proofs.YtbbbjjfecblhpaaGreat.Math64
-- Written by a program of this session (wip/tools/myprint.py) with the help of the printer of the kit; Lean checks it.
namespace Go.Proofs.YtbbbjjfecblhpaaGreat.PM
open Go.RowKit Go.Proofs.YtbbbjjfecblhpaaGreatW.PrintWords Go.Proofs.YtbbbjjfecblhpaaGreatW.PrintLast Go.Proofs.YtbbbjjfecblhpaaGreatW.PrintMore Go.Proofs.YtbbbjjfecblhpaaGreat.HW
attribute [local go_sem] run_makeFunc_ max2_int min2_int max_two min_two max_three min_three max_four min_four   -- for this text's walks alone
set_option linter.unusedVariables false
set_option linter.unusedSimpArgs false



def errW : Option Int → Value
  | none => .nilIface
  | some c => .iface 0 (.int .i64 c)
theorem errW_none : errW none = .nilIface := rfl
theorem errW_some (c : Int) : errW (some c) = .iface 0 (.int .i64 c) := rfl

-- the values' own types

end Go.Proofs.YtbbbjjfecblhpaaGreat.PM
