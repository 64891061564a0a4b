/- Texts of this claim, joined in build order. -/
import Derived.Below
import Derived.Deep.Draws
import Derived.Deep.AppendLies
import Derived.Maps.AppendAt
import Derived.OwnWalk
import Derived.Laws.BytesArg
import Derived.Laws.MakeOwn
import Derived.Laws.OwnMore
import Derived.Tactics
import Derived.Lib.ConvBytes
import Derived.Laws.Slices
import Derived.WalkKit
import Derived.KernelRfl
import Derived.RowKit3
import Derived.Deep.LoopGhost
import Derived.Deep.QuietTactic
import Derived.BigQuiet
import Derived.WideLaws
import Derived.Deep.DeepCutAuto
import Derived.Deep.CutBlock
import Derived.Deep.RegionHeld3
import Derived.Lib.AppendStr
import Derived.ArgAppend
import Derived.Laws.IdiomCopy
import Derived.RowKit
import Derived.OrdersHeld
import Derived.Laws.BitsLemmas
import Derived.Test.YtfmkdledofbhdaaProg
import Derived.Laws.StructEq
import Derived.WalkLawsBesides
import Derived.WalkSpells
import Derived.IntWalk
import Derived.Lib.IndexMore
import Derived.Deep.Slices
import Derived.Deep.Fields
import Derived.ChangeSame
import Derived.Lib.SmallJoins
import Derived.ProofKit
import Derived.Defers
import Derived.Laws.Tables
import Derived.Deep.WholeRow
import Derived.Recover
import Derived.StillTailTactics
import Derived.Shelf.Small.Bits
import Derived.Shelf.Strconv.Itoa0
import Derived.Shelf.Strings.Search1
import Derived.Shelf.Strings.Search2
import Derived.Shelf.Strings.Search3
import Derived.Shelf.LaysM
import Derived.Shelf.Strings.Shaped
import Derived.Shelf.Bits.Mul64
import Derived.Lib.SlBytesConst
import Derived.Deep.RegionWith
import Derived.Lib.Hide
import Derived.BigFrame
import Derived.Lib.BitFns
import Derived.Laws.BitsAllLaws
import Derived.Laws.Externs
import Derived.RegionTactic
import Derived.Deep.MidRow
import Derived.OpenShut
import Derived.ShutString
import Derived.ChangeOld
import Derived.Laws.IdiomArrays
import Derived.SizedLaws
import Derived.HandedShaped
import Derived.Shelf.Vars
import Derived.Test.YtfmkdledofbhdaaJL1
import Derived.Test.YtfmkdledofbhdaaJL2
set_option linter.unusedVariables false
set_option linter.unusedSimpArgs false
-- Written by a program of this session (wip/tools/myprint.py) with the help of the printer of the kit; Lean checks it.
namespace Go.Proofs.Ytfmkdledofbhdaa.PD
open Go.RowKit Go.Proofs.YtfmkdledofbhdaaW.PrintWords Go.Proofs.YtfmkdledofbhdaaW.PrintLast Go.Proofs.YtfmkdledofbhdaaW.PrintMore Go.Proofs.Ytfmkdledofbhdaa.HW
attribute [local go_sem] run_makeFunc_ max2_int min2_int max_two min_two max_three min_three max_four min_four   -- for this text's walks alone
set_option linter.unusedVariables false
set_option linter.unusedSimpArgs false

/-! ### monthly_Add: function 89 -/
def monthly_Add.j0 : Nat → Int → Bool → Int → Int → Int → Option (Int × Int)
  | 0, _, _, _, _, _ => none
  | k + 1, x1, x23, x106000, x106001, x106002 => if x23 = true then (some (0, 5)) else ((Go.Proofs.Ytfmkdledofbhdaa.H.civil_Month.f (wrap64 (Int.tdiv (wrap64 ((wrap64 ((wrap64 ((wrap64 (12 * x106000)) + x106001)) - 1)) + x1)) 12)) (wrap64 ((Int.tmod (wrap64 ((wrap64 ((wrap64 ((wrap64 (12 * x106000)) + x106001)) - 1)) + x1)) 12) + 1))).bind fun t107 => ((Go.Proofs.Ytfmkdledofbhdaa.H.civil_Number.f (wrap64 (Int.tdiv (wrap64 ((wrap64 ((wrap64 ((wrap64 (12 * x106000)) + x106001)) - 1)) + x1)) 12)) (wrap64 ((Int.tmod (wrap64 ((wrap64 ((wrap64 ((wrap64 (12 * x106000)) + x106001)) - 1)) + x1)) 12) + 1)) (mn x106002 t107)).bind fun bt108 => (some (bt108.1, bt108.2))))
def monthly_Add.f (k : Nat) (a0 : Int) (a1 : Int) : Option (Int × Int) := (Go.Proofs.Ytfmkdledofbhdaa.H.civil_Date.f a0).bind fun bt101 => (if bt101.2.2.2 = 0 then (if a1 < (-3612) then (monthly_Add.j0 k a1 true bt101.1 bt101.2.1 bt101.2.2.1) else (monthly_Add.j0 k a1 (decide (a1 > 3612)) bt101.1 bt101.2.1 bt101.2.2.1)) else (some (0, bt101.2.2.2)))
theorem monthly_Add.mono_l : ∀ k, (∀ y0 y1 y2 y3 y4, LeO (monthly_Add.j0 k y0 y1 y2 y3 y4) (monthly_Add.j0 (k + 1) y0 y1 y2 y3 y4))
  | 0 => fun _ _ _ _ _ r h => by simp [monthly_Add.j0] at h
  | k + 1 => by
    have ih0 := monthly_Add.mono_l k
    · intro y0 y1 y2 y3 y4
      unfold monthly_Add.j0
      repeat' first
      | (with_reducible exact ih0 _ _ _ _ _)
      | (with_reducible exact LeO.refl _)
      | (with_reducible exact LeO.none _)
      | (with_reducible refine LeO.ite ?_ ?_)
      | (with_reducible refine LeO.bind ?_ (fun _ => ?_))
      | exact ih0 _ _ _ _ _
      | exact LeO.none _
      | refine LeO.ite ?_ ?_
      | refine LeO.bind ?_ (fun _ => ?_)
theorem monthly_Add.mono : ∀ a0 a1 k, LeO (monthly_Add.f k a0 a1) (monthly_Add.f (k + 1) a0 a1) := by
  intro a0 a1 k
  have ih0 := monthly_Add.mono_l k
  unfold monthly_Add.f
  repeat' first
      | (with_reducible exact ih0 _ _ _ _ _)
      | (with_reducible exact LeO.refl _)
      | (with_reducible exact LeO.none _)
      | (with_reducible refine LeO.ite ?_ ?_)
      | (with_reducible refine LeO.bind ?_ (fun _ => ?_))
      | exact ih0 _ _ _ _ _
      | exact LeO.none _
      | refine LeO.ite ?_ ?_
      | refine LeO.bind ?_ (fun _ => ?_)
def monthly_Add.T8 : Bool × List (List Nat × List Nat) := (true, [([], []), ([0], [0]), ([], []), ([2], [2]), ([], []), ([4], [4]), ([3, 5], [3, 5]), ([1, 6], [1, 6]), ([0, 1, 2, 3, 4, 5, 6, 7], []), ([8, 7, 6, 0, 1, 2, 3, 4, 5, 6, 7], [7, 8])])
def monthly_Add.B8 : List Nat := [0, 1, 0, 4, 0, 16, 60, 127, 255, 511]
theorem monthly_Add.tab8 : rtab .any (opsOf Try.f89 8) = monthly_Add.T8 := by kernel_rfl
theorem monthly_Add.bits8 : waitsOk monthly_Add.T8.2 monthly_Add.B8 = true := by kernel_rfl
set_option maxHeartbeats 8000000 in
set_option maxRecDepth 100000 in
theorem monthly_Add.calls (k : Nat) (a0 : Int) (a1 : Int) (r1 : Int) (r2 : Int) (w : World) (h : monthly_Add.f k a0 a1 = some (r1, r2)) :
    Calls Try.prog 89 #[.int .i64 a0, .int .i64 a1] w fun e w' => e = .returned (.tuple #[.int .i64 r1, .int .i64 r2]) ∧ Below w.heap.size w w' := by
  have hu114 := Try.underlying114
  have HB := Aside0.mk (Below.refl w.heap.size w)
  have H : ((Go.Proofs.Ytfmkdledofbhdaa.H.civil_Date.f a0).bind fun bt101 => (if bt101.2.2.2 = 0 then (if a1 < (-3612) then (monthly_Add.j0 k a1 true bt101.1 bt101.2.1 bt101.2.2.1) else (monthly_Add.j0 k a1 (decide (a1 > 3612)) bt101.1 bt101.2.1 bt101.2.2.1)) else (some (0, bt101.2.2.2)))) = some (r1, r2) := h
  clear h
  replace H := Option.bind_eq_some_iff.mp H
  obtain ⟨⟨t101, t102, t103, t104⟩, A30, H⟩ := H
  replace H : (if t104 = 0 then (if a1 < (-3612) then (monthly_Add.j0 k a1 true t101 t102 t103) else (monthly_Add.j0 k a1 (decide (a1 > 3612)) t101 t102 t103)) else (some (0, t104))) = some (r1, r2) := H
  have A3 := Aside0.mk A30
  clear A30
  by_cases c4 : t104 = 0
  · rw [if_pos c4] at H
    have c4b0 : (t104 == 0) = true := beq_iff_eq.mpr c4
    have c4b1 : (t104 != 0) = false := bne_eq_false_iff_eq.mpr c4
    clear c4
    have HC5 := Aside0.mk H
    clear H
    go_enter Try.func89, Try.ntmps89
    go_upto_region 4 with (first | ((with_reducible refine gate_callee (f := 97) rfl ?_); refine goesL_ (some 12) rfl rfl Try.func97 (by kernel_rfl) rfl #[.int .i64 a0] rfl (by (try simp only [List.map_toArray, List.map_cons, List.map_nil]); first | done | rfl | (simp only [List.length_drop, List.length_take]; rfl)) ?_; (with_reducible refine (Go.Proofs.Ytfmkdledofbhdaa.H.civil_Date.calls a0 t101 t102 t103 t104 _ A3.out).mono ?_); rintro e w6 ⟨rfl, hb⟩; refine ⟨_, rfl, ?_⟩; have n0_ := Aside0.mk (below_step (by repeat (first | (with_reducible first | exact HB.out | apply below_alloc | apply pw_below_drewN | apply below_drew1) | exact HB.out)) hb); clear HB; have HB := n0_; clear n0_; (try clear hb); (try clear hb2); (try clear hk); (try clear hi)) | ((with_reducible refine gate_dst (N := 6) rfl ?_); refine box_event ?hg (N := 6) ?hd (cs := #[.int .i64 0, .int .i64 0, .int .i64 0]) (t := 114) ?hr ?_; (case hd => rfl); (case hg => rfl); (case hr => first | (go_simp; done) | (go_simp; rfl)); intro gb105 hg w7 hbox hb; have n0_ := Aside0.mk (below_step (by repeat (first | (with_reducible first | exact HB.out | apply below_alloc | apply pw_below_drewN | apply below_drew1) | exact HB.out)) hb); have n1_ := Aside0.mk (hbox); have n2_ := Aside0.mk ((by rw [hg]; exact (below_size (by repeat (first | (with_reducible first | exact HB.out | apply below_alloc | apply pw_below_drewN | apply below_drew1) | exact HB.out))) : w.heap.size ≤ gb105)); have n3_ := Aside0.mk ((by rw [hg]; exact (below_size (by repeat (first | (with_reducible first | exact HB.out | apply below_alloc | apply pw_below_drewN | apply below_drew1) | exact HB.out))) : w.heap.size ≤ gb105)); clear HB; have HB := n0_; have BK105 := n1_; have GW105 := n2_; have GE105 := n3_; clear n0_ n1_ n2_ n3_; clear hb hbox hg; (try have hu105_0 : w7.cell? ⟨gb105, 0, none⟩ = some (.int .i64 0) := (blk_cell BK105.out 0).trans rfl); (try have hu105_1 : w7.cell? ⟨gb105, 1, none⟩ = some (.int .i64 0) := (blk_cell BK105.out 1).trans rfl); (try have hu105_2 : w7.cell? ⟨gb105, 2, none⟩ = some (.int .i64 0) := (blk_cell BK105.out 2).trans rfl); (try have hv105_0 := blk_frozen BK105.out 0); (try have hv105_1 := blk_frozen BK105.out 1); (try have hv105_2 := blk_frozen BK105.out 2); have hcz8_0 : w7.cell? ⟨gb105, 0, none⟩ = some (.int .i64 0) := (blk_cell BK105.out 0).trans rfl; have hcz8_1 : w7.cell? ⟨gb105, 1, none⟩ = some (.int .i64 0) := (blk_cell BK105.out 1).trans rfl; have hcz8_2 : w7.cell? ⟨gb105, 2, none⟩ = some (.int .i64 0) := (blk_cell BK105.out 2).trans rfl; have hfz8_0 := blk_frozen BK105.out 0; have hfz8_1 := blk_frozen BK105.out 1; have hfz8_2 := blk_frozen BK105.out 2))
    (try simp only [Act.put, List.setIfInBounds_toArray, List.set_cons_zero, List.set_cons_succ])
    go_cut [23] (fun v23 wc => ∃ (kq : Nat) (x23_4 : Bool), v23 = .bool x23_4 ∧ Aside0 (monthly_Add.j0 kq a1 x23_4 t101 t102 t103 = some (r1, r2)) ∧ Aside0 (kq ≤ k) ∧ Aside0 (wc.heap[gb105]? = some (.cells #[.int .i64 t101, .int .i64 t102, .int .i64 t103] 114 (0, 0))) ∧ Aside0 (Below w.heap.size w wc))
    case first =>
      have H := HC5.out
      clear HC5
      by_cases c9 : a1 < (-3612)
      · rw [if_pos c9] at H
        have c9b0 : decide (a1 < (-3612)) = true := decide_eq_true c9
        clear c9
        (first | rw [c9b0] | (simp only [i64_w, i32_w]; rw [c9b0]) | skip)
        have H' := Aside0.mk H
        clear H
        go_wp2
        go_meet
        case rel => exact ⟨_, (true), (by first | rfl | (simp; done) | (simp [*]; done)), H', ⟨by first | omega | exact Nat.le_refl _⟩, ⟨by (with_reducible repeat (first | refine blk_drewN ?_ _ | refine blk_drew ?_ | refine blk_alloc ?_ _)); refine blk_put (cs := #[.int .i64 t101, .int .i64 t102, .int .i64 0]) ?_ 2 _ rfl; (with_reducible repeat (first | refine blk_drewN ?_ _ | refine blk_drew ?_ | refine blk_alloc ?_ _)); refine blk_put (cs := #[.int .i64 t101, .int .i64 0, .int .i64 0]) ?_ 1 _ rfl; (with_reducible repeat (first | refine blk_drewN ?_ _ | refine blk_drew ?_ | refine blk_alloc ?_ _)); refine blk_put (cs := #[.int .i64 0, .int .i64 0, .int .i64 0]) ?_ 0 _ rfl; (with_reducible repeat (first | refine blk_drewN ?_ _ | refine blk_drew ?_ | refine blk_alloc ?_ _)); exact BK105.out⟩, ⟨by repeat (first | (with_reducible first | exact HB.out | apply below_alloc | apply pw_below_drewN | apply below_drew1 | refine below_set ?_ GE105.out) | exact HB.out)⟩⟩
      · rw [if_neg c9] at H
        have c9b0 : decide (a1 < (-3612)) = false := decide_eq_false c9
        clear c9
        (first | rw [c9b0] | (simp only [i64_w, i32_w]; rw [c9b0]) | skip)
        have H' := Aside0.mk H
        clear H
        go_wp2
        go_meet
        case rel => exact ⟨_, (decide (a1 > 3612)), (by first | rfl | (simp; done) | (simp [*]; done)), H', ⟨by first | omega | exact Nat.le_refl _⟩, ⟨by (with_reducible repeat (first | refine blk_drewN ?_ _ | refine blk_drew ?_ | refine blk_alloc ?_ _)); refine blk_put (cs := #[.int .i64 t101, .int .i64 t102, .int .i64 0]) ?_ 2 _ rfl; (with_reducible repeat (first | refine blk_drewN ?_ _ | refine blk_drew ?_ | refine blk_alloc ?_ _)); refine blk_put (cs := #[.int .i64 t101, .int .i64 0, .int .i64 0]) ?_ 1 _ rfl; (with_reducible repeat (first | refine blk_drewN ?_ _ | refine blk_drew ?_ | refine blk_alloc ?_ _)); refine blk_put (cs := #[.int .i64 0, .int .i64 0, .int .i64 0]) ?_ 0 _ rfl; (with_reducible repeat (first | refine blk_drewN ?_ _ | refine blk_drew ?_ | refine blk_alloc ?_ _)); exact BK105.out⟩, ⟨by repeat (first | (with_reducible first | exact HB.out | apply below_alloc | apply pw_below_drewN | apply below_drew1 | refine below_set ?_ GE105.out) | exact HB.out)⟩⟩
    case rest =>
      clear HC5
      try clear p2
      try clear c4
      try clear c4b0
      try clear c4b1
      try clear c8
      try clear c9
      try clear c9b0
      try clear hcz8_0
      try clear hcz8_1
      try clear hcz8_2
      try clear hfz8_0
      try clear hfz8_1
      try clear hfz8_2
      obtain ⟨kq, x23_4, rfl, HA, HJ4, BK105, HB⟩ := hcut
      cases kq with
      | zero => exact absurd HA.out (by simp [monthly_Add.j0])
      | succ kj4 =>
        have H := HA.out
        clear HA
        simp only [monthly_Add.j0] at H
        by_cases c10 : x23_4 = true
        · subst c10
          have H1 : (some (0, 5)) = some (r1, r2) := by rw [if_pos rfl] at H; exact H
          clear H
          have H := H1
          clear H1
          simp only [Option.some.injEq, Prod.mk.injEq] at H
          obtain ⟨rfl, rfl⟩ := H
          go_wp2
          go_ret2
          exact ⟨by first | rfl | (simp [errW_none, errW_some] <;> rfl) | (simp [*, errW_none, errW_some] <;> rfl), by repeat (first | (with_reducible first | exact HB.out | apply below_alloc | apply pw_below_drewN | apply below_drew1 | refine below_set ?_ GE105.out) | exact HB.out)⟩
        · replace c10 := Bool.eq_false_iff.mpr c10
          subst c10
          have H1 : ((Go.Proofs.Ytfmkdledofbhdaa.H.civil_Month.f (wrap64 (Int.tdiv (wrap64 ((wrap64 ((wrap64 ((wrap64 (12 * t101)) + t102)) - 1)) + a1)) 12)) (wrap64 ((Int.tmod (wrap64 ((wrap64 ((wrap64 ((wrap64 (12 * t101)) + t102)) - 1)) + a1)) 12) + 1))).bind fun t107 => ((Go.Proofs.Ytfmkdledofbhdaa.H.civil_Number.f (wrap64 (Int.tdiv (wrap64 ((wrap64 ((wrap64 ((wrap64 (12 * t101)) + t102)) - 1)) + a1)) 12)) (wrap64 ((Int.tmod (wrap64 ((wrap64 ((wrap64 ((wrap64 (12 * t101)) + t102)) - 1)) + a1)) 12) + 1)) (mn t103 t107)).bind fun bt108 => (some (bt108.1, bt108.2)))) = some (r1, r2) := by rw [if_neg (show ¬ (false = true) by decide)] at H; exact H
          clear H
          have H := H1
          clear H1
          replace H := Option.bind_eq_some_iff.mp H
          obtain ⟨t107, A110, H⟩ := H
          replace H : ((Go.Proofs.Ytfmkdledofbhdaa.H.civil_Number.f (wrap64 (Int.tdiv (wrap64 ((wrap64 ((wrap64 ((wrap64 (12 * t101)) + t102)) - 1)) + a1)) 12)) (wrap64 ((Int.tmod (wrap64 ((wrap64 ((wrap64 ((wrap64 (12 * t101)) + t102)) - 1)) + a1)) 12) + 1)) (mn t103 t107)).bind fun bt108 => (some (bt108.1, bt108.2))) = some (r1, r2) := H
          have A11 := Aside0.mk A110
          clear A110
          obtain ⟨ji12, hji12⟩ : ∃ j_ : Int, (mn t103 t107) = j_ := ⟨_, rfl⟩
          replace H : ((Go.Proofs.Ytfmkdledofbhdaa.H.civil_Number.f (wrap64 (Int.tdiv (wrap64 ((wrap64 ((wrap64 ((wrap64 (12 * t101)) + t102)) - 1)) + a1)) 12)) (wrap64 ((Int.tmod (wrap64 ((wrap64 ((wrap64 ((wrap64 (12 * t101)) + t102)) - 1)) + a1)) 12) + 1)) (ji12)).bind fun bt108 => (some (bt108.1, bt108.2))) = some (r1, r2) := by first | (rw [hji12] at H; exact H) | (simp only [hji12] at H ⊢; exact H)
          (try rw [hji12] at A11)
          have hji12_ : (if t107 < t103 then t107 else t103) = ji12 := hji12
          replace H := Option.bind_eq_some_iff.mp H
          obtain ⟨⟨t108, t109⟩, A130, H⟩ := H
          replace H : (some (t108, t109)) = some (r1, r2) := H
          have A13 := Aside0.mk A130
          clear A130
          simp only [Option.some.injEq, Prod.mk.injEq] at H
          obtain ⟨rfl, rfl⟩ := H
          have hcz14_0 : wc.cell? ⟨gb105, 0, none⟩ = some (.int .i64 t101) := (blk_cell BK105.out 0).trans rfl
          have hcz14_1 : wc.cell? ⟨gb105, 1, none⟩ = some (.int .i64 t102) := (blk_cell BK105.out 1).trans rfl
          have hcz14_2 : wc.cell? ⟨gb105, 2, none⟩ = some (.int .i64 t103) := (blk_cell BK105.out 2).trans rfl
          have hfz14_0 := blk_frozen BK105.out 0
          have hfz14_1 := blk_frozen BK105.out 1
          have hfz14_2 := blk_frozen BK105.out 2
          try go_wp2_with (first | ((with_reducible refine gate_dst (N := 9) rfl ?_); refine box_event ?hg (N := 9) ?hd (cs := #[.int .i64 0, .int .i64 0, .int .i64 0]) (t := 114) ?hr ?_; (case hd => rfl); (case hg => rfl); (case hr => first | (go_simp; done) | (go_simp; rfl)); intro gb106 hg w15 hbox hb; have n0_ := Aside0.mk (blk_below (g := gb105) (o := .cells #[.int .i64 t101, .int .i64 t102, .int .i64 t103] 114 (0, 0)) (by (with_reducible repeat (first | refine blk_drewN ?_ _ | refine blk_drew ?_ | refine blk_alloc ?_ _)); exact BK105.out) hb); have n1_ := Aside0.mk (below_step (by repeat (first | (with_reducible first | exact HB.out | apply below_alloc | apply pw_below_drewN | apply below_drew1 | refine below_set ?_ GE105.out) | exact HB.out)) hb); have n2_ := Aside0.mk (hbox); have n3_ := Aside0.mk ((by rw [hg]; exact (below_size (by repeat (first | (with_reducible first | exact HB.out | apply below_alloc | apply pw_below_drewN | apply below_drew1 | refine below_set ?_ GE105.out) | exact HB.out))) : w.heap.size ≤ gb106)); have n4_ := Aside0.mk ((by rw [hg]; exact (below_size (by repeat (first | (with_reducible first | exact HB.out | apply below_alloc | apply pw_below_drewN | apply below_drew1 | refine below_set ?_ GE105.out) | exact HB.out))) : w.heap.size ≤ gb106)); have n5_ := Aside0.mk ((by rw [hg]; exact Nat.ne_of_lt (blk_lt (g := gb105) (o := .cells #[.int .i64 t101, .int .i64 t102, .int .i64 t103] 114 (0, 0)) (by (with_reducible repeat (first | refine blk_drewN ?_ _ | refine blk_drew ?_ | refine blk_alloc ?_ _)); exact BK105.out)) : gb105 ≠ gb106)); have n6_ := Aside0.mk ((by rw [hg]; exact Nat.ne_of_gt (blk_lt (g := gb105) (o := .cells #[.int .i64 t101, .int .i64 t102, .int .i64 t103] 114 (0, 0)) (by (with_reducible repeat (first | refine blk_drewN ?_ _ | refine blk_drew ?_ | refine blk_alloc ?_ _)); exact BK105.out)) : gb106 ≠ gb105)); clear BK105; clear HB; have BK105 := n0_; have HB := n1_; have BK106 := n2_; have GW106 := n3_; have GE106 := n4_; have NB105_106 := n5_; have NB106_105 := n6_; clear n0_ n1_ n2_ n3_ n4_ n5_ n6_; clear hb hbox hg; (try have hu105_0 : w15.cell? ⟨gb105, 0, none⟩ = some (.int .i64 t101) := (blk_cell BK105.out 0).trans rfl); (try have hu105_1 : w15.cell? ⟨gb105, 1, none⟩ = some (.int .i64 t102) := (blk_cell BK105.out 1).trans rfl); (try have hu105_2 : w15.cell? ⟨gb105, 2, none⟩ = some (.int .i64 t103) := (blk_cell BK105.out 2).trans rfl); (try have hv105_0 := blk_frozen BK105.out 0); (try have hv105_1 := blk_frozen BK105.out 1); (try have hv105_2 := blk_frozen BK105.out 2); (try have hu106_0 : w15.cell? ⟨gb106, 0, none⟩ = some (.int .i64 0) := (blk_cell BK106.out 0).trans rfl); (try have hu106_1 : w15.cell? ⟨gb106, 1, none⟩ = some (.int .i64 0) := (blk_cell BK106.out 1).trans rfl); (try have hu106_2 : w15.cell? ⟨gb106, 2, none⟩ = some (.int .i64 0) := (blk_cell BK106.out 2).trans rfl); (try have hv106_0 := blk_frozen BK106.out 0); (try have hv106_1 := blk_frozen BK106.out 1); (try have hv106_2 := blk_frozen BK106.out 2); have hnb16 := NB106_105.out; have hnc16 := NB105_106.out; have hcz17_0 : w15.cell? ⟨gb106, 0, none⟩ = some (.int .i64 0) := (blk_cell BK106.out 0).trans rfl; have hcz17_1 : w15.cell? ⟨gb106, 1, none⟩ = some (.int .i64 0) := (blk_cell BK106.out 1).trans rfl; have hcz17_2 : w15.cell? ⟨gb106, 2, none⟩ = some (.int .i64 0) := (blk_cell BK106.out 2).trans rfl; have hfz17_0 := blk_frozen BK106.out 0; have hfz17_1 := blk_frozen BK106.out 1; have hfz17_2 := blk_frozen BK106.out 2))
          have n0_ : Aside0 ((((w15.setCell ⟨gb106, 0, none⟩ (.int .i64 (wrap64 (Int.tdiv (wrap64 ((wrap64 ((wrap64 ((wrap64 (12 * t101)) + t102)) - 1)) + a1)) 12)))).setCell ⟨gb106, 1, none⟩ (.int .i64 (wrap64 ((Int.tmod (wrap64 ((wrap64 ((wrap64 ((wrap64 (12 * t101)) + t102)) - 1)) + a1)) 12) + 1)))).setCell ⟨gb106, 2, none⟩ (.int .i64 0)).heap[gb105]? = some (.cells #[.int .i64 t101, .int .i64 t102, .int .i64 t103] 114 (0, 0))) := ⟨by (with_reducible repeat (first | refine blk_drewN ?_ _ | refine blk_drew ?_ | refine blk_alloc ?_ _)); refine blk_far ?_ NB105_106.out _; (with_reducible repeat (first | refine blk_drewN ?_ _ | refine blk_drew ?_ | refine blk_alloc ?_ _)); refine blk_far ?_ NB105_106.out _; (with_reducible repeat (first | refine blk_drewN ?_ _ | refine blk_drew ?_ | refine blk_alloc ?_ _)); refine blk_far ?_ NB105_106.out _; (with_reducible repeat (first | refine blk_drewN ?_ _ | refine blk_drew ?_ | refine blk_alloc ?_ _)); exact BK105.out⟩
          have n1_ : Aside0 ((((w15.setCell ⟨gb106, 0, none⟩ (.int .i64 (wrap64 (Int.tdiv (wrap64 ((wrap64 ((wrap64 ((wrap64 (12 * t101)) + t102)) - 1)) + a1)) 12)))).setCell ⟨gb106, 1, none⟩ (.int .i64 (wrap64 ((Int.tmod (wrap64 ((wrap64 ((wrap64 ((wrap64 (12 * t101)) + t102)) - 1)) + a1)) 12) + 1)))).setCell ⟨gb106, 2, none⟩ (.int .i64 0)).heap[gb106]? = some (.cells #[.int .i64 (wrap64 (Int.tdiv (wrap64 ((wrap64 ((wrap64 ((wrap64 (12 * t101)) + t102)) - 1)) + a1)) 12)), .int .i64 (wrap64 ((Int.tmod (wrap64 ((wrap64 ((wrap64 ((wrap64 (12 * t101)) + t102)) - 1)) + a1)) 12) + 1)), .int .i64 0] 114 (0, 0))) := ⟨by (with_reducible repeat (first | refine blk_drewN ?_ _ | refine blk_drew ?_ | refine blk_alloc ?_ _)); refine blk_put (cs := #[.int .i64 (wrap64 (Int.tdiv (wrap64 ((wrap64 ((wrap64 ((wrap64 (12 * t101)) + t102)) - 1)) + a1)) 12)), .int .i64 (wrap64 ((Int.tmod (wrap64 ((wrap64 ((wrap64 ((wrap64 (12 * t101)) + t102)) - 1)) + a1)) 12) + 1)), .int .i64 0]) ?_ 2 _ rfl; (with_reducible repeat (first | refine blk_drewN ?_ _ | refine blk_drew ?_ | refine blk_alloc ?_ _)); refine blk_put (cs := #[.int .i64 (wrap64 (Int.tdiv (wrap64 ((wrap64 ((wrap64 ((wrap64 (12 * t101)) + t102)) - 1)) + a1)) 12)), .int .i64 0, .int .i64 0]) ?_ 1 _ rfl; (with_reducible repeat (first | refine blk_drewN ?_ _ | refine blk_drew ?_ | refine blk_alloc ?_ _)); refine blk_put (cs := #[.int .i64 0, .int .i64 0, .int .i64 0]) ?_ 0 _ rfl; (with_reducible repeat (first | refine blk_drewN ?_ _ | refine blk_drew ?_ | refine blk_alloc ?_ _)); exact BK106.out⟩
          have n2_ : Aside0 (Below w.heap.size w (((w15.setCell ⟨gb106, 0, none⟩ (.int .i64 (wrap64 (Int.tdiv (wrap64 ((wrap64 ((wrap64 ((wrap64 (12 * t101)) + t102)) - 1)) + a1)) 12)))).setCell ⟨gb106, 1, none⟩ (.int .i64 (wrap64 ((Int.tmod (wrap64 ((wrap64 ((wrap64 ((wrap64 (12 * t101)) + t102)) - 1)) + a1)) 12) + 1)))).setCell ⟨gb106, 2, none⟩ (.int .i64 0))) := ⟨by repeat (first | (with_reducible first | exact HB.out | apply below_alloc | apply pw_below_drewN | apply below_drew1 | refine below_set ?_ GE105.out | refine below_set ?_ GE106.out) | exact HB.out)⟩
          (try clear BK105)
          (try clear BK106)
          (try clear HB)
          generalize (((w15.setCell ⟨gb106, 0, none⟩ (.int .i64 (wrap64 (Int.tdiv (wrap64 ((wrap64 ((wrap64 ((wrap64 (12 * t101)) + t102)) - 1)) + a1)) 12)))).setCell ⟨gb106, 1, none⟩ (.int .i64 (wrap64 ((Int.tmod (wrap64 ((wrap64 ((wrap64 ((wrap64 (12 * t101)) + t102)) - 1)) + a1)) 12) + 1)))).setCell ⟨gb106, 2, none⟩ (.int .i64 0)) = w18 at n0_ n1_ n2_ ⊢
          have BK105 := n0_
          have BK106 := n1_
          have HB := n2_
          clear n0_ n1_ n2_
          have n0_ := Aside0.mk (blk_drew BK105.out)
          have n1_ := Aside0.mk (blk_drew BK106.out)
          have n2_ := Aside0.mk (below_drew1 HB.out)
          clear BK105
          clear BK106
          clear HB
          have BK105 := n0_
          have BK106 := n1_
          have HB := n2_
          clear n0_ n1_ n2_
          refine start_ (n := 10) (S := fun w' => w'.cell? ⟨gb105, 0, none⟩ = some (.int .i64 t101) ∧ w'.cell? ⟨gb105, 1, none⟩ = some (.int .i64 t102) ∧ w'.cell? ⟨gb105, 2, none⟩ = some (.int .i64 t103) ∧ w'.cell? ⟨gb106, 0, none⟩ = some (.int .i64 (wrap64 (Int.tdiv (wrap64 ((wrap64 ((wrap64 ((wrap64 (12 * t101)) + t102)) - 1)) + a1)) 12))) ∧ w'.cell? ⟨gb106, 1, none⟩ = some (.int .i64 (wrap64 ((Int.tmod (wrap64 ((wrap64 ((wrap64 ((wrap64 (12 * t101)) + t102)) - 1)) + a1)) 12) + 1))) ∧ w'.cell? ⟨gb106, 2, none⟩ = some (.int .i64 0)) (ds := [9]) #[false, false, false, false, false, false, false, false, false, false] (by kernel_rfl) rfl rfl ⟨(blk_cell BK105.out 0).trans rfl, (blk_cell BK105.out 1).trans rfl, (blk_cell BK105.out 2).trans rfl, (blk_cell BK106.out 0).trans rfl, (blk_cell BK106.out 1).trans rfl, (blk_cell BK106.out 2).trans rfl⟩ (fun hHeld => ?_); refine with_tabW monthly_Add.tab8 monthly_Add.bits8 (fun HT_ HW_ => ?_)
          generalize w18.drew = w19 at BK105 BK106 HB hHeld ⊢
          refine pure_ (i := 0) (N := some 39) (v := ?_) (a' := ?_) #[true, false, false, false, false, false, false, false, false, false] rfl rfl (any_of HT_.out (by kernel_rfl)) (fun _ _ _ h => h) (Or.inl ⟨by rfl, ?_⟩) ?_ ?_
          rotate_left
          · intro w'
            go_simp
            with_reducible rfl
          rotate_left
          · simp only [Act.put, List.setIfInBounds_toArray, List.set_cons_zero, List.set_cons_succ, i64_w, i32_w]
            rfl
          refine pure_ (i := 2) (N := some 41) (v := ?_) (a' := ?_) #[true, false, true, false, false, false, false, false, false, false] rfl rfl (any_of HT_.out (by kernel_rfl)) (fun _ _ _ h => h) (Or.inl ⟨by rfl, ?_⟩) ?_ ?_
          rotate_left
          · intro w'
            go_simp
            with_reducible rfl
          rotate_left
          · simp only [Act.put, List.setIfInBounds_toArray, List.set_cons_zero, List.set_cons_succ, i64_w, i32_w]
            rfl
          refine pure_ (i := 4) (N := some 43) (v := ?_) (a' := ?_) #[true, false, true, false, true, false, false, false, false, false] rfl rfl (any_of HT_.out (by kernel_rfl)) (fun _ _ _ h => h) (Or.inl ⟨by rfl, ?_⟩) ?_ ?_
          rotate_left
          · intro w'
            go_simp
            with_reducible rfl
          rotate_left
          · simp only [Act.put, List.setIfInBounds_toArray, List.set_cons_zero, List.set_cons_succ, i64_w, i32_w]
            rfl
          refine take_ (i := 1) (N := some 40) (v := ?_) (a' := ?_) #[true, true, true, false, true, false, false, false, false, false] rfl rfl (take_ofW HT_.out HW_.out (by kernel_rfl)) (fun _ _ _ h => h) (Or.inl ⟨by rfl, ?_⟩) hHeld ?_ ?_
          rotate_left
          · rintro w' ⟨s0, s1, s2, s3, s4, s5⟩
            go_simp
            with_reducible rfl
          rotate_left
          · simp only [Act.put, List.setIfInBounds_toArray, List.set_cons_zero, List.set_cons_succ, i64_w, i32_w]
            rfl
          refine take_ (i := 3) (N := some 42) (v := ?_) (a' := ?_) #[true, true, true, true, true, false, false, false, false, false] rfl rfl (take_ofW HT_.out HW_.out (by kernel_rfl)) (fun _ _ _ h => h) (Or.inl ⟨by rfl, ?_⟩) hHeld ?_ ?_
          rotate_left
          · rintro w' ⟨s0, s1, s2, s3, s4, s5⟩
            go_simp
            with_reducible rfl
          rotate_left
          · simp only [Act.put, List.setIfInBounds_toArray, List.set_cons_zero, List.set_cons_succ, i64_w, i32_w]
            rfl
          refine take_ (i := 5) (N := some 44) (v := ?_) (a' := ?_) #[true, true, true, true, true, true, false, false, false, false] rfl rfl (take_ofW HT_.out HW_.out (by kernel_rfl)) (fun _ _ _ h => h) (Or.inl ⟨by rfl, ?_⟩) hHeld ?_ ?_
          rotate_left
          · rintro w' ⟨s0, s1, s2, s3, s4, s5⟩
            go_simp
            with_reducible rfl
          rotate_left
          · simp only [Act.put, List.setIfInBounds_toArray, List.set_cons_zero, List.set_cons_succ, i64_w, i32_w]
            rfl
          refine one_ (i := 6) (N := some 45) #[true, true, true, true, true, true, true, false, false, false] rfl rfl (one_of HT_.out (by kernel_rfl)) (by decide) (fun K hK => ?_)
          refine goes_ Try.func109 (by kernel_rfl) rfl #[.int .i64 (wrap64 (Int.tdiv (wrap64 ((wrap64 ((wrap64 ((wrap64 (12 * t101)) + t102)) - 1)) + a1)) 12)), .int .i64 (wrap64 ((Int.tmod (wrap64 ((wrap64 ((wrap64 ((wrap64 (12 * t101)) + t102)) - 1)) + a1)) 12) + 1))] (by rfl) rfl rfl (by (try simp only [List.map_toArray, List.map_cons, List.map_nil]); first | done | rfl | (simp only [List.length_drop, List.length_take]; rfl)) ?_
          with_reducible refine (Go.Proofs.Ytfmkdledofbhdaa.H.civil_Month.calls (wrap64 (Int.tdiv (wrap64 ((wrap64 ((wrap64 ((wrap64 (12 * t101)) + t102)) - 1)) + a1)) 12)) (wrap64 ((Int.tmod (wrap64 ((wrap64 ((wrap64 ((wrap64 (12 * t101)) + t102)) - 1)) + a1)) 12) + 1)) t107 _ A11.out).mono ?_
          rintro e w' ⟨rfl, ⟨nd, rfl⟩⟩
          refine ⟨_, rfl, ?_⟩
          refine hK.out _ _ ⟨(blk_cell BK105.out 0).trans rfl, (blk_cell BK105.out 1).trans rfl, (blk_cell BK105.out 2).trans rfl, (blk_cell BK106.out 0).trans rfl, (blk_cell BK106.out 1).trans rfl, (blk_cell BK106.out 2).trans rfl⟩ (fun hHeld => ?_)
          clear hK K
          refine norm_ (a' := ?_) ?_ ?_
          rotate_left
          · show Act.put _ (some 45) _ = _
            simp only [Act.put, List.setIfInBounds_toArray, List.set_cons_zero, List.set_cons_succ, i64_w, i32_w]
            rfl
          refine pure_ (i := 7) (N := some 46) (v := ?_) (a' := ?_) #[true, true, true, true, true, true, true, true, false, false] rfl rfl (any_of HT_.out (by kernel_rfl)) (fun _ _ _ h => h) (Or.inl ⟨by rfl, ?_⟩) ?_ ?_
          rotate_left
          · intro w'
            go_simp
            with_reducible rfl
          rotate_left
          · simp only [Act.put, List.setIfInBounds_toArray, List.set_cons_zero, List.set_cons_succ, i64_w, i32_w]
            rfl
          refine pure_ (i := 8) (N := some 47) (v := ?_) (a' := ?_) #[true, true, true, true, true, true, true, true, true, false] rfl rfl (any_of HT_.out (by kernel_rfl)) (fun _ _ _ h => h) (Or.inl ⟨by rfl, ?_⟩) ?_ ?_
          rotate_left
          · intro w'
            go_simp
            with_reducible rfl
          rotate_left
          · simp only [Act.put, List.setIfInBounds_toArray, List.set_cons_zero, List.set_cons_succ, i64_w, i32_w]
            rfl
          refine last_ (i := 9) (N := none) #[true, true, true, true, true, true, true, true, true, true] rfl rfl (one_of HT_.out (by kernel_rfl)) (by decide) (fun K hK => ?_)
          have hs20 : w19.cell? ⟨gb106, 2, none⟩ = some (.int .i64 0) := (blk_cell BK106.out 2).trans rfl
          have hfs20 := blk_frozen BK106.out 2
          have hns20_0 := NB105_106.out
          have hms20_0 := NB106_105.out
          refine skip_ (w1 := ?_) (by rfl) rfl ?_ ?_
          rotate_left
          · go_simp
            rfl
          refine hK.out _ _ ?_
          clear hK K
          refine done_ (done_of HT_.out (by kernel_rfl)) ?_
          have hcz21_0 : w19.cell? ⟨gb106, 0, none⟩ = some (.int .i64 (wrap64 (Int.tdiv (wrap64 ((wrap64 ((wrap64 ((wrap64 (12 * t101)) + t102)) - 1)) + a1)) 12))) := (blk_cell BK106.out 0).trans rfl
          have hcz21_1 : w19.cell? ⟨gb106, 1, none⟩ = some (.int .i64 (wrap64 ((Int.tmod (wrap64 ((wrap64 ((wrap64 ((wrap64 (12 * t101)) + t102)) - 1)) + a1)) 12) + 1))) := (blk_cell BK106.out 1).trans rfl
          have hcz21_2 : w19.cell? ⟨gb106, 2, none⟩ = some (.int .i64 0) := (blk_cell BK106.out 2).trans rfl
          have hfz21_0 := blk_frozen BK106.out 0
          have hfz21_1 := blk_frozen BK106.out 1
          have hfz21_2 := blk_frozen BK106.out 2
          try go_wp2_with (first | ((with_reducible refine gate_callee (f := 110) rfl ?_); refine goesL_ (some 49) rfl rfl Try.func110 (by kernel_rfl) rfl #[.agg #[.int .i64 (wrap64 (Int.tdiv (wrap64 ((wrap64 ((wrap64 ((wrap64 (12 * t101)) + t102)) - 1)) + a1)) 12)), .int .i64 (wrap64 ((Int.tmod (wrap64 ((wrap64 ((wrap64 ((wrap64 (12 * t101)) + t102)) - 1)) + a1)) 12) + 1)), .int .i64 ji12]] rfl (by (try simp only [List.map_toArray, List.map_cons, List.map_nil]); first | done | (simp only [hji12]; rfl) | rfl | (simp only [List.length_drop, List.length_take]; rfl)) ?_; (with_reducible refine (Go.Proofs.Ytfmkdledofbhdaa.H.civil_Number.calls (wrap64 (Int.tdiv (wrap64 ((wrap64 ((wrap64 ((wrap64 (12 * t101)) + t102)) - 1)) + a1)) 12)) (wrap64 ((Int.tmod (wrap64 ((wrap64 ((wrap64 ((wrap64 (12 * t101)) + t102)) - 1)) + a1)) 12) + 1)) ji12 t108 t109 _ A13.out).mono ?_); rintro e w22 ⟨rfl, hb⟩; refine ⟨_, rfl, ?_⟩; have n0_ := Aside0.mk (blk_below (g := gb105) (o := .cells #[.int .i64 t101, .int .i64 t102, .int .i64 t103] 114 (0, 0)) (by (with_reducible repeat (first | refine blk_drewN ?_ _ | refine blk_drew ?_ | refine blk_alloc ?_ _)); refine blk_far ?_ NB105_106.out _; (with_reducible repeat (first | refine blk_drewN ?_ _ | refine blk_drew ?_ | refine blk_alloc ?_ _)); exact BK105.out) hb); have n1_ := Aside0.mk (blk_below (g := gb106) (o := .cells #[.int .i64 (wrap64 (Int.tdiv (wrap64 ((wrap64 ((wrap64 ((wrap64 (12 * t101)) + t102)) - 1)) + a1)) 12)), .int .i64 (wrap64 ((Int.tmod (wrap64 ((wrap64 ((wrap64 ((wrap64 (12 * t101)) + t102)) - 1)) + a1)) 12) + 1)), .int .i64 ji12] 114 (0, 0)) (by (with_reducible repeat (first | refine blk_drewN ?_ _ | refine blk_drew ?_ | refine blk_alloc ?_ _)); refine blk_put (cs := #[.int .i64 (wrap64 (Int.tdiv (wrap64 ((wrap64 ((wrap64 ((wrap64 (12 * t101)) + t102)) - 1)) + a1)) 12)), .int .i64 (wrap64 ((Int.tmod (wrap64 ((wrap64 ((wrap64 ((wrap64 (12 * t101)) + t102)) - 1)) + a1)) 12) + 1)), .int .i64 0]) ?_ 2 _ rfl; (with_reducible repeat (first | refine blk_drewN ?_ _ | refine blk_drew ?_ | refine blk_alloc ?_ _)); exact BK106.out) hb); have n2_ := Aside0.mk (below_step (by repeat (first | (with_reducible first | exact HB.out | apply below_alloc | apply pw_below_drewN | apply below_drew1 | refine below_set ?_ GE105.out | refine below_set ?_ GE106.out) | exact HB.out)) hb); clear BK105; clear BK106; clear HB; have BK105 := n0_; have BK106 := n1_; have HB := n2_; clear n0_ n1_ n2_; (try clear hb); (try clear hb2); (try clear hk); (try clear hi); (try have hu105_0 : w22.cell? ⟨gb105, 0, none⟩ = some (.int .i64 t101) := (blk_cell BK105.out 0).trans rfl); (try have hu105_1 : w22.cell? ⟨gb105, 1, none⟩ = some (.int .i64 t102) := (blk_cell BK105.out 1).trans rfl); (try have hu105_2 : w22.cell? ⟨gb105, 2, none⟩ = some (.int .i64 t103) := (blk_cell BK105.out 2).trans rfl); (try have hv105_0 := blk_frozen BK105.out 0); (try have hv105_1 := blk_frozen BK105.out 1); (try have hv105_2 := blk_frozen BK105.out 2); (try have hu106_0 : w22.cell? ⟨gb106, 0, none⟩ = some (.int .i64 (wrap64 (Int.tdiv (wrap64 ((wrap64 ((wrap64 ((wrap64 (12 * t101)) + t102)) - 1)) + a1)) 12))) := (blk_cell BK106.out 0).trans rfl); (try have hu106_1 : w22.cell? ⟨gb106, 1, none⟩ = some (.int .i64 (wrap64 ((Int.tmod (wrap64 ((wrap64 ((wrap64 ((wrap64 (12 * t101)) + t102)) - 1)) + a1)) 12) + 1))) := (blk_cell BK106.out 1).trans rfl); (try have hu106_2 : w22.cell? ⟨gb106, 2, none⟩ = some (.int .i64 ji12) := (blk_cell BK106.out 2).trans rfl); (try have hv106_0 := blk_frozen BK106.out 0); (try have hv106_1 := blk_frozen BK106.out 1); (try have hv106_2 := blk_frozen BK106.out 2)))
          go_ret2
          exact ⟨by first | rfl | (simp [errW_none, errW_some] <;> rfl) | (simp only [← hji12]; first | rfl | (simp [errW_none, errW_some] <;> rfl)) | (simp [*, errW_none, errW_some] <;> rfl), by repeat (first | (with_reducible first | exact HB.out | apply below_alloc | apply pw_below_drewN | apply below_drew1 | refine below_set ?_ GE105.out | refine below_set ?_ GE106.out) | exact HB.out)⟩
  · rw [if_neg c4] at H
    have c4b0 : (t104 == 0) = false := beq_eq_false_iff_ne.mpr c4
    have c4b1 : (t104 != 0) = true := bne_iff_ne.mpr c4
    simp only [Option.some.injEq, Prod.mk.injEq] at H
    obtain ⟨rfl, rfl⟩ := H
    go_enter Try.func89, Try.ntmps89
    go_wp2_with (first | ((with_reducible refine gate_callee (f := 97) rfl ?_); refine goesL_ (some 12) rfl rfl Try.func97 (by kernel_rfl) rfl #[.int .i64 a0] rfl (by (try simp only [List.map_toArray, List.map_cons, List.map_nil]); first | done | rfl | (simp only [List.length_drop, List.length_take]; rfl)) ?_; (with_reducible refine (Go.Proofs.Ytfmkdledofbhdaa.H.civil_Date.calls a0 t101 t102 t103 t104 _ A3.out).mono ?_); rintro e w23 ⟨rfl, hb⟩; refine ⟨_, rfl, ?_⟩; have n0_ := Aside0.mk (below_step (by repeat (first | (with_reducible first | exact HB.out | apply below_alloc | apply pw_below_drewN | apply below_drew1) | exact HB.out)) hb); clear HB; have HB := n0_; clear n0_; (try clear hb); (try clear hb2); (try clear hk); (try clear hi)) | ((with_reducible refine gate_dst (N := 6) rfl ?_); refine box_event ?hg (N := 6) ?hd (cs := #[.int .i64 0, .int .i64 0, .int .i64 0]) (t := 114) ?hr ?_; (case hd => rfl); (case hg => rfl); (case hr => first | (go_simp; done) | (go_simp; rfl)); intro gb105 hg w24 hbox hb; have n0_ := Aside0.mk (below_step (by repeat (first | (with_reducible first | exact HB.out | apply below_alloc | apply pw_below_drewN | apply below_drew1) | exact HB.out)) hb); have n1_ := Aside0.mk (hbox); have n2_ := Aside0.mk ((by rw [hg]; exact (below_size (by repeat (first | (with_reducible first | exact HB.out | apply below_alloc | apply pw_below_drewN | apply below_drew1) | exact HB.out))) : w.heap.size ≤ gb105)); have n3_ := Aside0.mk ((by rw [hg]; exact (below_size (by repeat (first | (with_reducible first | exact HB.out | apply below_alloc | apply pw_below_drewN | apply below_drew1) | exact HB.out))) : w.heap.size ≤ gb105)); clear HB; have HB := n0_; have BK105 := n1_; have GW105 := n2_; have GE105 := n3_; clear n0_ n1_ n2_ n3_; clear hb hbox hg; (try have hu105_0 : w24.cell? ⟨gb105, 0, none⟩ = some (.int .i64 0) := (blk_cell BK105.out 0).trans rfl); (try have hu105_1 : w24.cell? ⟨gb105, 1, none⟩ = some (.int .i64 0) := (blk_cell BK105.out 1).trans rfl); (try have hu105_2 : w24.cell? ⟨gb105, 2, none⟩ = some (.int .i64 0) := (blk_cell BK105.out 2).trans rfl); (try have hv105_0 := blk_frozen BK105.out 0); (try have hv105_1 := blk_frozen BK105.out 1); (try have hv105_2 := blk_frozen BK105.out 2); have hcz25_0 : w24.cell? ⟨gb105, 0, none⟩ = some (.int .i64 0) := (blk_cell BK105.out 0).trans rfl; have hcz25_1 : w24.cell? ⟨gb105, 1, none⟩ = some (.int .i64 0) := (blk_cell BK105.out 1).trans rfl; have hcz25_2 : w24.cell? ⟨gb105, 2, none⟩ = some (.int .i64 0) := (blk_cell BK105.out 2).trans rfl; have hfz25_0 := blk_frozen BK105.out 0; have hfz25_1 := blk_frozen BK105.out 1; have hfz25_2 := blk_frozen BK105.out 2))
    go_ret2
    exact ⟨by first | rfl | (simp [errW_none, errW_some] <;> rfl) | (simp [*, errW_none, errW_some] <;> rfl), by repeat (first | (with_reducible first | exact HB.out | apply below_alloc | apply pw_below_drewN | apply below_drew1 | refine below_set ?_ GE105.out) | exact HB.out)⟩

/-! ### quittanceref04_Add: function 70 -/
mutual
def quittanceref04_Add.j0 : Nat → Int → Bool → Int → Int → Int → Option (Int × Int)
  | 0, _, _, _, _, _ => none
  | k + 1, x1, x24, x115000, x115001, x115002 => if x24 = true then (some (0, 5)) else (if (wrap64 ((wrap64 ((wrap64 ((wrap64 (12 * x115000)) + x115001)) - 1)) + x1)) < 22800 then (quittanceref04_Add.j1 k (wrap64 (Int.tdiv (wrap64 ((wrap64 ((wrap64 ((wrap64 (12 * x115000)) + x115001)) - 1)) + x1)) 12)) (wrap64 ((Int.tmod (wrap64 ((wrap64 ((wrap64 ((wrap64 (12 * x115000)) + x115001)) - 1)) + x1)) 12) + 1)) true x115000 x115001 x115002) else (quittanceref04_Add.j1 k (wrap64 (Int.tdiv (wrap64 ((wrap64 ((wrap64 ((wrap64 (12 * x115000)) + x115001)) - 1)) + x1)) 12)) (wrap64 ((Int.tmod (wrap64 ((wrap64 ((wrap64 ((wrap64 (12 * x115000)) + x115001)) - 1)) + x1)) 12) + 1)) (decide ((wrap64 ((wrap64 ((wrap64 ((wrap64 (12 * x115000)) + x115001)) - 1)) + x1)) ≥ 26412)) x115000 x115001 x115002))
def quittanceref04_Add.j1 : Nat → Int → Int → Bool → Int → Int → Int → Option (Int × Int)
  | 0, _, _, _, _, _, _ => none
  | k + 1, x9, x10, x44, x115000, x115001, x115002 => if x44 = true then (some (0, 5)) else ((Go.Proofs.Ytfmkdledofbhdaa.H.quittanceref03_Month.f x9 x10).bind fun t115 => ((Go.Proofs.Ytfmkdledofbhdaa.H.quittanceref03_Number.f x9 x10 (mn x115002 t115)).bind fun bt116 => (some (bt116.1, bt116.2))))
end
def quittanceref04_Add.f (k : Nat) (a0 : Int) (a1 : Int) : Option (Int × Int) := (Go.Proofs.Ytfmkdledofbhdaa.H.quittanceref03_Date.f a0).bind fun bt110 => (if bt110.2.2.2 = 0 then (if a1 < (-4000) then (quittanceref04_Add.j0 k a1 true bt110.1 bt110.2.1 bt110.2.2.1) else (quittanceref04_Add.j0 k a1 (decide (a1 > 4000)) bt110.1 bt110.2.1 bt110.2.2.1)) else (some (0, bt110.2.2.2)))
theorem quittanceref04_Add.mono_l : ∀ k, (∀ y0 y1 y2 y3 y4, LeO (quittanceref04_Add.j0 k y0 y1 y2 y3 y4) (quittanceref04_Add.j0 (k + 1) y0 y1 y2 y3 y4)) ∧ (∀ y0 y1 y2 y3 y4 y5, LeO (quittanceref04_Add.j1 k y0 y1 y2 y3 y4 y5) (quittanceref04_Add.j1 (k + 1) y0 y1 y2 y3 y4 y5))
  | 0 => ⟨fun _ _ _ _ _ r h => by simp [quittanceref04_Add.j0] at h, fun _ _ _ _ _ _ r h => by simp [quittanceref04_Add.j1] at h⟩
  | k + 1 => by
    obtain ⟨ih0, ih1⟩ := quittanceref04_Add.mono_l k
    refine ⟨?_, ?_⟩
    · intro y0 y1 y2 y3 y4
      unfold quittanceref04_Add.j0
      repeat' first
      | (with_reducible exact ih0 _ _ _ _ _)
      | (with_reducible exact ih1 _ _ _ _ _ _)
      | (with_reducible exact LeO.refl _)
      | (with_reducible exact LeO.none _)
      | (with_reducible refine LeO.ite ?_ ?_)
      | (with_reducible refine LeO.bind ?_ (fun _ => ?_))
      | exact ih0 _ _ _ _ _
      | exact ih1 _ _ _ _ _ _
      | exact LeO.none _
      | refine LeO.ite ?_ ?_
      | refine LeO.bind ?_ (fun _ => ?_)
    · intro y0 y1 y2 y3 y4 y5
      unfold quittanceref04_Add.j1
      repeat' first
      | (with_reducible exact ih0 _ _ _ _ _)
      | (with_reducible exact ih1 _ _ _ _ _ _)
      | (with_reducible exact LeO.refl _)
      | (with_reducible exact LeO.none _)
      | (with_reducible refine LeO.ite ?_ ?_)
      | (with_reducible refine LeO.bind ?_ (fun _ => ?_))
      | exact ih0 _ _ _ _ _
      | exact ih1 _ _ _ _ _ _
      | exact LeO.none _
      | refine LeO.ite ?_ ?_
      | refine LeO.bind ?_ (fun _ => ?_)
theorem quittanceref04_Add.mono : ∀ a0 a1 k, LeO (quittanceref04_Add.f k a0 a1) (quittanceref04_Add.f (k + 1) a0 a1) := by
  intro a0 a1 k
  obtain ⟨ih0, ih1⟩ := quittanceref04_Add.mono_l k
  unfold quittanceref04_Add.f
  repeat' first
      | (with_reducible exact ih0 _ _ _ _ _)
      | (with_reducible exact ih1 _ _ _ _ _ _)
      | (with_reducible exact LeO.refl _)
      | (with_reducible exact LeO.none _)
      | (with_reducible refine LeO.ite ?_ ?_)
      | (with_reducible refine LeO.bind ?_ (fun _ => ?_))
      | exact ih0 _ _ _ _ _
      | exact ih1 _ _ _ _ _ _
      | exact LeO.none _
      | refine LeO.ite ?_ ?_
      | refine LeO.bind ?_ (fun _ => ?_)
def quittanceref04_Add.T10 : Bool × List (List Nat × List Nat) := (true, [([], []), ([], []), ([], []), ([2], [2]), ([], []), ([], []), ([4, 5], [4, 5]), ([3, 6], [3, 6]), ([0, 1, 7], [0, 1, 7]), ([8, 6], [8]), ([9], [9]), ([9], [9]), ([10, 9, 0, 1, 2, 3, 4, 5, 6, 7, 8, 9, 10, 11], [10]), ([11, 12, 0, 1, 2, 3, 4, 5, 6, 7, 8, 9, 10, 11, 12], [11])])
def quittanceref04_Add.B10 : List Nat := [0, 0, 0, 4, 0, 0, 48, 124, 255, 511, 1023, 1023, 4095, 8191]
theorem quittanceref04_Add.tab10 : rtab .any (opsOf Try.f70 10) = quittanceref04_Add.T10 := by kernel_rfl
theorem quittanceref04_Add.bits10 : waitsOk quittanceref04_Add.T10.2 quittanceref04_Add.B10 = true := by kernel_rfl
set_option maxHeartbeats 8000000 in
set_option maxRecDepth 100000 in
theorem quittanceref04_Add.calls (k : Nat) (a0 : Int) (a1 : Int) (r1 : Int) (r2 : Int) (w : World) (h : quittanceref04_Add.f k a0 a1 = some (r1, r2)) :
    Calls Try.prog 70 #[.int .i64 a0, .int .i64 a1] w fun e w' => e = .returned (.tuple #[.int .i64 r1, .int .i64 r2]) ∧ Below w.heap.size w w' := by
  have hu114 := Try.underlying114
  have HB := Aside0.mk (Below.refl w.heap.size w)
  have H : ((Go.Proofs.Ytfmkdledofbhdaa.H.quittanceref03_Date.f a0).bind fun bt110 => (if bt110.2.2.2 = 0 then (if a1 < (-4000) then (quittanceref04_Add.j0 k a1 true bt110.1 bt110.2.1 bt110.2.2.1) else (quittanceref04_Add.j0 k a1 (decide (a1 > 4000)) bt110.1 bt110.2.1 bt110.2.2.1)) else (some (0, bt110.2.2.2)))) = some (r1, r2) := h
  clear h
  replace H := Option.bind_eq_some_iff.mp H
  obtain ⟨⟨t110, t111, t112, t113⟩, A30, H⟩ := H
  replace H : (if t113 = 0 then (if a1 < (-4000) then (quittanceref04_Add.j0 k a1 true t110 t111 t112) else (quittanceref04_Add.j0 k a1 (decide (a1 > 4000)) t110 t111 t112)) else (some (0, t113))) = some (r1, r2) := H
  have A3 := Aside0.mk A30
  clear A30
  by_cases c4 : t113 = 0
  · rw [if_pos c4] at H
    have c4b0 : (t113 == 0) = true := beq_iff_eq.mpr c4
    have c4b1 : (t113 != 0) = false := bne_eq_false_iff_eq.mpr c4
    clear c4
    have HC5 := Aside0.mk H
    clear H
    go_enter Try.func70, Try.ntmps70
    go_upto_region 4 with (first | ((with_reducible refine gate_callee (f := 73) rfl ?_); refine goesL_ (some 13) rfl rfl Try.func73 (by kernel_rfl) rfl #[.int .i64 a0] rfl (by (try simp only [List.map_toArray, List.map_cons, List.map_nil]); first | done | rfl | (simp only [List.length_drop, List.length_take]; rfl)) ?_; (with_reducible refine (Go.Proofs.Ytfmkdledofbhdaa.H.quittanceref03_Date.calls a0 t110 t111 t112 t113 _ A3.out).mono ?_); rintro e w6 ⟨rfl, hb⟩; refine ⟨_, rfl, ?_⟩; have n0_ := Aside0.mk (below_step (by repeat (first | (with_reducible first | exact HB.out | apply below_alloc | apply pw_below_drewN | apply below_drew1) | exact HB.out)) hb); clear HB; have HB := n0_; clear n0_; (try clear hb); (try clear hb2); (try clear hk); (try clear hi)) | ((with_reducible refine gate_dst (N := 6) rfl ?_); refine box_event ?hg (N := 6) ?hd (cs := #[.int .i64 0, .int .i64 0, .int .i64 0]) (t := 114) ?hr ?_; (case hd => rfl); (case hg => rfl); (case hr => first | (go_simp; done) | (go_simp; rfl)); intro gb114 hg w7 hbox hb; have n0_ := Aside0.mk (below_step (by repeat (first | (with_reducible first | exact HB.out | apply below_alloc | apply pw_below_drewN | apply below_drew1) | exact HB.out)) hb); have n1_ := Aside0.mk (hbox); have n2_ := Aside0.mk ((by rw [hg]; exact (below_size (by repeat (first | (with_reducible first | exact HB.out | apply below_alloc | apply pw_below_drewN | apply below_drew1) | exact HB.out))) : w.heap.size ≤ gb114)); have n3_ := Aside0.mk ((by rw [hg]; exact (below_size (by repeat (first | (with_reducible first | exact HB.out | apply below_alloc | apply pw_below_drewN | apply below_drew1) | exact HB.out))) : w.heap.size ≤ gb114)); clear HB; have HB := n0_; have BK114 := n1_; have GW114 := n2_; have GE114 := n3_; clear n0_ n1_ n2_ n3_; clear hb hbox hg; (try have hu114_0 : w7.cell? ⟨gb114, 0, none⟩ = some (.int .i64 0) := (blk_cell BK114.out 0).trans rfl); (try have hu114_1 : w7.cell? ⟨gb114, 1, none⟩ = some (.int .i64 0) := (blk_cell BK114.out 1).trans rfl); (try have hu114_2 : w7.cell? ⟨gb114, 2, none⟩ = some (.int .i64 0) := (blk_cell BK114.out 2).trans rfl); (try have hv114_0 := blk_frozen BK114.out 0); (try have hv114_1 := blk_frozen BK114.out 1); (try have hv114_2 := blk_frozen BK114.out 2); have hcz8_0 : w7.cell? ⟨gb114, 0, none⟩ = some (.int .i64 0) := (blk_cell BK114.out 0).trans rfl; have hcz8_1 : w7.cell? ⟨gb114, 1, none⟩ = some (.int .i64 0) := (blk_cell BK114.out 1).trans rfl; have hcz8_2 : w7.cell? ⟨gb114, 2, none⟩ = some (.int .i64 0) := (blk_cell BK114.out 2).trans rfl; have hfz8_0 := blk_frozen BK114.out 0; have hfz8_1 := blk_frozen BK114.out 1; have hfz8_2 := blk_frozen BK114.out 2))
    (try simp only [Act.put, List.setIfInBounds_toArray, List.set_cons_zero, List.set_cons_succ])
    go_cut [24] (fun v24 wc => ∃ (kq : Nat) (x24_4 : Bool), v24 = .bool x24_4 ∧ Aside0 (quittanceref04_Add.j0 kq a1 x24_4 t110 t111 t112 = some (r1, r2)) ∧ Aside0 (kq ≤ k) ∧ Aside0 (wc.heap[gb114]? = some (.cells #[.int .i64 t110, .int .i64 t111, .int .i64 t112] 114 (0, 0))) ∧ Aside0 (Below w.heap.size w wc))
    case first =>
      have H := HC5.out
      clear HC5
      by_cases c9 : a1 < (-4000)
      · rw [if_pos c9] at H
        have c9b0 : decide (a1 < (-4000)) = true := decide_eq_true c9
        clear c9
        (first | rw [c9b0] | (simp only [i64_w, i32_w]; rw [c9b0]) | skip)
        have H' := Aside0.mk H
        clear H
        go_wp2
        go_meet
        case rel => exact ⟨_, (true), (by first | rfl | (simp; done) | (simp [*]; done)), H', ⟨by first | omega | exact Nat.le_refl _⟩, ⟨by (with_reducible repeat (first | refine blk_drewN ?_ _ | refine blk_drew ?_ | refine blk_alloc ?_ _)); refine blk_put (cs := #[.int .i64 t110, .int .i64 t111, .int .i64 0]) ?_ 2 _ rfl; (with_reducible repeat (first | refine blk_drewN ?_ _ | refine blk_drew ?_ | refine blk_alloc ?_ _)); refine blk_put (cs := #[.int .i64 t110, .int .i64 0, .int .i64 0]) ?_ 1 _ rfl; (with_reducible repeat (first | refine blk_drewN ?_ _ | refine blk_drew ?_ | refine blk_alloc ?_ _)); refine blk_put (cs := #[.int .i64 0, .int .i64 0, .int .i64 0]) ?_ 0 _ rfl; (with_reducible repeat (first | refine blk_drewN ?_ _ | refine blk_drew ?_ | refine blk_alloc ?_ _)); exact BK114.out⟩, ⟨by repeat (first | (with_reducible first | exact HB.out | apply below_alloc | apply pw_below_drewN | apply below_drew1 | refine below_set ?_ GE114.out) | exact HB.out)⟩⟩
      · rw [if_neg c9] at H
        have c9b0 : decide (a1 < (-4000)) = false := decide_eq_false c9
        clear c9
        (first | rw [c9b0] | (simp only [i64_w, i32_w]; rw [c9b0]) | skip)
        have H' := Aside0.mk H
        clear H
        go_wp2
        go_meet
        case rel => exact ⟨_, (decide (a1 > 4000)), (by first | rfl | (simp; done) | (simp [*]; done)), H', ⟨by first | omega | exact Nat.le_refl _⟩, ⟨by (with_reducible repeat (first | refine blk_drewN ?_ _ | refine blk_drew ?_ | refine blk_alloc ?_ _)); refine blk_put (cs := #[.int .i64 t110, .int .i64 t111, .int .i64 0]) ?_ 2 _ rfl; (with_reducible repeat (first | refine blk_drewN ?_ _ | refine blk_drew ?_ | refine blk_alloc ?_ _)); refine blk_put (cs := #[.int .i64 t110, .int .i64 0, .int .i64 0]) ?_ 1 _ rfl; (with_reducible repeat (first | refine blk_drewN ?_ _ | refine blk_drew ?_ | refine blk_alloc ?_ _)); refine blk_put (cs := #[.int .i64 0, .int .i64 0, .int .i64 0]) ?_ 0 _ rfl; (with_reducible repeat (first | refine blk_drewN ?_ _ | refine blk_drew ?_ | refine blk_alloc ?_ _)); exact BK114.out⟩, ⟨by repeat (first | (with_reducible first | exact HB.out | apply below_alloc | apply pw_below_drewN | apply below_drew1 | refine below_set ?_ GE114.out) | exact HB.out)⟩⟩
    case rest =>
      clear HC5
      try clear p2
      try clear c4
      try clear c4b0
      try clear c4b1
      try clear c7
      try clear c9
      try clear c9b0
      try clear hcz8_0
      try clear hcz8_1
      try clear hcz8_2
      try clear hfz8_0
      try clear hfz8_1
      try clear hfz8_2
      obtain ⟨kq, x24_4, rfl, HA, HJ4, BK114, HB⟩ := hcut
      cases kq with
      | zero => exact absurd HA.out (by simp [quittanceref04_Add.j0])
      | succ kj4 =>
        have H := HA.out
        clear HA
        simp only [quittanceref04_Add.j0] at H
        by_cases c10 : x24_4 = true
        · subst c10
          have H1 : (some (0, 5)) = some (r1, r2) := by rw [if_pos rfl] at H; exact H
          clear H
          have H := H1
          clear H1
          simp only [Option.some.injEq, Prod.mk.injEq] at H
          obtain ⟨rfl, rfl⟩ := H
          go_wp2
          go_ret2
          exact ⟨by first | rfl | (simp [errW_none, errW_some] <;> rfl) | (simp [*, errW_none, errW_some] <;> rfl), by repeat (first | (with_reducible first | exact HB.out | apply below_alloc | apply pw_below_drewN | apply below_drew1 | refine below_set ?_ GE114.out) | exact HB.out)⟩
        · replace c10 := Bool.eq_false_iff.mpr c10
          subst c10
          have H1 : (if (wrap64 ((wrap64 ((wrap64 ((wrap64 (12 * t110)) + t111)) - 1)) + a1)) < 22800 then (quittanceref04_Add.j1 kj4 (wrap64 (Int.tdiv (wrap64 ((wrap64 ((wrap64 ((wrap64 (12 * t110)) + t111)) - 1)) + a1)) 12)) (wrap64 ((Int.tmod (wrap64 ((wrap64 ((wrap64 ((wrap64 (12 * t110)) + t111)) - 1)) + a1)) 12) + 1)) true t110 t111 t112) else (quittanceref04_Add.j1 kj4 (wrap64 (Int.tdiv (wrap64 ((wrap64 ((wrap64 ((wrap64 (12 * t110)) + t111)) - 1)) + a1)) 12)) (wrap64 ((Int.tmod (wrap64 ((wrap64 ((wrap64 ((wrap64 (12 * t110)) + t111)) - 1)) + a1)) 12) + 1)) (decide ((wrap64 ((wrap64 ((wrap64 ((wrap64 (12 * t110)) + t111)) - 1)) + a1)) ≥ 26412)) t110 t111 t112)) = some (r1, r2) := by rw [if_neg (show ¬ (false = true) by decide)] at H; exact H
          clear H
          have H := H1
          clear H1
          have HC11 := Aside0.mk H
          clear H
          have hcz12_0 : wc.cell? ⟨gb114, 0, none⟩ = some (.int .i64 t110) := (blk_cell BK114.out 0).trans rfl
          have hcz12_1 : wc.cell? ⟨gb114, 1, none⟩ = some (.int .i64 t111) := (blk_cell BK114.out 1).trans rfl
          have hcz12_2 : wc.cell? ⟨gb114, 2, none⟩ = some (.int .i64 t112) := (blk_cell BK114.out 2).trans rfl
          have hfz12_0 := blk_frozen BK114.out 0
          have hfz12_1 := blk_frozen BK114.out 1
          have hfz12_2 := blk_frozen BK114.out 2
          go_upto_region 8 with (fail)
          go_cut [44] (fun v44 wc => ∃ (kq : Nat) (x44_10 : Bool), v44 = .bool x44_10 ∧ Aside0 (quittanceref04_Add.j1 kq (wrap64 (Int.tdiv (wrap64 ((wrap64 ((wrap64 ((wrap64 (12 * t110)) + t111)) - 1)) + a1)) 12)) (wrap64 ((Int.tmod (wrap64 ((wrap64 ((wrap64 ((wrap64 (12 * t110)) + t111)) - 1)) + a1)) 12) + 1)) x44_10 t110 t111 t112 = some (r1, r2)) ∧ Aside0 (kq ≤ kj4) ∧ Aside0 (wc.heap[gb114]? = some (.cells #[.int .i64 t110, .int .i64 t111, .int .i64 t112] 114 (0, 0))) ∧ Aside0 (Below w.heap.size w wc))
          case first =>
            have H := HC11.out
            clear HC11
            by_cases c13 : (wrap64 ((wrap64 ((wrap64 ((wrap64 (12 * t110)) + t111)) - 1)) + a1)) < 22800
            · rw [if_pos c13] at H
              have c13b0 : decide ((wrap64 ((wrap64 ((wrap64 ((wrap64 (12 * t110)) + t111)) - 1)) + a1)) < 22800) = true := decide_eq_true c13
              clear c13
              (first | rw [c13b0] | (simp only [i64_w, i32_w]; rw [c13b0]) | skip)
              have H' := Aside0.mk H
              clear H
              go_wp2
              go_meet
              case rel => exact ⟨_, (true), (by first | rfl | (simp; done) | (simp [*]; done)), H', ⟨by have := HJ4.out; first | omega | exact Nat.le_refl _⟩, ⟨by (with_reducible repeat (first | refine blk_drewN ?_ _ | refine blk_drew ?_ | refine blk_alloc ?_ _)); exact BK114.out⟩, ⟨by repeat (first | (with_reducible first | exact HB.out | apply below_alloc | apply pw_below_drewN | apply below_drew1 | refine below_set ?_ GE114.out) | exact HB.out)⟩⟩
            · rw [if_neg c13] at H
              have c13b0 : decide ((wrap64 ((wrap64 ((wrap64 ((wrap64 (12 * t110)) + t111)) - 1)) + a1)) < 22800) = false := decide_eq_false c13
              clear c13
              (first | rw [c13b0] | (simp only [i64_w, i32_w]; rw [c13b0]) | skip)
              have H' := Aside0.mk H
              clear H
              go_wp2
              go_meet
              case rel => exact ⟨_, (decide ((wrap64 ((wrap64 ((wrap64 ((wrap64 (12 * t110)) + t111)) - 1)) + a1)) ≥ 26412)), (by first | rfl | (simp; done) | (simp [*]; done)), H', ⟨by have := HJ4.out; first | omega | exact Nat.le_refl _⟩, ⟨by (with_reducible repeat (first | refine blk_drewN ?_ _ | refine blk_drew ?_ | refine blk_alloc ?_ _)); exact BK114.out⟩, ⟨by repeat (first | (with_reducible first | exact HB.out | apply below_alloc | apply pw_below_drewN | apply below_drew1 | refine below_set ?_ GE114.out) | exact HB.out)⟩⟩
          case rest =>
            clear HC11
            try clear c1
            try clear p2
            try clear c4
            try clear c4b0
            try clear c4b1
            try clear p6
            try clear c7
            try clear c9
            try clear c9b0
            try clear c10
            try clear c13
            try clear c13b0
            try clear hcz12_0
            try clear hcz12_1
            try clear hcz12_2
            try clear hcz8_0
            try clear hcz8_1
            try clear hcz8_2
            try clear hfz12_0
            try clear hfz12_1
            try clear hfz12_2
            try clear hfz8_0
            try clear hfz8_1
            try clear hfz8_2
            try clear p2
            obtain ⟨kq, x44_10, rfl, HA, HJ10, BK114, HB⟩ := hcut
            cases kq with
            | zero => exact absurd HA.out (by simp [quittanceref04_Add.j1])
            | succ kj10 =>
              have H := HA.out
              clear HA
              simp only [quittanceref04_Add.j1] at H
              by_cases c14 : x44_10 = true
              · subst c14
                have H1 : (some (0, 5)) = some (r1, r2) := by rw [if_pos rfl] at H; exact H
                clear H
                have H := H1
                clear H1
                simp only [Option.some.injEq, Prod.mk.injEq] at H
                obtain ⟨rfl, rfl⟩ := H
                go_wp2
                go_ret2
                exact ⟨by first | rfl | (simp [errW_none, errW_some] <;> rfl) | (simp [*, errW_none, errW_some] <;> rfl), by repeat (first | (with_reducible first | exact HB.out | apply below_alloc | apply pw_below_drewN | apply below_drew1 | refine below_set ?_ GE114.out) | exact HB.out)⟩
              · replace c14 := Bool.eq_false_iff.mpr c14
                subst c14
                have H1 : ((Go.Proofs.Ytfmkdledofbhdaa.H.quittanceref03_Month.f (wrap64 (Int.tdiv (wrap64 ((wrap64 ((wrap64 ((wrap64 (12 * t110)) + t111)) - 1)) + a1)) 12)) (wrap64 ((Int.tmod (wrap64 ((wrap64 ((wrap64 ((wrap64 (12 * t110)) + t111)) - 1)) + a1)) 12) + 1))).bind fun t115 => ((Go.Proofs.Ytfmkdledofbhdaa.H.quittanceref03_Number.f (wrap64 (Int.tdiv (wrap64 ((wrap64 ((wrap64 ((wrap64 (12 * t110)) + t111)) - 1)) + a1)) 12)) (wrap64 ((Int.tmod (wrap64 ((wrap64 ((wrap64 ((wrap64 (12 * t110)) + t111)) - 1)) + a1)) 12) + 1)) (mn t112 t115)).bind fun bt116 => (some (bt116.1, bt116.2)))) = some (r1, r2) := by rw [if_neg (show ¬ (false = true) by decide)] at H; exact H
                clear H
                have H := H1
                clear H1
                replace H := Option.bind_eq_some_iff.mp H
                obtain ⟨t115, A150, H⟩ := H
                replace H : ((Go.Proofs.Ytfmkdledofbhdaa.H.quittanceref03_Number.f (wrap64 (Int.tdiv (wrap64 ((wrap64 ((wrap64 ((wrap64 (12 * t110)) + t111)) - 1)) + a1)) 12)) (wrap64 ((Int.tmod (wrap64 ((wrap64 ((wrap64 ((wrap64 (12 * t110)) + t111)) - 1)) + a1)) 12) + 1)) (mn t112 t115)).bind fun bt116 => (some (bt116.1, bt116.2))) = some (r1, r2) := H
                have A15 := Aside0.mk A150
                clear A150
                obtain ⟨ji16, hji16⟩ : ∃ j_ : Int, (mn t112 t115) = j_ := ⟨_, rfl⟩
                replace H : ((Go.Proofs.Ytfmkdledofbhdaa.H.quittanceref03_Number.f (wrap64 (Int.tdiv (wrap64 ((wrap64 ((wrap64 ((wrap64 (12 * t110)) + t111)) - 1)) + a1)) 12)) (wrap64 ((Int.tmod (wrap64 ((wrap64 ((wrap64 ((wrap64 (12 * t110)) + t111)) - 1)) + a1)) 12) + 1)) (ji16)).bind fun bt116 => (some (bt116.1, bt116.2))) = some (r1, r2) := by first | (rw [hji16] at H; exact H) | (simp only [hji16] at H ⊢; exact H)
                (try rw [hji16] at A15)
                have hji16_ : (if t115 < t112 then t115 else t112) = ji16 := hji16
                replace H := Option.bind_eq_some_iff.mp H
                obtain ⟨⟨t116, t117⟩, A170, H⟩ := H
                replace H : (some (t116, t117)) = some (r1, r2) := H
                have A17 := Aside0.mk A170
                clear A170
                simp only [Option.some.injEq, Prod.mk.injEq] at H
                obtain ⟨rfl, rfl⟩ := H
                try go_wp2
                have n0_ := Aside0.mk (blk_drew BK114.out)
                have n1_ := Aside0.mk (below_drew1 HB.out)
                clear BK114
                clear HB
                have BK114 := n0_
                have HB := n1_
                clear n0_ n1_
                refine start_ (n := 14) (S := fun w' => w'.cell? ⟨gb114, 0, none⟩ = some (.int .i64 t110) ∧ w'.cell? ⟨gb114, 1, none⟩ = some (.int .i64 t111) ∧ w'.cell? ⟨gb114, 2, none⟩ = some (.int .i64 t112)) (ds := []) #[false, false, false, false, false, false, false, false, false, false, false, false, false, false] (by kernel_rfl) rfl rfl ⟨(blk_cell BK114.out 0).trans rfl, (blk_cell BK114.out 1).trans rfl, (blk_cell BK114.out 2).trans rfl⟩ (fun hHeld => ?_); refine with_tabW quittanceref04_Add.tab10 quittanceref04_Add.bits10 (fun HT_ HW_ => ?_)
                generalize wc.drew = w18 at BK114 HB hHeld ⊢
                refine pure_ (i := 0) (N := some 45) (v := ?_) (a' := ?_) #[true, false, false, false, false, false, false, false, false, false, false, false, false, false] rfl rfl (any_of HT_.out (by kernel_rfl)) (fun _ _ _ h => h) (Or.inl ⟨by rfl, ?_⟩) ?_ ?_
                rotate_left
                · intro w'
                  go_simp
                  with_reducible rfl
                rotate_left
                · simp only [Act.put, List.setIfInBounds_toArray, List.set_cons_zero, List.set_cons_succ, i64_w, i32_w]
                  rfl
                refine pure_ (i := 1) (N := some 46) (v := ?_) (a' := ?_) #[true, true, false, false, false, false, false, false, false, false, false, false, false, false] rfl rfl (any_of HT_.out (by kernel_rfl)) (fun _ _ _ h => h) (Or.inl ⟨by rfl, ?_⟩) ?_ ?_
                rotate_left
                · intro w'
                  go_simp
                  with_reducible rfl
                rotate_left
                · simp only [Act.put, List.setIfInBounds_toArray, List.set_cons_zero, List.set_cons_succ, i64_w, i32_w]
                  rfl
                refine pure_ (i := 2) (N := some 47) (v := ?_) (a' := ?_) #[true, true, true, false, false, false, false, false, false, false, false, false, false, false] rfl rfl (any_of HT_.out (by kernel_rfl)) (fun _ _ _ h => h) (Or.inl ⟨by rfl, ?_⟩) ?_ ?_
                rotate_left
                · intro w'
                  go_simp
                  with_reducible rfl
                rotate_left
                · simp only [Act.put, List.setIfInBounds_toArray, List.set_cons_zero, List.set_cons_succ, i64_w, i32_w]
                  rfl
                refine pure_ (i := 4) (N := some 49) (v := ?_) (a' := ?_) #[true, true, true, false, true, false, false, false, false, false, false, false, false, false] rfl rfl (any_of HT_.out (by kernel_rfl)) (fun _ _ _ h => h) (Or.inl ⟨by rfl, ?_⟩) ?_ ?_
                rotate_left
                · intro w'
                  go_simp
                  with_reducible rfl
                rotate_left
                · simp only [Act.put, List.setIfInBounds_toArray, List.set_cons_zero, List.set_cons_succ, i64_w, i32_w]
                  rfl
                refine pure_ (i := 5) (N := some 50) (v := ?_) (a' := ?_) #[true, true, true, false, true, true, false, false, false, false, false, false, false, false] rfl rfl (any_of HT_.out (by kernel_rfl)) (fun _ _ _ h => h) (Or.inl ⟨by rfl, ?_⟩) ?_ ?_
                rotate_left
                · intro w'
                  go_simp
                  with_reducible rfl
                rotate_left
                · simp only [Act.put, List.setIfInBounds_toArray, List.set_cons_zero, List.set_cons_succ, i64_w, i32_w]
                  rfl
                refine take_ (i := 3) (N := some 48) (v := ?_) (a' := ?_) #[true, true, true, true, true, true, false, false, false, false, false, false, false, false] rfl rfl (take_ofW HT_.out HW_.out (by kernel_rfl)) (fun _ _ _ h => h) (Or.inl ⟨by rfl, ?_⟩) hHeld ?_ ?_
                rotate_left
                · rintro w' ⟨s0, s1, s2⟩
                  go_simp
                  with_reducible rfl
                rotate_left
                · simp only [Act.put, List.setIfInBounds_toArray, List.set_cons_zero, List.set_cons_succ, i64_w, i32_w]
                  rfl
                refine one_ (i := 6) (N := some 51) #[true, true, true, true, true, true, true, false, false, false, false, false, false, false] rfl rfl (one_of HT_.out (by kernel_rfl)) (by decide) (fun K hK => ?_)
                refine goes_ Try.func94 (by kernel_rfl) rfl #[.int .i64 (wrap64 (Int.tdiv (wrap64 ((wrap64 ((wrap64 ((wrap64 (12 * t110)) + t111)) - 1)) + a1)) 12)), .int .i64 (wrap64 ((Int.tmod (wrap64 ((wrap64 ((wrap64 ((wrap64 (12 * t110)) + t111)) - 1)) + a1)) 12) + 1))] (by rfl) rfl rfl (by (try simp only [List.map_toArray, List.map_cons, List.map_nil]); first | done | rfl | (simp only [List.length_drop, List.length_take]; rfl)) ?_
                with_reducible refine (Go.Proofs.Ytfmkdledofbhdaa.H.quittanceref03_Month.calls (wrap64 (Int.tdiv (wrap64 ((wrap64 ((wrap64 ((wrap64 (12 * t110)) + t111)) - 1)) + a1)) 12)) (wrap64 ((Int.tmod (wrap64 ((wrap64 ((wrap64 ((wrap64 (12 * t110)) + t111)) - 1)) + a1)) 12) + 1)) t115 _ A15.out).mono ?_
                rintro e w' ⟨rfl, ⟨nd, rfl⟩⟩
                refine ⟨_, rfl, ?_⟩
                refine hK.out _ _ ⟨(blk_cell BK114.out 0).trans rfl, (blk_cell BK114.out 1).trans rfl, (blk_cell BK114.out 2).trans rfl⟩ (fun hHeld => ?_)
                clear hK K
                refine norm_ (a' := ?_) ?_ ?_
                rotate_left
                · show Act.put _ (some 51) _ = _
                  simp only [Act.put, List.setIfInBounds_toArray, List.set_cons_zero, List.set_cons_succ, i64_w, i32_w]
                  rfl
                refine pure_ (i := 7) (N := some 52) (v := ?_) (a' := ?_) #[true, true, true, true, true, true, true, true, false, false, false, false, false, false] rfl rfl (any_of HT_.out (by kernel_rfl)) (fun _ _ _ h => h) (Or.inl ⟨by rfl, ?_⟩) ?_ ?_
                rotate_left
                · intro w'
                  go_simp
                  with_reducible rfl
                rotate_left
                · simp only [Act.put, List.setIfInBounds_toArray, List.set_cons_zero, List.set_cons_succ, i64_w, i32_w]
                  rfl
                refine pure_ (i := 8) (N := some 53) (v := ?_) (a' := ?_) #[true, true, true, true, true, true, true, true, true, false, false, false, false, false] rfl rfl (any_of HT_.out (by kernel_rfl)) (fun _ _ _ h => h) (Or.inl ⟨by rfl, ?_⟩) ?_ ?_
                rotate_left
                · intro w'
                  go_simp
                  with_reducible rfl
                rotate_left
                · simp only [Act.put, List.setIfInBounds_toArray, List.set_cons_zero, List.set_cons_succ, i64_w, i32_w]
                  rfl
                refine one_ (i := 9) (N := some 54) #[true, true, true, true, true, true, true, true, true, true, false, false, false, false] rfl rfl (one_of HT_.out (by kernel_rfl)) (by decide) (fun K hK => ?_)
                refine goes_ Try.func93 (by kernel_rfl) rfl #[.agg #[.int .i64 (wrap64 (Int.tdiv (wrap64 ((wrap64 ((wrap64 ((wrap64 (12 * t110)) + t111)) - 1)) + a1)) 12)), .int .i64 (wrap64 ((Int.tmod (wrap64 ((wrap64 ((wrap64 ((wrap64 (12 * t110)) + t111)) - 1)) + a1)) 12) + 1)), .int .i64 ji16]] (by rfl) rfl rfl (by (try simp only [List.map_toArray, List.map_cons, List.map_nil]); first | done | (simp only [hji16]; rfl) | rfl | (simp only [List.length_drop, List.length_take]; rfl)) ?_
                with_reducible refine (Go.Proofs.Ytfmkdledofbhdaa.H.quittanceref03_Number.calls (wrap64 (Int.tdiv (wrap64 ((wrap64 ((wrap64 ((wrap64 (12 * t110)) + t111)) - 1)) + a1)) 12)) (wrap64 ((Int.tmod (wrap64 ((wrap64 ((wrap64 ((wrap64 (12 * t110)) + t111)) - 1)) + a1)) 12) + 1)) ji16 t116 t117 _ A17.out).mono ?_
                rintro e w19 ⟨rfl, hb⟩
                refine ⟨_, rfl, ?_⟩
                have n0_ := Aside0.mk (blk_below (g := gb114) (o := .cells #[.int .i64 t110, .int .i64 t111, .int .i64 t112] 114 (0, 0)) (by (with_reducible repeat (first | refine blk_drewN ?_ _ | refine blk_drew ?_ | refine blk_alloc ?_ _)); exact BK114.out) hb)
                have n1_ := Aside0.mk (below_step (by repeat (first | (with_reducible first | exact HB.out | apply below_alloc | apply pw_below_drewN | apply below_drew1 | refine below_set ?_ GE114.out) | exact HB.out)) hb)
                clear BK114
                clear HB
                have BK114 := n0_
                have HB := n1_
                clear n0_ n1_
                (try clear hb)
                (try clear hb2)
                (try clear hk)
                (try clear hi)
                refine hK.out _ _ ⟨(blk_cell BK114.out 0).trans rfl, (blk_cell BK114.out 1).trans rfl, (blk_cell BK114.out 2).trans rfl⟩ (fun hHeld => ?_)
                clear hK K
                refine norm_ (a' := ?_) ?_ ?_
                rotate_left
                · show Act.put _ (some 54) _ = _
                  simp only [Act.put, List.setIfInBounds_toArray, List.set_cons_zero, List.set_cons_succ, i64_w, i32_w]
                  rfl
                refine pure_ (i := 10) (N := some 55) (v := ?_) (a' := ?_) #[true, true, true, true, true, true, true, true, true, true, true, false, false, false] rfl rfl (any_of HT_.out (by kernel_rfl)) (fun _ _ _ h => h) (Or.inl ⟨by rfl, ?_⟩) ?_ ?_
                rotate_left
                · intro w'
                  go_simp
                  with_reducible rfl
                rotate_left
                · simp only [Act.put, List.setIfInBounds_toArray, List.set_cons_zero, List.set_cons_succ, i64_w, i32_w]
                  rfl
                refine pure_ (i := 11) (N := some 56) (v := ?_) (a' := ?_) #[true, true, true, true, true, true, true, true, true, true, true, true, false, false] rfl rfl (any_of HT_.out (by kernel_rfl)) (fun _ _ _ h => h) (Or.inl ⟨by rfl, ?_⟩) ?_ ?_
                rotate_left
                · intro w'
                  go_simp
                  with_reducible rfl
                rotate_left
                · simp only [Act.put, List.setIfInBounds_toArray, List.set_cons_zero, List.set_cons_succ, i64_w, i32_w]
                  rfl
                refine pure_ (i := 12) (N := some 4) (v := ?_) (a' := ?_) #[true, true, true, true, true, true, true, true, true, true, true, true, true, false] rfl rfl (any_of HT_.out (by kernel_rfl)) (fun _ _ _ h => h) (Or.inl ⟨by rfl, ?_⟩) ?_ ?_
                rotate_left
                · intro w'
                  go_simp
                  with_reducible rfl
                rotate_left
                · simp only [Act.put, List.setIfInBounds_toArray, List.set_cons_zero, List.set_cons_succ, i64_w, i32_w]
                  rfl
                refine pure_ (i := 13) (N := some 5) (v := ?_) (a' := ?_) #[true, true, true, true, true, true, true, true, true, true, true, true, true, true] rfl rfl (any_of HT_.out (by kernel_rfl)) (fun _ _ _ h => h) (Or.inl ⟨by rfl, ?_⟩) ?_ ?_
                rotate_left
                · intro w'
                  go_simp
                  with_reducible rfl
                rotate_left
                · simp only [Act.put, List.setIfInBounds_toArray, List.set_cons_zero, List.set_cons_succ, i64_w, i32_w]
                  rfl
                refine done_ (done_of HT_.out (by kernel_rfl)) ?_
                try go_wp2
                go_ret2
                exact ⟨by first | rfl | (simp [errW_none, errW_some] <;> rfl) | (simp only [← hji16]; first | rfl | (simp [errW_none, errW_some] <;> rfl)) | (simp [*, errW_none, errW_some] <;> rfl), by repeat (first | (with_reducible first | exact HB.out | apply below_alloc | apply pw_below_drewN | apply below_drew1 | refine below_set ?_ GE114.out) | exact HB.out)⟩
  · rw [if_neg c4] at H
    have c4b0 : (t113 == 0) = false := beq_eq_false_iff_ne.mpr c4
    have c4b1 : (t113 != 0) = true := bne_iff_ne.mpr c4
    simp only [Option.some.injEq, Prod.mk.injEq] at H
    obtain ⟨rfl, rfl⟩ := H
    go_enter Try.func70, Try.ntmps70
    go_wp2_with (first | ((with_reducible refine gate_callee (f := 73) rfl ?_); refine goesL_ (some 13) rfl rfl Try.func73 (by kernel_rfl) rfl #[.int .i64 a0] rfl (by (try simp only [List.map_toArray, List.map_cons, List.map_nil]); first | done | rfl | (simp only [List.length_drop, List.length_take]; rfl)) ?_; (with_reducible refine (Go.Proofs.Ytfmkdledofbhdaa.H.quittanceref03_Date.calls a0 t110 t111 t112 t113 _ A3.out).mono ?_); rintro e w20 ⟨rfl, hb⟩; refine ⟨_, rfl, ?_⟩; have n0_ := Aside0.mk (below_step (by repeat (first | (with_reducible first | exact HB.out | apply below_alloc | apply pw_below_drewN | apply below_drew1) | exact HB.out)) hb); clear HB; have HB := n0_; clear n0_; (try clear hb); (try clear hb2); (try clear hk); (try clear hi)) | ((with_reducible refine gate_dst (N := 6) rfl ?_); refine box_event ?hg (N := 6) ?hd (cs := #[.int .i64 0, .int .i64 0, .int .i64 0]) (t := 114) ?hr ?_; (case hd => rfl); (case hg => rfl); (case hr => first | (go_simp; done) | (go_simp; rfl)); intro gb114 hg w21 hbox hb; have n0_ := Aside0.mk (below_step (by repeat (first | (with_reducible first | exact HB.out | apply below_alloc | apply pw_below_drewN | apply below_drew1) | exact HB.out)) hb); have n1_ := Aside0.mk (hbox); have n2_ := Aside0.mk ((by rw [hg]; exact (below_size (by repeat (first | (with_reducible first | exact HB.out | apply below_alloc | apply pw_below_drewN | apply below_drew1) | exact HB.out))) : w.heap.size ≤ gb114)); have n3_ := Aside0.mk ((by rw [hg]; exact (below_size (by repeat (first | (with_reducible first | exact HB.out | apply below_alloc | apply pw_below_drewN | apply below_drew1) | exact HB.out))) : w.heap.size ≤ gb114)); clear HB; have HB := n0_; have BK114 := n1_; have GW114 := n2_; have GE114 := n3_; clear n0_ n1_ n2_ n3_; clear hb hbox hg; (try have hu114_0 : w21.cell? ⟨gb114, 0, none⟩ = some (.int .i64 0) := (blk_cell BK114.out 0).trans rfl); (try have hu114_1 : w21.cell? ⟨gb114, 1, none⟩ = some (.int .i64 0) := (blk_cell BK114.out 1).trans rfl); (try have hu114_2 : w21.cell? ⟨gb114, 2, none⟩ = some (.int .i64 0) := (blk_cell BK114.out 2).trans rfl); (try have hv114_0 := blk_frozen BK114.out 0); (try have hv114_1 := blk_frozen BK114.out 1); (try have hv114_2 := blk_frozen BK114.out 2); have hcz22_0 : w21.cell? ⟨gb114, 0, none⟩ = some (.int .i64 0) := (blk_cell BK114.out 0).trans rfl; have hcz22_1 : w21.cell? ⟨gb114, 1, none⟩ = some (.int .i64 0) := (blk_cell BK114.out 1).trans rfl; have hcz22_2 : w21.cell? ⟨gb114, 2, none⟩ = some (.int .i64 0) := (blk_cell BK114.out 2).trans rfl; have hfz22_0 := blk_frozen BK114.out 0; have hfz22_1 := blk_frozen BK114.out 1; have hfz22_2 := blk_frozen BK114.out 2))
    go_ret2
    exact ⟨by first | rfl | (simp [errW_none, errW_some] <;> rfl) | (simp [*, errW_none, errW_some] <;> rfl), by repeat (first | (with_reducible first | exact HB.out | apply below_alloc | apply pw_below_drewN | apply below_drew1 | refine below_set ?_ GE114.out) | exact HB.out)⟩

/-! ### quittanceref06_thirty: function 77 -/
def quittanceref06_thirty.f (a0 : Int) : Option (Int) := (Go.Proofs.Ytfmkdledofbhdaa.H.quittanceref03_Date.f a0).bind fun bt118 => (some (wrap64 ((wrap64 ((wrap64 (360 * bt118.1)) + (wrap64 (30 * bt118.2.1)))) + (mn bt118.2.2.1 30))))
set_option maxHeartbeats 8000000 in
set_option maxRecDepth 100000 in
theorem quittanceref06_thirty.calls (a0 : Int) (r : Int) (w : World) (h : quittanceref06_thirty.f a0 = some r) :
    Calls Try.prog 77 #[.int .i64 a0] w fun e w' => e = .returned (.int .i64 r) ∧ Below w.heap.size w w' := by
  have hu114 := Try.underlying114
  have HB := Aside0.mk (Below.refl w.heap.size w)
  have H : ((Go.Proofs.Ytfmkdledofbhdaa.H.quittanceref03_Date.f a0).bind fun bt118 => (some (wrap64 ((wrap64 ((wrap64 (360 * bt118.1)) + (wrap64 (30 * bt118.2.1)))) + (mn bt118.2.2.1 30))))) = some r := h
  clear h
  replace H := Option.bind_eq_some_iff.mp H
  obtain ⟨⟨t118, t119, t120, t121⟩, A20, H⟩ := H
  replace H : (some (wrap64 ((wrap64 ((wrap64 (360 * t118)) + (wrap64 (30 * t119)))) + (mn t120 30)))) = some r := H
  have A2 := Aside0.mk A20
  clear A20
  obtain ⟨ji3, hji3⟩ : ∃ j_ : Int, (mn t120 30) = j_ := ⟨_, rfl⟩
  replace H : (some (wrap64 ((wrap64 ((wrap64 (360 * t118)) + (wrap64 (30 * t119)))) + (ji3)))) = some r := by first | (rw [hji3] at H; exact H) | (simp only [hji3] at H ⊢; exact H)
  (try rw [hji3] at A2)
  (try (have hji3h : ji3 ≤ 30 := by (rw [← hji3]; unfold mn; (repeat' split) <;> omega)))
  (try (have hji3g : ji3 ≤ 64 := by omega))
  have hji3_ : (if 30 < t120 then 30 else t120) = ji3 := hji3
  obtain rfl := Option.some.inj H
  go_enter Try.func77, Try.ntmps77
  go_wp2_with (first | ((with_reducible refine gate_callee (f := 73) rfl ?_); refine goesL_ (some 7) rfl rfl Try.func73 (by kernel_rfl) rfl #[.int .i64 a0] rfl (by (try simp only [List.map_toArray, List.map_cons, List.map_nil]); first | done | rfl | (simp only [List.length_drop, List.length_take]; rfl)) ?_; (with_reducible refine (Go.Proofs.Ytfmkdledofbhdaa.H.quittanceref03_Date.calls a0 t118 t119 t120 t121 _ A2.out).mono ?_); rintro e w4 ⟨rfl, hb⟩; refine ⟨_, rfl, ?_⟩; have n0_ := Aside0.mk (below_step (by repeat (first | (with_reducible first | exact HB.out | apply below_alloc | apply pw_below_drewN | apply below_drew1) | exact HB.out)) hb); clear HB; have HB := n0_; clear n0_; (try clear hb); (try clear hb2); (try clear hk); (try clear hi)) | ((with_reducible refine gate_dst (N := 3) rfl ?_); refine box_event ?hg (N := 3) ?hd (cs := #[.int .i64 0, .int .i64 0, .int .i64 0]) (t := 114) ?hr ?_; (case hd => rfl); (case hg => rfl); (case hr => first | (go_simp; done) | (go_simp; rfl)); intro gb122 hg w5 hbox hb; have n0_ := Aside0.mk (below_step (by repeat (first | (with_reducible first | exact HB.out | apply below_alloc | apply pw_below_drewN | apply below_drew1) | exact HB.out)) hb); have n1_ := Aside0.mk (hbox); have n2_ := Aside0.mk ((by rw [hg]; exact (below_size (by repeat (first | (with_reducible first | exact HB.out | apply below_alloc | apply pw_below_drewN | apply below_drew1) | exact HB.out))) : w.heap.size ≤ gb122)); have n3_ := Aside0.mk ((by rw [hg]; exact (below_size (by repeat (first | (with_reducible first | exact HB.out | apply below_alloc | apply pw_below_drewN | apply below_drew1) | exact HB.out))) : w.heap.size ≤ gb122)); clear HB; have HB := n0_; have BK122 := n1_; have GW122 := n2_; have GE122 := n3_; clear n0_ n1_ n2_ n3_; clear hb hbox hg; (try have hu122_0 : w5.cell? ⟨gb122, 0, none⟩ = some (.int .i64 0) := (blk_cell BK122.out 0).trans rfl); (try have hu122_1 : w5.cell? ⟨gb122, 1, none⟩ = some (.int .i64 0) := (blk_cell BK122.out 1).trans rfl); (try have hu122_2 : w5.cell? ⟨gb122, 2, none⟩ = some (.int .i64 0) := (blk_cell BK122.out 2).trans rfl); (try have hv122_0 := blk_frozen BK122.out 0); (try have hv122_1 := blk_frozen BK122.out 1); (try have hv122_2 := blk_frozen BK122.out 2); have hcz6_0 : w5.cell? ⟨gb122, 0, none⟩ = some (.int .i64 0) := (blk_cell BK122.out 0).trans rfl; have hcz6_1 : w5.cell? ⟨gb122, 1, none⟩ = some (.int .i64 0) := (blk_cell BK122.out 1).trans rfl; have hcz6_2 : w5.cell? ⟨gb122, 2, none⟩ = some (.int .i64 0) := (blk_cell BK122.out 2).trans rfl; have hfz6_0 := blk_frozen BK122.out 0; have hfz6_1 := blk_frozen BK122.out 1; have hfz6_2 := blk_frozen BK122.out 2))
  go_ret
  exact ⟨by first | rfl | (simp [errW_none, errW_some] <;> rfl) | (simp only [← hji3]; first | rfl | (simp [errW_none, errW_some] <;> rfl)) | (simp [*, errW_none, errW_some] <;> rfl), by repeat (first | (with_reducible first | exact HB.out | apply below_alloc | apply pw_below_drewN | apply below_drew1 | refine below_set ?_ GE122.out) | exact HB.out)⟩

/-! ### quittanceref06_One: function 78 -/
def quittanceref06_One.f (a0 : Int) (a1 : Int) : Option (Int) := (Go.Proofs.Ytfmkdledofbhdaa.H.quittanceref03_Date.f a1).bind fun bt123 => (if a0 = 2 then (some 1) else (if a0 = 3 then ((Go.Proofs.Ytfmkdledofbhdaa.H.quittanceref03_Long.f bt123.1).bind fun t128 => (if t128 = true then (some 365) else (some 366))) else ((quittanceref06_thirty.f (wrap64 (a1 + 1))).bind fun t129 => ((quittanceref06_thirty.f a1).bind fun t130 => (some (wrap64 (t129 - t130)))))))
set_option maxHeartbeats 8000000 in
set_option maxRecDepth 100000 in
theorem quittanceref06_One.calls (a0 : Int) (a1 : Int) (r : Int) (w : World) (h : quittanceref06_One.f a0 a1 = some r) :
    Calls Try.prog 78 #[.int .i64 a0, .int .i64 a1] w fun e w' => e = .returned (.int .i64 r) ∧ Below w.heap.size w w' := by
  have hu114 := Try.underlying114
  have HB := Aside0.mk (Below.refl w.heap.size w)
  have H : ((Go.Proofs.Ytfmkdledofbhdaa.H.quittanceref03_Date.f a1).bind fun bt123 => (if a0 = 2 then (some 1) else (if a0 = 3 then ((Go.Proofs.Ytfmkdledofbhdaa.H.quittanceref03_Long.f bt123.1).bind fun t128 => (if t128 = true then (some 365) else (some 366))) else ((quittanceref06_thirty.f (wrap64 (a1 + 1))).bind fun t129 => ((quittanceref06_thirty.f a1).bind fun t130 => (some (wrap64 (t129 - t130)))))))) = some r := h
  clear h
  replace H := Option.bind_eq_some_iff.mp H
  obtain ⟨⟨t123, t124, t125, t126⟩, A30, H⟩ := H
  replace H : (if a0 = 2 then (some 1) else (if a0 = 3 then ((Go.Proofs.Ytfmkdledofbhdaa.H.quittanceref03_Long.f t123).bind fun t128 => (if t128 = true then (some 365) else (some 366))) else ((quittanceref06_thirty.f (wrap64 (a1 + 1))).bind fun t129 => ((quittanceref06_thirty.f a1).bind fun t130 => (some (wrap64 (t129 - t130))))))) = some r := H
  have A3 := Aside0.mk A30
  clear A30
  by_cases c4 : a0 = 2
  · rw [if_pos c4] at H
    have c4b0 : (a0 == 2) = true := beq_iff_eq.mpr c4
    have c4b1 : (a0 != 2) = false := bne_eq_false_iff_eq.mpr c4
    clear c4
    obtain rfl := Option.some.inj H
    go_enter Try.func78, Try.ntmps78
    go_wp2_with (first | ((with_reducible refine gate_callee (f := 73) rfl ?_); refine goesL_ (some 9) rfl rfl Try.func73 (by kernel_rfl) rfl #[.int .i64 a1] rfl (by (try simp only [List.map_toArray, List.map_cons, List.map_nil]); first | done | rfl | (simp only [List.length_drop, List.length_take]; rfl)) ?_; (with_reducible refine (Go.Proofs.Ytfmkdledofbhdaa.H.quittanceref03_Date.calls a1 t123 t124 t125 t126 _ A3.out).mono ?_); rintro e w5 ⟨rfl, hb⟩; refine ⟨_, rfl, ?_⟩; have n0_ := Aside0.mk (below_step (by repeat (first | (with_reducible first | exact HB.out | apply below_alloc | apply pw_below_drewN | apply below_drew1) | exact HB.out)) hb); clear HB; have HB := n0_; clear n0_; (try clear hb); (try clear hb2); (try clear hk); (try clear hi)) | ((with_reducible refine gate_dst (N := 5) rfl ?_); refine box_event ?hg (N := 5) ?hd (cs := #[.int .i64 0, .int .i64 0, .int .i64 0]) (t := 114) ?hr ?_; (case hd => rfl); (case hg => rfl); (case hr => first | (go_simp; done) | (go_simp; rfl)); intro gb127 hg w6 hbox hb; have n0_ := Aside0.mk (below_step (by repeat (first | (with_reducible first | exact HB.out | apply below_alloc | apply pw_below_drewN | apply below_drew1) | exact HB.out)) hb); have n1_ := Aside0.mk (hbox); have n2_ := Aside0.mk ((by rw [hg]; exact (below_size (by repeat (first | (with_reducible first | exact HB.out | apply below_alloc | apply pw_below_drewN | apply below_drew1) | exact HB.out))) : w.heap.size ≤ gb127)); have n3_ := Aside0.mk ((by rw [hg]; exact (below_size (by repeat (first | (with_reducible first | exact HB.out | apply below_alloc | apply pw_below_drewN | apply below_drew1) | exact HB.out))) : w.heap.size ≤ gb127)); clear HB; have HB := n0_; have BK127 := n1_; have GW127 := n2_; have GE127 := n3_; clear n0_ n1_ n2_ n3_; clear hb hbox hg; (try have hu127_0 : w6.cell? ⟨gb127, 0, none⟩ = some (.int .i64 0) := (blk_cell BK127.out 0).trans rfl); (try have hu127_1 : w6.cell? ⟨gb127, 1, none⟩ = some (.int .i64 0) := (blk_cell BK127.out 1).trans rfl); (try have hu127_2 : w6.cell? ⟨gb127, 2, none⟩ = some (.int .i64 0) := (blk_cell BK127.out 2).trans rfl); (try have hv127_0 := blk_frozen BK127.out 0); (try have hv127_1 := blk_frozen BK127.out 1); (try have hv127_2 := blk_frozen BK127.out 2); have hcz7_0 : w6.cell? ⟨gb127, 0, none⟩ = some (.int .i64 0) := (blk_cell BK127.out 0).trans rfl; have hcz7_1 : w6.cell? ⟨gb127, 1, none⟩ = some (.int .i64 0) := (blk_cell BK127.out 1).trans rfl; have hcz7_2 : w6.cell? ⟨gb127, 2, none⟩ = some (.int .i64 0) := (blk_cell BK127.out 2).trans rfl; have hfz7_0 := blk_frozen BK127.out 0; have hfz7_1 := blk_frozen BK127.out 1; have hfz7_2 := blk_frozen BK127.out 2))
    go_ret
    exact ⟨by first | rfl | (simp [errW_none, errW_some] <;> rfl) | (simp [*, errW_none, errW_some] <;> rfl), by repeat (first | (with_reducible first | exact HB.out | apply below_alloc | apply pw_below_drewN | apply below_drew1 | refine below_set ?_ GE127.out) | exact HB.out)⟩
  · rw [if_neg c4] at H
    have c4b0 : (a0 == 2) = false := beq_eq_false_iff_ne.mpr c4
    have c4b1 : (a0 != 2) = true := bne_iff_ne.mpr c4
    by_cases c8 : a0 = 3
    · rw [if_pos c8] at H
      have c8b0 : (a0 == 3) = true := beq_iff_eq.mpr c8
      have c8b1 : (a0 != 3) = false := bne_eq_false_iff_eq.mpr c8
      clear c8
      replace H := Option.bind_eq_some_iff.mp H
      obtain ⟨t128, A90, H⟩ := H
      replace H : (if t128 = true then (some 365) else (some 366)) = some r := H
      have A9 := Aside0.mk A90
      clear A90
      by_cases c10 : t128 = true
      · subst c10
        have H1 : (some 365) = some r := by rw [if_pos rfl] at H; exact H
        clear H
        have H := H1
        clear H1
        obtain rfl := Option.some.inj H
        go_enter Try.func78, Try.ntmps78
        go_wp2_with (first | ((with_reducible refine gate_callee (f := 73) rfl ?_); refine goesL_ (some 9) rfl rfl Try.func73 (by kernel_rfl) rfl #[.int .i64 a1] rfl (by (try simp only [List.map_toArray, List.map_cons, List.map_nil]); first | done | rfl | (simp only [List.length_drop, List.length_take]; rfl)) ?_; (with_reducible refine (Go.Proofs.Ytfmkdledofbhdaa.H.quittanceref03_Date.calls a1 t123 t124 t125 t126 _ A3.out).mono ?_); rintro e w11 ⟨rfl, hb⟩; refine ⟨_, rfl, ?_⟩; have n0_ := Aside0.mk (below_step (by repeat (first | (with_reducible first | exact HB.out | apply below_alloc | apply pw_below_drewN | apply below_drew1) | exact HB.out)) hb); clear HB; have HB := n0_; clear n0_; (try clear hb); (try clear hb2); (try clear hk); (try clear hi)) | ((with_reducible refine gate_dst (N := 5) rfl ?_); refine box_event ?hg (N := 5) ?hd (cs := #[.int .i64 0, .int .i64 0, .int .i64 0]) (t := 114) ?hr ?_; (case hd => rfl); (case hg => rfl); (case hr => first | (go_simp; done) | (go_simp; rfl)); intro gb127 hg w12 hbox hb; have n0_ := Aside0.mk (below_step (by repeat (first | (with_reducible first | exact HB.out | apply below_alloc | apply pw_below_drewN | apply below_drew1) | exact HB.out)) hb); have n1_ := Aside0.mk (hbox); have n2_ := Aside0.mk ((by rw [hg]; exact (below_size (by repeat (first | (with_reducible first | exact HB.out | apply below_alloc | apply pw_below_drewN | apply below_drew1) | exact HB.out))) : w.heap.size ≤ gb127)); have n3_ := Aside0.mk ((by rw [hg]; exact (below_size (by repeat (first | (with_reducible first | exact HB.out | apply below_alloc | apply pw_below_drewN | apply below_drew1) | exact HB.out))) : w.heap.size ≤ gb127)); clear HB; have HB := n0_; have BK127 := n1_; have GW127 := n2_; have GE127 := n3_; clear n0_ n1_ n2_ n3_; clear hb hbox hg; (try have hu127_0 : w12.cell? ⟨gb127, 0, none⟩ = some (.int .i64 0) := (blk_cell BK127.out 0).trans rfl); (try have hu127_1 : w12.cell? ⟨gb127, 1, none⟩ = some (.int .i64 0) := (blk_cell BK127.out 1).trans rfl); (try have hu127_2 : w12.cell? ⟨gb127, 2, none⟩ = some (.int .i64 0) := (blk_cell BK127.out 2).trans rfl); (try have hv127_0 := blk_frozen BK127.out 0); (try have hv127_1 := blk_frozen BK127.out 1); (try have hv127_2 := blk_frozen BK127.out 2); have hcz13_0 : w12.cell? ⟨gb127, 0, none⟩ = some (.int .i64 0) := (blk_cell BK127.out 0).trans rfl; have hcz13_1 : w12.cell? ⟨gb127, 1, none⟩ = some (.int .i64 0) := (blk_cell BK127.out 1).trans rfl; have hcz13_2 : w12.cell? ⟨gb127, 2, none⟩ = some (.int .i64 0) := (blk_cell BK127.out 2).trans rfl; have hfz13_0 := blk_frozen BK127.out 0; have hfz13_1 := blk_frozen BK127.out 1; have hfz13_2 := blk_frozen BK127.out 2) | ((with_reducible refine gate_callee (f := 100) rfl ?_); refine goesL_ (some 19) rfl rfl Try.func100 (by kernel_rfl) rfl #[.int .i64 t123] rfl (by (try simp only [List.map_toArray, List.map_cons, List.map_nil]); first | done | rfl | (simp only [List.length_drop, List.length_take]; rfl)) ?_; (with_reducible refine (Go.Proofs.Ytfmkdledofbhdaa.H.quittanceref03_Long.calls t123 true _ A9.out).mono ?_); rintro e w' ⟨rfl, ⟨nd, rfl⟩⟩; refine ⟨_, rfl, ?_⟩))
        go_ret
        exact ⟨by first | rfl | (simp [errW_none, errW_some] <;> rfl) | (simp [*, errW_none, errW_some] <;> rfl), by repeat (first | (with_reducible first | exact HB.out | apply below_alloc | apply pw_below_drewN | apply below_drew1 | refine below_set ?_ GE127.out) | exact HB.out)⟩
      · replace c10 := Bool.eq_false_iff.mpr c10
        subst c10
        have H1 : (some 366) = some r := by rw [if_neg (show ¬ (false = true) by decide)] at H; exact H
        clear H
        have H := H1
        clear H1
        obtain rfl := Option.some.inj H
        go_enter Try.func78, Try.ntmps78
        go_wp2_with (first | ((with_reducible refine gate_callee (f := 73) rfl ?_); refine goesL_ (some 9) rfl rfl Try.func73 (by kernel_rfl) rfl #[.int .i64 a1] rfl (by (try simp only [List.map_toArray, List.map_cons, List.map_nil]); first | done | rfl | (simp only [List.length_drop, List.length_take]; rfl)) ?_; (with_reducible refine (Go.Proofs.Ytfmkdledofbhdaa.H.quittanceref03_Date.calls a1 t123 t124 t125 t126 _ A3.out).mono ?_); rintro e w14 ⟨rfl, hb⟩; refine ⟨_, rfl, ?_⟩; have n0_ := Aside0.mk (below_step (by repeat (first | (with_reducible first | exact HB.out | apply below_alloc | apply pw_below_drewN | apply below_drew1) | exact HB.out)) hb); clear HB; have HB := n0_; clear n0_; (try clear hb); (try clear hb2); (try clear hk); (try clear hi)) | ((with_reducible refine gate_dst (N := 5) rfl ?_); refine box_event ?hg (N := 5) ?hd (cs := #[.int .i64 0, .int .i64 0, .int .i64 0]) (t := 114) ?hr ?_; (case hd => rfl); (case hg => rfl); (case hr => first | (go_simp; done) | (go_simp; rfl)); intro gb127 hg w15 hbox hb; have n0_ := Aside0.mk (below_step (by repeat (first | (with_reducible first | exact HB.out | apply below_alloc | apply pw_below_drewN | apply below_drew1) | exact HB.out)) hb); have n1_ := Aside0.mk (hbox); have n2_ := Aside0.mk ((by rw [hg]; exact (below_size (by repeat (first | (with_reducible first | exact HB.out | apply below_alloc | apply pw_below_drewN | apply below_drew1) | exact HB.out))) : w.heap.size ≤ gb127)); have n3_ := Aside0.mk ((by rw [hg]; exact (below_size (by repeat (first | (with_reducible first | exact HB.out | apply below_alloc | apply pw_below_drewN | apply below_drew1) | exact HB.out))) : w.heap.size ≤ gb127)); clear HB; have HB := n0_; have BK127 := n1_; have GW127 := n2_; have GE127 := n3_; clear n0_ n1_ n2_ n3_; clear hb hbox hg; (try have hu127_0 : w15.cell? ⟨gb127, 0, none⟩ = some (.int .i64 0) := (blk_cell BK127.out 0).trans rfl); (try have hu127_1 : w15.cell? ⟨gb127, 1, none⟩ = some (.int .i64 0) := (blk_cell BK127.out 1).trans rfl); (try have hu127_2 : w15.cell? ⟨gb127, 2, none⟩ = some (.int .i64 0) := (blk_cell BK127.out 2).trans rfl); (try have hv127_0 := blk_frozen BK127.out 0); (try have hv127_1 := blk_frozen BK127.out 1); (try have hv127_2 := blk_frozen BK127.out 2); have hcz16_0 : w15.cell? ⟨gb127, 0, none⟩ = some (.int .i64 0) := (blk_cell BK127.out 0).trans rfl; have hcz16_1 : w15.cell? ⟨gb127, 1, none⟩ = some (.int .i64 0) := (blk_cell BK127.out 1).trans rfl; have hcz16_2 : w15.cell? ⟨gb127, 2, none⟩ = some (.int .i64 0) := (blk_cell BK127.out 2).trans rfl; have hfz16_0 := blk_frozen BK127.out 0; have hfz16_1 := blk_frozen BK127.out 1; have hfz16_2 := blk_frozen BK127.out 2) | ((with_reducible refine gate_callee (f := 100) rfl ?_); refine goesL_ (some 19) rfl rfl Try.func100 (by kernel_rfl) rfl #[.int .i64 t123] rfl (by (try simp only [List.map_toArray, List.map_cons, List.map_nil]); first | done | rfl | (simp only [List.length_drop, List.length_take]; rfl)) ?_; (with_reducible refine (Go.Proofs.Ytfmkdledofbhdaa.H.quittanceref03_Long.calls t123 false _ A9.out).mono ?_); rintro e w' ⟨rfl, ⟨nd, rfl⟩⟩; refine ⟨_, rfl, ?_⟩))
        go_ret
        exact ⟨by first | rfl | (simp [errW_none, errW_some] <;> rfl) | (simp [*, errW_none, errW_some] <;> rfl), by repeat (first | (with_reducible first | exact HB.out | apply below_alloc | apply pw_below_drewN | apply below_drew1 | refine below_set ?_ GE127.out) | exact HB.out)⟩
    · rw [if_neg c8] at H
      have c8b0 : (a0 == 3) = false := beq_eq_false_iff_ne.mpr c8
      have c8b1 : (a0 != 3) = true := bne_iff_ne.mpr c8
      replace H := Option.bind_eq_some_iff.mp H
      obtain ⟨t129, A170, H⟩ := H
      replace H : ((quittanceref06_thirty.f a1).bind fun t130 => (some (wrap64 (t129 - t130)))) = some r := H
      have A17 := Aside0.mk A170
      clear A170
      replace H := Option.bind_eq_some_iff.mp H
      obtain ⟨t130, A180, H⟩ := H
      replace H : (some (wrap64 (t129 - t130))) = some r := H
      have A18 := Aside0.mk A180
      clear A180
      obtain rfl := Option.some.inj H
      go_enter Try.func78, Try.ntmps78
      go_wp2_with (first | ((with_reducible refine gate_callee (f := 73) rfl ?_); refine goesL_ (some 9) rfl rfl Try.func73 (by kernel_rfl) rfl #[.int .i64 a1] rfl (by (try simp only [List.map_toArray, List.map_cons, List.map_nil]); first | done | rfl | (simp only [List.length_drop, List.length_take]; rfl)) ?_; (with_reducible refine (Go.Proofs.Ytfmkdledofbhdaa.H.quittanceref03_Date.calls a1 t123 t124 t125 t126 _ A3.out).mono ?_); rintro e w19 ⟨rfl, hb⟩; refine ⟨_, rfl, ?_⟩; have n0_ := Aside0.mk (below_step (by repeat (first | (with_reducible first | exact HB.out | apply below_alloc | apply pw_below_drewN | apply below_drew1) | exact HB.out)) hb); clear HB; have HB := n0_; clear n0_; (try clear hb); (try clear hb2); (try clear hk); (try clear hi)) | ((with_reducible refine gate_dst (N := 5) rfl ?_); refine box_event ?hg (N := 5) ?hd (cs := #[.int .i64 0, .int .i64 0, .int .i64 0]) (t := 114) ?hr ?_; (case hd => rfl); (case hg => rfl); (case hr => first | (go_simp; done) | (go_simp; rfl)); intro gb127 hg w20 hbox hb; have n0_ := Aside0.mk (below_step (by repeat (first | (with_reducible first | exact HB.out | apply below_alloc | apply pw_below_drewN | apply below_drew1) | exact HB.out)) hb); have n1_ := Aside0.mk (hbox); have n2_ := Aside0.mk ((by rw [hg]; exact (below_size (by repeat (first | (with_reducible first | exact HB.out | apply below_alloc | apply pw_below_drewN | apply below_drew1) | exact HB.out))) : w.heap.size ≤ gb127)); have n3_ := Aside0.mk ((by rw [hg]; exact (below_size (by repeat (first | (with_reducible first | exact HB.out | apply below_alloc | apply pw_below_drewN | apply below_drew1) | exact HB.out))) : w.heap.size ≤ gb127)); clear HB; have HB := n0_; have BK127 := n1_; have GW127 := n2_; have GE127 := n3_; clear n0_ n1_ n2_ n3_; clear hb hbox hg; (try have hu127_0 : w20.cell? ⟨gb127, 0, none⟩ = some (.int .i64 0) := (blk_cell BK127.out 0).trans rfl); (try have hu127_1 : w20.cell? ⟨gb127, 1, none⟩ = some (.int .i64 0) := (blk_cell BK127.out 1).trans rfl); (try have hu127_2 : w20.cell? ⟨gb127, 2, none⟩ = some (.int .i64 0) := (blk_cell BK127.out 2).trans rfl); (try have hv127_0 := blk_frozen BK127.out 0); (try have hv127_1 := blk_frozen BK127.out 1); (try have hv127_2 := blk_frozen BK127.out 2); have hcz21_0 : w20.cell? ⟨gb127, 0, none⟩ = some (.int .i64 0) := (blk_cell BK127.out 0).trans rfl; have hcz21_1 : w20.cell? ⟨gb127, 1, none⟩ = some (.int .i64 0) := (blk_cell BK127.out 1).trans rfl; have hcz21_2 : w20.cell? ⟨gb127, 2, none⟩ = some (.int .i64 0) := (blk_cell BK127.out 2).trans rfl; have hfz21_0 := blk_frozen BK127.out 0; have hfz21_1 := blk_frozen BK127.out 1; have hfz21_2 := blk_frozen BK127.out 2) | ((with_reducible refine gate_callee (f := 77) rfl ?_); refine goesL_ (some 22) rfl rfl Try.func77 (by kernel_rfl) rfl #[.int .i64 (wrap64 (a1 + 1))] rfl (by (try simp only [List.map_toArray, List.map_cons, List.map_nil]); first | done | rfl | (simp only [List.length_drop, List.length_take]; rfl)) ?_; (with_reducible refine (quittanceref06_thirty.calls (wrap64 (a1 + 1)) t129 _ A17.out).mono ?_); rintro e w22 ⟨rfl, hb⟩; refine ⟨_, rfl, ?_⟩; have n0_ := Aside0.mk (blk_below (g := gb127) (o := .cells #[.int .i64 t123, .int .i64 t124, .int .i64 t125] 114 (0, 0)) (by (with_reducible repeat (first | refine blk_drewN ?_ _ | refine blk_drew ?_ | refine blk_alloc ?_ _)); refine blk_put (cs := #[.int .i64 t123, .int .i64 t124, .int .i64 0]) ?_ 2 _ rfl; (with_reducible repeat (first | refine blk_drewN ?_ _ | refine blk_drew ?_ | refine blk_alloc ?_ _)); refine blk_put (cs := #[.int .i64 t123, .int .i64 0, .int .i64 0]) ?_ 1 _ rfl; (with_reducible repeat (first | refine blk_drewN ?_ _ | refine blk_drew ?_ | refine blk_alloc ?_ _)); refine blk_put (cs := #[.int .i64 0, .int .i64 0, .int .i64 0]) ?_ 0 _ rfl; (with_reducible repeat (first | refine blk_drewN ?_ _ | refine blk_drew ?_ | refine blk_alloc ?_ _)); exact BK127.out) hb); have n1_ := Aside0.mk (below_step (by repeat (first | (with_reducible first | exact HB.out | apply below_alloc | apply pw_below_drewN | apply below_drew1 | refine below_set ?_ GE127.out) | exact HB.out)) hb); clear BK127; clear HB; have BK127 := n0_; have HB := n1_; clear n0_ n1_; (try clear hb); (try clear hb2); (try clear hk); (try clear hi); (try have hu127_0 : w22.cell? ⟨gb127, 0, none⟩ = some (.int .i64 t123) := (blk_cell BK127.out 0).trans rfl); (try have hu127_1 : w22.cell? ⟨gb127, 1, none⟩ = some (.int .i64 t124) := (blk_cell BK127.out 1).trans rfl); (try have hu127_2 : w22.cell? ⟨gb127, 2, none⟩ = some (.int .i64 t125) := (blk_cell BK127.out 2).trans rfl); (try have hv127_0 := blk_frozen BK127.out 0); (try have hv127_1 := blk_frozen BK127.out 1); (try have hv127_2 := blk_frozen BK127.out 2)) | ((with_reducible refine gate_callee (f := 77) rfl ?_); refine goesL_ (some 24) rfl rfl Try.func77 (by kernel_rfl) rfl #[.int .i64 a1] rfl (by (try simp only [List.map_toArray, List.map_cons, List.map_nil]); first | done | rfl | (simp only [List.length_drop, List.length_take]; rfl)) ?_; (with_reducible refine (quittanceref06_thirty.calls a1 t130 _ A18.out).mono ?_); rintro e w23 ⟨rfl, hb⟩; refine ⟨_, rfl, ?_⟩; have n0_ := Aside0.mk (blk_below (g := gb127) (o := .cells #[.int .i64 t123, .int .i64 t124, .int .i64 t125] 114 (0, 0)) (by (with_reducible repeat (first | refine blk_drewN ?_ _ | refine blk_drew ?_ | refine blk_alloc ?_ _)); exact BK127.out) hb); have n1_ := Aside0.mk (below_step (by repeat (first | (with_reducible first | exact HB.out | apply below_alloc | apply pw_below_drewN | apply below_drew1 | refine below_set ?_ GE127.out) | exact HB.out)) hb); clear BK127; clear HB; have BK127 := n0_; have HB := n1_; clear n0_ n1_; (try clear hb); (try clear hb2); (try clear hk); (try clear hi); (try have hu127_0 : w23.cell? ⟨gb127, 0, none⟩ = some (.int .i64 t123) := (blk_cell BK127.out 0).trans rfl); (try have hu127_1 : w23.cell? ⟨gb127, 1, none⟩ = some (.int .i64 t124) := (blk_cell BK127.out 1).trans rfl); (try have hu127_2 : w23.cell? ⟨gb127, 2, none⟩ = some (.int .i64 t125) := (blk_cell BK127.out 2).trans rfl); (try have hv127_0 := blk_frozen BK127.out 0); (try have hv127_1 := blk_frozen BK127.out 1); (try have hv127_2 := blk_frozen BK127.out 2)))
      go_ret
      exact ⟨by first | rfl | (simp [errW_none, errW_some] <;> rfl) | (simp [*, errW_none, errW_some] <;> rfl), by repeat (first | (with_reducible first | exact HB.out | apply below_alloc | apply pw_below_drewN | apply below_drew1 | refine below_set ?_ GE127.out) | exact HB.out)⟩

/-! ### business_month: function 92 -/
def business_month.f (a0 : Int) : Option (Int) := (Go.Proofs.Ytfmkdledofbhdaa.H.civil_Date.f a0).bind fun bt131 => (some (wrap64 ((wrap64 (12 * bt131.1)) + bt131.2.1)))
set_option maxHeartbeats 8000000 in
set_option maxRecDepth 100000 in
theorem business_month.calls (a0 : Int) (r : Int) (w : World) (h : business_month.f a0 = some r) :
    Calls Try.prog 92 #[.int .i64 a0] w fun e w' => e = .returned (.int .i64 r) ∧ Below w.heap.size w w' := by
  have hu114 := Try.underlying114
  have HB := Aside0.mk (Below.refl w.heap.size w)
  have H : ((Go.Proofs.Ytfmkdledofbhdaa.H.civil_Date.f a0).bind fun bt131 => (some (wrap64 ((wrap64 (12 * bt131.1)) + bt131.2.1)))) = some r := h
  clear h
  replace H := Option.bind_eq_some_iff.mp H
  obtain ⟨⟨t131, t132, t133, t134⟩, A20, H⟩ := H
  replace H : (some (wrap64 ((wrap64 (12 * t131)) + t132))) = some r := H
  have A2 := Aside0.mk A20
  clear A20
  obtain rfl := Option.some.inj H
  go_enter Try.func92, Try.ntmps92
  go_wp2_with (first | ((with_reducible refine gate_callee (f := 97) rfl ?_); refine goesL_ (some 7) rfl rfl Try.func97 (by kernel_rfl) rfl #[.int .i64 a0] rfl (by (try simp only [List.map_toArray, List.map_cons, List.map_nil]); first | done | rfl | (simp only [List.length_drop, List.length_take]; rfl)) ?_; (with_reducible refine (Go.Proofs.Ytfmkdledofbhdaa.H.civil_Date.calls a0 t131 t132 t133 t134 _ A2.out).mono ?_); rintro e w3 ⟨rfl, hb⟩; refine ⟨_, rfl, ?_⟩; have n0_ := Aside0.mk (below_step (by repeat (first | (with_reducible first | exact HB.out | apply below_alloc | apply pw_below_drewN | apply below_drew1) | exact HB.out)) hb); clear HB; have HB := n0_; clear n0_; (try clear hb); (try clear hb2); (try clear hk); (try clear hi)) | ((with_reducible refine gate_dst (N := 3) rfl ?_); refine box_event ?hg (N := 3) ?hd (cs := #[.int .i64 0, .int .i64 0, .int .i64 0]) (t := 114) ?hr ?_; (case hd => rfl); (case hg => rfl); (case hr => first | (go_simp; done) | (go_simp; rfl)); intro gb135 hg w4 hbox hb; have n0_ := Aside0.mk (below_step (by repeat (first | (with_reducible first | exact HB.out | apply below_alloc | apply pw_below_drewN | apply below_drew1) | exact HB.out)) hb); have n1_ := Aside0.mk (hbox); have n2_ := Aside0.mk ((by rw [hg]; exact (below_size (by repeat (first | (with_reducible first | exact HB.out | apply below_alloc | apply pw_below_drewN | apply below_drew1) | exact HB.out))) : w.heap.size ≤ gb135)); have n3_ := Aside0.mk ((by rw [hg]; exact (below_size (by repeat (first | (with_reducible first | exact HB.out | apply below_alloc | apply pw_below_drewN | apply below_drew1) | exact HB.out))) : w.heap.size ≤ gb135)); clear HB; have HB := n0_; have BK135 := n1_; have GW135 := n2_; have GE135 := n3_; clear n0_ n1_ n2_ n3_; clear hb hbox hg; (try have hu135_0 : w4.cell? ⟨gb135, 0, none⟩ = some (.int .i64 0) := (blk_cell BK135.out 0).trans rfl); (try have hu135_1 : w4.cell? ⟨gb135, 1, none⟩ = some (.int .i64 0) := (blk_cell BK135.out 1).trans rfl); (try have hu135_2 : w4.cell? ⟨gb135, 2, none⟩ = some (.int .i64 0) := (blk_cell BK135.out 2).trans rfl); (try have hv135_0 := blk_frozen BK135.out 0); (try have hv135_1 := blk_frozen BK135.out 1); (try have hv135_2 := blk_frozen BK135.out 2); have hcz5_0 : w4.cell? ⟨gb135, 0, none⟩ = some (.int .i64 0) := (blk_cell BK135.out 0).trans rfl; have hcz5_1 : w4.cell? ⟨gb135, 1, none⟩ = some (.int .i64 0) := (blk_cell BK135.out 1).trans rfl; have hcz5_2 : w4.cell? ⟨gb135, 2, none⟩ = some (.int .i64 0) := (blk_cell BK135.out 2).trans rfl; have hfz5_0 := blk_frozen BK135.out 0; have hfz5_1 := blk_frozen BK135.out 1; have hfz5_2 := blk_frozen BK135.out 2))
  go_ret
  exact ⟨by first | rfl | (simp [errW_none, errW_some] <;> rfl) | (simp [*, errW_none, errW_some] <;> rfl), by repeat (first | (with_reducible first | exact HB.out | apply below_alloc | apply pw_below_drewN | apply below_drew1 | refine below_set ?_ GE135.out) | exact HB.out)⟩

end Go.Proofs.Ytfmkdledofbhdaa.PD
-- Written by a program of this session (wip/tools/myprint.py) with the help of the printer of the kit; Lean checks it.
namespace Go.Proofs.Ytfmkdledofbhdaa.PD
open Go.RowKit Go.Proofs.YtfmkdledofbhdaaW.PrintWords Go.Proofs.YtfmkdledofbhdaaW.PrintLast Go.Proofs.YtfmkdledofbhdaaW.PrintMore Go.Proofs.Ytfmkdledofbhdaa.HW
attribute [local go_sem] run_makeFunc_ max2_int min2_int max_two min_two max_three min_three max_four min_four   -- for this text's walks alone
set_option linter.unusedVariables false
set_option linter.unusedSimpArgs false

/-! ### quittanceref06_Between: function 40 -/
mutual
def quittanceref06_Between.j0 : Nat → Int → Int → Int → Bool → Option (Int × Int)
  | 0, _, _, _, _ => none
  | k + 1, x0, x1, x2, x15 => if x15 = true then (some (0, 1)) else ((Go.Proofs.Ytfmkdledofbhdaa.H.quittanceref03_Is.f x1).bind fun t136 => (if t136 = true then ((Go.Proofs.Ytfmkdledofbhdaa.H.quittanceref03_Is.f x2).bind fun t137 => (quittanceref06_Between.j1 k x0 x1 x2 (!t137))) else (quittanceref06_Between.j1 k x0 x1 x2 true)))
def quittanceref06_Between.j1 : Nat → Int → Int → Int → Bool → Option (Int × Int)
  | 0, _, _, _, _ => none
  | k + 1, x0, x1, x2, x23 => if x23 = true then (some (0, 5)) else (if x0 = 1 then ((quittanceref06_thirty.f x2).bind fun t138 => ((quittanceref06_thirty.f x1).bind fun t139 => (some (wrap64 (t138 - t139), 0)))) else (quittanceref06_Between.l0 k x0 x1 x2 0 (mn x1 x2)))
def quittanceref06_Between.l0 : Nat → Int → Int → Int → Int → Int → Option (Int × Int)
  | 0, _, _, _, _, _ => none
  | k + 1, x0, x1, x2, x8, x9 => if x9 < (mx x1 x2) then ((quittanceref06_One.f x0 x9).bind fun t140 => (quittanceref06_Between.l0 k x0 x1 x2 (wrap64 (x8 + t140)) (wrap64 (x9 + 1)))) else (if x2 < x1 then (some (wrap64 (-x8), 0)) else (some (x8, 0)))
end
def quittanceref06_Between.f (k : Nat) (a0 : Int) (a1 : Int) (a2 : Int) : Option (Int × Int) := if a0 < 1 then (quittanceref06_Between.j0 k a0 a1 a2 true) else (quittanceref06_Between.j0 k a0 a1 a2 (decide (a0 > 3)))
theorem quittanceref06_Between.mono_l : ∀ k, (∀ y0 y1 y2 y3, LeO (quittanceref06_Between.j0 k y0 y1 y2 y3) (quittanceref06_Between.j0 (k + 1) y0 y1 y2 y3)) ∧ (∀ y0 y1 y2 y3, LeO (quittanceref06_Between.j1 k y0 y1 y2 y3) (quittanceref06_Between.j1 (k + 1) y0 y1 y2 y3)) ∧ (∀ y0 y1 y2 y3 y4, LeO (quittanceref06_Between.l0 k y0 y1 y2 y3 y4) (quittanceref06_Between.l0 (k + 1) y0 y1 y2 y3 y4))
  | 0 => ⟨fun _ _ _ _ r h => by simp [quittanceref06_Between.j0] at h, fun _ _ _ _ r h => by simp [quittanceref06_Between.j1] at h, fun _ _ _ _ _ r h => by simp [quittanceref06_Between.l0] at h⟩
  | k + 1 => by
    obtain ⟨ih0, ih1, ih2⟩ := quittanceref06_Between.mono_l k
    refine ⟨?_, ?_, ?_⟩
    · intro y0 y1 y2 y3
      unfold quittanceref06_Between.j0
      repeat' first
      | (with_reducible exact ih0 _ _ _ _)
      | (with_reducible exact ih1 _ _ _ _)
      | (with_reducible exact ih2 _ _ _ _ _)
      | (with_reducible exact LeO.refl _)
      | (with_reducible exact LeO.none _)
      | (with_reducible refine LeO.ite ?_ ?_)
      | (with_reducible refine LeO.bind ?_ (fun _ => ?_))
      | exact ih0 _ _ _ _
      | exact ih1 _ _ _ _
      | exact ih2 _ _ _ _ _
      | exact LeO.none _
      | refine LeO.ite ?_ ?_
      | refine LeO.bind ?_ (fun _ => ?_)
    · intro y0 y1 y2 y3
      unfold quittanceref06_Between.j1
      repeat' first
      | (with_reducible exact ih0 _ _ _ _)
      | (with_reducible exact ih1 _ _ _ _)
      | (with_reducible exact ih2 _ _ _ _ _)
      | (with_reducible exact LeO.refl _)
      | (with_reducible exact LeO.none _)
      | (with_reducible refine LeO.ite ?_ ?_)
      | (with_reducible refine LeO.bind ?_ (fun _ => ?_))
      | exact ih0 _ _ _ _
      | exact ih1 _ _ _ _
      | exact ih2 _ _ _ _ _
      | exact LeO.none _
      | refine LeO.ite ?_ ?_
      | refine LeO.bind ?_ (fun _ => ?_)
    · intro y0 y1 y2 y3 y4
      unfold quittanceref06_Between.l0
      repeat' first
      | (with_reducible exact ih0 _ _ _ _)
      | (with_reducible exact ih1 _ _ _ _)
      | (with_reducible exact ih2 _ _ _ _ _)
      | (with_reducible exact LeO.refl _)
      | (with_reducible exact LeO.none _)
      | (with_reducible refine LeO.ite ?_ ?_)
      | (with_reducible refine LeO.bind ?_ (fun _ => ?_))
      | exact ih0 _ _ _ _
      | exact ih1 _ _ _ _
      | exact ih2 _ _ _ _ _
      | exact LeO.none _
      | refine LeO.ite ?_ ?_
      | refine LeO.bind ?_ (fun _ => ?_)
theorem quittanceref06_Between.mono : ∀ a0 a1 a2 k, LeO (quittanceref06_Between.f k a0 a1 a2) (quittanceref06_Between.f (k + 1) a0 a1 a2) := by
  intro a0 a1 a2 k
  obtain ⟨ih0, ih1, ih2⟩ := quittanceref06_Between.mono_l k
  unfold quittanceref06_Between.f
  repeat' first
      | (with_reducible exact ih0 _ _ _ _)
      | (with_reducible exact ih1 _ _ _ _)
      | (with_reducible exact ih2 _ _ _ _ _)
      | (with_reducible exact LeO.refl _)
      | (with_reducible exact LeO.none _)
      | (with_reducible refine LeO.ite ?_ ?_)
      | (with_reducible refine LeO.bind ?_ (fun _ => ?_))
      | exact ih0 _ _ _ _
      | exact ih1 _ _ _ _
      | exact ih2 _ _ _ _ _
      | exact LeO.none _
      | refine LeO.ite ?_ ?_
      | refine LeO.bind ?_ (fun _ => ?_)
set_option maxHeartbeats 8000000 in
set_option maxRecDepth 100000 in
theorem quittanceref06_Between.calls (k : Nat) (a0 : Int) (a1 : Int) (a2 : Int) (r1 : Int) (r2 : Int) (w : World) (h : quittanceref06_Between.f k a0 a1 a2 = some (r1, r2)) :
    Calls Try.prog 40 #[.int .i64 a0, .int .i64 a1, .int .i64 a2] w fun e w' => e = .returned (.tuple #[.int .i64 r1, .int .i64 r2]) ∧ Below w.heap.size w w' := by
  have HB := Aside0.mk (Below.refl w.heap.size w)
  have H : (if a0 < 1 then (quittanceref06_Between.j0 k a0 a1 a2 true) else (quittanceref06_Between.j0 k a0 a1 a2 (decide (a0 > 3)))) = some (r1, r2) := h
  clear h
  have HC4 := Aside0.mk H
  clear H
  go_enter Try.func40, Try.ntmps40
  go_upto_region 1 with (fail)
  go_cut [15] (fun v15 wc => ∃ (kq : Nat) (x15_3 : Bool), v15 = .bool x15_3 ∧ Aside0 (quittanceref06_Between.j0 kq a0 a1 a2 x15_3 = some (r1, r2)) ∧ Aside0 (kq ≤ k) ∧ Aside0 (Below w.heap.size w wc))
  case first =>
    have H := HC4.out
    clear HC4
    by_cases c5 : a0 < 1
    · rw [if_pos c5] at H
      have c5b0 : decide (a0 < 1) = true := decide_eq_true c5
      clear c5
      (first | rw [c5b0] | (simp only [i64_w, i32_w]; rw [c5b0]) | skip)
      have H' := Aside0.mk H
      clear H
      go_wp2
      go_meet
      case rel => exact ⟨_, (true), (by first | rfl | (simp; done) | (simp [*]; done)), H', ⟨by first | omega | exact Nat.le_refl _⟩, ⟨by repeat (first | (with_reducible first | exact HB.out | apply below_alloc | apply pw_below_drewN | apply below_drew1) | exact HB.out)⟩⟩
    · rw [if_neg c5] at H
      have c5b0 : decide (a0 < 1) = false := decide_eq_false c5
      clear c5
      (first | rw [c5b0] | (simp only [i64_w, i32_w]; rw [c5b0]) | skip)
      have H' := Aside0.mk H
      clear H
      go_wp2
      go_meet
      case rel => exact ⟨_, (decide (a0 > 3)), (by first | rfl | (simp; done) | (simp [*]; done)), H', ⟨by first | omega | exact Nat.le_refl _⟩, ⟨by repeat (first | (with_reducible first | exact HB.out | apply below_alloc | apply pw_below_drewN | apply below_drew1) | exact HB.out)⟩⟩
  case rest =>
    clear HC4
    try clear p2
    try clear c4
    try clear c5
    try clear c5b0
    obtain ⟨kq, x15_3, rfl, HA, HJ3, HB⟩ := hcut
    cases kq with
    | zero => exact absurd HA.out (by simp [quittanceref06_Between.j0])
    | succ kj3 =>
      have H := HA.out
      clear HA
      simp only [quittanceref06_Between.j0] at H
      by_cases c6 : x15_3 = true
      · subst c6
        have H1 : (some (0, 1)) = some (r1, r2) := by rw [if_pos rfl] at H; exact H
        clear H
        have H := H1
        clear H1
        simp only [Option.some.injEq, Prod.mk.injEq] at H
        obtain ⟨rfl, rfl⟩ := H
        go_wp2
        go_ret2
        exact ⟨by first | rfl | (simp [errW_none, errW_some] <;> rfl) | (simp [*, errW_none, errW_some] <;> rfl), by repeat (first | (with_reducible first | exact HB.out | apply below_alloc | apply pw_below_drewN | apply below_drew1) | exact HB.out)⟩
      · replace c6 := Bool.eq_false_iff.mpr c6
        subst c6
        have H1 : ((Go.Proofs.Ytfmkdledofbhdaa.H.quittanceref03_Is.f a1).bind fun t136 => (if t136 = true then ((Go.Proofs.Ytfmkdledofbhdaa.H.quittanceref03_Is.f a2).bind fun t137 => (quittanceref06_Between.j1 kj3 a0 a1 a2 (!t137))) else (quittanceref06_Between.j1 kj3 a0 a1 a2 true))) = some (r1, r2) := by rw [if_neg (show ¬ (false = true) by decide)] at H; exact H
        clear H
        have H := H1
        clear H1
        have HC7 := Aside0.mk H
        clear H
        go_upto_region 3 with (fail)
        go_cut [23] (fun v23 wc => ∃ (kq : Nat) (x23_6 : Bool), v23 = .bool x23_6 ∧ Aside0 (quittanceref06_Between.j1 kq a0 a1 a2 x23_6 = some (r1, r2)) ∧ Aside0 (kq ≤ kj3) ∧ Aside0 (Below w.heap.size w wc))
        case first =>
          have H := HC7.out
          clear HC7
          replace H := Option.bind_eq_some_iff.mp H
          obtain ⟨t136, A80, H⟩ := H
          replace H : (if t136 = true then ((Go.Proofs.Ytfmkdledofbhdaa.H.quittanceref03_Is.f a2).bind fun t137 => (quittanceref06_Between.j1 kj3 a0 a1 a2 (!t137))) else (quittanceref06_Between.j1 kj3 a0 a1 a2 true)) = some (r1, r2) := H
          have A8 := Aside0.mk A80
          clear A80
          by_cases c9 : t136 = true
          · subst c9
            have H1 : ((Go.Proofs.Ytfmkdledofbhdaa.H.quittanceref03_Is.f a2).bind fun t137 => (quittanceref06_Between.j1 kj3 a0 a1 a2 (!t137))) = some (r1, r2) := by rw [if_pos rfl] at H; exact H
            clear H
            have H := H1
            clear H1
            replace H := Option.bind_eq_some_iff.mp H
            obtain ⟨t137, A100, H⟩ := H
            replace H : (quittanceref06_Between.j1 kj3 a0 a1 a2 (!t137)) = some (r1, r2) := H
            have A10 := Aside0.mk A100
            clear A100
            have H' := Aside0.mk H
            clear H
            go_wp2_with (first | ((with_reducible refine gate_callee (f := 32) rfl ?_); refine goesL_ (some 17) rfl rfl Try.func32 (by kernel_rfl) rfl #[.int .i64 a1] rfl (by (try simp only [List.map_toArray, List.map_cons, List.map_nil]); first | done | rfl | (simp only [List.length_drop, List.length_take]; rfl)) ?_; (with_reducible refine (Go.Proofs.Ytfmkdledofbhdaa.H.quittanceref03_Is.calls a1 true _ A8.out).mono ?_); rintro e w' ⟨rfl, ⟨nd, rfl⟩⟩; refine ⟨_, rfl, ?_⟩) | (go_at_call 32; (with_reducible refine (Go.Proofs.Ytfmkdledofbhdaa.H.quittanceref03_Is.calls a2 t137 _ A10.out).mono ?_); rintro e w' ⟨rfl, ⟨nd, rfl⟩⟩))
            go_meet
            case rel => exact ⟨_, (!t137), (by first | rfl | (simp; done) | (simp [*]; done)), H', ⟨by have := HJ3.out; first | omega | exact Nat.le_refl _⟩, ⟨by repeat (first | (with_reducible first | exact HB.out | apply below_alloc | apply pw_below_drewN | apply below_drew1) | exact HB.out)⟩⟩
          · replace c9 := Bool.eq_false_iff.mpr c9
            subst c9
            have H1 : (quittanceref06_Between.j1 kj3 a0 a1 a2 true) = some (r1, r2) := by rw [if_neg (show ¬ (false = true) by decide)] at H; exact H
            clear H
            have H := H1
            clear H1
            have H' := Aside0.mk H
            clear H
            go_wp2_with (first | ((with_reducible refine gate_callee (f := 32) rfl ?_); refine goesL_ (some 17) rfl rfl Try.func32 (by kernel_rfl) rfl #[.int .i64 a1] rfl (by (try simp only [List.map_toArray, List.map_cons, List.map_nil]); first | done | rfl | (simp only [List.length_drop, List.length_take]; rfl)) ?_; (with_reducible refine (Go.Proofs.Ytfmkdledofbhdaa.H.quittanceref03_Is.calls a1 false _ A8.out).mono ?_); rintro e w' ⟨rfl, ⟨nd, rfl⟩⟩; refine ⟨_, rfl, ?_⟩))
            go_meet
            case rel => exact ⟨_, (true), (by first | rfl | (simp; done) | (simp [*]; done)), H', ⟨by have := HJ3.out; first | omega | exact Nat.le_refl _⟩, ⟨by repeat (first | (with_reducible first | exact HB.out | apply below_alloc | apply pw_below_drewN | apply below_drew1) | exact HB.out)⟩⟩
        case rest =>
          clear HC7
          try clear p2
          try clear c3
          try clear c4
          try clear c5
          try clear c5b0
          try clear c6
          try clear c9
          try clear p2
          obtain ⟨kq, x23_6, rfl, HA, HJ6, HB⟩ := hcut
          cases kq with
          | zero => exact absurd HA.out (by simp [quittanceref06_Between.j1])
          | succ kj6 =>
            have H := HA.out
            clear HA
            simp only [quittanceref06_Between.j1] at H
            by_cases c11 : x23_6 = true
            · subst c11
              have H1 : (some (0, 5)) = some (r1, r2) := by rw [if_pos rfl] at H; exact H
              clear H
              have H := H1
              clear H1
              simp only [Option.some.injEq, Prod.mk.injEq] at H
              obtain ⟨rfl, rfl⟩ := H
              go_wp2
              go_ret2
              exact ⟨by first | rfl | (simp [errW_none, errW_some] <;> rfl) | (simp [*, errW_none, errW_some] <;> rfl), by repeat (first | (with_reducible first | exact HB.out | apply below_alloc | apply pw_below_drewN | apply below_drew1) | exact HB.out)⟩
            · replace c11 := Bool.eq_false_iff.mpr c11
              subst c11
              have H1 : (if a0 = 1 then ((quittanceref06_thirty.f a2).bind fun t138 => ((quittanceref06_thirty.f a1).bind fun t139 => (some (wrap64 (t138 - t139), 0)))) else (quittanceref06_Between.l0 kj6 a0 a1 a2 0 (mn a1 a2))) = some (r1, r2) := by rw [if_neg (show ¬ (false = true) by decide)] at H; exact H
              clear H
              have H := H1
              clear H1
              by_cases c12 : a0 = 1
              · rw [if_pos c12] at H
                have c12b0 : (a0 == 1) = true := beq_iff_eq.mpr c12
                have c12b1 : (a0 != 1) = false := bne_eq_false_iff_eq.mpr c12
                clear c12
                replace H := Option.bind_eq_some_iff.mp H
                obtain ⟨t138, A130, H⟩ := H
                replace H : ((quittanceref06_thirty.f a1).bind fun t139 => (some (wrap64 (t138 - t139), 0))) = some (r1, r2) := H
                have A13 := Aside0.mk A130
                clear A130
                replace H := Option.bind_eq_some_iff.mp H
                obtain ⟨t139, A140, H⟩ := H
                replace H : (some (wrap64 (t138 - t139), 0)) = some (r1, r2) := H
                have A14 := Aside0.mk A140
                clear A140
                simp only [Option.some.injEq, Prod.mk.injEq] at H
                obtain ⟨rfl, rfl⟩ := H
                go_wp2_with (first | ((with_reducible refine gate_callee (f := 77) rfl ?_); refine goesL_ (some 27) rfl rfl Try.func77 (by kernel_rfl) rfl #[.int .i64 a2] rfl (by (try simp only [List.map_toArray, List.map_cons, List.map_nil]); first | done | rfl | (simp only [List.length_drop, List.length_take]; rfl)) ?_; (with_reducible refine (quittanceref06_thirty.calls a2 t138 _ A13.out).mono ?_); rintro e w15 ⟨rfl, hb⟩; refine ⟨_, rfl, ?_⟩; have n0_ := Aside0.mk (below_step (by repeat (first | (with_reducible first | exact HB.out | apply below_alloc | apply pw_below_drewN | apply below_drew1) | exact HB.out)) hb); clear HB; have HB := n0_; clear n0_; (try clear hb); (try clear hb2); (try clear hk); (try clear hi)) | ((with_reducible refine gate_callee (f := 77) rfl ?_); refine goesL_ (some 29) rfl rfl Try.func77 (by kernel_rfl) rfl #[.int .i64 a1] rfl (by (try simp only [List.map_toArray, List.map_cons, List.map_nil]); first | done | rfl | (simp only [List.length_drop, List.length_take]; rfl)) ?_; (with_reducible refine (quittanceref06_thirty.calls a1 t139 _ A14.out).mono ?_); rintro e w16 ⟨rfl, hb⟩; refine ⟨_, rfl, ?_⟩; have n0_ := Aside0.mk (below_step (by repeat (first | (with_reducible first | exact HB.out | apply below_alloc | apply pw_below_drewN | apply below_drew1) | exact HB.out)) hb); clear HB; have HB := n0_; clear n0_; (try clear hb); (try clear hb2); (try clear hk); (try clear hi)))
                go_ret2
                exact ⟨by first | rfl | (simp [errW_none, errW_some] <;> rfl) | (simp [*, errW_none, errW_some] <;> rfl), by repeat (first | (with_reducible first | exact HB.out | apply below_alloc | apply pw_below_drewN | apply below_drew1) | exact HB.out)⟩
              · rw [if_neg c12] at H
                have c12b0 : (a0 == 1) = false := beq_eq_false_iff_ne.mpr c12
                have c12b1 : (a0 != 1) = true := bne_iff_ne.mpr c12
                obtain ⟨ji17, hji17⟩ : ∃ j_ : Int, (mn a1 a2) = j_ := ⟨_, rfl⟩
                replace H : (quittanceref06_Between.l0 kj6 a0 a1 a2 0 ji17) = some (r1, r2) := by first | (rw [hji17] at H; exact H) | (simp only [hji17] at H ⊢; exact H)
                have hji17_ : (if a2 < a1 then a2 else a1) = ji17 := hji17
                have H' := Aside0.mk H
                clear H
                go_wp2
                go_loopg [8, 9] kj6 (fun kq v8 v9 w' => ∃ (x8_3 : Int) (x9_3 : Int), v8 = .int .i64 x8_3 ∧ v9 = .int .i64 x9_3 ∧ Aside0 (quittanceref06_Between.l0 kq a0 a1 a2 x8_3 x9_3 = some (r1, r2)) ∧ Aside0 (kq ≤ kj6) ∧ Aside0 (Below w.heap.size w w'))
                case atStart => exact ⟨(0), (ji17), (by first | rfl | (simp; done) | (simp [*]; done)), (by first | rfl | (simp; done) | (simp only [← hji17] <;> (first | rfl | simp)) | (simp [*]; done)), H', ⟨Nat.le_refl _⟩, ⟨by repeat (first | (with_reducible first | exact HB.out | apply below_alloc | apply pw_below_drewN | apply below_drew1) | exact HB.out)⟩⟩
                case round =>
                  clear H'
                  try clear c1
                  try clear p2
                  try clear c3
                  try clear c4
                  try clear c5
                  try clear c5b0
                  try clear c6
                  try clear p6
                  try clear c7
                  try clear c9
                  try clear c11
                  try clear c12
                  try clear c12b0
                  try clear c12b1
                  try clear p2
                  obtain ⟨x8_3, x9_3, rfl, rfl, HA, HK3, HB⟩ := hrel
                  cases gk with
                  | zero => exact absurd HA.out (by simp [quittanceref06_Between.l0])
                  | succ k3 =>
                    have H := HA.out
                    clear HA
                    simp only [quittanceref06_Between.l0] at H
                    obtain ⟨ji18, hji18⟩ : ∃ j_ : Int, (mx a1 a2) = j_ := ⟨_, rfl⟩
                    replace H : (if x9_3 < (ji18) then ((quittanceref06_One.f a0 x9_3).bind fun t140 => (quittanceref06_Between.l0 k3 a0 a1 a2 (wrap64 (x8_3 + t140)) (wrap64 (x9_3 + 1)))) else (if a2 < a1 then (some (wrap64 (-x8_3), 0)) else (some (x8_3, 0)))) = some (r1, r2) := by first | (rw [hji18] at H; exact H) | (simp only [hji18] at H ⊢; exact H)
                    have hji18_ : (if a1 < a2 then a2 else a1) = ji18 := hji18
                    by_cases c19 : x9_3 < (ji18)
                    · rw [if_pos c19] at H
                      have c19b0 : decide (x9_3 < (ji18)) = true := decide_eq_true c19
                      clear c19
                      replace H := Option.bind_eq_some_iff.mp H
                      obtain ⟨t140, A200, H⟩ := H
                      replace H : (quittanceref06_Between.l0 k3 a0 a1 a2 (wrap64 (x8_3 + t140)) (wrap64 (x9_3 + 1))) = some (r1, r2) := H
                      have A20 := Aside0.mk A200
                      clear A200
                      have H' := Aside0.mk H
                      clear H
                      go_wp2_with (first | ((with_reducible refine gate_callee (f := 78) rfl ?_); refine goesL_ (some 44) rfl rfl Try.func78 (by kernel_rfl) rfl #[.int .i64 a0, .int .i64 x9_3] rfl (by (try simp only [List.map_toArray, List.map_cons, List.map_nil]); first | done | rfl | (simp only [List.length_drop, List.length_take]; rfl)) ?_; (with_reducible refine (quittanceref06_One.calls a0 x9_3 t140 _ A20.out).mono ?_); rintro e w21 ⟨rfl, hb⟩; refine ⟨_, rfl, ?_⟩; have n0_ := Aside0.mk (below_step (by repeat (first | (with_reducible first | exact HB.out | apply below_alloc | apply pw_below_drewN | apply below_drew1) | exact HB.out)) hb); clear HB; have HB := n0_; clear n0_; (try clear hb); (try clear hb2); (try clear hk); (try clear hi)))
                      go_roundg k3
                      case measure => have := HJ3.out; have := HJ6.out; have := HK3.out; omega
                      case rel => exact ⟨(wrap64 (x8_3 + t140)), (wrap64 (x9_3 + 1)), (by first | rfl | (simp; done) | (simp [*]; done)), (by first | rfl | (simp; done) | (simp [*]; done)), H', ⟨by have := HJ3.out; have := HJ6.out; have := HK3.out; omega⟩, ⟨by repeat (first | (with_reducible first | exact HB.out | apply below_alloc | apply pw_below_drewN | apply below_drew1) | exact HB.out)⟩⟩
                    · rw [if_neg c19] at H
                      have c19b0 : decide (x9_3 < (ji18)) = false := decide_eq_false c19
                      clear c19
                      by_cases c22 : a2 < a1
                      · rw [if_pos c22] at H
                        have c22b0 : decide (a2 < a1) = true := decide_eq_true c22
                        clear c22
                        simp only [Option.some.injEq, Prod.mk.injEq] at H
                        obtain ⟨rfl, rfl⟩ := H
                        go_wp2
                        go_ret2
                        exact ⟨by first | rfl | (simp [errW_none, errW_some] <;> rfl) | (simp only [← hji17, ← hji18]; first | rfl | (simp [errW_none, errW_some] <;> rfl)) | (simp [*, errW_none, errW_some] <;> rfl), by repeat (first | (with_reducible first | exact HB.out | apply below_alloc | apply pw_below_drewN | apply below_drew1) | exact HB.out)⟩
                      · rw [if_neg c22] at H
                        have c22b0 : decide (a2 < a1) = false := decide_eq_false c22
                        clear c22
                        simp only [Option.some.injEq, Prod.mk.injEq] at H
                        obtain ⟨rfl, rfl⟩ := H
                        go_wp2
                        go_ret2
                        exact ⟨by first | rfl | (simp [errW_none, errW_some] <;> rfl) | (simp only [← hji17, ← hji18]; first | rfl | (simp [errW_none, errW_some] <;> rfl)) | (simp [*, errW_none, errW_some] <;> rfl), by repeat (first | (with_reducible first | exact HB.out | apply below_alloc | apply pw_below_drewN | apply below_drew1) | exact HB.out)⟩

end Go.Proofs.Ytfmkdledofbhdaa.PD
/- What the printed functions on months further on and on parts of a year come to, in plain numbers; and their contracts in these words. -/
namespace Go.Proofs.Ytfmkdledofbhdaa.H
open Go.RowKit Go.Proofs.YtfmkdledofbhdaaW.PrintWords Go.Proofs.YtfmkdledofbhdaaW.PrintLast Go.Proofs.YtfmkdledofbhdaaW.PrintMore
open Go.Proofs.Ytfmkdledofbhdaa.Math

theorem mn_min (a b : Int) : mn a b = min a b := by unfold mn; omega
theorem mx_max (a b : Int) : mx a b = max a b := by unfold mx; omega
theorem date_bd {n : Int} (h : isDay n) : 1900 ≤ yearOf n ∧ yearOf n ≤ 2200 ∧ 1 ≤ monthOf n ∧ monthOf n ≤ 12 ∧ 1 ≤ dayOf n ∧ dayOf n ≤ 31 := by
  obtain ⟨⟨y1, y2, d1, d2⟩, m1, m2, _⟩ := date_ok h
  have := mlen_bd (yearOf n) (monthOf n)
  exact ⟨y1, y2, m1, m2, d1, by omega⟩

theorem t_wrap {y m x : Int} (y1 : 1900 ≤ y) (y2 : y ≤ 2200) (m1 : 1 ≤ m) (m2 : m ≤ 12) (x1 : -4000 ≤ x) (x2 : x ≤ 4000) : wrap64 (wrap64 (wrap64 (wrap64 (12 * y) + m) - 1) + x) = 12 * y + m - 1 + x := by
  rw [w64 (x := 12 * y) (by omega) (by omega), w64 (x := 12 * y + m) (by omega) (by omega), w64 (x := 12 * y + m - 1) (by omega) (by omega), w64 (by omega) (by omega)]
theorem t_parts {t : Int} (h0 : 0 ≤ t) (h1 : t ≤ 1000000) : wrap64 (Int.tdiv t 12) = t / 12 ∧ wrap64 (Int.tmod t 12 + 1) = t % 12 + 1 := by
  rw [tdiv_pos h0, tmod_pos h0]
  exact ⟨w64 (by omega) (by omega), w64 (by omega) (by omega)⟩
theorem civAdd (k : Nat) (n x : Int) : PD.monthly_Add.f (k + 1) n x = some (add n x) := by
  unfold PD.monthly_Add.f add
  simp only [PD.monthly_Add.j0, civil_Date.f, civil_Month.f, civil_Number.f, Option.bind_some]
  by_cases hd : isDay n
  · rw [date_yes hd, if_pos hd]
    obtain ⟨y1, y2, m1, m2, d1, d2⟩ := date_bd hd
    simp only [if_true]
    by_cases h1 : x < -3612
    · rw [if_pos h1, if_pos (Or.inl h1)]
    rw [if_neg h1]
    by_cases h2 : x > 3612
    · rw [decide_eq_true h2, if_pos (Or.inr h2)]; simp
    rw [decide_eq_false h2, if_neg (show ¬ (x < -3612 ∨ 3612 < x) by omega)]
    simp only [Bool.false_eq_true, if_false]
    rw [t_wrap y1 y2 m1 m2 (by omega) (by omega)]
    obtain ⟨e1, e2⟩ := t_parts (t := 12 * yearOf n + monthOf n - 1 + x) (by omega) (by omega)
    rw [e1, e2, mn_min]
    rfl
  · rw [date_no hd, if_neg hd]
    simp
theorem refAdd (k : Nat) (n x : Int) : PD.quittanceref04_Add.f (k + 2) n x = some (add n x) := by
  unfold PD.quittanceref04_Add.f add
  simp only [PD.quittanceref04_Add.j0, PD.quittanceref04_Add.j1, quittanceref03_Date.f, quittanceref03_Month.f, quittanceref03_Number.f, Option.bind_some]
  by_cases hd : isDay n
  · rw [date_yes hd, if_pos hd]
    obtain ⟨y1, y2, m1, m2, d1, d2⟩ := date_bd hd
    simp only [if_true]
    by_cases h1 : x < -4000
    · rw [if_pos h1, if_pos (Or.inl (by omega))]
    rw [if_neg h1]
    by_cases h2 : x > 4000
    · rw [decide_eq_true h2, if_pos (Or.inr (by omega))]; simp
    rw [decide_eq_false h2]
    simp only [Bool.false_eq_true, if_false]
    rw [t_wrap y1 y2 m1 m2 (by omega) (by omega)]
    obtain ⟨e1, e2⟩ := t_parts (t := 12 * yearOf n + monthOf n - 1 + x) (by omega) (by omega)
    rw [e1, e2, mn_min]
    by_cases h3 : 12 * yearOf n + monthOf n - 1 + x < 22800
    · rw [if_pos h3]
      split
      · rfl
      · unfold addRaw; rw [number_no (by unfold okDate; omega)]
    rw [if_neg h3]
    by_cases h4 : 12 * yearOf n + monthOf n - 1 + x ≥ 26412
    · rw [decide_eq_true h4]
      simp only [if_true]
      split
      · rfl
      · unfold addRaw; rw [number_no (by unfold okDate; omega)]
    · rw [decide_eq_false h4, if_neg (show ¬ (x < -3612 ∨ 3612 < x) by omega)]
      simp only [Bool.false_eq_true, if_false]
      rfl
  · rw [date_no hd, if_neg hd]
    simp

/-- A day's place in years of twelve months of thirty days. -/
def thirty (n : Int) : Int := if isDay n then 360 * yearOf n + 30 * monthOf n + min (dayOf n) 30 else 0
theorem refThirty (n : Int) : PD.quittanceref06_thirty.f n = some (thirty n) := by
  unfold PD.quittanceref06_thirty.f thirty
  simp only [quittanceref03_Date.f, Option.bind_some]
  by_cases hd : isDay n
  · rw [date_yes hd, if_pos hd]
    obtain ⟨y1, y2, m1, m2, d1, d2⟩ := date_bd hd
    simp only [mn_min]
    rw [w64 (x := 360 * yearOf n) (by omega) (by omega), w64 (x := 30 * monthOf n) (by omega) (by omega), w64 (x := 360 * yearOf n + 30 * monthOf n) (by omega) (by omega), w64 (by omega) (by omega)]
  · rw [date_no hd, if_neg hd]; simp [wrap64, mn]
theorem thirty_bd (n : Int) : 0 ≤ thirty n ∧ thirty n ≤ 1000000 := by
  unfold thirty
  split
  · rename_i h
    obtain ⟨y1, y2, m1, m2, d1, d2⟩ := date_bd h
    omega
  · omega
/-- A day's place in years of 365 times 366 parts. -/
def actual (n : Int) : Int := 133590 * yearOf n + (n - opens (yearOf n)) * (366 - leap (yearOf n))
/-- How many parts lie between a day and the next one. -/
def one (c n : Int) : Int := if c = 2 then 1 else if c = 3 then 366 - leap (date n).1 else thirty (n + 1) - thirty n
theorem refOne (c n : Int) (h1 : -9223372036854775808 ≤ n) (h2 : n < 9223372036854775807) : PD.quittanceref06_One.f c n = some (one c n) := by
  unfold PD.quittanceref06_One.f one
  simp only [quittanceref03_Date.f, quittanceref03_Long.f, Option.bind_some]
  by_cases a : c = 2
  · rw [if_pos a, if_pos a]
  rw [if_neg a, if_neg a]
  by_cases b : c = 3
  · rw [if_pos b, if_pos b]
    exact long_bind _ (fun x => if x = true then some 365 else some 366) (fun l => some (366 - l)) rfl rfl
  · rw [if_neg b, if_neg b]
    rw [w64 (by omega) (by omega), refThirty, refThirty]
    simp only [Option.bind_some]
    have := thirty_bd n
    have := thirty_bd (n + 1)
    rw [w64 (by omega) (by omega)]
theorem busMonth (n : Int) : PD.business_month.f n = some (12 * (date n).1 + (date n).2.1) := by
  unfold PD.business_month.f
  simp only [civil_Date.f, Option.bind_some]
  by_cases hd : isDay n
  · rw [date_yes hd]
    obtain ⟨y1, y2, m1, m2, d1, d2⟩ := date_bd hd
    simp only []
    rw [w64 (x := 12 * yearOf n) (by omega) (by omega), w64 (by omega) (by omega)]
  · rw [date_no hd]; simp [wrap64]

/-! ### Parts between two days -/
theorem next_day {n : Int} (h : isDay n) (h' : isDay (n + 1)) : (yearOf (n + 1) = yearOf n ∧ n + 1 < opens (yearOf n + 1)) ∨ (yearOf (n + 1) = yearOf n + 1 ∧ n + 1 = opens (yearOf n + 1)) := by
  obtain ⟨y1, y2, y3, y4⟩ := yearOf_spec h
  obtain ⟨z1, z2, z3, z4⟩ := yearOf_spec h'
  by_cases e : n + 1 < opens (yearOf n + 1)
  · exact Or.inl ⟨(year_unique h' (by omega) e y1 y2).symm, e⟩
  · have e' : n + 1 = opens (yearOf n + 1) := by omega
    have ho := opens_succ (yearOf n + 1)
    have hl := leap_01 (yearOf n + 1)
    refine Or.inr ⟨(year_unique h' (by omega) (by omega) (by omega) ?_).symm, e'⟩
    by_cases e2 : yearOf n = 2200
    · rw [e2] at e'
      have : opens 2201 = 84371 := by decide
      obtain ⟨_, h2⟩ := h'
      rw [show (2200 : Int) + 1 = 2201 from rfl, this] at e'
      omega
    · omega
theorem actual_succ {n : Int} (h : isDay n) (h' : isDay (n + 1)) : actual (n + 1) = actual n + (366 - leap (yearOf n)) := by
  have hl := leap_01 (yearOf n)
  have ho := opens_succ (yearOf n)
  unfold actual
  rcases next_day h h' with ⟨e, e2⟩ | ⟨e, e2⟩
  · rw [e]
    rcases (by omega : leap (yearOf n) = 0 ∨ leap (yearOf n) = 1) with l | l <;> rw [l] <;> omega
  · rw [e, show n + 1 - opens (yearOf n + 1) = 0 by omega]
    rcases (by omega : leap (yearOf n) = 0 ∨ leap (yearOf n) = 1) with l | l <;> rw [l] at ho ⊢ <;> omega
theorem actual_bd {n : Int} (h : isDay n) : 0 ≤ actual n ∧ actual n ≤ 300000000 := by
  obtain ⟨y1, y2, y3, y4⟩ := yearOf_spec h
  have hl := leap_01 (yearOf n)
  have ho := opens_succ (yearOf n)
  unfold actual
  rcases (by omega : leap (yearOf n) = 0 ∨ leap (yearOf n) = 1) with l | l <;> rw [l] at ho ⊢ <;> omega
/-- A day's place, by a count. -/
def place (c n : Int) : Int := if c = 1 then thirty n else if c = 2 then n else actual n
theorem place_succ {c n : Int} (hc : c = 1 ∨ c = 2 ∨ c = 3) (h : isDay n) (h' : isDay (n + 1)) : place c (n + 1) = place c n + one c n := by
  unfold place one
  rcases hc with rfl | rfl | rfl
  · simp; omega
  · simp
  · simp only [show ¬ ((3 : Int) = 1) by decide, show ¬ ((3 : Int) = 2) by decide, if_false, if_true]
    rw [date_yes h]
    exact actual_succ h h'
theorem place_bd {c n : Int} (h : isDay n) : -300000000 ≤ place c n ∧ place c n ≤ 300000000 := by
  have a := thirty_bd n
  have b := actual_bd h
  obtain ⟨h1, h2⟩ := h
  unfold place
  repeat' split
  all_goals omega
/-- How many parts lie between two days, or which error. -/
def between (c a b : Int) : Int × Int := if c = 1 ∨ c = 2 ∨ c = 3 then (if isDay a ∧ isDay b then (place c b - place c a, 0) else (0, 5)) else (0, 1)
theorem between_loop (d : Nat) : ∀ (k : Nat) (c a b s i : Int), (c = 2 ∨ c = 3) → isDay a → isDay b → min a b ≤ i → max a b - i = d → d < k → s = place c i - place c (min a b) →
    PD.quittanceref06_Between.l0 k c a b s i = some (place c b - place c a, 0) := by
  induction d with
  | zero =>
    intro k c a b s i hc ha hb h1 h2 h3 h4
    obtain ⟨k, rfl⟩ : ∃ m, k = m + 1 := ⟨k - 1, by omega⟩
    obtain rfl : i = max a b := by omega
    have b1 := place_bd (c := c) ha
    have b2 := place_bd (c := c) hb
    simp only [PD.quittanceref06_Between.l0, mx_max]
    rw [if_neg (by omega)]
    by_cases hlt : b < a
    · rw [if_pos hlt, h4, show max a b = a by omega, show min a b = b by omega, w64 (by omega) (by omega)]
      congr 2; omega
    · rw [if_neg hlt, h4, show max a b = b by omega, show min a b = a by omega]
  | succ d ih =>
    intro k c a b s i hc ha hb h1 h2 h3 h4
    obtain ⟨k, rfl⟩ : ∃ m, k = m + 1 := ⟨k - 1, by omega⟩
    obtain ⟨a1, a2⟩ := id ha
    obtain ⟨b1, b2⟩ := id hb
    have hi : isDay i := ⟨by omega, by omega⟩
    have hi' : isDay (i + 1) := ⟨by omega, by omega⟩
    have hm : isDay (min a b) := ⟨by omega, by omega⟩
    have p1 := place_bd (c := c) hi
    have p2 := place_bd (c := c) hi'
    have p3 := place_bd (c := c) hm
    have hs := place_succ (c := c) (Or.inr hc) hi hi'
    simp only [PD.quittanceref06_Between.l0, mx_max]
    rw [if_pos (by omega), refOne c i (by omega) (by omega)]
    simp only [Option.bind_some]
    rw [w64 (x := s + one c i) (by omega) (by omega), w64 (x := i + 1) (by omega) (by omega)]
    exact ih k c a b _ _ hc ha hb (by omega) (by omega) (by omega) (by omega)
theorem refBetween (k : Nat) (hk : 120000 ≤ k) (c a b : Int) : PD.quittanceref06_Between.f k c a b = some (between c a b) := by
  obtain ⟨k, rfl⟩ : ∃ m, k = m + 2 := ⟨k - 2, by omega⟩
  unfold PD.quittanceref06_Between.f between
  simp only [PD.quittanceref06_Between.j0, PD.quittanceref06_Between.j1, quittanceref03_Is.f, Option.bind_some]
  by_cases h1 : c < 1
  · rw [if_pos h1, if_neg (show ¬ (c = 1 ∨ c = 2 ∨ c = 3) by omega)]; simp
  rw [if_neg h1]
  by_cases h2 : c > 3
  · rw [decide_eq_true h2, if_neg (show ¬ (c = 1 ∨ c = 2 ∨ c = 3) by omega)]; simp
  rw [decide_eq_false h2, if_pos (show c = 1 ∨ c = 2 ∨ c = 3 by omega)]
  simp only [Bool.false_eq_true, if_false]
  by_cases ha : isDay a
  · rw [decide_eq_true ha]
    simp only [if_true]
    by_cases hb : isDay b
    · rw [decide_eq_true hb, if_pos (show isDay a ∧ isDay b from ⟨ha, hb⟩)]
      simp only [Bool.not_true, Bool.false_eq_true, if_false]
      by_cases hc : c = 1
      · subst hc
        rw [if_pos rfl, refThirty, refThirty]
        simp only [Option.bind_some]
        have := thirty_bd a
        have := thirty_bd b
        rw [w64 (by omega) (by omega)]; rfl
      · rw [if_neg hc, mn_min]
        obtain ⟨a1, a2⟩ := id ha
        obtain ⟨b1, b2⟩ := id hb
        exact between_loop (max a b - min a b).toNat k c a b 0 (min a b) (by omega) ha hb (by omega) (by omega) (by omega) (by omega)
    · rw [decide_eq_false hb, if_neg (show ¬ (isDay a ∧ isDay b) from fun h => hb h.2)]; simp
  · rw [decide_eq_false ha, if_neg (show ¬ (isDay a ∧ isDay b) from fun h => ha h.1)]; simp

/-! ### The contracts in these words -/
def monthly_Add.f (n x : Int) : Option (Int × Int) := some (add n x)
theorem monthly_Add.calls (a0 a1 r1 r2 : Int) (w : World) (h : monthly_Add.f a0 a1 = some (r1, r2)) :
    Calls Try.prog 89 #[.int .i64 a0, .int .i64 a1] w fun e w' => e = .returned (.tuple #[.int .i64 r1, .int .i64 r2]) ∧ Below w.heap.size w w' :=
  PD.monthly_Add.calls 1 a0 a1 r1 r2 w ((civAdd 0 a0 a1).trans h)
def quittanceref04_Add.f (n x : Int) : Option (Int × Int) := some (add n x)
theorem quittanceref04_Add.calls (a0 a1 r1 r2 : Int) (w : World) (h : quittanceref04_Add.f a0 a1 = some (r1, r2)) :
    Calls Try.prog 70 #[.int .i64 a0, .int .i64 a1] w fun e w' => e = .returned (.tuple #[.int .i64 r1, .int .i64 r2]) ∧ Below w.heap.size w w' :=
  PD.quittanceref04_Add.calls 2 a0 a1 r1 r2 w ((refAdd 0 a0 a1).trans h)
def quittanceref06_thirty.f (n : Int) : Option Int := some (thirty n)
theorem quittanceref06_thirty.calls (a0 r : Int) (w : World) (h : quittanceref06_thirty.f a0 = some r) : Calls Try.prog 77 #[.int .i64 a0] w fun e w' => e = .returned (.int .i64 r) ∧ Below w.heap.size w w' :=
  PD.quittanceref06_thirty.calls a0 r w ((refThirty a0).trans h)
def quittanceref06_One.f (c n : Int) : Option Int := if -9223372036854775808 ≤ n ∧ n < 9223372036854775807 then some (one c n) else none
theorem quittanceref06_One.calls (a0 a1 r : Int) (w : World) (h : quittanceref06_One.f a0 a1 = some r) : Calls Try.prog 78 #[.int .i64 a0, .int .i64 a1] w fun e w' => e = .returned (.int .i64 r) ∧ Below w.heap.size w w' := by
  unfold quittanceref06_One.f at h
  split at h
  · rename_i hb; exact PD.quittanceref06_One.calls a0 a1 r w ((refOne a0 a1 hb.1 hb.2).trans h)
  · cases h
def business_month.f (n : Int) : Option Int := some (12 * (date n).1 + (date n).2.1)
theorem business_month.calls (a0 r : Int) (w : World) (h : business_month.f a0 = some r) : Calls Try.prog 92 #[.int .i64 a0] w fun e w' => e = .returned (.int .i64 r) ∧ Below w.heap.size w w' :=
  PD.business_month.calls a0 r w ((busMonth a0).trans h)
def quittanceref06_Between.f (c a b : Int) : Option (Int × Int) := some (between c a b)
theorem quittanceref06_Between.calls (a0 a1 a2 r1 r2 : Int) (w : World) (h : quittanceref06_Between.f a0 a1 a2 = some (r1, r2)) :
    Calls Try.prog 40 #[.int .i64 a0, .int .i64 a1, .int .i64 a2] w fun e w' => e = .returned (.tuple #[.int .i64 r1, .int .i64 r2]) ∧ Below w.heap.size w w' :=
  PD.quittanceref06_Between.calls 120000 a0 a1 a2 r1 r2 w ((refBetween 120000 (by omega) a0 a1 a2).trans h)
end Go.Proofs.Ytfmkdledofbhdaa.H
-- Written by a program of this session (wip/tools/myprint.py) with the help of the printer of the kit; Lean checks it.
namespace Go.Proofs.Ytfmkdledofbhdaa.PDA
open Go.RowKit Go.Proofs.YtfmkdledofbhdaaW.PrintWords Go.Proofs.YtfmkdledofbhdaaW.PrintLast Go.Proofs.YtfmkdledofbhdaaW.PrintMore Go.Proofs.Ytfmkdledofbhdaa.HW
attribute [local go_sem] run_makeFunc_ max2_int min2_int max_two min_two max_three min_three max_four min_four   -- for this text's walks alone
set_option linter.unusedVariables false
set_option linter.unusedSimpArgs false



def errW : Option Int → Value
  | none => .nilIface
  | some c => .iface 0 (.int .i64 c)
theorem errW_none : errW none = .nilIface := rfl
theorem errW_some (c : Int) : errW (some c) = .iface 0 (.int .i64 c) := rfl

theorem info3 : (Try.prog.info? 3).map (fun i => (i.zero, i.size, i.bytes)) = some (some (.int .i64 0), 1, 8) := by kernel_rfl
-- the values' own types

end Go.Proofs.Ytfmkdledofbhdaa.PDA
-- Written by a program of this session (wip/tools/myprint.py) with the help of the printer of the kit; Lean checks it.
namespace Go.Proofs.Ytfmkdledofbhdaa.PDA
open Go.RowKit Go.Proofs.YtfmkdledofbhdaaW.PrintWords Go.Proofs.YtfmkdledofbhdaaW.PrintLast Go.Proofs.YtfmkdledofbhdaaW.PrintMore Go.Proofs.Ytfmkdledofbhdaa.HW
attribute [local go_sem] run_makeFunc_ max2_int min2_int max_two min_two max_three min_three max_four min_four   -- for this text's walks alone
set_option linter.unusedVariables false
set_option linter.unusedSimpArgs false

/-! ### monthly_from_add: function 66 -/
def monthly_from_add.f (a0_0 : Int) (a1 : Int) : Option (Int × Int) := (Go.Proofs.Ytfmkdledofbhdaa.H.monthly_Add.f a0_0 a1).bind fun bt102 => (some (bt102.1, bt102.2))
set_option maxHeartbeats 8000000 in
set_option maxRecDepth 100000 in
theorem monthly_from_add.calls (a0_0 : Int) (a1 : Int) (r1 : Int) (r2 : Int) (w : World) (h : monthly_from_add.f a0_0 a1 = some (r1, r2)) :
    Calls Try.prog 66 #[.agg #[.int .i64 a0_0], .int .i64 a1] w fun e w' => e = .returned (.tuple #[.int .i64 r1, .int .i64 r2]) ∧ Below w.heap.size w w' := by
  have hu106 := Try.underlying106
  have HB := Aside0.mk (Below.refl w.heap.size w)
  have H : ((Go.Proofs.Ytfmkdledofbhdaa.H.monthly_Add.f a0_0 a1).bind fun bt102 => (some (bt102.1, bt102.2))) = some (r1, r2) := h
  clear h
  replace H := Option.bind_eq_some_iff.mp H
  obtain ⟨⟨t102, t103⟩, A30, H⟩ := H
  replace H : (some (t102, t103)) = some (r1, r2) := H
  have A3 := Aside0.mk A30
  clear A30
  simp only [Option.some.injEq, Prod.mk.injEq] at H
  obtain ⟨rfl, rfl⟩ := H
  go_enter Try.func66, Try.ntmps66
  go_wp2_with (first | ((with_reducible refine gate_dst (N := 2) rfl ?_); refine box_event ?hg (N := 2) ?hd (cs := #[.int .i64 a0_0]) (t := 106) ?hr ?_; (case hd => rfl); (case hg => rfl); (case hr => first | (go_simp; done) | (go_simp; rfl)); intro gb101 hg w4 hbox hb; have n0_ := Aside0.mk (below_step (by repeat (first | (with_reducible first | exact HB.out | apply below_alloc | apply pw_below_drewN | apply below_drew1) | exact HB.out)) hb); have n1_ := Aside0.mk (hbox); have n2_ := Aside0.mk ((by rw [hg]; exact (below_size (by repeat (first | (with_reducible first | exact HB.out | apply below_alloc | apply pw_below_drewN | apply below_drew1) | exact HB.out))) : w.heap.size ≤ gb101)); have n3_ := Aside0.mk ((by rw [hg]; exact (below_size (by repeat (first | (with_reducible first | exact HB.out | apply below_alloc | apply pw_below_drewN | apply below_drew1) | exact HB.out))) : w.heap.size ≤ gb101)); clear HB; have HB := n0_; have BK101 := n1_; have GW101 := n2_; have GE101 := n3_; clear n0_ n1_ n2_ n3_; clear hb hbox hg; (try have hu101_0 : w4.cell? ⟨gb101, 0, none⟩ = some (.int .i64 a0_0) := (blk_cell BK101.out 0).trans rfl); (try have hv101_0 := blk_frozen BK101.out 0); have hcz5_0 : w4.cell? ⟨gb101, 0, none⟩ = some (.int .i64 a0_0) := (blk_cell BK101.out 0).trans rfl; have hfz5_0 := blk_frozen BK101.out 0) | ((with_reducible refine gate_callee (f := 89) rfl ?_); refine goesL_ (some 9) rfl rfl Try.func89 (by kernel_rfl) rfl #[.int .i64 a0_0, .int .i64 a1] rfl (by (try simp only [List.map_toArray, List.map_cons, List.map_nil]); first | done | rfl | (simp only [List.length_drop, List.length_take]; rfl)) ?_; (with_reducible refine (Go.Proofs.Ytfmkdledofbhdaa.H.monthly_Add.calls a0_0 a1 t102 t103 _ A3.out).mono ?_); rintro e w6 ⟨rfl, hb⟩; refine ⟨_, rfl, ?_⟩; have n0_ := Aside0.mk (blk_below (g := gb101) (o := .cells #[.int .i64 a0_0] 106 (0, 0)) (by (with_reducible repeat (first | refine blk_drewN ?_ _ | refine blk_drew ?_ | refine blk_alloc ?_ _)); exact BK101.out) hb); have n1_ := Aside0.mk (below_step (by repeat (first | (with_reducible first | exact HB.out | apply below_alloc | apply pw_below_drewN | apply below_drew1 | refine below_set ?_ GE101.out) | exact HB.out)) hb); clear BK101; clear HB; have BK101 := n0_; have HB := n1_; clear n0_ n1_; (try clear hb); (try clear hb2); (try clear hk); (try clear hi); (try have hu101_0 : w6.cell? ⟨gb101, 0, none⟩ = some (.int .i64 a0_0) := (blk_cell BK101.out 0).trans rfl); (try have hv101_0 := blk_frozen BK101.out 0)))
  go_ret2
  exact ⟨by first | rfl | (simp [errW_none, errW_some] <;> rfl) | (simp [*, errW_none, errW_some] <;> rfl), by repeat (first | (with_reducible first | exact HB.out | apply below_alloc | apply pw_below_drewN | apply below_drew1 | refine below_set ?_ GE101.out) | exact HB.out)⟩

/-! ### monthly_Dates: function 34 -/
mutual
def monthly_Dates.j0 : Nat → Int → Int → Int → Bool → Option (List Int × Int)
  | 0, _, _, _, _ => none
  | k + 1, x0, x1, x2, x26 => if x26 = true then (some (([] : List Int), 1)) else (monthly_Dates.l0 k x0 x1 ([] : List Int) x2 0)
def monthly_Dates.l0 : Nat → Int → Int → List Int → Int → Int → Option (List Int × Int)
  | 0, _, _, _, _, _ => none
  | k + 1, x0, x1, x9, x30, x31 => if x31 < x30 then ((monthly_from_add.f x0 (wrap64 ((wrap64 (x31 + 1)) * x1))).bind fun bt104 => (if bt104.2 = 0 then (if x9.length < 17592186044416 then (monthly_Dates.l0 k x0 x1 (x9 ++ [bt104.1]) x30 (wrap64 (x31 + 1))) else (none)) else (some (([] : List Int), bt104.2)))) else (some (x9, 0))
end
def monthly_Dates.f (k : Nat) (a0 : Int) (a1 : Int) (a2 : Int) : Option (List Int × Int) := if a1 < 1 then (monthly_Dates.j0 k a0 a1 a2 true) else (if a1 > 12 then (monthly_Dates.j0 k a0 a1 a2 true) else (if a2 < 1 then (monthly_Dates.j0 k a0 a1 a2 true) else (monthly_Dates.j0 k a0 a1 a2 (decide (a2 > 600)))))
theorem monthly_Dates.mono_l : ∀ k, (∀ y0 y1 y2 y3, LeO (monthly_Dates.j0 k y0 y1 y2 y3) (monthly_Dates.j0 (k + 1) y0 y1 y2 y3)) ∧ (∀ y0 y1 y2 y3 y4, LeO (monthly_Dates.l0 k y0 y1 y2 y3 y4) (monthly_Dates.l0 (k + 1) y0 y1 y2 y3 y4))
  | 0 => ⟨fun _ _ _ _ r h => by simp [monthly_Dates.j0] at h, fun _ _ _ _ _ r h => by simp [monthly_Dates.l0] at h⟩
  | k + 1 => by
    obtain ⟨ih0, ih1⟩ := monthly_Dates.mono_l k
    refine ⟨?_, ?_⟩
    · intro y0 y1 y2 y3
      unfold monthly_Dates.j0
      repeat' first
      | (with_reducible exact ih0 _ _ _ _)
      | (with_reducible exact ih1 _ _ _ _ _)
      | (with_reducible exact LeO.refl _)
      | (with_reducible exact LeO.none _)
      | (with_reducible refine LeO.ite ?_ ?_)
      | (with_reducible refine LeO.bind ?_ (fun _ => ?_))
      | exact ih0 _ _ _ _
      | exact ih1 _ _ _ _ _
      | exact LeO.none _
      | refine LeO.ite ?_ ?_
      | refine LeO.bind ?_ (fun _ => ?_)
    · intro y0 y1 y2 y3 y4
      unfold monthly_Dates.l0
      repeat' first
      | (with_reducible exact ih0 _ _ _ _)
      | (with_reducible exact ih1 _ _ _ _ _)
      | (with_reducible exact LeO.refl _)
      | (with_reducible exact LeO.none _)
      | (with_reducible refine LeO.ite ?_ ?_)
      | (with_reducible refine LeO.bind ?_ (fun _ => ?_))
      | exact ih0 _ _ _ _
      | exact ih1 _ _ _ _ _
      | exact LeO.none _
      | refine LeO.ite ?_ ?_
      | refine LeO.bind ?_ (fun _ => ?_)
theorem monthly_Dates.mono : ∀ a0 a1 a2 k, LeO (monthly_Dates.f k a0 a1 a2) (monthly_Dates.f (k + 1) a0 a1 a2) := by
  intro a0 a1 a2 k
  obtain ⟨ih0, ih1⟩ := monthly_Dates.mono_l k
  unfold monthly_Dates.f
  repeat' first
      | (with_reducible exact ih0 _ _ _ _)
      | (with_reducible exact ih1 _ _ _ _ _)
      | (with_reducible exact LeO.refl _)
      | (with_reducible exact LeO.none _)
      | (with_reducible refine LeO.ite ?_ ?_)
      | (with_reducible refine LeO.bind ?_ (fun _ => ?_))
      | exact ih0 _ _ _ _
      | exact ih1 _ _ _ _ _
      | exact LeO.none _
      | refine LeO.ite ?_ ?_
      | refine LeO.bind ?_ (fun _ => ?_)
set_option maxHeartbeats 8000000 in
set_option maxRecDepth 100000 in
theorem monthly_Dates.calls (k : Nat) (a0 : Int) (a1 : Int) (a2 : Int) (r1 : List Int) (r2 : Int) (w : World) (h : monthly_Dates.f k a0 a1 a2 = some (r1, r2)) :
    Calls Try.prog 34 #[.int .i64 a0, .int .i64 a1, .int .i64 a2] w fun e w' => ∃ v0_ : Value, e = .returned (.tuple #[v0_, .int .i64 r2]) ∧ Kd.R (Kd.int .i64) 3 w' w.heap.size (fun _ => True) v0_ r1 ∧ Below w.heap.size w w' := by
  have hu106 := Try.underlying106
  have HB := Aside0.mk (Below.refl w.heap.size w)
  have H : (if a1 < 1 then (monthly_Dates.j0 k a0 a1 a2 true) else (if a1 > 12 then (monthly_Dates.j0 k a0 a1 a2 true) else (if a2 < 1 then (monthly_Dates.j0 k a0 a1 a2 true) else (monthly_Dates.j0 k a0 a1 a2 (decide (a2 > 600)))))) = some (r1, r2) := h
  clear h
  have HC4 := Aside0.mk H
  clear H
  go_enter Try.func34, Try.ntmps34
  go_upto_region 1 with (fail)
  go_cut [26] (fun v26 wc => ∃ (kq : Nat) (x26_3 : Bool), v26 = .bool x26_3 ∧ Aside0 (monthly_Dates.j0 kq a0 a1 a2 x26_3 = some (r1, r2)) ∧ Aside0 (kq ≤ k) ∧ Aside0 (Below w.heap.size w wc))
  case first =>
    have H := HC4.out
    clear HC4
    by_cases c5 : a1 < 1
    · rw [if_pos c5] at H
      have c5b0 : decide (a1 < 1) = true := decide_eq_true c5
      clear c5
      (first | rw [c5b0] | (simp only [i64_w, i32_w]; rw [c5b0]) | skip)
      have H' := Aside0.mk H
      clear H
      go_wp2
      go_meet
      case rel => exact ⟨_, (true), (by first | rfl | (simp; done) | (simp [*]; done)), H', ⟨by first | omega | exact Nat.le_refl _⟩, ⟨by repeat (first | (with_reducible first | exact HB.out | apply below_alloc | apply pw_below_drewN | apply below_drew1) | exact HB.out)⟩⟩
    · rw [if_neg c5] at H
      have c5b0 : decide (a1 < 1) = false := decide_eq_false c5
      clear c5
      (first | rw [c5b0] | (simp only [i64_w, i32_w]; rw [c5b0]) | skip)
      by_cases c6 : a1 > 12
      · rw [if_pos c6] at H
        have c6b0 : decide (12 < a1) = true := decide_eq_true c6
        clear c6
        have H' := Aside0.mk H
        clear H
        go_wp2
        go_meet
        case rel => exact ⟨_, (true), (by first | rfl | (simp; done) | (simp [*]; done)), H', ⟨by first | omega | exact Nat.le_refl _⟩, ⟨by repeat (first | (with_reducible first | exact HB.out | apply below_alloc | apply pw_below_drewN | apply below_drew1) | exact HB.out)⟩⟩
      · rw [if_neg c6] at H
        have c6b0 : decide (12 < a1) = false := decide_eq_false c6
        clear c6
        by_cases c7 : a2 < 1
        · rw [if_pos c7] at H
          have c7b0 : decide (a2 < 1) = true := decide_eq_true c7
          clear c7
          have H' := Aside0.mk H
          clear H
          go_wp2
          go_meet
          case rel => exact ⟨_, (true), (by first | rfl | (simp; done) | (simp [*]; done)), H', ⟨by first | omega | exact Nat.le_refl _⟩, ⟨by repeat (first | (with_reducible first | exact HB.out | apply below_alloc | apply pw_below_drewN | apply below_drew1) | exact HB.out)⟩⟩
        · rw [if_neg c7] at H
          have c7b0 : decide (a2 < 1) = false := decide_eq_false c7
          clear c7
          have H' := Aside0.mk H
          clear H
          go_wp2
          go_meet
          case rel => exact ⟨_, (decide (a2 > 600)), (by first | rfl | (simp; done) | (simp [*]; done)), H', ⟨by first | omega | exact Nat.le_refl _⟩, ⟨by repeat (first | (with_reducible first | exact HB.out | apply below_alloc | apply pw_below_drewN | apply below_drew1) | exact HB.out)⟩⟩
  case rest =>
    clear HC4
    try clear p2
    try clear c3
    try clear c5
    try clear c5b0
    try clear c6
    try clear c6b0
    try clear c7
    try clear c7b0
    obtain ⟨kq, x26_3, rfl, HA, HJ3, HB⟩ := hcut
    cases kq with
    | zero => exact absurd HA.out (by simp [monthly_Dates.j0])
    | succ kj3 =>
      have H := HA.out
      clear HA
      simp only [monthly_Dates.j0] at H
      by_cases c8 : x26_3 = true
      · subst c8
        have H1 : (some (([] : List Int), 1)) = some (r1, r2) := by rw [if_pos rfl] at H; exact H
        clear H
        have H := H1
        clear H1
        simp only [Option.some.injEq, Prod.mk.injEq] at H
        obtain ⟨rfl, rfl⟩ := H
        go_wp2
        go_ret2
        exact ⟨_, by first | rfl | (simp [errW_none, errW_some] <;> rfl) | (simp [*, errW_none, errW_some] <;> rfl), by first | exact Kd.R_nil _ _ _ _ _ | exact Kd.N_nil _ _ _ _ _ | exact Kd.V_nil _ _ _ _ _ | exact Kd.Q_nil _ _ _ _ _ | exact Kd.S_nil _ _ _ _ _, by repeat (first | (with_reducible first | exact HB.out | apply below_alloc | apply pw_below_drewN | apply below_drew1) | exact HB.out)⟩
      · replace c8 := Bool.eq_false_iff.mpr c8
        subst c8
        have H1 : (monthly_Dates.l0 kj3 a0 a1 ([] : List Int) a2 0) = some (r1, r2) := by rw [if_neg (show ¬ (false = true) by decide)] at H; exact H
        clear H
        have H := H1
        clear H1
        have H' := Aside0.mk H
        clear H
        go_wp2
        go_loopg [9, 31] kj3 (fun kq v9 v31 w' => ∃ (x9_2 : List Int) (x31_2 : Int), v31 = .int .i64 x31_2 ∧ Aside0 (monthly_Dates.l0 kq a0 a1 x9_2 a2 x31_2 = some (r1, r2)) ∧ Aside0 (kq ≤ kj3) ∧ Aside0 (Kd.R (Kd.int .i64) 3 w' w.heap.size (fun _ => True) v9 x9_2) ∧ Aside0 (Below w.heap.size w w'))
        case atStart => exact ⟨(([] : List Int)), (0), (by first | rfl | (simp; done) | (simp [*]; done)), H', ⟨Nat.le_refl _⟩, ⟨by first | exact Kd.R_nil _ _ _ _ _ | exact Kd.N_nil _ _ _ _ _ | exact Kd.V_nil _ _ _ _ _ | exact Kd.Q_nil _ _ _ _ _ | exact Kd.S_nil _ _ _ _ _⟩, ⟨by repeat (first | (with_reducible first | exact HB.out | apply below_alloc | apply pw_below_drewN | apply below_drew1) | exact HB.out)⟩⟩
        case round =>
          clear H'
          try clear p2
          try clear c3
          try clear c5
          try clear c5b0
          try clear c6
          try clear c6b0
          try clear c7
          try clear c7b0
          try clear c8
          try clear p2
          obtain ⟨x9_2, x31_2, rfl, HA, HK2, HO_9, HB⟩ := hrel
          cases gk with
          | zero => exact absurd HA.out (by simp [monthly_Dates.l0])
          | succ k2 =>
            have H := HA.out
            clear HA
            simp only [monthly_Dates.l0] at H
            by_cases c9 : x31_2 < a2
            · rw [if_pos c9] at H
              have c9b0 : decide (x31_2 < a2) = true := decide_eq_true c9
              clear c9
              replace H := Option.bind_eq_some_iff.mp H
              obtain ⟨⟨t104, t105⟩, A100, H⟩ := H
              replace H : (if t105 = 0 then (if x9_2.length < 17592186044416 then (monthly_Dates.l0 k2 a0 a1 (x9_2 ++ [t104]) a2 (wrap64 (x31_2 + 1))) else (none)) else (some (([] : List Int), t105))) = some (r1, r2) := H
              have A10 := Aside0.mk A100
              clear A100
              by_cases c11 : t105 = 0
              · rw [if_pos c11] at H
                have c11b0 : (t105 == 0) = true := beq_iff_eq.mpr c11
                have c11b1 : (t105 != 0) = false := bne_eq_false_iff_eq.mpr c11
                clear c11
                by_cases c12 : x9_2.length < 17592186044416
                · rw [if_pos c12] at H
                  have LMc12 := Aside0.mk c12
                  clear c12
                  obtain ⟨y106, hy106⟩ : ∃ y_ : List Int, y_ = (x9_2 ++ [t104]) := ⟨_, rfl⟩
                  replace H : (monthly_Dates.l0 k2 a0 a1 y106 a2 (wrap64 (x31_2 + 1))) = some (r1, r2) := by first | (rw [hy106]; with_reducible exact H) | (have H2_ := (Option.bind_some _ _).symm.trans H; rw [hy106]; with_reducible exact H2_) | (have H2_ := (Option.bind_some _ _).symm.trans H; with_reducible exact H2_) | with_reducible exact H | (rw [hy106]; exact H) | exact H
                  have Ny106 := Aside0.mk hy106
                  clear hy106
                  have H' := Aside0.mk H
                  clear H
                  go_wp2_with (first | ((with_reducible refine gate_calleeV (t := 35) rfl ?_); refine goesV_ 35 #[.agg #[.int .i64 a0]] (by first | rfl | (simp; done)) (some 40) rfl rfl Try.func66 (by kernel_rfl) rfl #[.agg #[.int .i64 a0], .int .i64 (wrap64 ((wrap64 (x31_2 + 1)) * a1))] rfl (by (try simp only [List.map_toArray, List.map_cons, List.map_nil]); first | done | rfl | (simp; done) | rfl | (simp only [List.length_drop, List.length_take]; rfl)) ?_; (with_reducible refine (monthly_from_add.calls a0 (wrap64 ((wrap64 (x31_2 + 1)) * a1)) t104 t105 _ A10.out).mono ?_); rintro e w13 ⟨rfl, hb⟩; refine ⟨_, rfl, ?_⟩; have n0_ := Aside0.mk (Kd.R_below (by (with_reducible repeat (first | apply Kd.R_alloc | apply Kd.R_drewN | apply Kd.R_drew)); exact HO_9.out) hb); have n1_ := Aside0.mk (below_step (by repeat (first | (with_reducible first | exact HB.out | apply below_alloc | apply pw_below_drewN | apply below_drew1) | exact HB.out)) hb); clear HO_9; clear HB; have HO_9 := n0_; have HB := n1_; clear n0_ n1_; (try clear hb); (try clear hb2); (try clear hk); (try clear hi)) | ((with_reducible refine gate_builtin (b := .append) (xs := #[.tmp 46, .tmp 48]) rfl ?_); at_builtin; refine Kd.R_append (Kd.int .i64) (w0 := w) w.heap.size rfl (.tmp 46) (.tmp 48) 25 3 (.int .i64 0) 8 rfl Try.underlying25 info3 rfl (by decide) (by omega) u9 x9_2 t104 [.int .i64 t104] (fun _ => True) (fun _ => False) rfl rfl ?aP (fun _ hk => hk.elim) ?aF ?aO ?aB ?aS ?aL ?_; (case aP => exact rfl); (case aB => exact (by repeat (first | (with_reducible first | exact HB.out | apply below_alloc | apply pw_below_drewN | apply below_drew1) | exact HB.out))); (case aF => exact (fun _ _ => trivial)); (case aO => exact (by (with_reducible repeat (first | apply Kd.R_alloc | apply Kd.R_drewN | apply Kd.R_drew)); exact HO_9.out)); (case aS => exact (below_size (by repeat (first | (with_reducible first | exact HB.out | apply below_alloc | apply pw_below_drewN | apply below_drew1) | exact HB.out)))); (case aL => have := LMc12.out; omega); intro v107 w14 ho hb hg hat; rw [← Ny106.out] at ho; have n0_ := Aside0.mk (hb); have n1_ := Aside0.mk (ho); clear HB; clear HO_9; have HB := n0_; have HO108 := n1_; clear n0_ n1_; clear ho hb hg hat))
                  go_roundg k2
                  case measure => have := HJ3.out; have := HK2.out; omega
                  case rel => exact ⟨(y106), (wrap64 (x31_2 + 1)), (by first | rfl | (simp; done) | (simp [*]; done)), H', ⟨by have := HJ3.out; have := HK2.out; omega⟩, ⟨by (with_reducible repeat (first | apply Kd.R_alloc | apply Kd.R_drewN | apply Kd.R_drew)); exact HO108.out⟩, ⟨by repeat (first | (with_reducible first | exact HB.out | apply below_alloc | apply pw_below_drewN | apply below_drew1) | exact HB.out)⟩⟩
                · rw [if_neg c12] at H
                  exact absurd H (by simp)
              · rw [if_neg c11] at H
                have c11b0 : (t105 == 0) = false := beq_eq_false_iff_ne.mpr c11
                have c11b1 : (t105 != 0) = true := bne_iff_ne.mpr c11
                simp only [Option.some.injEq, Prod.mk.injEq] at H
                obtain ⟨rfl, rfl⟩ := H
                go_wp2_with (first | ((with_reducible refine gate_calleeV (t := 35) rfl ?_); refine goesV_ 35 #[.agg #[.int .i64 a0]] (by first | rfl | (simp; done)) (some 40) rfl rfl Try.func66 (by kernel_rfl) rfl #[.agg #[.int .i64 a0], .int .i64 (wrap64 ((wrap64 (x31_2 + 1)) * a1))] rfl (by (try simp only [List.map_toArray, List.map_cons, List.map_nil]); first | done | rfl | (simp; done) | rfl | (simp only [List.length_drop, List.length_take]; rfl)) ?_; (with_reducible refine (monthly_from_add.calls a0 (wrap64 ((wrap64 (x31_2 + 1)) * a1)) t104 t105 _ A10.out).mono ?_); rintro e w15 ⟨rfl, hb⟩; refine ⟨_, rfl, ?_⟩; have n0_ := Aside0.mk (Kd.R_below (by (with_reducible repeat (first | apply Kd.R_alloc | apply Kd.R_drewN | apply Kd.R_drew)); exact HO_9.out) hb); have n1_ := Aside0.mk (below_step (by repeat (first | (with_reducible first | exact HB.out | apply below_alloc | apply pw_below_drewN | apply below_drew1) | exact HB.out)) hb); clear HO_9; clear HB; have HO_9 := n0_; have HB := n1_; clear n0_ n1_; (try clear hb); (try clear hb2); (try clear hk); (try clear hi)))
                go_ret2
                exact ⟨_, by first | rfl | (simp [errW_none, errW_some] <;> rfl) | (simp [*, errW_none, errW_some] <;> rfl), by first | exact Kd.R_nil _ _ _ _ _ | exact Kd.N_nil _ _ _ _ _ | exact Kd.V_nil _ _ _ _ _ | exact Kd.Q_nil _ _ _ _ _ | exact Kd.S_nil _ _ _ _ _, by repeat (first | (with_reducible first | exact HB.out | apply below_alloc | apply pw_below_drewN | apply below_drew1) | exact HB.out)⟩
            · rw [if_neg c9] at H
              have c9b0 : decide (x31_2 < a2) = false := decide_eq_false c9
              clear c9
              simp only [Option.some.injEq, Prod.mk.injEq] at H
              obtain ⟨rfl, rfl⟩ := H
              go_wp2
              go_ret2
              exact ⟨_, by first | rfl | (simp [errW_none, errW_some] <;> rfl) | (simp [*, errW_none, errW_some] <;> rfl), by (with_reducible repeat (first | apply Kd.R_alloc | apply Kd.R_drewN | apply Kd.R_drew)); exact HO_9.out, by repeat (first | (with_reducible first | exact HB.out | apply below_alloc | apply pw_below_drewN | apply below_drew1) | exact HB.out)⟩

/-! ### quittanceref04_Dates: function 37 -/
mutual
def quittanceref04_Dates.j0 : Nat → Int → Int → Int → Bool → Option (List Int × Int)
  | 0, _, _, _, _ => none
  | k + 1, x0, x1, x2, x25 => if x25 = true then (some (([] : List Int), 1)) else (quittanceref04_Dates.l0 k x0 x1 x2 ([] : List Int) 1)
def quittanceref04_Dates.l0 : Nat → Int → Int → Int → List Int → Int → Option (List Int × Int)
  | 0, _, _, _, _, _ => none
  | k + 1, x0, x1, x2, x8, x9 => if x9 ≤ x2 then ((Go.Proofs.Ytfmkdledofbhdaa.H.quittanceref04_Add.f x0 (wrap64 (x9 * x1))).bind fun bt109 => (if bt109.2 = 0 then (if x8.length < 17592186044416 then (quittanceref04_Dates.l0 k x0 x1 x2 (x8 ++ [bt109.1]) (wrap64 (x9 + 1))) else (none)) else (some (([] : List Int), bt109.2)))) else (some (x8, 0))
end
def quittanceref04_Dates.f (k : Nat) (a0 : Int) (a1 : Int) (a2 : Int) : Option (List Int × Int) := if a1 < 1 then (quittanceref04_Dates.j0 k a0 a1 a2 true) else (if a1 > 12 then (quittanceref04_Dates.j0 k a0 a1 a2 true) else (if a2 < 1 then (quittanceref04_Dates.j0 k a0 a1 a2 true) else (quittanceref04_Dates.j0 k a0 a1 a2 (decide (a2 > 600)))))
theorem quittanceref04_Dates.mono_l : ∀ k, (∀ y0 y1 y2 y3, LeO (quittanceref04_Dates.j0 k y0 y1 y2 y3) (quittanceref04_Dates.j0 (k + 1) y0 y1 y2 y3)) ∧ (∀ y0 y1 y2 y3 y4, LeO (quittanceref04_Dates.l0 k y0 y1 y2 y3 y4) (quittanceref04_Dates.l0 (k + 1) y0 y1 y2 y3 y4))
  | 0 => ⟨fun _ _ _ _ r h => by simp [quittanceref04_Dates.j0] at h, fun _ _ _ _ _ r h => by simp [quittanceref04_Dates.l0] at h⟩
  | k + 1 => by
    obtain ⟨ih0, ih1⟩ := quittanceref04_Dates.mono_l k
    refine ⟨?_, ?_⟩
    · intro y0 y1 y2 y3
      unfold quittanceref04_Dates.j0
      repeat' first
      | (with_reducible exact ih0 _ _ _ _)
      | (with_reducible exact ih1 _ _ _ _ _)
      | (with_reducible exact LeO.refl _)
      | (with_reducible exact LeO.none _)
      | (with_reducible refine LeO.ite ?_ ?_)
      | (with_reducible refine LeO.bind ?_ (fun _ => ?_))
      | exact ih0 _ _ _ _
      | exact ih1 _ _ _ _ _
      | exact LeO.none _
      | refine LeO.ite ?_ ?_
      | refine LeO.bind ?_ (fun _ => ?_)
    · intro y0 y1 y2 y3 y4
      unfold quittanceref04_Dates.l0
      repeat' first
      | (with_reducible exact ih0 _ _ _ _)
      | (with_reducible exact ih1 _ _ _ _ _)
      | (with_reducible exact LeO.refl _)
      | (with_reducible exact LeO.none _)
      | (with_reducible refine LeO.ite ?_ ?_)
      | (with_reducible refine LeO.bind ?_ (fun _ => ?_))
      | exact ih0 _ _ _ _
      | exact ih1 _ _ _ _ _
      | exact LeO.none _
      | refine LeO.ite ?_ ?_
      | refine LeO.bind ?_ (fun _ => ?_)
theorem quittanceref04_Dates.mono : ∀ a0 a1 a2 k, LeO (quittanceref04_Dates.f k a0 a1 a2) (quittanceref04_Dates.f (k + 1) a0 a1 a2) := by
  intro a0 a1 a2 k
  obtain ⟨ih0, ih1⟩ := quittanceref04_Dates.mono_l k
  unfold quittanceref04_Dates.f
  repeat' first
      | (with_reducible exact ih0 _ _ _ _)
      | (with_reducible exact ih1 _ _ _ _ _)
      | (with_reducible exact LeO.refl _)
      | (with_reducible exact LeO.none _)
      | (with_reducible refine LeO.ite ?_ ?_)
      | (with_reducible refine LeO.bind ?_ (fun _ => ?_))
      | exact ih0 _ _ _ _
      | exact ih1 _ _ _ _ _
      | exact LeO.none _
      | refine LeO.ite ?_ ?_
      | refine LeO.bind ?_ (fun _ => ?_)
set_option maxHeartbeats 8000000 in
set_option maxRecDepth 100000 in
theorem quittanceref04_Dates.calls (k : Nat) (a0 : Int) (a1 : Int) (a2 : Int) (r1 : List Int) (r2 : Int) (w : World) (h : quittanceref04_Dates.f k a0 a1 a2 = some (r1, r2)) :
    Calls Try.prog 37 #[.int .i64 a0, .int .i64 a1, .int .i64 a2] w fun e w' => ∃ v0_ : Value, e = .returned (.tuple #[v0_, .int .i64 r2]) ∧ Kd.R (Kd.int .i64) 3 w' w.heap.size (fun _ => True) v0_ r1 ∧ Below w.heap.size w w' := by
  have HB := Aside0.mk (Below.refl w.heap.size w)
  have H : (if a1 < 1 then (quittanceref04_Dates.j0 k a0 a1 a2 true) else (if a1 > 12 then (quittanceref04_Dates.j0 k a0 a1 a2 true) else (if a2 < 1 then (quittanceref04_Dates.j0 k a0 a1 a2 true) else (quittanceref04_Dates.j0 k a0 a1 a2 (decide (a2 > 600)))))) = some (r1, r2) := h
  clear h
  have HC4 := Aside0.mk H
  clear H
  go_enter Try.func37, Try.ntmps37
  go_upto_region 1 with (fail)
  go_cut [25] (fun v25 wc => ∃ (kq : Nat) (x25_3 : Bool), v25 = .bool x25_3 ∧ Aside0 (quittanceref04_Dates.j0 kq a0 a1 a2 x25_3 = some (r1, r2)) ∧ Aside0 (kq ≤ k) ∧ Aside0 (Below w.heap.size w wc))
  case first =>
    have H := HC4.out
    clear HC4
    by_cases c5 : a1 < 1
    · rw [if_pos c5] at H
      have c5b0 : decide (a1 < 1) = true := decide_eq_true c5
      clear c5
      (first | rw [c5b0] | (simp only [i64_w, i32_w]; rw [c5b0]) | skip)
      have H' := Aside0.mk H
      clear H
      go_wp2
      go_meet
      case rel => exact ⟨_, (true), (by first | rfl | (simp; done) | (simp [*]; done)), H', ⟨by first | omega | exact Nat.le_refl _⟩, ⟨by repeat (first | (with_reducible first | exact HB.out | apply below_alloc | apply pw_below_drewN | apply below_drew1) | exact HB.out)⟩⟩
    · rw [if_neg c5] at H
      have c5b0 : decide (a1 < 1) = false := decide_eq_false c5
      clear c5
      (first | rw [c5b0] | (simp only [i64_w, i32_w]; rw [c5b0]) | skip)
      by_cases c6 : a1 > 12
      · rw [if_pos c6] at H
        have c6b0 : decide (12 < a1) = true := decide_eq_true c6
        clear c6
        have H' := Aside0.mk H
        clear H
        go_wp2
        go_meet
        case rel => exact ⟨_, (true), (by first | rfl | (simp; done) | (simp [*]; done)), H', ⟨by first | omega | exact Nat.le_refl _⟩, ⟨by repeat (first | (with_reducible first | exact HB.out | apply below_alloc | apply pw_below_drewN | apply below_drew1) | exact HB.out)⟩⟩
      · rw [if_neg c6] at H
        have c6b0 : decide (12 < a1) = false := decide_eq_false c6
        clear c6
        by_cases c7 : a2 < 1
        · rw [if_pos c7] at H
          have c7b0 : decide (a2 < 1) = true := decide_eq_true c7
          clear c7
          have H' := Aside0.mk H
          clear H
          go_wp2
          go_meet
          case rel => exact ⟨_, (true), (by first | rfl | (simp; done) | (simp [*]; done)), H', ⟨by first | omega | exact Nat.le_refl _⟩, ⟨by repeat (first | (with_reducible first | exact HB.out | apply below_alloc | apply pw_below_drewN | apply below_drew1) | exact HB.out)⟩⟩
        · rw [if_neg c7] at H
          have c7b0 : decide (a2 < 1) = false := decide_eq_false c7
          clear c7
          have H' := Aside0.mk H
          clear H
          go_wp2
          go_meet
          case rel => exact ⟨_, (decide (a2 > 600)), (by first | rfl | (simp; done) | (simp [*]; done)), H', ⟨by first | omega | exact Nat.le_refl _⟩, ⟨by repeat (first | (with_reducible first | exact HB.out | apply below_alloc | apply pw_below_drewN | apply below_drew1) | exact HB.out)⟩⟩
  case rest =>
    clear HC4
    try clear p2
    try clear c3
    try clear c5
    try clear c5b0
    try clear c6
    try clear c6b0
    try clear c7
    try clear c7b0
    obtain ⟨kq, x25_3, rfl, HA, HJ3, HB⟩ := hcut
    cases kq with
    | zero => exact absurd HA.out (by simp [quittanceref04_Dates.j0])
    | succ kj3 =>
      have H := HA.out
      clear HA
      simp only [quittanceref04_Dates.j0] at H
      by_cases c8 : x25_3 = true
      · subst c8
        have H1 : (some (([] : List Int), 1)) = some (r1, r2) := by rw [if_pos rfl] at H; exact H
        clear H
        have H := H1
        clear H1
        simp only [Option.some.injEq, Prod.mk.injEq] at H
        obtain ⟨rfl, rfl⟩ := H
        go_wp2
        go_ret2
        exact ⟨_, by first | rfl | (simp [errW_none, errW_some] <;> rfl) | (simp [*, errW_none, errW_some] <;> rfl), by first | exact Kd.R_nil _ _ _ _ _ | exact Kd.N_nil _ _ _ _ _ | exact Kd.V_nil _ _ _ _ _ | exact Kd.Q_nil _ _ _ _ _ | exact Kd.S_nil _ _ _ _ _, by repeat (first | (with_reducible first | exact HB.out | apply below_alloc | apply pw_below_drewN | apply below_drew1) | exact HB.out)⟩
      · replace c8 := Bool.eq_false_iff.mpr c8
        subst c8
        have H1 : (quittanceref04_Dates.l0 kj3 a0 a1 a2 ([] : List Int) 1) = some (r1, r2) := by rw [if_neg (show ¬ (false = true) by decide)] at H; exact H
        clear H
        have H := H1
        clear H1
        have H' := Aside0.mk H
        clear H
        go_wp2
        go_loopg [8, 9] kj3 (fun kq v8 v9 w' => ∃ (x8_2 : List Int) (x9_2 : Int), v9 = .int .i64 x9_2 ∧ Aside0 (quittanceref04_Dates.l0 kq a0 a1 a2 x8_2 x9_2 = some (r1, r2)) ∧ Aside0 (kq ≤ kj3) ∧ Aside0 (Kd.R (Kd.int .i64) 3 w' w.heap.size (fun _ => True) v8 x8_2) ∧ Aside0 (Below w.heap.size w w'))
        case atStart => exact ⟨(([] : List Int)), (1), (by first | rfl | (simp; done) | (simp [*]; done)), H', ⟨Nat.le_refl _⟩, ⟨by first | exact Kd.R_nil _ _ _ _ _ | exact Kd.N_nil _ _ _ _ _ | exact Kd.V_nil _ _ _ _ _ | exact Kd.Q_nil _ _ _ _ _ | exact Kd.S_nil _ _ _ _ _⟩, ⟨by repeat (first | (with_reducible first | exact HB.out | apply below_alloc | apply pw_below_drewN | apply below_drew1) | exact HB.out)⟩⟩
        case round =>
          clear H'
          try clear p2
          try clear c3
          try clear c5
          try clear c5b0
          try clear c6
          try clear c6b0
          try clear c7
          try clear c7b0
          try clear c8
          try clear p2
          obtain ⟨x8_2, x9_2, rfl, HA, HK2, HO_8, HB⟩ := hrel
          cases gk with
          | zero => exact absurd HA.out (by simp [quittanceref04_Dates.l0])
          | succ k2 =>
            have H := HA.out
            clear HA
            simp only [quittanceref04_Dates.l0] at H
            by_cases c9 : x9_2 ≤ a2
            · rw [if_pos c9] at H
              have c9b0 : decide (x9_2 ≤ a2) = true := decide_eq_true c9
              clear c9
              replace H := Option.bind_eq_some_iff.mp H
              obtain ⟨⟨t109, t110⟩, A100, H⟩ := H
              replace H : (if t110 = 0 then (if x8_2.length < 17592186044416 then (quittanceref04_Dates.l0 k2 a0 a1 a2 (x8_2 ++ [t109]) (wrap64 (x9_2 + 1))) else (none)) else (some (([] : List Int), t110))) = some (r1, r2) := H
              have A10 := Aside0.mk A100
              clear A100
              by_cases c11 : t110 = 0
              · rw [if_pos c11] at H
                have c11b0 : (t110 == 0) = true := beq_iff_eq.mpr c11
                have c11b1 : (t110 != 0) = false := bne_eq_false_iff_eq.mpr c11
                clear c11
                by_cases c12 : x8_2.length < 17592186044416
                · rw [if_pos c12] at H
                  have LMc12 := Aside0.mk c12
                  clear c12
                  obtain ⟨y111, hy111⟩ : ∃ y_ : List Int, y_ = (x8_2 ++ [t109]) := ⟨_, rfl⟩
                  replace H : (quittanceref04_Dates.l0 k2 a0 a1 a2 y111 (wrap64 (x9_2 + 1))) = some (r1, r2) := by first | (rw [hy111]; with_reducible exact H) | (have H2_ := (Option.bind_some _ _).symm.trans H; rw [hy111]; with_reducible exact H2_) | (have H2_ := (Option.bind_some _ _).symm.trans H; with_reducible exact H2_) | with_reducible exact H | (rw [hy111]; exact H) | exact H
                  have Ny111 := Aside0.mk hy111
                  clear hy111
                  have H' := Aside0.mk H
                  clear H
                  go_wp2_with (first | ((with_reducible refine gate_callee (f := 70) rfl ?_); refine goesL_ (some 36) rfl rfl Try.func70 (by kernel_rfl) rfl #[.int .i64 a0, .int .i64 (wrap64 (x9_2 * a1))] rfl (by (try simp only [List.map_toArray, List.map_cons, List.map_nil]); first | done | rfl | (simp only [List.length_drop, List.length_take]; rfl)) ?_; (with_reducible refine (Go.Proofs.Ytfmkdledofbhdaa.H.quittanceref04_Add.calls a0 (wrap64 (x9_2 * a1)) t109 t110 _ A10.out).mono ?_); rintro e w13 ⟨rfl, hb⟩; refine ⟨_, rfl, ?_⟩; have n0_ := Aside0.mk (Kd.R_below (by (with_reducible repeat (first | apply Kd.R_alloc | apply Kd.R_drewN | apply Kd.R_drew)); exact HO_8.out) hb); have n1_ := Aside0.mk (below_step (by repeat (first | (with_reducible first | exact HB.out | apply below_alloc | apply pw_below_drewN | apply below_drew1) | exact HB.out)) hb); clear HO_8; clear HB; have HO_8 := n0_; have HB := n1_; clear n0_ n1_; (try clear hb); (try clear hb2); (try clear hk); (try clear hi)) | ((with_reducible refine gate_builtin (b := .append) (xs := #[.tmp 42, .tmp 44]) rfl ?_); at_builtin; refine Kd.R_append (Kd.int .i64) (w0 := w) w.heap.size rfl (.tmp 42) (.tmp 44) 25 3 (.int .i64 0) 8 rfl Try.underlying25 info3 rfl (by decide) (by omega) u8 x8_2 t109 [.int .i64 t109] (fun _ => True) (fun _ => False) rfl rfl ?aP (fun _ hk => hk.elim) ?aF ?aO ?aB ?aS ?aL ?_; (case aP => exact rfl); (case aB => exact (by repeat (first | (with_reducible first | exact HB.out | apply below_alloc | apply pw_below_drewN | apply below_drew1) | exact HB.out))); (case aF => exact (fun _ _ => trivial)); (case aO => exact (by (with_reducible repeat (first | apply Kd.R_alloc | apply Kd.R_drewN | apply Kd.R_drew)); exact HO_8.out)); (case aS => exact (below_size (by repeat (first | (with_reducible first | exact HB.out | apply below_alloc | apply pw_below_drewN | apply below_drew1) | exact HB.out)))); (case aL => have := LMc12.out; omega); intro v112 w14 ho hb hg hat; rw [← Ny111.out] at ho; have n0_ := Aside0.mk (hb); have n1_ := Aside0.mk (ho); clear HB; clear HO_8; have HB := n0_; have HO113 := n1_; clear n0_ n1_; clear ho hb hg hat))
                  go_roundg k2
                  case measure => have := HJ3.out; have := HK2.out; omega
                  case rel => exact ⟨(y111), (wrap64 (x9_2 + 1)), (by first | rfl | (simp; done) | (simp [*]; done)), H', ⟨by have := HJ3.out; have := HK2.out; omega⟩, ⟨by (with_reducible repeat (first | apply Kd.R_alloc | apply Kd.R_drewN | apply Kd.R_drew)); exact HO113.out⟩, ⟨by repeat (first | (with_reducible first | exact HB.out | apply below_alloc | apply pw_below_drewN | apply below_drew1) | exact HB.out)⟩⟩
                · rw [if_neg c12] at H
                  exact absurd H (by simp)
              · rw [if_neg c11] at H
                have c11b0 : (t110 == 0) = false := beq_eq_false_iff_ne.mpr c11
                have c11b1 : (t110 != 0) = true := bne_iff_ne.mpr c11
                simp only [Option.some.injEq, Prod.mk.injEq] at H
                obtain ⟨rfl, rfl⟩ := H
                go_wp2_with (first | ((with_reducible refine gate_callee (f := 70) rfl ?_); refine goesL_ (some 36) rfl rfl Try.func70 (by kernel_rfl) rfl #[.int .i64 a0, .int .i64 (wrap64 (x9_2 * a1))] rfl (by (try simp only [List.map_toArray, List.map_cons, List.map_nil]); first | done | rfl | (simp only [List.length_drop, List.length_take]; rfl)) ?_; (with_reducible refine (Go.Proofs.Ytfmkdledofbhdaa.H.quittanceref04_Add.calls a0 (wrap64 (x9_2 * a1)) t109 t110 _ A10.out).mono ?_); rintro e w15 ⟨rfl, hb⟩; refine ⟨_, rfl, ?_⟩; have n0_ := Aside0.mk (Kd.R_below (by (with_reducible repeat (first | apply Kd.R_alloc | apply Kd.R_drewN | apply Kd.R_drew)); exact HO_8.out) hb); have n1_ := Aside0.mk (below_step (by repeat (first | (with_reducible first | exact HB.out | apply below_alloc | apply pw_below_drewN | apply below_drew1) | exact HB.out)) hb); clear HO_8; clear HB; have HO_8 := n0_; have HB := n1_; clear n0_ n1_; (try clear hb); (try clear hb2); (try clear hk); (try clear hi)))
                go_ret2
                exact ⟨_, by first | rfl | (simp [errW_none, errW_some] <;> rfl) | (simp [*, errW_none, errW_some] <;> rfl), by first | exact Kd.R_nil _ _ _ _ _ | exact Kd.N_nil _ _ _ _ _ | exact Kd.V_nil _ _ _ _ _ | exact Kd.Q_nil _ _ _ _ _ | exact Kd.S_nil _ _ _ _ _, by repeat (first | (with_reducible first | exact HB.out | apply below_alloc | apply pw_below_drewN | apply below_drew1) | exact HB.out)⟩
            · rw [if_neg c9] at H
              have c9b0 : decide (x9_2 ≤ a2) = false := decide_eq_false c9
              clear c9
              simp only [Option.some.injEq, Prod.mk.injEq] at H
              obtain ⟨rfl, rfl⟩ := H
              go_wp2
              go_ret2
              exact ⟨_, by first | rfl | (simp [errW_none, errW_some] <;> rfl) | (simp [*, errW_none, errW_some] <;> rfl), by (with_reducible repeat (first | apply Kd.R_alloc | apply Kd.R_drewN | apply Kd.R_drew)); exact HO_8.out, by repeat (first | (with_reducible first | exact HB.out | apply below_alloc | apply pw_below_drewN | apply below_drew1) | exact HB.out)⟩

end Go.Proofs.Ytfmkdledofbhdaa.PDA
/- Plain: the days so many months apart; both printed walks give them. -/
namespace Go.Proofs.Ytfmkdledofbhdaa.Du
open Go.RowKit Go.Proofs.Ytfmkdledofbhdaa.PDA Go.Proofs.YtfmkdledofbhdaaW.PrintWords Go.Proofs.YtfmkdledofbhdaaW.PrintLast Go.Proofs.YtfmkdledofbhdaaW.PrintMore
open Go.Proofs.Ytfmkdledofbhdaa.Math Go.Proofs.Ytfmkdledofbhdaa.H
set_option linter.unusedVariables false
set_option linter.unusedSimpArgs false
/-- The days so many months apart, i of them being told. -/
def dates : Nat → Int → Int → Int → List Int → List Int × Int
  | 0, _, _, _, l => (l, 0)
  | m + 1, n, e, i, l => if (add n ((i + 1) * e)).2 = 0 then dates m n e (i + 1) (l ++ [(add n ((i + 1) * e)).1]) else ([], (add n ((i + 1) * e)).2)
theorem dates_len : ∀ (m : Nat) (n e i : Int) (l : List Int), (dates m n e i l).1.length ≤ l.length + m
  | 0, n, e, i, l => by simp [dates]
  | m + 1, n, e, i, l => by
    unfold dates
    split
    · have := dates_len m n e (i + 1) (l ++ [(add n ((i + 1) * e)).1])
      simp at this ⊢
      omega
    · simp
theorem mul_small {i e : Int} (h1 : 0 ≤ i) (h2 : i ≤ 700) (e1 : 1 ≤ e) (e2 : e ≤ 12) : 0 ≤ i * e ∧ i * e ≤ 8400 := by
  have a := Int.mul_le_mul_of_nonneg_right h2 (show 0 ≤ e by omega)
  have b := Int.mul_nonneg h1 (show 0 ≤ e by omega)
  omega
theorem civ_loop : ∀ (m : Nat) {n e t i : Int} (l : List Int), 1 ≤ e → e ≤ 12 → 0 ≤ i → t ≤ 600 → i + m = t → l.length ≤ 100000 - m → m ≤ 600 →
    monthly_Dates.l0 (m + 1) n e l t i = some (dates m n e i l)
  | 0, n, e, t, i, l, e1, e2, i0, t0, h, hl, hm => by
    simp only [monthly_Dates.l0]
    rw [if_neg (by omega)]
    rfl
  | m + 1, n, e, t, i, l, e1, e2, i0, t0, h, hl, hm => by
    rw [monthly_Dates.l0]
    obtain ⟨p1, p2⟩ := mul_small (i := i + 1) (by omega) (by omega) e1 e2
    rw [if_pos (by omega), w64 (x := i + 1) (by omega) (by omega), w64 (x := (i + 1) * e) (by omega) (by omega)]
    simp only [monthly_from_add.f, monthly_Add.f, Option.bind_some]
    rw [dates]
    by_cases hz : (add n ((i + 1) * e)).2 = 0
    · rw [if_pos hz, if_pos hz, if_pos (by omega)]
      exact civ_loop m _ e1 e2 (by omega) t0 (by omega) (by simp; omega) (by omega)
    · rw [if_neg hz, if_neg hz]
theorem ref_loop : ∀ (m : Nat) {n e t i : Int} (l : List Int), 1 ≤ e → e ≤ 12 → 0 ≤ i → t ≤ 600 → i + m = t → l.length ≤ 100000 - m → m ≤ 600 →
    quittanceref04_Dates.l0 (m + 1) n e t l (i + 1) = some (dates m n e i l)
  | 0, n, e, t, i, l, e1, e2, i0, t0, h, hl, hm => by
    simp only [quittanceref04_Dates.l0]
    rw [if_neg (by omega)]
    rfl
  | m + 1, n, e, t, i, l, e1, e2, i0, t0, h, hl, hm => by
    rw [quittanceref04_Dates.l0]
    obtain ⟨p1, p2⟩ := mul_small (i := i + 1) (by omega) (by omega) e1 e2
    rw [if_pos (by omega), w64 (x := (i + 1) * e) (by omega) (by omega), w64 (x := i + 1 + 1) (by omega) (by omega)]
    simp only [quittanceref04_Add.f, Option.bind_some]
    rw [dates]
    by_cases hz : (add n ((i + 1) * e)).2 = 0
    · rw [if_pos hz, if_pos hz, if_pos (by omega)]
      exact ref_loop m _ e1 e2 (by omega) t0 (by omega) (by simp; omega) (by omega)
    · rw [if_neg hz, if_neg hz]
/-- The days, or why none. -/
def datesP (n e t : Int) : List Int × Int := if 1 ≤ e ∧ e ≤ 12 ∧ 1 ≤ t ∧ t ≤ 600 then dates t.toNat n e 0 [] else ([], 1)
theorem civ_dates {n e t : Int} : (datesP n e t).1.length ≤ 600 ∧ monthly_Dates.f (t.toNat + 2) n e t = some (datesP n e t) ∧ quittanceref04_Dates.f (t.toNat + 2) n e t = some (datesP n e t) := by
  unfold datesP
  by_cases h : 1 ≤ e ∧ e ≤ 12 ∧ 1 ≤ t ∧ t ≤ 600
  · rw [if_pos h]
    obtain ⟨e1, e2, t1, t2⟩ := h
    refine ⟨?_, ?_, ?_⟩
    · have := dates_len t.toNat n e 0 []
      simp at this
      omega
    · unfold monthly_Dates.f
      rw [if_neg (by omega), if_neg (by omega), if_neg (by omega), decide_eq_false (by omega)]
      simp only [monthly_Dates.j0, Bool.false_eq_true, if_false]
      exact civ_loop t.toNat [] e1 e2 (by omega) t2 (by omega) (by first | (simp; done) | (simp; omega)) (by omega)
    · unfold quittanceref04_Dates.f
      rw [if_neg (by omega), if_neg (by omega), if_neg (by omega), decide_eq_false (by omega)]
      simp only [quittanceref04_Dates.j0, Bool.false_eq_true, if_false]
      exact ref_loop t.toNat (i := 0) [] e1 e2 (by omega) t2 (by omega) (by first | (simp; done) | (simp; omega)) (by omega)
  · rw [if_neg h]
    refine ⟨by simp, ?_, ?_⟩
    · unfold monthly_Dates.f
      repeat' split
      all_goals first | rfl | (rw [decide_eq_true (by omega)]; done) | (rw [decide_eq_true (by omega)]; rfl)
    · unfold quittanceref04_Dates.f
      repeat' split
      all_goals first | rfl | (rw [decide_eq_true (by omega)]; done) | (rw [decide_eq_true (by omega)]; rfl)
end Go.Proofs.Ytfmkdledofbhdaa.Du
/- Lists of days: which may be holidays, and whether a day is among them. -/
namespace Go.Proofs.Ytfmkdledofbhdaa.H
open Go.RowKit Go.Proofs.YtfmkdledofbhdaaW.PrintWords Go.Proofs.YtfmkdledofbhdaaW.PrintLast Go.Proofs.YtfmkdledofbhdaaW.PrintMore
open Go.Proofs.Ytfmkdledofbhdaa.Math
set_option linter.unusedVariables false
set_option linter.unusedSimpArgs false
theorem rd_nat (l : List Int) (k : Nat) (h : k < l.length) : rd l (k : Int) = l[k] := by
  simp [rd, h]
theorem rd_cons (l : List Int) (k : Nat) (h : k < l.length) : l.drop k = rd l (k : Int) :: l.drop (k + 1) := by
  rw [List.drop_eq_getElem_cons h, rd_nat l k h]
/-- Each one is a day, and behind the one ahead. -/
def rises : Int → List Int → Bool
  | _, [] => true
  | p, x :: xs => decide (isDay x) && (decide (p < x) && rises x xs)
def rightB (l : List Int) : Bool := rises (-25568) l && decide (l.length ≤ 200)
theorem rises_all (l : List Int) : ∀ p, rises p l = true → ∀ x ∈ l, isDay x ∧ p < x := by
  induction l with
  | nil => intro p _ x hx; simp at hx
  | cons y ys ih =>
    intro p h x hx
    simp only [rises, Bool.and_eq_true, decide_eq_true_eq] at h
    obtain ⟨h1, h2, h3⟩ := h
    rcases List.mem_cons.1 hx with rfl | hx
    · exact ⟨h1, h2⟩
    · obtain ⟨h4, h5⟩ := ih y h3 x hx
      exact ⟨h4, by omega⟩
theorem rises_pair (l : List Int) : ∀ p, rises p l = true → l.Pairwise (· < ·) := by
  induction l with
  | nil => intro p _; exact List.Pairwise.nil
  | cons y ys ih =>
    intro p h
    simp only [rises, Bool.and_eq_true, decide_eq_true_eq] at h
    exact List.Pairwise.cons (fun x hx => (rises_all ys y h.2.2 x hx).2) (ih y h.2.2)
theorem rises_lt {l : List Int} (h : l.Pairwise (· < ·)) {i j : Nat} (hij : i < j) (hj : j < l.length) : rd l (i : Int) < rd l (j : Int) := by
  rw [rd_nat l i (by omega), rd_nat l j hj]
  exact List.pairwise_iff_getElem.1 h i j (by omega) hj hij
theorem rises_of {l : List Int} : ∀ (p : Int), (∀ x ∈ l, isDay x ∧ p < x) → l.Pairwise (· < ·) → rises p l = true := by
  induction l with
  | nil => intro p _ _; rfl
  | cons y ys ih =>
    intro p h hp
    obtain ⟨h1, h2⟩ := h y (List.mem_cons_self)
    cases hp with
    | cons h3 h4 =>
      simp only [rises, Bool.and_eq_true, decide_eq_true_eq]
      exact ⟨h1, h2, ih y (fun x hx => ⟨(h x (List.mem_cons_of_mem _ hx)).1, h3 x hx⟩) h4⟩

theorem in_loop (l : List Int) (x : Int) (hm : l.length ≤ 1000000000) (d : Nat) : ∀ (k i : Nat), i ≤ l.length → l.length - i = d → d < k → PA.quittancehelp_In_int.l0 k l x (i : Int) = some ((l.drop i).contains x) := by
  induction d with
  | zero =>
    intro k i h1 h2 h3
    obtain ⟨k, rfl⟩ : ∃ m, k = m + 1 := ⟨k - 1, by omega⟩
    simp only [PA.quittancehelp_In_int.l0]
    rw [if_neg (by omega), List.drop_eq_nil_of_le (by omega)]; rfl
  | succ d ih =>
    intro k i h1 h2 h3
    obtain ⟨k, rfl⟩ : ∃ m, k = m + 1 := ⟨k - 1, by omega⟩
    simp only [PA.quittancehelp_In_int.l0]
    rw [if_pos (by omega), if_pos (by omega), rd_cons l i (by omega), List.contains_cons]
    by_cases e : rd l (i : Int) = x
    · rw [if_pos e]; simp [e]
    · have e' : (x == rd l (i : Int)) = false := by simpa using fun h => e h.symm
      rw [if_neg e, w64 (by omega) (by omega), show (i : Int) + 1 = ((i + 1 : Nat) : Int) by omega, ih k (i + 1) (by omega) (by omega) (by omega), e', Bool.false_or]
theorem in_is (l : List Int) (x : Int) (hm : l.length ≤ 1000000000) : PA.quittancehelp_In_int.f 1000000001 l x = some (l.contains x) := in_loop l x hm l.length 1000000001 0 (by omega) (by omega) (by omega)

theorem right_loop (l : List Int) (hm : l.length ≤ 1000000000) (d : Nat) : ∀ (k i : Nat) (p : Int), i ≤ l.length → l.length - i = d → d < k → (i = 0 ∧ p = -25568 ∨ 0 < i ∧ p = rd l ((i : Int) - 1)) →
    PA.quittanceref05_Right.l0 k l (i : Int) = some (rises p (l.drop i) && decide (l.length ≤ 200)) := by
  induction d with
  | zero =>
    intro k i p h1 h2 h3 hp
    obtain ⟨k, rfl⟩ : ∃ m, k = m + 1 := ⟨k - 1, by omega⟩
    simp only [PA.quittanceref05_Right.l0]
    rw [if_neg (by omega), List.drop_eq_nil_of_le (by omega)]
    simp only [rises, Bool.true_and]
    congr 1
    rw [decide_eq_decide]; omega
  | succ d ih =>
    intro k i p h1 h2 h3 hp
    obtain ⟨k, rfl⟩ : ∃ m, k = m + 1 := ⟨k - 1, by omega⟩
    simp only [PA.quittanceref05_Right.l0]
    rw [if_pos (by omega), if_pos (by omega), refIs, rd_cons l i (by omega)]
    simp only [Option.bind_some, rises]
    have hstep := ih k (i + 1) (rd l (i : Int)) (by omega) (by omega) (by omega) (Or.inr ⟨by omega, by rw [show (((i + 1 : Nat) : Int) - 1) = (i : Int) by omega]⟩)
    by_cases hd : isDay (rd l (i : Int))
    · rw [decide_eq_true hd, if_pos rfl, Bool.true_and]
      rcases hp with ⟨rfl, rfl⟩ | ⟨h0, rfl⟩
      · rw [if_neg (by omega), w64 (by omega) (by omega), show ((0 : Nat) : Int) + 1 = ((0 + 1 : Nat) : Int) by omega, hstep]
        have : decide (-25568 < rd l ((0 : Nat) : Int)) = true := decide_eq_true (by have := hd.1; omega)
        rw [this, Bool.true_and]
      · rw [if_pos (by omega), w64 (x := (i : Int) - 1) (by omega) (by omega), if_pos (by omega), if_pos (by omega)]
        by_cases hle : rd l (i : Int) ≤ rd l ((i : Int) - 1)
        · rw [if_pos hle, decide_eq_false (show ¬ rd l ((i : Int) - 1) < rd l (i : Int) by omega)]; rfl
        · rw [if_neg hle, w64 (by omega) (by omega), show (i : Int) + 1 = ((i + 1 : Nat) : Int) by omega, hstep, decide_eq_true (show rd l ((i : Int) - 1) < rd l (i : Int) by omega), Bool.true_and]
    · rw [decide_eq_false hd, if_neg (by decide)]; rfl
theorem right_is (l : List Int) (hm : l.length ≤ 1000000000) : PA.quittanceref05_Right.f 1000000001 l = some (rightB l) := right_loop l hm l.length 1000000001 0 (-25568) (by omega) (by omega) (by omega) (Or.inl ⟨rfl, rfl⟩)

theorem less_is (a b : Int) : PA.cmp_Less_int.f a b = some (decide (a < b)) := by simp [PA.cmp_Less_int.f, PA.cmp_isNaN_int.f]
theorem mid_is {x y : Int} (h0 : 0 ≤ x) (h1 : x < y) (h2 : y ≤ 1000000000) : wrap64 (IntKind.u64.wrap (wrap64 (x + y)) / 2) = (x + y) / 2 := by
  rw [w64 (x := x + y) (by omega) (by omega), show IntKind.u64.wrap (x + y) = x + y from IntWalk.u64_in _ (by omega), w64 (by omega) (by omega)]
theorem bs_loop (l : List Int) (x : Int) (hm : l.length ≤ 1000000000) (hs : l.Pairwise (· < ·)) (d : Nat) : ∀ (k lo hi : Nat), lo ≤ hi → hi ≤ l.length → hi - lo ≤ d → d < k →
    (∀ j : Nat, j < lo → rd l (j : Int) < x) → (∀ j : Nat, hi ≤ j → j < l.length → x ≤ rd l (j : Int)) → ∃ i, PA.slices_BinarySearch_int_int.l0 k l x (l.length : Int) (lo : Int) (hi : Int) = some (i, l.contains x) := by
  induction d with
  | zero =>
    intro k lo hi h1 h2 h3 h4 hL hH
    obtain ⟨k, rfl⟩ : ∃ m, k = m + 1 := ⟨k - 1, by omega⟩
    obtain rfl : hi = lo := by omega
    refine ⟨(hi : Int), ?_⟩
    have hc : l.contains x = true ↔ hi < l.length ∧ rd l (hi : Int) = x := by
      constructor
      · intro h
        obtain ⟨j, hj, e⟩ := List.getElem_of_mem (List.contains_iff_mem.1 h)
        rw [← rd_nat l j hj] at e
        have a : ¬ j < hi := fun h => by have := hL j h; omega
        have b : hi < l.length := by omega
        refine ⟨b, ?_⟩
        by_cases c : j = hi
        · rw [← c]; exact e
        · have := rises_lt hs (show hi < j by omega) hj
          have := hH hi (Nat.le_refl _) b
          omega
      · rintro ⟨h, e⟩
        rw [List.contains_iff_mem, ← e, rd_nat l hi h]
        exact List.getElem_mem _
    simp only [PA.slices_BinarySearch_int_int.l0]
    rw [if_neg (by omega)]
    by_cases hl : hi < l.length
    · rw [if_pos (by omega), if_pos (by omega), if_pos (by omega)]
      by_cases e : rd l (hi : Int) = x
      · rw [if_pos e, hc.2 ⟨hl, e⟩]
      · rw [if_neg e]
        have : l.contains x = false := by rw [Bool.eq_false_iff]; exact fun h => e (hc.1 h).2
        rw [this]
        simp [PA.slices_isNaN_int.f]
    · rw [if_neg (by omega)]
      have : l.contains x = false := by rw [Bool.eq_false_iff]; exact fun h => hl (hc.1 h).1
      rw [this]
  | succ d ih =>
    intro k lo hi h1 h2 h3 h4 hL hH
    by_cases hlt : lo < hi
    · obtain ⟨k, rfl⟩ : ∃ m, k = m + 1 := ⟨k - 1, by omega⟩
      simp only [PA.slices_BinarySearch_int_int.l0]
      rw [if_pos (by omega), mid_is (by omega) (by omega) (by omega), if_pos (by omega), if_pos (by omega), less_is]
      simp only [Option.bind_some, decide_eq_true_eq]
      have em : ((lo : Int) + (hi : Int)) / 2 = (((lo + hi) / 2 : Nat) : Int) := by omega
      rw [em]
      by_cases hlx : rd l (((lo + hi) / 2 : Nat) : Int) < x
      · rw [if_pos hlx, w64 (by omega) (by omega), show ((((lo + hi) / 2 : Nat) : Int) + 1) = (((lo + hi) / 2 + 1 : Nat) : Int) by omega]
        refine ih k _ hi (by omega) h2 (by omega) (by omega) (fun j hj => ?_) hH
        rcases (by omega : j < (lo + hi) / 2 ∨ j = (lo + hi) / 2) with h | rfl
        · have := rises_lt hs h (by omega)
          omega
        · exact hlx
      · rw [if_neg hlx]
        refine ih k lo _ (by omega) (by omega) (by omega) (by omega) hL (fun j hj hj2 => ?_)
        rcases (by omega : (lo + hi) / 2 < j ∨ j = (lo + hi) / 2) with h | rfl
        · have := rises_lt hs h hj2
          omega
        · omega
    · exact Nat.lt_irrefl 0 |> fun _ => by
        obtain ⟨i, h⟩ := ih k lo hi h1 h2 (by omega) (by omega) hL hH
        exact ⟨i, h⟩
theorem bs_is (l : List Int) (x : Int) (hm : l.length ≤ 1000000000) (hs : l.Pairwise (· < ·)) : ∃ i, PA.slices_BinarySearch_int_int.f 1000000001 l x = some (i, l.contains x) :=
  bs_loop l x hm hs l.length 1000000001 0 l.length (by omega) (by omega) (by omega) (by omega) (fun j hj => by omega) (fun j h1 h2 => by omega)

/-! ### Contracts, restated -/
def help_In_int.f (l : List Int) (x : Int) : Option Bool := if l.length ≤ 1000000000 then some (l.contains x) else none
theorem help_In_int.calls (A0 : Option Addr) (c0 : Nat) (l0 : List Int) (a1 : Int) (r : Bool) (w : World) (hr0 : Kd.C (Kd.int .i64) w A0 l0.length l0) (hc0 : l0.length ≤ c0) (h : help_In_int.f l0 a1 = some r) :
    Calls Try.prog 53 #[.slice A0 l0.length c0, .int .i64 a1] w fun e w' => e = .returned (.bool r) ∧ Drawn0 w w' := by
  unfold help_In_int.f at h
  split at h
  · rename_i hm
    exact PA.quittancehelp_In_int.calls 1000000001 A0 c0 l0 a1 r w hr0 hc0 ((in_is l0 a1 hm).trans h)
  · cases h
def ref05_Right.f (l : List Int) : Option Bool := if l.length ≤ 1000000000 then some (rightB l) else none
theorem ref05_Right.calls (A0 : Option Addr) (c0 : Nat) (l0 : List Int) (r : Bool) (w : World) (hr0 : Kd.C (Kd.int .i64) w A0 l0.length l0) (hc0 : l0.length ≤ c0) (h : ref05_Right.f l0 = some r) :
    Calls Try.prog 15 #[.slice A0 l0.length c0] w fun e w' => e = .returned (.bool r) ∧ Drawn0 w w' := by
  unfold ref05_Right.f at h
  split at h
  · rename_i hm
    exact PA.quittanceref05_Right.calls 1000000001 A0 c0 l0 r w hr0 hc0 ((right_is l0 hm).trans h)
  · cases h
theorem search_any (A0 : Option Addr) (c0 : Nat) (l0 : List Int) (a1 : Int) (w : World) (hr0 : Kd.C (Kd.int .i64) w A0 l0.length l0) (hc0 : l0.length ≤ c0) (hm : l0.length ≤ 1000000000) (hs : l0.Pairwise (· < ·)) :
    Calls Try.prog 112 #[.slice A0 l0.length c0, .int .i64 a1] w fun e w' => (∃ i : Int, e = .returned (.tuple #[.int .i64 i, .bool (l0.contains a1)])) ∧ Drawn0 w w' := by
  obtain ⟨i, h⟩ := bs_is l0 a1 hm hs
  exact (PA.slices_BinarySearch_int_int.calls 1000000001 A0 c0 l0 a1 _ _ w hr0 hc0 h).mono fun e w' ⟨h1, h2⟩ => ⟨⟨i, h1⟩, h2⟩
end Go.Proofs.Ytfmkdledofbhdaa.H
/- Contracts by hand: a calendar: which days are open. -/
namespace Go.Proofs.Ytfmkdledofbhdaa.H
open Go.RowKit Go.Proofs.YtfmkdledofbhdaaW.PrintWords Go.Proofs.YtfmkdledofbhdaaW.PrintLast Go.Proofs.YtfmkdledofbhdaaW.PrintMore Go.Proofs.Ytfmkdledofbhdaa.HW
open Go.Proofs.Ytfmkdledofbhdaa.Math
set_option linter.unusedVariables false
set_option linter.unusedSimpArgs false

/-- A calendar lies in block gb, with these holidays. -/
def CalAt (w : World) (gb : Nat) (l : List Int) : Prop := ∃ A c, w.cell? ⟨gb, 0, none⟩ = some (.slice A l.length c) ∧ Kd.C (Kd.int .i64) w A l.length l ∧ l.length ≤ c ∧ l.length ≤ 200 ∧ l.Pairwise (· < ·) ∧ gb < w.heap.size
theorem CalAt.below {w w1 : World} {gb : Nat} {l : List Int} (h : CalAt w gb l) (hb : Below w.heap.size w w1) : CalAt w1 gb l := by
  obtain ⟨A, c, h1, h2, h3, h4, h5, h6⟩ := h
  exact ⟨A, c, by rw [hb.cell (by exact h6)]; exact h1, Kd.C_below h2 hb, h3, h4, h5, Nat.lt_of_lt_of_le h6 hb.size⟩
theorem CalAt.drawn {w w1 : World} {gb : Nat} {l : List Int} (h : CalAt w gb l) (hb : Drawn0 w w1) : CalAt w1 gb l := h.below hb.below
/-- Is a day open? -/
def openB (l : List Int) (day : Int) : Bool := decide (isDay day) && (decide (weekday day < 5) && !(l.contains day))
theorem there_any (n : Int) (w : World) : Calls Try.prog 67 #[.int .i64 n] w fun e w' => e = .returned (.bool (decide (isDay n))) ∧ Drawn0 w w' := business_there.calls n _ w rfl
theorem wk_any (n : Int) (w : World) : Calls Try.prog 111 #[.int .i64 n] w fun e w' => e = .returned (.int .i64 (weekday n)) ∧ Drawn0 w w' := civil_Weekday.calls n _ w rfl
theorem open_any {gb : Nat} {l : List Int} {day : Int} {r : Bool} {w : World} (h : CalAt w gb l) (hr : openB l day = r) : Calls Try.prog 91 #[.pointer (some ⟨gb, 0, none⟩), .int .i64 day] w fun e w' => e = .returned (.bool r) ∧ Drawn0 w w' := by
  have HA := Aside0.mk h
  have HR := Aside0.mk hr
  clear h hr
  by_cases hd : isDay day
  · by_cases hw : weekday day < 5
    · have hd1 := decide_eq_true hd
      have hw1 : decide (5 ≤ weekday day) = false := decide_eq_false (by omega)
      have HO := Aside0.mk (show (!(l.contains day)) = r by rw [← HR.out]; unfold openB; rw [hd1, decide_eq_true hw]; rfl)
      clear hd hw HR
      obtain ⟨A, c, c1, c2, c3, c4, c5, c6⟩ := HA.out
      have C2 := Aside0.mk c2
      have C5 := Aside0.mk c5
      have C3 := Aside0.mk c3
      clear c2 c5 c3
      go_enter Try.func91, Try.ntmps91
      go_wp2_with fail
      refine (there_any day _).mono ?_
      rintro e w1 ⟨rfl, ⟨m1, rfl⟩⟩
      go_wp2_with fail
      refine (wk_any day _).mono ?_
      rintro e w2 ⟨rfl, ⟨m2, rfl⟩⟩
      go_wp2_with fail
      refine (search_any A c l day _ (Kd.C_drewN C2.out _) C3.out (by omega) C5.out).mono ?_
      rintro e w3 ⟨⟨i, rfl⟩, ⟨m3, rfl⟩⟩
      go_wp2_with fail
      go_ret
      exact ⟨by rw [← HO.out]; simp, ⟨_, rfl⟩⟩
    · have hd1 := decide_eq_true hd
      have hw1 : decide (5 ≤ weekday day) = true := decide_eq_true (by omega)
      obtain rfl : r = false := by rw [← HR.out]; unfold openB; rw [hd1, decide_eq_false hw]; rfl
      clear hd hw HR HA
      go_enter Try.func91, Try.ntmps91
      go_wp2_with fail
      refine (there_any day _).mono ?_
      rintro e w1 ⟨rfl, ⟨m1, rfl⟩⟩
      go_wp2_with fail
      refine (wk_any day _).mono ?_
      rintro e w2 ⟨rfl, ⟨m2, rfl⟩⟩
      go_wp2_with fail
      go_ret
      exact ⟨rfl, ⟨_, rfl⟩⟩
  · have hd1 := decide_eq_false hd
    obtain rfl : r = false := by rw [← HR.out]; unfold openB; rw [hd1]; rfl
    clear hd HR HA
    go_enter Try.func91, Try.ntmps91
    go_wp2_with fail
    refine (there_any day _).mono ?_
    rintro e w1 ⟨rfl, ⟨m1, rfl⟩⟩
    go_wp2_with fail
    go_ret
    exact ⟨rfl, ⟨_, rfl⟩⟩

/-- The first open day, a step at a time. -/
def seekS (l : List Int) (step : Int) : Nat → Int → Int × Int
  | 0, _ => (0, 5)
  | k + 1, day => if isDay day then (if openB l day = true then (day, 0) else seekS l step k (day + step)) else (0, 5)
set_option maxHeartbeats 1000000 in
theorem seek_any {gb : Nat} {l : List Int} {day step : Int} {r1 r2 : Int} {w : World} (h : CalAt w gb l) (hs : step = 1 ∨ step = -1) (k0 : Nat) (hk : (if step = 1 then 84371 - day else day + 25568) < (k0 : Int)) (b1 : -1000000 ≤ day) (b2 : day ≤ 1000000) (hr : seekS l step k0 day = (r1, r2)) :
    Calls Try.prog 90 #[.func (.func 91) #[.pointer (some ⟨gb, 0, none⟩)] #[], .int .i64 day, .int .i64 step] w fun e w' => e = .returned (.tuple #[.int .i64 r1, .int .i64 r2]) ∧ Drawn0 w w' := by
  have HA := Aside0.mk h
  have HR := Aside0.mk hr
  have HS := Aside0.mk hs
  have HK := Aside0.mk hk
  have hsb : -1 ≤ step ∧ step ≤ 1 := by omega
  clear h hr hs hk
  go_enter Try.func90, Try.ntmps90
  go_wp2
  go_loopg [1] k0 (fun gq i w' => ∃ (x : Int), -1000000 ≤ x ∧ x ≤ 1000000 ∧ i = .int .i64 x ∧ Aside0 (seekS l step gq x = (r1, r2)) ∧ Aside0 ((if step = 1 then 84371 - x else x + 25568) < (gq : Int)) ∧ Drawn0 w w')
  case atStart => exact ⟨day, b1, b2, rfl, HR, HK, Drawn0.refl _⟩
  case round =>
    obtain ⟨x, x1, x2, rfl, hq, hm, ⟨m1, rfl⟩⟩ := hrel
    by_cases hd : isDay x
    · have hd1 := decide_eq_true hd
      have hp : 0 < gk := by have := hm.out; unfold isDay at hd; split at this <;> omega
      obtain ⟨k, rfl⟩ : ∃ m, gk = m + 1 := ⟨gk - 1, by omega⟩
      have hx1 : -25567 ≤ x := hd.1
      have hx2 : x ≤ 84370 := hd.2
      cases ho : openB l x with
      | true =>
        have HO := Aside0.mk ho
        clear ho
        have e := hq.out
        simp only [seekS] at e
        rw [if_pos hd, if_pos HO.out] at e
        obtain ⟨rfl, rfl⟩ := Prod.mk.inj e
        clear hq hd e
        go_wp2_with fail
        refine (there_any x _).mono ?_
        rintro e w1 ⟨rfl, ⟨m2, rfl⟩⟩
        go_wp2_with fail
        refine (open_any (HA.out.drawn ⟨_, rfl⟩) HO.out).mono ?_
        rintro e w2 ⟨rfl, ⟨m3, rfl⟩⟩
        go_wp2_with fail
        refine (there_any x _).mono ?_
        rintro e w1 ⟨rfl, ⟨m4, rfl⟩⟩
        go_wp2_with fail
        go_ret2
        exact ⟨rfl, ⟨_, rfl⟩⟩
      | false =>
        have HO := Aside0.mk ho
        clear ho
        have HQ := Aside0.mk (show seekS l step k (x + step) = (r1, r2) by have := hq.out; simp only [seekS] at this; rw [if_pos hd, if_neg (by rw [HO.out]; decide)] at this; exact this)
        clear hq hd
        go_wp2_with fail
        refine (there_any x _).mono ?_
        rintro e w1 ⟨rfl, ⟨m2, rfl⟩⟩
        go_wp2_with fail
        refine (open_any (HA.out.drawn ⟨_, rfl⟩) HO.out).mono ?_
        rintro e w2 ⟨rfl, ⟨m3, rfl⟩⟩
        go_wp2_with fail
        go_roundg k
        case measure => omega
        case rel => exact ⟨x + step, by omega, by omega, rfl, HQ, ⟨by have h1 := hm.out; have h2 := HS.out; split at h1 <;> rename_i h3 <;> (first | rw [if_pos h3] | rw [if_neg h3]) <;> omega⟩, ⟨_, rfl⟩⟩
    · have hd1 := decide_eq_false hd
      have e : ((0 : Int), (5 : Int)) = (r1, r2) := by
        rw [← hq.out]
        cases gk with
        | zero => rfl
        | succ k => simp only [seekS]; rw [if_neg hd]
      obtain ⟨rfl, rfl⟩ := Prod.mk.inj e
      clear hq hd e
      go_wp2_with fail
      refine (there_any x _).mono ?_
      rintro e w1 ⟨rfl, ⟨m2, rfl⟩⟩
      go_wp2_with fail
      refine (there_any x _).mono ?_
      rintro e w1 ⟨rfl, ⟨m4, rfl⟩⟩
      go_wp2_with fail
      go_ret2
      exact ⟨rfl, ⟨_, rfl⟩⟩

end Go.Proofs.Ytfmkdledofbhdaa.H
/- Contracts by hand: a day rolled. -/
namespace Go.Proofs.Ytfmkdledofbhdaa.H
open Go.RowKit Go.Proofs.YtfmkdledofbhdaaW.PrintWords Go.Proofs.YtfmkdledofbhdaaW.PrintLast Go.Proofs.YtfmkdledofbhdaaW.PrintMore Go.Proofs.Ytfmkdledofbhdaa.HW
open Go.Proofs.Ytfmkdledofbhdaa.Math
set_option linter.unusedVariables false
set_option linter.unusedSimpArgs false
/-- A day's month, of all. -/
def mon (n : Int) : Int := 12 * (date n).1 + (date n).2.1
theorem month_any (n : Int) (w : World) : Calls Try.prog 92 #[.int .i64 n] w fun e w' => e = .returned (.int .i64 (mon n)) ∧ Below w.heap.size w w' := business_month.calls n _ w rfl
/-- Where a day is rolled. -/
def rollS (l : List Int) (day how : Int) : Int × Int :=
  if ¬ isDay day then (0, 5) else if how < 1 ∨ 4 < how then (0, 1) else if how = 1 then (day, 0) else if how = 4 then seekS l (-1) 200000 day else
    if how = 3 ∧ ((seekS l 1 200000 day).2 ≠ 0 ∨ mon (seekS l 1 200000 day).1 ≠ mon day) then seekS l (-1) 200000 day else seekS l 1 200000 day
theorem seek_up {gb : Nat} {l : List Int} {day : Int} {r1 r2 : Int} {w : World} (h : CalAt w gb l) (hd : isDay day) (hr : seekS l 1 200000 day = (r1, r2)) :
    Calls Try.prog 90 #[.func (.func 91) #[.pointer (some ⟨gb, 0, none⟩)] #[], .int .i64 day, .int .i64 1] w fun e w' => e = .returned (.tuple #[.int .i64 r1, .int .i64 r2]) ∧ Drawn0 w w' := by
  obtain ⟨h1, h2⟩ := hd
  exact seek_any h (Or.inl rfl) 200000 (by rw [if_pos rfl]; omega) (by omega) (by omega) hr
theorem seek_down {gb : Nat} {l : List Int} {day : Int} {r1 r2 : Int} {w : World} (h : CalAt w gb l) (hd : isDay day) (hr : seekS l (-1) 200000 day = (r1, r2)) :
    Calls Try.prog 90 #[.func (.func 91) #[.pointer (some ⟨gb, 0, none⟩)] #[], .int .i64 day, .int .i64 (-1)] w fun e w' => e = .returned (.tuple #[.int .i64 r1, .int .i64 r2]) ∧ Drawn0 w w' := by
  obtain ⟨h1, h2⟩ := hd
  exact seek_any h (Or.inr rfl) 200000 (by rw [if_neg (by decide)]; omega) (by omega) (by omega) hr
set_option maxHeartbeats 1000000 in
theorem roll_any {gb : Nat} {l : List Int} {day how r1 r2 : Int} {w : World} (h : CalAt w gb l) (hr : rollS l day how = (r1, r2)) :
    Calls Try.prog 69 #[.pointer (some ⟨gb, 0, none⟩), .int .i64 day, .int .i64 how] w fun e w' => e = .returned (.tuple #[.int .i64 r1, .int .i64 r2]) ∧ Below w.heap.size w w' := by
  have HA := Aside0.mk h
  have HR := Aside0.mk hr
  clear h hr
  by_cases hd : isDay day
  · have d1 := decide_eq_true hd
    have HD := Aside0.mk hd
    have e1 := HR.out
    unfold rollS at e1
    rw [if_neg (fun h => h hd)] at e1
    clear hd HR
    by_cases h1 : how < 1 ∨ 4 < how
    · rw [if_pos h1] at e1
      obtain ⟨rfl, rfl⟩ := Prod.mk.inj e1
      clear e1
      by_cases h2 : how < 1
      · clear h1
        go_enter Try.func69, Try.ntmps69
        go_wp2_with fail
        refine (there_any day _).mono ?_
        rintro e w1 ⟨rfl, ⟨m2, rfl⟩⟩
        go_wp2_with fail
        go_ret2
        exact ⟨rfl, pw_below_drewN (Below.refl _ _) _⟩
      · have h3 : 4 < how := by omega
        clear h1
        go_enter Try.func69, Try.ntmps69
        go_wp2_with fail
        refine (there_any day _).mono ?_
        rintro e w1 ⟨rfl, ⟨m2, rfl⟩⟩
        go_wp2_with fail
        go_ret2
        exact ⟨rfl, pw_below_drewN (Below.refl _ _) _⟩
    · rw [if_neg h1] at e1
      have q1 : 1 ≤ how := by omega
      have q2 : how ≤ 4 := by omega
      clear h1
      by_cases h2 : how = 1
      · subst h2
        rw [if_pos rfl] at e1
        obtain ⟨rfl, rfl⟩ := Prod.mk.inj e1
        clear e1
        go_enter Try.func69, Try.ntmps69
        go_wp2_with fail
        refine (there_any day _).mono ?_
        rintro e w1 ⟨rfl, ⟨m2, rfl⟩⟩
        go_wp2_with fail
        go_ret2
        exact ⟨rfl, pw_below_drewN (Below.refl _ _) _⟩
      · rw [if_neg h2] at e1
        by_cases h3 : how = 4
        · subst h3
          rw [if_pos rfl] at e1
          have E1 := Aside0.mk e1
          clear e1 h2
          go_enter Try.func69, Try.ntmps69
          go_wp2_with fail
          refine (there_any day _).mono ?_
          rintro e w1 ⟨rfl, ⟨m2, rfl⟩⟩
          go_wp2_with fail
          refine (seek_down (HA.out.drawn ⟨_, rfl⟩) HD.out E1.out).mono ?_
          rintro e w1 ⟨rfl, ⟨m3, rfl⟩⟩
          go_wp2_with fail
          go_ret2
          exact ⟨rfl, pw_below_drewN (Below.refl _ _) _⟩
        · rw [if_neg h3] at e1
          obtain ⟨n1, n2, hn⟩ : ∃ n1 n2, seekS l 1 200000 day = (n1, n2) := ⟨_, _, rfl⟩
          rw [hn] at e1
          have HN := Aside0.mk hn
          clear hn
          by_cases h4 : how = 3
          · subst h4
            by_cases h5 : n2 = 0
            · subst h5
              obtain ⟨ma, hma⟩ : ∃ x, mon n1 = x := ⟨_, rfl⟩
              obtain ⟨mb, hmb⟩ : ∃ x, mon day = x := ⟨_, rfl⟩
              rw [hma, hmb] at e1
              have MA := Aside0.mk hma
              have MB := Aside0.mk hmb
              clear hma hmb h2 h3
              by_cases h6 : ma = mb
              · rw [if_neg (by intro h; rcases h.2 with h | h; exact h rfl; exact h h6)] at e1
                obtain ⟨rfl, rfl⟩ := Prod.mk.inj e1
                subst h6
                clear e1
                go_enter Try.func69, Try.ntmps69
                go_wp2_with fail
                refine (there_any day _).mono ?_
                rintro e w1 ⟨rfl, ⟨m2, rfl⟩⟩
                go_wp2_with fail
                refine (seek_up (HA.out.drawn ⟨_, rfl⟩) HD.out HN.out).mono ?_
                rintro e w1 ⟨rfl, ⟨m3, rfl⟩⟩
                go_wp2_with fail
                refine (month_any n1 _).mono ?_
                rw [MA.out]
                rintro e w1 ⟨rfl, hb1⟩
                have B1 := Aside0.mk (below_step (pw_below_drewN (Below.refl w.heap.size w) _) hb1)
                clear hb1
                go_wp2_with fail
                refine (month_any day _).mono ?_
                rw [MB.out]
                rintro e w2 ⟨rfl, hb2⟩
                have B2 := Aside0.mk (below_step B1.out hb2)
                clear hb2
                go_wp2_with fail
                go_ret2
                exact ⟨rfl, B2.out⟩
              · rw [if_pos ⟨rfl, Or.inr h6⟩] at e1
                have E1 := Aside0.mk e1
                clear e1
                go_enter Try.func69, Try.ntmps69
                go_wp2_with fail
                refine (there_any day _).mono ?_
                rintro e w1 ⟨rfl, ⟨m2, rfl⟩⟩
                go_wp2_with fail
                refine (seek_up (HA.out.drawn ⟨_, rfl⟩) HD.out HN.out).mono ?_
                rintro e w1 ⟨rfl, ⟨m3, rfl⟩⟩
                go_wp2_with fail
                refine (month_any n1 _).mono ?_
                rw [MA.out]
                rintro e w1 ⟨rfl, hb1⟩
                have B1 := Aside0.mk (below_step (pw_below_drewN (Below.refl w.heap.size w) _) hb1)
                clear hb1
                go_wp2_with fail
                refine (month_any day _).mono ?_
                rw [MB.out]
                rintro e w2 ⟨rfl, hb2⟩
                have B2 := Aside0.mk (below_step B1.out hb2)
                clear hb2
                go_wp2_with fail
                refine (seek_down (HA.out.below B2.out) HD.out E1.out).mono ?_
                rintro e w3 ⟨rfl, ⟨m4, rfl⟩⟩
                go_wp2_with fail
                go_ret2
                exact ⟨rfl, pw_below_drewN B2.out _⟩
            · rw [if_pos ⟨rfl, Or.inl h5⟩] at e1
              have E1 := Aside0.mk e1
              have h5b : (n2 != 0) = true := by simpa using h5
              clear e1 h2 h3 h5
              go_enter Try.func69, Try.ntmps69
              go_wp2_with fail
              refine (there_any day _).mono ?_
              rintro e w1 ⟨rfl, ⟨m2, rfl⟩⟩
              go_wp2_with fail
              refine (seek_up (HA.out.drawn ⟨_, rfl⟩) HD.out HN.out).mono ?_
              rintro e w1 ⟨rfl, ⟨m3, rfl⟩⟩
              go_wp2_with fail
              refine (seek_down (HA.out.drawn ⟨_, rfl⟩) HD.out E1.out).mono ?_
              rintro e w3 ⟨rfl, ⟨m4, rfl⟩⟩
              go_wp2_with fail
              go_ret2
              exact ⟨rfl, pw_below_drewN (Below.refl _ _) _⟩
          · rw [if_neg (fun h => h4 h.1)] at e1
            obtain ⟨rfl, rfl⟩ := Prod.mk.inj e1
            obtain rfl : how = 2 := by omega
            clear e1 h2 h3 h4
            go_enter Try.func69, Try.ntmps69
            go_wp2_with fail
            refine (there_any day _).mono ?_
            rintro e w1 ⟨rfl, ⟨m2, rfl⟩⟩
            go_wp2_with fail
            refine (seek_up (HA.out.drawn ⟨_, rfl⟩) HD.out HN.out).mono ?_
            rintro e w1 ⟨rfl, ⟨m3, rfl⟩⟩
            go_wp2_with fail
            go_ret2
            exact ⟨rfl, pw_below_drewN (Below.refl _ _) _⟩
  · have d1 := decide_eq_false hd
    have e1 := HR.out
    unfold rollS at e1
    rw [if_pos hd] at e1
    obtain ⟨rfl, rfl⟩ := Prod.mk.inj e1
    clear hd HR e1
    go_enter Try.func69, Try.ntmps69
    go_wp2_with fail
    refine (there_any day _).mono ?_
    rintro e w1 ⟨rfl, ⟨m2, rfl⟩⟩
    go_wp2_with fail
    go_ret2
    exact ⟨rfl, pw_below_drewN (Below.refl _ _) _⟩
end Go.Proofs.Ytfmkdledofbhdaa.H
/- Contracts by hand: a list of numbers cloned; a calendar made. -/
namespace Go.Proofs.Ytfmkdledofbhdaa.H
open Go.RowKit Go.Proofs.YtfmkdledofbhdaaW.PrintWords Go.Proofs.YtfmkdledofbhdaaW.PrintLast Go.Proofs.YtfmkdledofbhdaaW.PrintMore Go.Proofs.Ytfmkdledofbhdaa.HW
open Go.Proofs.Ytfmkdledofbhdaa.Math
set_option linter.unusedVariables false
set_option linter.unusedSimpArgs false
theorem info_int : (Try.prog.info? 3).map (fun i => (i.zero, i.size, i.bytes)) = some (some (.int .i64 0), 1, 8) := by kernel_rfl
/-- Cloned. -/
def Cloned (l : List Int) (w : World) (e : Ending) (w' : World) : Prop := ∃ A c, e = .returned (.slice A l.length c) ∧ Kd.C (Kd.int .i64) w' A l.length l ∧ l.length ≤ c ∧ Below w.heap.size w w' ∧ (∀ ad, A = some ad → w.heap.size ≤ ad.block)
theorem clone_nil (w : World) : Calls Try.prog 68 #[.slice none 0 0] w (Cloned [] w) := by
  have hnil := fun (w : World) => Lib.run_eql_slice_nil (P := Try.prog) w 25 3 none 0 0 0 0 Try.underlying25
  go_enter Try.func68, Try.ntmps68
  go_wp2_with fail
  go_ret
  exact ⟨none, 0, rfl, ⟨rfl, by simp, fun h => absurd h (Nat.lt_irrefl 0)⟩, Nat.le_refl _, Below.refl _ _, fun ad h => by cases h⟩
theorem clone_some (ad : Addr) (c0 : Nat) (l : List Int) (w : World) (hr0 : Kd.C (Kd.int .i64) w (some ad) l.length l) (hc0 : l.length ≤ c0) (hm : l.length ≤ 1000000) : Calls Try.prog 68 #[.slice (some ad) l.length c0] w (Cloned l w) := by
  have HN : ∀ j u, (nums .i64 l)[j]? = some u → (w.alloc (.cells #[] 3)).cell? (ad.add j) = some u := by
    intro j u hu
    have hj : j < l.length := by
      rcases Nat.lt_or_ge j l.length with h | h
      · exact h
      · rw [List.getElem?_eq_none (by rw [nums_length]; exact h)] at hu; cases hu
    obtain ⟨ad', e, hc⟩ := Kd.at_int (Kd.C_below hr0 ((Below.refl w.heap.size w).alloc (Nat.le_refl _) (.cells #[] 3))) (j : Int) (by omega) (by omega)
    obtain rfl : ad = ad' := Option.some.inj e
    rw [Int.toNat_natCast] at hc
    rw [hc, ← hu, rd_nat l j hj]
    simp [nums, hj]
  have HNN := Aside0.mk HN
  clear hr0 HN
  have hown : (w.alloc (.cells #[] 3)).ownsRow w.heap.size 3 1 (.slice (some ⟨w.heap.size, 0, none⟩) 0 0) 0 [] :=
    ⟨rfl, Or.inr ⟨w.heap.size, 0, #[], rfl, Nat.le_refl _, heap_alloc_new w _, Nat.le_refl _, Nat.zero_le _, rfl, rfl⟩⟩
  have HO := Aside0.mk hown
  clear hown
  obtain ⟨i0, hi, hz0, hz1, hz2⟩ := info_parts info_int
  have hnil := fun (w : World) => Lib.run_eql_slice_nil (P := Try.prog) w 25 3 (some ad) l.length c0 0 0 Try.underlying25
  go_enter Try.func68, Try.ntmps68
  go_wp2_with ((at_builtin; refine wpList_append_own _ rfl _ _ 25 rfl w.heap.size 3 i0 (.int .i64 0) 1 8 Try.underlying25 hi hz0 hz1 hz2 rfl (by decide) _ 0 [] rfl HO.out ad l.length c0 (nums .i64 l) rfl (by simp [nums]) HNN.out (by intro u hu; simp [nums] at hu; obtain ⟨a, _, rfl⟩ := hu; rfl) (by unfold maxLen; omega) (by omega) (by simp) ?_); intro v' w1 hown1 hgrow _)
  have hown2 : w1.ownsRow w.heap.size 3 1 v' l.length (encs (Value.int .i64) l) := by simpa [nums, encs] using hown1
  obtain ⟨A, c, rfl, hle, hr⟩ := own_reads_of_le (d := (0 : Int)) hown2
  have hb : Below w.heap.size w w1 := ((Below.refl w.heap.size w).alloc (Nat.le_refl _) (.cells #[] 3)).grown hgrow (by simp) (fun k hk => by cases hk; exact Nat.le_refl _)
  have hbs : ∀ ad, A = some ad → w.heap.size ≤ ad.block := fun ad e => own_base hown2 _ (by rw [e]; rfl)
  have HBS := Aside0.mk hbs
  clear hbs
  have HB := Aside0.mk hb
  have HC := Aside0.mk (show Kd.C (Kd.int .i64) w1 A l.length l from Kd.C_of_reads hr)
  clear hown1 hown2 hgrow hr hb
  go_wp2
  go_ret
  exact ⟨A, c, rfl, HC.out, hle, HB.out, HBS.out⟩
theorem clone_any (A0 : Option Addr) (c0 : Nat) (l : List Int) (w : World) (hr0 : Kd.C (Kd.int .i64) w A0 l.length l) (hc0 : l.length ≤ c0) (hn : A0 = none → c0 = 0) (hm : l.length ≤ 1000000) : Calls Try.prog 68 #[.slice A0 l.length c0] w (Cloned l w) := by
  cases A0 with
  | some ad => exact clone_some ad c0 l w hr0 hc0 hm
  | none =>
    obtain rfl := hn rfl
    obtain rfl : l = [] := List.eq_nil_of_length_eq_zero (by omega)
    exact clone_nil w

theorem new_many (A0 : Option Addr) (c0 : Nat) (l : List Int) (w : World) (h200 : 200 < l.length) (hm : l.length ≤ 1000000) :
    Calls Try.prog 35 #[.slice A0 l.length c0] w fun e w' => e = .returned (.tuple #[.pointer none, .int .i64 1]) ∧ Drawn0 w w' := by
  go_enter Try.func35, Try.ntmps35
  go_wp2_with fail
  go_ret2
  exact ⟨rfl, Drawn0.refl _⟩
/-- A calendar lies in block gb; its list lies from block B on. -/
def CalIn (B : Nat) (w : World) (gb : Nat) (l : List Int) : Prop := ∃ A c, w.cell? ⟨gb, 0, none⟩ = some (.slice A l.length c) ∧ Kd.C (Kd.int .i64) w A l.length l ∧ l.length ≤ c ∧ l.length ≤ 200 ∧ l.Pairwise (· < ·) ∧ gb < w.heap.size ∧ (∀ ad, A = some ad → B ≤ ad.block)
theorem CalIn.at {B : Nat} {w : World} {gb : Nat} {l : List Int} (h : CalIn B w gb l) : CalAt w gb l := by
  obtain ⟨A, c, h1, h2, h3, h4, h5, h6, _⟩ := h
  exact ⟨A, c, h1, h2, h3, h4, h5, h6⟩
/-- A calendar made, or none. -/
def Made2 (l : List Int) (b : Bool) (w : World) (e : Ending) (w' : World) : Prop := Below w.heap.size w w' ∧ (b = false → e = .returned (.tuple #[.pointer none, .int .i64 1])) ∧ (b = true → ∃ gb, w.heap.size ≤ gb ∧ e = .returned (.tuple #[.pointer (some ⟨gb, 0, none⟩), .int .i64 0]) ∧ CalIn w.heap.size w' gb l)
set_option maxHeartbeats 1000000 in
/-- Some numbers that are no holidays, or some. -/
theorem new_few2 (A0 : Option Addr) (c0 : Nat) (l : List Int) (b : Bool) (w : World) (hr0 : Kd.C (Kd.int .i64) w A0 l.length l) (hc0 : l.length ≤ c0) (hn : A0 = none → c0 = 0) (hm : l.length ≤ 200) (hb : rises (-25568) l = b) :
    Calls Try.prog 35 #[.slice A0 l.length c0] w (Made2 l b w) := by
  have HR0 := Aside0.mk hr0
  have HB := Aside0.mk hb
  have HN := Aside0.mk hn
  clear hr0 hb hn
  go_enter Try.func35, Try.ntmps35
  go_wp2_with fail
  go_loopg [11] (l.length + 1) (fun gq i w' => ∃ (k : Nat) (p : Int), k ≤ l.length ∧ i = .int .i64 k ∧ Aside0 (gq = l.length + 1 - k) ∧ Aside0 (k = 0 ∧ p = -25568 ∨ 0 < k ∧ p = rd l ((k : Int) - 1)) ∧ Aside0 (rises p (l.drop k) = b) ∧ Drawn0 w w')
  case atStart => exact ⟨0, -25568, Nat.zero_le _, rfl, ⟨rfl⟩, ⟨Or.inl ⟨rfl, rfl⟩⟩, ⟨by rw [← HB.out]; rfl⟩, Drawn0.refl _⟩
  case round =>
    obtain ⟨k, p, hk, rfl, hg, hp, hq, ⟨m1, rfl⟩⟩ := hrel
    by_cases hlt : k < l.length
    · obtain ⟨ad, e0, hx0⟩ := Kd.at_int HR0.out (k : Int) (by omega) (by omega)
      subst e0
      rw [Int.toNat_natCast] at hx0
      have hrc := hq.out
      rw [rd_cons l k hlt] at hrc
      simp only [rises] at hrc
      have HX : Aside0 (∀ j : Nat, j < l.length → w.cell? (ad.add j) = some (.int .i64 (rd l (j : Int)))) := ⟨fun j hj => by
        obtain ⟨ad', e', hx'⟩ := Kd.at_int HR0.out (j : Int) (by omega) (by omega)
        obtain rfl : ad = ad' := Option.some.inj e'
        rw [Int.toNat_natCast] at hx'
        exact hx'⟩
      by_cases hd : isDay (rd l (k : Int))
      · have d1 := decide_eq_true hd
        rw [d1, Bool.true_and] at hrc
        rcases (by omega : k = 0 ∨ 0 < k) with h0 | h0
        · have hp0 : p = -25568 := by rcases hp.out with h | h <;> omega
          have hlt2 : decide (p < rd l (k : Int)) = true := decide_eq_true (by have := hd.1; omega)
          rw [hlt2, Bool.true_and] at hrc
          have HQ := Aside0.mk hrc
          have g1 : (k : Int) ≤ 0 := by omega
          clear hrc hq hd hlt2 hp0 hp h0
          go_wp2_with fail
          refine (there_any _ _).mono ?_
          rintro e w1 ⟨rfl, ⟨m2, rfl⟩⟩
          go_wp2_with fail
          go_roundg (l.length + 1 - (k + 1))
          case measure => have := hg.out; omega
          case rel => exact ⟨k + 1, rd l (k : Int), by omega, by simp, ⟨rfl⟩, ⟨Or.inr ⟨by omega, by congr 1; omega⟩⟩, HQ, ⟨_, rfl⟩⟩
        · have hx1 := HX.out (k - 1) (by omega)
          have hp1 : p = rd l (((k - 1 : Nat) : Int)) := by
            rcases hp.out with h | h
            · omega
            · rw [h.2]; congr 1; omega
          have g1 : (0 : Int) ≤ (k : Int) - 1 := by omega
          by_cases hlt2 : p < rd l (k : Int)
          · rw [decide_eq_true hlt2, Bool.true_and] at hrc
            have HQ := Aside0.mk hrc
            have hle2 : decide (rd l (k : Int) ≤ rd l (((k - 1 : Nat) : Int))) = false := decide_eq_false (by omega)
            clear hrc hq hd hlt2 hp1 hp
            go_wp2_with fail
            refine (there_any _ _).mono ?_
            rintro e w1 ⟨rfl, ⟨m2, rfl⟩⟩
            go_wp2_with fail
            go_roundg (l.length + 1 - (k + 1))
            case measure => have := hg.out; omega
            case rel => exact ⟨k + 1, rd l (k : Int), by omega, by simp, ⟨rfl⟩, ⟨Or.inr ⟨by omega, by congr 1; omega⟩⟩, HQ, ⟨_, rfl⟩⟩
          · rw [decide_eq_false hlt2, Bool.false_and] at hrc
            subst hrc
            have hle2 : decide (rd l (k : Int) ≤ rd l (((k - 1 : Nat) : Int))) = true := decide_eq_true (by omega)
            clear hq hd hlt2 hp1 hp
            go_wp2_with fail
            refine (there_any _ _).mono ?_
            rintro e w1 ⟨rfl, ⟨m2, rfl⟩⟩
            go_wp2_with fail
            go_ret2
            exact ⟨pw_below_drewN (Below.refl _ _) _, fun _ => rfl, fun h => by cases h⟩
      · have d1 := decide_eq_false hd
        rw [d1, Bool.false_and] at hrc
        subst hrc
        clear hd hq
        go_wp2_with fail
        refine (there_any _ _).mono ?_
        rintro e w1 ⟨rfl, ⟨m2, rfl⟩⟩
        go_wp2_with fail
        go_ret2
        exact ⟨pw_below_drewN (Below.refl _ _) _, fun _ => rfl, fun h => by cases h⟩
    · have hk2 : k = l.length := by omega
      subst hk2
      have hrc := hq.out
      rw [List.drop_length] at hrc
      obtain rfl : b = true := by rw [← hrc]; rfl
      clear hq
      go_wp2_with fail
      refine (clone_any A0 c0 l _ (Kd.C_drewN HR0.out _) hc0 HN.out (by omega)).mono ?_
      rintro e w1 ⟨A, c, rfl, hc1, hle, hbl, hbs⟩
      have HBS := Aside0.mk hbs
      clear hbs
      have HC1 := Aside0.mk hc1
      have HBL := Aside0.mk hbl
      clear hc1 hbl
      have hBsz := HBL.out.size
      have hgb : (w1.alloc (.cells #[.slice A l.length c] 109)).cell? ⟨w1.heap.size, 0, none⟩ = some (.slice A l.length c) := by simp [go_sem]
      have HCA := Aside0.mk (show CalIn w.heap.size (w1.alloc (.cells #[.slice A l.length c] 109)) w1.heap.size l from ⟨A, c, hgb, Kd.C_below HC1.out ((Below.refl _ _).alloc (Nat.le_refl _) _), hle, hm, rises_pair l _ HB.out, by simp, by have := HBS.out; simpa using this⟩)
      have HBB := Aside0.mk ((pw_below_drewN (Below.refl w.heap.size w) (m1)).trans (HBL.out.mono (by simp)))
      clear hgb
      go_wp2_with fail
      go_ret2
      exact ⟨HBB.out.alloc HBB.out.size _, (fun h => by cases h), fun _ => ⟨w1.heap.size, HBB.out.size, rfl, HCA.out⟩⟩
end Go.Proofs.Ytfmkdledofbhdaa.H
/- Plain law: which day is found, a step at a time. -/
namespace Go.Proofs.Ytfmkdledofbhdaa.H
open Go.RowKit Go.Proofs.YtfmkdledofbhdaaW.PrintWords Go.Proofs.YtfmkdledofbhdaaW.PrintLast Go.Proofs.YtfmkdledofbhdaaW.PrintMore Go.Proofs.Ytfmkdledofbhdaa.HW
open Go.Proofs.Ytfmkdledofbhdaa.Math
set_option linter.unusedVariables false
set_option linter.unusedSimpArgs false
theorem seekS_succ (l : List Int) (step : Int) (k : Nat) (day : Int) : seekS l step (k + 1) day = if isDay day then (if openB l day = true then (day, 0) else seekS l step k (day + step)) else (0, 5) := rfl
/-! ### Some days, that rise -/
def Some (lo hi : Int) (s : List Int) : Prop := s.Pairwise (· < ·) ∧ ∀ x ∈ s, lo ≤ x ∧ x ≤ hi
theorem Some.nil (lo hi : Int) : Some lo hi [] := ⟨List.Pairwise.nil, by simp⟩
theorem Some.snoc {lo hi x : Int} {s : List Int} (h : Some lo hi s) (h1 : lo ≤ x) (h2 : x ≤ hi) (h3 : s = [] ∨ rd s ((s.length : Int) - 1) < x) : Some lo hi (s ++ [x]) := by
  obtain ⟨p, a⟩ := h
  refine ⟨List.pairwise_append.2 ⟨p, List.pairwise_singleton _ _, fun y hy z hz => ?_⟩, fun y hy => ?_⟩
  · obtain rfl : z = x := by simpa using hz
    rcases h3 with rfl | h3
    · simp at hy
    · obtain ⟨j, hj, e⟩ := List.getElem_of_mem hy
      rw [← rd_nat s j hj] at e
      have hl : ((s.length : Int) - 1) = ((s.length - 1 : Nat) : Int) := by omega
      rw [hl] at h3
      rcases (by omega : j < s.length - 1 ∨ j = s.length - 1) with h | h
      · have := rises_lt p h (by omega)
        omega
      · rw [h] at e; omega
  · rcases List.mem_append.1 hy with h | h
    · exact a y h
    · obtain rfl : y = x := by simpa using h
      exact ⟨h1, h2⟩
theorem Some.right {lo hi : Int} {s : List Int} (h : Some lo hi s) (h1 : isDay lo) (h2 : isDay hi) (hl : s.length ≤ 200) : rightB s = true := by
  unfold rightB
  rw [decide_eq_true hl, Bool.and_true]
  exact rises_of _ (fun x hx => by obtain ⟨a, b⟩ := h.2 x hx; have := h1.1; have := h2.2; exact ⟨⟨by omega, by omega⟩, by omega⟩) h.1
end Go.Proofs.Ytfmkdledofbhdaa.H
