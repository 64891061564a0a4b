/- Texts of this claim, joined in build order. -/
import Derived.RowKit
import Derived.Below
import Derived.Test.YtbbbjjfecblhpaaGreatProg
import Derived.Deep.Draws
import Derived.Deep.AppendLies
import Derived.Maps.AppendAt
import Derived.OwnWalk
import Derived.Laws.BytesArg
import Derived.Laws.MakeOwn
import Derived.Laws.OwnMore
import Derived.Tactics
import Derived.Lib.ConvBytes
import Derived.Laws.Slices
import Derived.WalkKit
import Derived.KernelRfl
import Derived.RowKit3
import Derived.Deep.LoopGhost
import Derived.Deep.QuietTactic
import Derived.BigQuiet
import Derived.WideLaws
import Derived.Deep.DeepCutAuto
import Derived.Deep.CutBlock
import Derived.Deep.RegionHeld3
import Derived.Lib.AppendStr
import Derived.ArgAppend
import Derived.Laws.IdiomCopy
import Derived.OrdersHeld
import Derived.Laws.BitsLemmas
import Derived.Laws.StructEq
import Derived.WalkLawsBesides
import Derived.WalkSpells
import Derived.Lib.IndexMore
import Derived.Deep.Slices
import Derived.Deep.Fields
import Derived.ChangeSame
import Derived.Lib.SmallJoins
import Derived.ProofKit
import Derived.Defers
import Derived.Laws.Tables
import Derived.Deep.WholeRow
import Derived.Recover
import Derived.StillTailTactics
import Derived.SizedLaws
import Derived.ChangeSlices
import Derived.IntWalk
import Derived.Shelf.Small.Bits
import Derived.Shelf.Strconv.Itoa0
import Derived.Shelf.Strings.Search1
import Derived.Shelf.Strings.Search2
import Derived.Shelf.Strings.Search3
import Derived.Shelf.LaysM
import Derived.Shelf.Strings.Shaped
import Derived.Shelf.Bits.Mul64
import Derived.Ground.Names2Prog
import Derived.Shelf.Slices.Clone
import Derived.Ground.SlgnProg
import Derived.Shelf.SlicesE.Clone
import Derived.Lib.SlBytesConst
import Derived.Deep.RegionWith
import Derived.Lib.Hide
import Derived.BigFrame
import Derived.Deep.MidRow
import Derived.Lib.BitFns
import Derived.Laws.BitsAllLaws
import Derived.Laws.Externs
import Derived.RegionTactic
import Derived.Laws.AppendOwnNone
import Derived.OpenShut
import Derived.ShutString
import Derived.ChangeOld
import Derived.Laws.IdiomArrays
import Derived.HandedShaped
import Derived.Shelf.Vars
import Derived.Test.YtbbbjjfecblhpaaGreatJT1
set_option linter.unusedVariables false
set_option linter.unusedSimpArgs false
-- Written by a program of this session (wip/tools/myprint.py) with the help of the printer of the kit; Lean checks it.
namespace Go.Proofs.YtbbbjjfecblhpaaGreat.PB
open Go.RowKit Go.Proofs.YtbbbjjfecblhpaaGreatW.PrintWords Go.Proofs.YtbbbjjfecblhpaaGreatW.PrintLast Go.Proofs.YtbbbjjfecblhpaaGreatW.PrintMore Go.Proofs.YtbbbjjfecblhpaaGreat.HW
attribute [local go_sem] run_makeFunc_ max2_int min2_int max_two min_two max_three min_three max_four min_four   -- for this text's walks alone
set_option linter.unusedVariables false
set_option linter.unusedSimpArgs false

/-! ### civil_Date: function 87 -/
mutual
def civil_Date.j0 : Nat → Int → Bool → Option (Int × Int × Int × Int)
  | 0, _, _ => none
  | k + 1, x0, x12 => if x12 = true then (some (0, 0, 0, 5)) else (civil_Date.l0 k x0 (wrap64 (1900 + (wrap64 (Int.tdiv (wrap64 (x0 + 25567)) 366)))))
def civil_Date.j2 : Nat → Int → Int → Option (Int × Int × Int × Int)
  | 0, _, _ => none
  | k + 1, x0, x4 => (Go.Proofs.YtbbbjjfecblhpaaGreat.H.civil_Opens.f x4).bind fun t103 => (civil_Date.l1 k x4 (wrap64 (x0 - t103)) 1)
def civil_Date.l1 : Nat → Int → Int → Int → Option (Int × Int × Int × Int)
  | 0, _, _, _ => none
  | k + 1, x4, x5, x6 => (Go.Proofs.YtbbbjjfecblhpaaGreat.H.civil_Month.f x4 x6).bind fun t104 => (if x5 ≥ t104 then ((Go.Proofs.YtbbbjjfecblhpaaGreat.H.civil_Month.f x4 x6).bind fun t105 => (civil_Date.l1 k x4 (wrap64 (x5 - t105)) (wrap64 (x6 + 1)))) else (some (x4, x6, wrap64 (x5 + 1), 0)))
def civil_Date.l0 : Nat → Int → Int → Option (Int × Int × Int × Int)
  | 0, _, _ => none
  | k + 1, x0, x4 => if x4 < 2200 then ((Go.Proofs.YtbbbjjfecblhpaaGreat.H.civil_Opens.f (wrap64 (x4 + 1))).bind fun t102 => (if t102 ≤ x0 then (civil_Date.l0 k x0 (wrap64 (x4 + 1))) else (civil_Date.j2 k x0 x4))) else (civil_Date.j2 k x0 x4)
end
def civil_Date.f (k : Nat) (a0 : Int) : Option (Int × Int × Int × Int) := if a0 < (-25567) then (civil_Date.j0 k a0 true) else (civil_Date.j0 k a0 (decide (a0 > 84370)))
theorem civil_Date.mono_l : ∀ k, (∀ y0 y1, LeO (civil_Date.j0 k y0 y1) (civil_Date.j0 (k + 1) y0 y1)) ∧ (∀ y0 y1, LeO (civil_Date.j2 k y0 y1) (civil_Date.j2 (k + 1) y0 y1)) ∧ (∀ y0 y1 y2, LeO (civil_Date.l1 k y0 y1 y2) (civil_Date.l1 (k + 1) y0 y1 y2)) ∧ (∀ y0 y1, LeO (civil_Date.l0 k y0 y1) (civil_Date.l0 (k + 1) y0 y1))
  | 0 => ⟨fun _ _ r h => by simp [civil_Date.j0] at h, fun _ _ r h => by simp [civil_Date.j2] at h, fun _ _ _ r h => by simp [civil_Date.l1] at h, fun _ _ r h => by simp [civil_Date.l0] at h⟩
  | k + 1 => by
    obtain ⟨ih0, ih1, ih2, ih3⟩ := civil_Date.mono_l k
    refine ⟨?_, ?_, ?_, ?_⟩
    · intro y0 y1
      unfold civil_Date.j0
      repeat' first
      | (with_reducible exact ih0 _ _)
      | (with_reducible exact ih1 _ _)
      | (with_reducible exact ih2 _ _ _)
      | (with_reducible exact ih3 _ _)
      | (with_reducible exact LeO.refl _)
      | (with_reducible exact LeO.none _)
      | (with_reducible refine LeO.ite ?_ ?_)
      | (with_reducible refine LeO.bind ?_ (fun _ => ?_))
      | exact ih0 _ _
      | exact ih1 _ _
      | exact ih2 _ _ _
      | exact ih3 _ _
      | exact LeO.none _
      | refine LeO.ite ?_ ?_
      | refine LeO.bind ?_ (fun _ => ?_)
    · intro y0 y1
      unfold civil_Date.j2
      repeat' first
      | (with_reducible exact ih0 _ _)
      | (with_reducible exact ih1 _ _)
      | (with_reducible exact ih2 _ _ _)
      | (with_reducible exact ih3 _ _)
      | (with_reducible exact LeO.refl _)
      | (with_reducible exact LeO.none _)
      | (with_reducible refine LeO.ite ?_ ?_)
      | (with_reducible refine LeO.bind ?_ (fun _ => ?_))
      | exact ih0 _ _
      | exact ih1 _ _
      | exact ih2 _ _ _
      | exact ih3 _ _
      | exact LeO.none _
      | refine LeO.ite ?_ ?_
      | refine LeO.bind ?_ (fun _ => ?_)
    · intro y0 y1 y2
      unfold civil_Date.l1
      repeat' first
      | (with_reducible exact ih0 _ _)
      | (with_reducible exact ih1 _ _)
      | (with_reducible exact ih2 _ _ _)
      | (with_reducible exact ih3 _ _)
      | (with_reducible exact LeO.refl _)
      | (with_reducible exact LeO.none _)
      | (with_reducible refine LeO.ite ?_ ?_)
      | (with_reducible refine LeO.bind ?_ (fun _ => ?_))
      | exact ih0 _ _
      | exact ih1 _ _
      | exact ih2 _ _ _
      | exact ih3 _ _
      | exact LeO.none _
      | refine LeO.ite ?_ ?_
      | refine LeO.bind ?_ (fun _ => ?_)
    · intro y0 y1
      unfold civil_Date.l0
      repeat' first
      | (with_reducible exact ih0 _ _)
      | (with_reducible exact ih1 _ _)
      | (with_reducible exact ih2 _ _ _)
      | (with_reducible exact ih3 _ _)
      | (with_reducible exact LeO.refl _)
      | (with_reducible exact LeO.none _)
      | (with_reducible refine LeO.ite ?_ ?_)
      | (with_reducible refine LeO.bind ?_ (fun _ => ?_))
      | exact ih0 _ _
      | exact ih1 _ _
      | exact ih2 _ _ _
      | exact ih3 _ _
      | exact LeO.none _
      | refine LeO.ite ?_ ?_
      | refine LeO.bind ?_ (fun _ => ?_)
theorem civil_Date.mono : ∀ a0 k, LeO (civil_Date.f k a0) (civil_Date.f (k + 1) a0) := by
  intro a0 k
  obtain ⟨ih0, ih1, ih2, ih3⟩ := civil_Date.mono_l k
  unfold civil_Date.f
  repeat' first
      | (with_reducible exact ih0 _ _)
      | (with_reducible exact ih1 _ _)
      | (with_reducible exact ih2 _ _ _)
      | (with_reducible exact ih3 _ _)
      | (with_reducible exact LeO.refl _)
      | (with_reducible exact LeO.none _)
      | (with_reducible refine LeO.ite ?_ ?_)
      | (with_reducible refine LeO.bind ?_ (fun _ => ?_))
      | exact ih0 _ _
      | exact ih1 _ _
      | exact ih2 _ _ _
      | exact ih3 _ _
      | exact LeO.none _
      | refine LeO.ite ?_ ?_
      | refine LeO.bind ?_ (fun _ => ?_)
set_option maxHeartbeats 8000000 in
set_option maxRecDepth 100000 in
theorem civil_Date.calls (k : Nat) (a0 : Int) (r1 : Int) (r2 : Int) (r3 : Int) (r4 : Int) (w : World) (h : civil_Date.f k a0 = some (r1, r2, r3, r4)) :
    Calls Tryz.prog 87 #[.int .i64 a0] w fun e w' => e = .returned (.tuple #[.agg #[.int .i64 r1, .int .i64 r2, .int .i64 r3], .int .i64 r4]) ∧ Below w.heap.size w w' := by
  have hu78 := Tryz.underlying78
  have HB := Aside0.mk (Below.refl w.heap.size w)
  have H : (if a0 < (-25567) then (civil_Date.j0 k a0 true) else (civil_Date.j0 k a0 (decide (a0 > 84370)))) = some (r1, r2, r3, r4) := h
  clear h
  have HC2 := Aside0.mk H
  clear H
  go_enter Tryz.func87, Tryz.ntmps87
  go_upto_region 1 with (first | ((with_reducible refine gate_dst (N := 2) rfl ?_); refine box_event ?hg (N := 2) ?hd (cs := #[.int .i64 0, .int .i64 0, .int .i64 0]) (t := 78) ?hr ?_; (case hd => rfl); (case hg => rfl); (case hr => first | (go_simp; done) | (go_simp; rfl)); intro gb101 hg w3 hbox hb; have n0_ := Aside0.mk (below_step (by repeat (first | (with_reducible first | exact HB.out | apply below_alloc | apply pw_below_drewN | apply below_drew1) | exact HB.out)) hb); have n1_ := Aside0.mk (hbox); have n2_ := Aside0.mk ((by rw [hg]; exact (below_size (by repeat (first | (with_reducible first | exact HB.out | apply below_alloc | apply pw_below_drewN | apply below_drew1) | exact HB.out))) : w.heap.size ≤ gb101)); have n3_ := Aside0.mk ((by rw [hg]; exact (below_size (by repeat (first | (with_reducible first | exact HB.out | apply below_alloc | apply pw_below_drewN | apply below_drew1) | exact HB.out))) : w.heap.size ≤ gb101)); clear HB; have HB := n0_; have BK101 := n1_; have GW101 := n2_; have GE101 := n3_; clear n0_ n1_ n2_ n3_; clear hb hbox hg; (try have hu101_0 : w3.cell? ⟨gb101, 0, none⟩ = some (.int .i64 0) := (blk_cell BK101.out 0).trans rfl); (try have hu101_1 : w3.cell? ⟨gb101, 1, none⟩ = some (.int .i64 0) := (blk_cell BK101.out 1).trans rfl); (try have hu101_2 : w3.cell? ⟨gb101, 2, none⟩ = some (.int .i64 0) := (blk_cell BK101.out 2).trans rfl); (try have hv101_0 := blk_frozen BK101.out 0); (try have hv101_1 := blk_frozen BK101.out 1); (try have hv101_2 := blk_frozen BK101.out 2)))
  (try simp only [Act.put, List.setIfInBounds_toArray, List.set_cons_zero, List.set_cons_succ])
  go_cut [12] (fun v12 wc => ∃ (kq : Nat) (x12_1 : Bool), v12 = .bool x12_1 ∧ Aside0 (civil_Date.j0 kq a0 x12_1 = some (r1, r2, r3, r4)) ∧ Aside0 (kq ≤ k) ∧ Aside0 (wc.heap[gb101]? = some (.cells #[.int .i64 0, .int .i64 0, .int .i64 0] 78 (0, 0))) ∧ Aside0 (Below w.heap.size w wc))
  case first =>
    have H := HC2.out
    clear HC2
    by_cases c4 : a0 < (-25567)
    · rw [if_pos c4] at H
      have c4b0 : decide (a0 < (-25567)) = true := decide_eq_true c4
      clear c4
      (first | rw [c4b0] | (simp only [i64_w, i32_w]; rw [c4b0]) | skip)
      have H' := Aside0.mk H
      clear H
      go_wp2
      go_meet
      case rel => exact ⟨_, (true), (by first | rfl | (simp; done) | (simp [*]; done)), H', ⟨by first | omega | exact Nat.le_refl _⟩, ⟨by (with_reducible repeat (first | refine blk_drewN ?_ _ | refine blk_drew ?_ | refine blk_alloc ?_ _)); exact BK101.out⟩, ⟨by repeat (first | (with_reducible first | exact HB.out | apply below_alloc | apply pw_below_drewN | apply below_drew1 | refine below_set ?_ GE101.out) | exact HB.out)⟩⟩
    · rw [if_neg c4] at H
      have c4b0 : decide (a0 < (-25567)) = false := decide_eq_false c4
      clear c4
      (first | rw [c4b0] | (simp only [i64_w, i32_w]; rw [c4b0]) | skip)
      have H' := Aside0.mk H
      clear H
      go_wp2
      go_meet
      case rel => exact ⟨_, (decide (a0 > 84370)), (by first | rfl | (simp; done) | (simp [*]; done)), H', ⟨by first | omega | exact Nat.le_refl _⟩, ⟨by (with_reducible repeat (first | refine blk_drewN ?_ _ | refine blk_drew ?_ | refine blk_alloc ?_ _)); exact BK101.out⟩, ⟨by repeat (first | (with_reducible first | exact HB.out | apply below_alloc | apply pw_below_drewN | apply below_drew1 | refine below_set ?_ GE101.out) | exact HB.out)⟩⟩
  case rest =>
    clear HC2
    try clear p2
    try clear c4
    try clear c4b0
    obtain ⟨kq, x12_1, rfl, HA, HJ1, BK101, HB⟩ := hcut
    cases kq with
    | zero => exact absurd HA.out (by simp [civil_Date.j0])
    | succ kj1 =>
      have H := HA.out
      clear HA
      simp only [civil_Date.j0] at H
      by_cases c5 : x12_1 = true
      · subst c5
        have H1 : (some (0, 0, 0, 5)) = some (r1, r2, r3, r4) := by rw [if_pos rfl] at H; exact H
        clear H
        have H := H1
        clear H1
        simp only [Option.some.injEq, Prod.mk.injEq] at H
        obtain ⟨rfl, rfl, rfl, rfl⟩ := H
        have hcz6_0 : wc.cell? ⟨gb101, 0, none⟩ = some (.int .i64 0) := (blk_cell BK101.out 0).trans rfl
        have hcz6_1 : wc.cell? ⟨gb101, 1, none⟩ = some (.int .i64 0) := (blk_cell BK101.out 1).trans rfl
        have hcz6_2 : wc.cell? ⟨gb101, 2, none⟩ = some (.int .i64 0) := (blk_cell BK101.out 2).trans rfl
        have hfz6_0 := blk_frozen BK101.out 0
        have hfz6_1 := blk_frozen BK101.out 1
        have hfz6_2 := blk_frozen BK101.out 2
        go_wp2
        refine bodyPost_ret (results_ct rfl _ _ gb101 78 #[.int .i64 0, .int .i64 0, .int .i64 0] (0, 0) _ rfl (by (with_reducible repeat (first | refine blk_drewN ?_ _ | refine blk_drew ?_ | refine blk_alloc ?_ _)); refine blk_put (cs := #[.int .i64 0, .int .i64 0, .int .i64 0]) ?_ 2 _ rfl; (with_reducible repeat (first | refine blk_drewN ?_ _ | refine blk_drew ?_ | refine blk_alloc ?_ _)); refine blk_put (cs := #[.int .i64 0, .int .i64 0, .int .i64 0]) ?_ 1 _ rfl; (with_reducible repeat (first | refine blk_drewN ?_ _ | refine blk_drew ?_ | refine blk_alloc ?_ _)); refine blk_put (cs := #[.int .i64 0, .int .i64 0, .int .i64 0]) ?_ 0 _ rfl; (with_reducible repeat (first | refine blk_drewN ?_ _ | refine blk_drew ?_ | refine blk_alloc ?_ _)); exact BK101.out) Tryz.underlying78 rfl (by kernel_rfl)) rfl ?_
        exact ⟨by first | rfl | (simp [errW_none, errW_some] <;> rfl) | (simp [*, errW_none, errW_some] <;> rfl), by repeat (first | (with_reducible first | exact HB.out | apply below_alloc | apply pw_below_drewN | apply below_drew1 | refine below_set ?_ GE101.out) | exact HB.out)⟩
      · replace c5 := Bool.eq_false_iff.mpr c5
        subst c5
        have H1 : (civil_Date.l0 kj1 a0 (wrap64 (1900 + (wrap64 (Int.tdiv (wrap64 (a0 + 25567)) 366))))) = some (r1, r2, r3, r4) := by rw [if_neg (show ¬ (false = true) by decide)] at H; exact H
        clear H
        have H := H1
        clear H1
        have HC7 := Aside0.mk H
        clear H
        go_upto_block 0 with (fail)
        go_cut [4] (fun v4 wc => ∃ (kq : Nat) (x4_6 : Int), v4 = .int .i64 x4_6 ∧ Aside0 (civil_Date.j2 kq a0 x4_6 = some (r1, r2, r3, r4)) ∧ Aside0 (kq ≤ kj1) ∧ Aside0 (wc.heap[gb101]? = some (.cells #[.int .i64 0, .int .i64 0, .int .i64 0] 78 (0, 0))) ∧ Aside0 (Below w.heap.size w wc))
        case first =>
          have H := HC7.out
          clear HC7
          have H' := Aside0.mk H
          clear H
          go_wp2
          go_loopg [4] kj1 (fun kq v4 w' => ∃ (x4_2 : Int), v4 = .int .i64 x4_2 ∧ Aside0 (civil_Date.l0 kq a0 x4_2 = some (r1, r2, r3, r4)) ∧ Aside0 (kq ≤ kj1) ∧ Aside0 (w'.heap[gb101]? = some (.cells #[.int .i64 0, .int .i64 0, .int .i64 0] 78 (0, 0))) ∧ Aside0 (Below w.heap.size w w'))
          case atStart => exact ⟨(wrap64 (1900 + (wrap64 (Int.tdiv (wrap64 (a0 + 25567)) 366)))), (by first | rfl | (simp; done) | (simp [*]; done)), H', ⟨Nat.le_refl _⟩, ⟨by (with_reducible repeat (first | refine blk_drewN ?_ _ | refine blk_drew ?_ | refine blk_alloc ?_ _)); exact BK101.out⟩, ⟨by repeat (first | (with_reducible first | exact HB.out | apply below_alloc | apply pw_below_drewN | apply below_drew1 | refine below_set ?_ GE101.out) | exact HB.out)⟩⟩
          case round =>
            clear H'
            try clear p2
            try clear c4
            try clear c4b0
            try clear c5
            try clear p6
            try clear hcz6_0
            try clear hcz6_1
            try clear hcz6_2
            try clear hfz6_0
            try clear hfz6_1
            try clear hfz6_2
            try clear p2
            obtain ⟨x4_2, rfl, HA, HK2, BK101, HB⟩ := hrel
            cases gk with
            | zero => exact absurd HA.out (by simp [civil_Date.l0])
            | succ k2 =>
              have H := HA.out
              clear HA
              simp only [civil_Date.l0] at H
              by_cases c8 : x4_2 < 2200
              · rw [if_pos c8] at H
                have c8b0 : decide (x4_2 < 2200) = true := decide_eq_true c8
                clear c8
                (first | rw [c8b0] | (simp only [i64_w, i32_w]; rw [c8b0]) | skip)
                replace H := Option.bind_eq_some_iff.mp H
                obtain ⟨t102, A90, H⟩ := H
                replace H : (if t102 ≤ a0 then (civil_Date.l0 k2 a0 (wrap64 (x4_2 + 1))) else (civil_Date.j2 k2 a0 x4_2)) = some (r1, r2, r3, r4) := H
                have A9 := Aside0.mk A90
                clear A90
                by_cases c10 : t102 ≤ a0
                · rw [if_pos c10] at H
                  have c10b0 : decide (t102 ≤ a0) = true := decide_eq_true c10
                  clear c10
                  have H' := Aside0.mk H
                  clear H
                  go_wp2_with (first | (go_at_call 89; (with_reducible refine (Go.Proofs.YtbbbjjfecblhpaaGreat.H.civil_Opens.calls (wrap64 (x4_2 + 1)) t102 _ A9.out).mono ?_); rintro e w' ⟨rfl, ⟨nd, rfl⟩⟩))
                  go_roundg k2
                  case measure => have := HJ1.out; have := HK2.out; omega
                  case rel => exact ⟨(wrap64 (x4_2 + 1)), (by first | rfl | (simp; done) | (simp [*]; done)), H', ⟨by have := HJ1.out; have := HK2.out; omega⟩, ⟨by (with_reducible repeat (first | refine blk_drewN ?_ _ | refine blk_drew ?_ | refine blk_alloc ?_ _)); exact BK101.out⟩, ⟨by repeat (first | (with_reducible first | exact HB.out | apply below_alloc | apply pw_below_drewN | apply below_drew1 | refine below_set ?_ GE101.out) | exact HB.out)⟩⟩
                · rw [if_neg c10] at H
                  have c10b0 : decide (t102 ≤ a0) = false := decide_eq_false c10
                  clear c10
                  have H' := Aside0.mk H
                  clear H
                  go_wp2_with (first | (go_at_call 89; (with_reducible refine (Go.Proofs.YtbbbjjfecblhpaaGreat.H.civil_Opens.calls (wrap64 (x4_2 + 1)) t102 _ A9.out).mono ?_); rintro e w' ⟨rfl, ⟨nd, rfl⟩⟩))
                  go_meet
                  case rel => exact ⟨_, (x4_2), (by first | rfl | (simp; done) | (simp [*]; done)), H', ⟨by have := HJ1.out; have := HK2.out; first | omega | exact Nat.le_refl _⟩, ⟨by (with_reducible repeat (first | refine blk_drewN ?_ _ | refine blk_drew ?_ | refine blk_alloc ?_ _)); exact BK101.out⟩, ⟨by repeat (first | (with_reducible first | exact HB.out | apply below_alloc | apply pw_below_drewN | apply below_drew1 | refine below_set ?_ GE101.out) | exact HB.out)⟩⟩
              · rw [if_neg c8] at H
                have c8b0 : decide (x4_2 < 2200) = false := decide_eq_false c8
                clear c8
                (first | rw [c8b0] | (simp only [i64_w, i32_w]; rw [c8b0]) | skip)
                have H' := Aside0.mk H
                clear H
                go_wp2
                go_meet
                case rel => exact ⟨_, (x4_2), (by first | rfl | (simp; done) | (simp [*]; done)), H', ⟨by have := HJ1.out; have := HK2.out; first | omega | exact Nat.le_refl _⟩, ⟨by (with_reducible repeat (first | refine blk_drewN ?_ _ | refine blk_drew ?_ | refine blk_alloc ?_ _)); exact BK101.out⟩, ⟨by repeat (first | (with_reducible first | exact HB.out | apply below_alloc | apply pw_below_drewN | apply below_drew1 | refine below_set ?_ GE101.out) | exact HB.out)⟩⟩
        case rest =>
          clear HC7
          try clear c1
          try clear p2
          try clear c4
          try clear c4b0
          try clear c5
          try clear p6
          try clear c8
          try clear c8b0
          try clear c10
          try clear c10b0
          try clear hcz6_0
          try clear hcz6_1
          try clear hcz6_2
          try clear hfz6_0
          try clear hfz6_1
          try clear hfz6_2
          try clear p2
          try clear p6
          obtain ⟨kq, x4_6, rfl, HA, HJ6, BK101, HB⟩ := hcut
          cases kq with
          | zero => exact absurd HA.out (by simp [civil_Date.j2])
          | succ kj6 =>
            have H := HA.out
            clear HA
            simp only [civil_Date.j2] at H
            replace H := Option.bind_eq_some_iff.mp H
            obtain ⟨t103, A110, H⟩ := H
            replace H : (civil_Date.l1 kj6 x4_6 (wrap64 (a0 - t103)) 1) = some (r1, r2, r3, r4) := H
            have A11 := Aside0.mk A110
            clear A110
            have H' := Aside0.mk H
            clear H
            go_wp2_with (first | ((with_reducible refine gate_callee (f := 89) rfl ?_); refine goesL_ (some 31) rfl rfl Tryz.func89 (by kernel_rfl) rfl #[.int .i64 x4_6] rfl (by (try simp only [List.map_toArray, List.map_cons, List.map_nil]); first | done | rfl | (simp only [List.length_drop, List.length_take]; rfl)) ?_; (with_reducible refine (Go.Proofs.YtbbbjjfecblhpaaGreat.H.civil_Opens.calls x4_6 t103 _ A11.out).mono ?_); rintro e w' ⟨rfl, ⟨nd, rfl⟩⟩; refine ⟨_, rfl, ?_⟩))
            go_loopg [5, 6] kj6 (fun kq v5 v6 w' => ∃ (x5_3 : Int) (x6_3 : Int), v5 = .int .i64 x5_3 ∧ v6 = .int .i64 x6_3 ∧ Aside0 (civil_Date.l1 kq x4_6 x5_3 x6_3 = some (r1, r2, r3, r4)) ∧ Aside0 (kq ≤ kj6) ∧ Aside0 (w'.heap[gb101]? = some (.cells #[.int .i64 0, .int .i64 0, .int .i64 0] 78 (0, 0))) ∧ Aside0 (Below w.heap.size w w'))
            case atStart => exact ⟨(wrap64 (a0 - t103)), (1), (by first | rfl | (simp; done) | (simp [*]; done)), (by first | rfl | (simp; done) | (simp [*]; done)), H', ⟨Nat.le_refl _⟩, ⟨by (with_reducible repeat (first | refine blk_drewN ?_ _ | refine blk_drew ?_ | refine blk_alloc ?_ _)); exact BK101.out⟩, ⟨by repeat (first | (with_reducible first | exact HB.out | apply below_alloc | apply pw_below_drewN | apply below_drew1 | refine below_set ?_ GE101.out) | exact HB.out)⟩⟩
            case round =>
              clear H'
              try clear c1
              try clear p2
              try clear c4
              try clear c4b0
              try clear c5
              try clear p6
              try clear c8
              try clear c8b0
              try clear c10
              try clear c10b0
              try clear hcz6_0
              try clear hcz6_1
              try clear hcz6_2
              try clear hfz6_0
              try clear hfz6_1
              try clear hfz6_2
              try clear p2
              try clear p6
              obtain ⟨x5_3, x6_3, rfl, rfl, HA, HK3, BK101, HB⟩ := hrel
              cases gk with
              | zero => exact absurd HA.out (by simp [civil_Date.l1])
              | succ k3 =>
                have H := HA.out
                clear HA
                simp only [civil_Date.l1] at H
                replace H := Option.bind_eq_some_iff.mp H
                obtain ⟨t104, A120, H⟩ := H
                replace H : (if x5_3 ≥ t104 then ((Go.Proofs.YtbbbjjfecblhpaaGreat.H.civil_Month.f x4_6 x6_3).bind fun t105 => (civil_Date.l1 k3 x4_6 (wrap64 (x5_3 - t105)) (wrap64 (x6_3 + 1)))) else (some (x4_6, x6_3, wrap64 (x5_3 + 1), 0))) = some (r1, r2, r3, r4) := H
                have A12 := Aside0.mk A120
                clear A120
                by_cases c13 : x5_3 ≥ t104
                · rw [if_pos c13] at H
                  have c13b0 : decide (t104 ≤ x5_3) = true := decide_eq_true c13
                  clear c13
                  replace H := Option.bind_eq_some_iff.mp H
                  obtain ⟨t105, A140, H⟩ := H
                  replace H : (civil_Date.l1 k3 x4_6 (wrap64 (x5_3 - t105)) (wrap64 (x6_3 + 1))) = some (r1, r2, r3, r4) := H
                  have A14 := Aside0.mk A140
                  clear A140
                  have H' := Aside0.mk H
                  clear H
                  go_wp2_with (first | ((with_reducible refine gate_callee (f := 95) rfl ?_); refine goesL_ (some 36) rfl rfl Tryz.func95 (by kernel_rfl) rfl #[.int .i64 x4_6, .int .i64 x6_3] rfl (by (try simp only [List.map_toArray, List.map_cons, List.map_nil]); first | done | rfl | (simp only [List.length_drop, List.length_take]; rfl)) ?_; (with_reducible refine (Go.Proofs.YtbbbjjfecblhpaaGreat.H.civil_Month.calls x4_6 x6_3 t104 _ A12.out).mono ?_); rintro e w' ⟨rfl, ⟨nd, rfl⟩⟩; refine ⟨_, rfl, ?_⟩) | ((with_reducible refine gate_callee (f := 95) rfl ?_); refine goesL_ (some 41) rfl rfl Tryz.func95 (by kernel_rfl) rfl #[.int .i64 x4_6, .int .i64 x6_3] rfl (by (try simp only [List.map_toArray, List.map_cons, List.map_nil]); first | done | rfl | (simp only [List.length_drop, List.length_take]; rfl)) ?_; (with_reducible refine (Go.Proofs.YtbbbjjfecblhpaaGreat.H.civil_Month.calls x4_6 x6_3 t105 _ A14.out).mono ?_); rintro e w' ⟨rfl, ⟨nd, rfl⟩⟩; refine ⟨_, rfl, ?_⟩))
                  go_roundg k3
                  case measure => have := HJ1.out; have := HJ6.out; have := HK3.out; omega
                  case rel => exact ⟨(wrap64 (x5_3 - t105)), (wrap64 (x6_3 + 1)), (by first | rfl | (simp; done) | (simp [*]; done)), (by first | rfl | (simp; done) | (simp [*]; done)), H', ⟨by have := HJ1.out; have := HJ6.out; have := HK3.out; omega⟩, ⟨by (with_reducible repeat (first | refine blk_drewN ?_ _ | refine blk_drew ?_ | refine blk_alloc ?_ _)); exact BK101.out⟩, ⟨by repeat (first | (with_reducible first | exact HB.out | apply below_alloc | apply pw_below_drewN | apply below_drew1 | refine below_set ?_ GE101.out) | exact HB.out)⟩⟩
                · rw [if_neg c13] at H
                  have c13b0 : decide (t104 ≤ x5_3) = false := decide_eq_false c13
                  clear c13
                  simp only [Option.some.injEq, Prod.mk.injEq] at H
                  obtain ⟨rfl, rfl, rfl, rfl⟩ := H
                  go_wp2_with (first | ((with_reducible refine gate_callee (f := 95) rfl ?_); refine goesL_ (some 36) rfl rfl Tryz.func95 (by kernel_rfl) rfl #[.int .i64 x4_6, .int .i64 x6_3] rfl (by (try simp only [List.map_toArray, List.map_cons, List.map_nil]); first | done | rfl | (simp only [List.length_drop, List.length_take]; rfl)) ?_; (with_reducible refine (Go.Proofs.YtbbbjjfecblhpaaGreat.H.civil_Month.calls x4_6 x6_3 t104 _ A12.out).mono ?_); rintro e w' ⟨rfl, ⟨nd, rfl⟩⟩; refine ⟨_, rfl, ?_⟩; (try (rw [drewN_self wr]; generalize hq_ : World.drewN wr _ = wr; have n0_ : Aside0 (wr.heap[gb101]? = some (.cells #[.int .i64 0, .int .i64 0, .int .i64 0] 78 (0, 0))) := ⟨by rw [← hq_]; exact (by (with_reducible repeat (first | refine blk_drewN ?_ _ | refine blk_drew ?_ | refine blk_alloc ?_ _)); exact BK101.out)⟩; have n1_ : Aside0 (Below w.heap.size w wr) := ⟨by rw [← hq_]; exact (by repeat (first | (with_reducible first | exact HB.out | apply below_alloc | apply pw_below_drewN | apply below_drew1 | refine below_set ?_ GE101.out) | exact HB.out))⟩; clear BK101 HB hq_; have BK101 := n0_; have HB := n1_; clear n0_ n1_)); (try have hu101_0 : wr.cell? ⟨gb101, 0, none⟩ = some (.int .i64 0) := (blk_cell BK101.out 0).trans rfl); (try have hu101_1 : wr.cell? ⟨gb101, 1, none⟩ = some (.int .i64 0) := (blk_cell BK101.out 1).trans rfl); (try have hu101_2 : wr.cell? ⟨gb101, 2, none⟩ = some (.int .i64 0) := (blk_cell BK101.out 2).trans rfl); (try have hv101_0 := blk_frozen BK101.out 0); (try have hv101_1 := blk_frozen BK101.out 1); (try have hv101_2 := blk_frozen BK101.out 2); have hcz15_0 : wr.cell? ⟨gb101, 0, none⟩ = some (.int .i64 0) := (blk_cell BK101.out 0).trans rfl; have hcz15_1 : wr.cell? ⟨gb101, 1, none⟩ = some (.int .i64 0) := (blk_cell BK101.out 1).trans rfl; have hcz15_2 : wr.cell? ⟨gb101, 2, none⟩ = some (.int .i64 0) := (blk_cell BK101.out 2).trans rfl; have hfz15_0 := blk_frozen BK101.out 0; have hfz15_1 := blk_frozen BK101.out 1; have hfz15_2 := blk_frozen BK101.out 2))
                  refine bodyPost_ret (results_ct rfl _ _ gb101 78 #[.int .i64 x4_6, .int .i64 x6_3, .int .i64 (wrap64 (x5_3 + 1))] (0, 0) _ rfl (by (with_reducible repeat (first | refine blk_drewN ?_ _ | refine blk_drew ?_ | refine blk_alloc ?_ _)); refine blk_put (cs := #[.int .i64 x4_6, .int .i64 x6_3, .int .i64 0]) ?_ 2 _ rfl; (with_reducible repeat (first | refine blk_drewN ?_ _ | refine blk_drew ?_ | refine blk_alloc ?_ _)); refine blk_put (cs := #[.int .i64 x4_6, .int .i64 0, .int .i64 0]) ?_ 1 _ rfl; (with_reducible repeat (first | refine blk_drewN ?_ _ | refine blk_drew ?_ | refine blk_alloc ?_ _)); refine blk_put (cs := #[.int .i64 0, .int .i64 0, .int .i64 0]) ?_ 0 _ rfl; (with_reducible repeat (first | refine blk_drewN ?_ _ | refine blk_drew ?_ | refine blk_alloc ?_ _)); exact BK101.out) Tryz.underlying78 rfl (by kernel_rfl)) rfl ?_
                  exact ⟨by first | rfl | (simp [errW_none, errW_some] <;> rfl) | (simp [*, errW_none, errW_some] <;> rfl), by repeat (first | (with_reducible first | exact HB.out | apply below_alloc | apply pw_below_drewN | apply below_drew1 | refine below_set ?_ GE101.out) | exact HB.out)⟩

/-! ### quittanceref03_Date: function 40 -/
mutual
def quittanceref03_Date.l0 : Nat → Int → Int → Int → Int → Option (Int × Int × Int × Int)
  | 0, _, _, _, _ => none
  | k + 1, x4, x109000, x109001, x109002 => (Go.Proofs.YtbbbjjfecblhpaaGreat.H.quittanceref03_before.f (wrap64 (x109000 + 1))).bind fun t109 => (if t109 ≤ x4 then (quittanceref03_Date.l0 k x4 (wrap64 (x109000 + 1)) x109001 x109002) else ((Go.Proofs.YtbbbjjfecblhpaaGreat.H.quittanceref03_before.f x109000).bind fun t110 => (quittanceref03_Date.l1 k (wrap64 (x4 - t110)) x109000 x109001 x109002)))
def quittanceref03_Date.l1 : Nat → Int → Int → Int → Int → Option (Int × Int × Int × Int)
  | 0, _, _, _, _ => none
  | k + 1, x4, x109000, x109001, x109002 => (Go.Proofs.YtbbbjjfecblhpaaGreat.H.quittanceref03_Month.f x109000 x109001).bind fun t111 => (if x4 ≥ t111 then ((Go.Proofs.YtbbbjjfecblhpaaGreat.H.quittanceref03_Month.f x109000 x109001).bind fun t112 => (quittanceref03_Date.l1 k (wrap64 (x4 - t112)) x109000 (wrap64 (x109001 + 1)) x109002)) else (some (x109000, x109001, wrap64 (x4 + 1), 0)))
end
def quittanceref03_Date.f (k : Nat) (a0 : Int) : Option (Int × Int × Int × Int) := (Go.Proofs.YtbbbjjfecblhpaaGreat.H.quittanceref03_Is.f a0).bind fun t107 => (if t107 = true then (quittanceref03_Date.l0 k (wrap64 (a0 + 25567)) (wrap64 (1900 + (wrap64 (Int.tdiv (wrap64 (a0 + 25567)) 366)))) 1 0) else (some (0, 0, 0, 5)))
theorem quittanceref03_Date.mono_l : ∀ k, (∀ y0 y1 y2 y3, LeO (quittanceref03_Date.l0 k y0 y1 y2 y3) (quittanceref03_Date.l0 (k + 1) y0 y1 y2 y3)) ∧ (∀ y0 y1 y2 y3, LeO (quittanceref03_Date.l1 k y0 y1 y2 y3) (quittanceref03_Date.l1 (k + 1) y0 y1 y2 y3))
  | 0 => ⟨fun _ _ _ _ r h => by simp [quittanceref03_Date.l0] at h, fun _ _ _ _ r h => by simp [quittanceref03_Date.l1] at h⟩
  | k + 1 => by
    obtain ⟨ih0, ih1⟩ := quittanceref03_Date.mono_l k
    refine ⟨?_, ?_⟩
    · intro y0 y1 y2 y3
      unfold quittanceref03_Date.l0
      repeat' first
      | (with_reducible exact ih0 _ _ _ _)
      | (with_reducible exact ih1 _ _ _ _)
      | (with_reducible exact LeO.refl _)
      | (with_reducible exact LeO.none _)
      | (with_reducible refine LeO.ite ?_ ?_)
      | (with_reducible refine LeO.bind ?_ (fun _ => ?_))
      | exact ih0 _ _ _ _
      | exact ih1 _ _ _ _
      | exact LeO.none _
      | refine LeO.ite ?_ ?_
      | refine LeO.bind ?_ (fun _ => ?_)
    · intro y0 y1 y2 y3
      unfold quittanceref03_Date.l1
      repeat' first
      | (with_reducible exact ih0 _ _ _ _)
      | (with_reducible exact ih1 _ _ _ _)
      | (with_reducible exact LeO.refl _)
      | (with_reducible exact LeO.none _)
      | (with_reducible refine LeO.ite ?_ ?_)
      | (with_reducible refine LeO.bind ?_ (fun _ => ?_))
      | exact ih0 _ _ _ _
      | exact ih1 _ _ _ _
      | exact LeO.none _
      | refine LeO.ite ?_ ?_
      | refine LeO.bind ?_ (fun _ => ?_)
theorem quittanceref03_Date.mono : ∀ a0 k, LeO (quittanceref03_Date.f k a0) (quittanceref03_Date.f (k + 1) a0) := by
  intro a0 k
  obtain ⟨ih0, ih1⟩ := quittanceref03_Date.mono_l k
  unfold quittanceref03_Date.f
  repeat' first
      | (with_reducible exact ih0 _ _ _ _)
      | (with_reducible exact ih1 _ _ _ _)
      | (with_reducible exact LeO.refl _)
      | (with_reducible exact LeO.none _)
      | (with_reducible refine LeO.ite ?_ ?_)
      | (with_reducible refine LeO.bind ?_ (fun _ => ?_))
      | exact ih0 _ _ _ _
      | exact ih1 _ _ _ _
      | exact LeO.none _
      | refine LeO.ite ?_ ?_
      | refine LeO.bind ?_ (fun _ => ?_)
set_option maxHeartbeats 8000000 in
set_option maxRecDepth 100000 in
theorem quittanceref03_Date.calls (k : Nat) (a0 : Int) (r1 : Int) (r2 : Int) (r3 : Int) (r4 : Int) (w : World) (h : quittanceref03_Date.f k a0 = some (r1, r2, r3, r4)) :
    Calls Tryz.prog 40 #[.int .i64 a0] w fun e w' => e = .returned (.tuple #[.agg #[.int .i64 r1, .int .i64 r2, .int .i64 r3], .int .i64 r4]) ∧ Below w.heap.size w w' := by
  have hu78 := Tryz.underlying78
  have HB := Aside0.mk (Below.refl w.heap.size w)
  have H : ((Go.Proofs.YtbbbjjfecblhpaaGreat.H.quittanceref03_Is.f a0).bind fun t107 => (if t107 = true then (quittanceref03_Date.l0 k (wrap64 (a0 + 25567)) (wrap64 (1900 + (wrap64 (Int.tdiv (wrap64 (a0 + 25567)) 366)))) 1 0) else (some (0, 0, 0, 5)))) = some (r1, r2, r3, r4) := h
  clear h
  replace H := Option.bind_eq_some_iff.mp H
  obtain ⟨t107, A20, H⟩ := H
  replace H : (if t107 = true then (quittanceref03_Date.l0 k (wrap64 (a0 + 25567)) (wrap64 (1900 + (wrap64 (Int.tdiv (wrap64 (a0 + 25567)) 366)))) 1 0) else (some (0, 0, 0, 5))) = some (r1, r2, r3, r4) := H
  have A2 := Aside0.mk A20
  clear A20
  by_cases c3 : t107 = true
  · subst c3
    have H1 : (quittanceref03_Date.l0 k (wrap64 (a0 + 25567)) (wrap64 (1900 + (wrap64 (Int.tdiv (wrap64 (a0 + 25567)) 366)))) 1 0) = some (r1, r2, r3, r4) := by rw [if_pos rfl] at H; exact H
    clear H
    have H := H1
    clear H1
    have H' := Aside0.mk H
    clear H
    go_enter Tryz.func40, Tryz.ntmps40
    go_wp2_with (first | ((with_reducible refine gate_dst (N := 2) rfl ?_); refine box_event ?hg (N := 2) ?hd (cs := #[.int .i64 0, .int .i64 0, .int .i64 0]) (t := 78) ?hr ?_; (case hd => rfl); (case hg => rfl); (case hr => first | (go_simp; done) | (go_simp; rfl)); intro gb106 hg w4 hbox hb; have n0_ := Aside0.mk (below_step (by repeat (first | (with_reducible first | exact HB.out | apply below_alloc | apply pw_below_drewN | apply below_drew1) | exact HB.out)) hb); have n1_ := Aside0.mk (hbox); have n2_ := Aside0.mk ((by rw [hg]; exact (below_size (by repeat (first | (with_reducible first | exact HB.out | apply below_alloc | apply pw_below_drewN | apply below_drew1) | exact HB.out))) : w.heap.size ≤ gb106)); have n3_ := Aside0.mk ((by rw [hg]; exact (below_size (by repeat (first | (with_reducible first | exact HB.out | apply below_alloc | apply pw_below_drewN | apply below_drew1) | exact HB.out))) : w.heap.size ≤ gb106)); clear HB; have HB := n0_; have BK106 := n1_; have GW106 := n2_; have GE106 := n3_; clear n0_ n1_ n2_ n3_; clear hb hbox hg; (try have hu106_0 : w4.cell? ⟨gb106, 0, none⟩ = some (.int .i64 0) := (blk_cell BK106.out 0).trans rfl); (try have hu106_1 : w4.cell? ⟨gb106, 1, none⟩ = some (.int .i64 0) := (blk_cell BK106.out 1).trans rfl); (try have hu106_2 : w4.cell? ⟨gb106, 2, none⟩ = some (.int .i64 0) := (blk_cell BK106.out 2).trans rfl); (try have hv106_0 := blk_frozen BK106.out 0); (try have hv106_1 := blk_frozen BK106.out 1); (try have hv106_2 := blk_frozen BK106.out 2)) | ((with_reducible refine gate_callee (f := 39) rfl ?_); refine goesL_ (some 7) rfl rfl Tryz.func39 (by kernel_rfl) rfl #[.int .i64 a0] rfl (by (try simp only [List.map_toArray, List.map_cons, List.map_nil]); first | done | rfl | (simp only [List.length_drop, List.length_take]; rfl)) ?_; (with_reducible refine (Go.Proofs.YtbbbjjfecblhpaaGreat.H.quittanceref03_Is.calls a0 true _ A2.out).mono ?_); rintro e w' ⟨rfl, ⟨nd, rfl⟩⟩; refine ⟨_, rfl, ?_⟩; (try (rw [drewN_self w4]; generalize hq_ : World.drewN w4 _ = w4; have n0_ : Aside0 (w4.heap[gb106]? = some (.cells #[.int .i64 0, .int .i64 0, .int .i64 0] 78 (0, 0))) := ⟨by rw [← hq_]; exact (by (with_reducible repeat (first | refine blk_drewN ?_ _ | refine blk_drew ?_ | refine blk_alloc ?_ _)); exact BK106.out)⟩; have n1_ : Aside0 (Below w.heap.size w w4) := ⟨by rw [← hq_]; exact (by repeat (first | (with_reducible first | exact HB.out | apply below_alloc | apply pw_below_drewN | apply below_drew1 | refine below_set ?_ GE106.out) | exact HB.out))⟩; clear BK106 HB hq_; have BK106 := n0_; have HB := n1_; clear n0_ n1_)); (try have hu106_0 : w4.cell? ⟨gb106, 0, none⟩ = some (.int .i64 0) := (blk_cell BK106.out 0).trans rfl); (try have hu106_1 : w4.cell? ⟨gb106, 1, none⟩ = some (.int .i64 0) := (blk_cell BK106.out 1).trans rfl); (try have hu106_2 : w4.cell? ⟨gb106, 2, none⟩ = some (.int .i64 0) := (blk_cell BK106.out 2).trans rfl); (try have hv106_0 := blk_frozen BK106.out 0); (try have hv106_1 := blk_frozen BK106.out 1); (try have hv106_2 := blk_frozen BK106.out 2)) | ((with_reducible refine gate_dst (N := 5) rfl ?_); refine box_event ?hg (N := 5) ?hd (cs := #[.int .i64 0, .int .i64 0, .int .i64 0]) (t := 78) ?hr ?_; (case hd => rfl); (case hg => rfl); (case hr => first | (go_simp; done) | (go_simp; rfl)); intro gb108 hg w5 hbox hb; have n0_ := Aside0.mk (blk_below (g := gb106) (o := .cells #[.int .i64 0, .int .i64 0, .int .i64 0] 78 (0, 0)) (by (with_reducible repeat (first | refine blk_drewN ?_ _ | refine blk_drew ?_ | refine blk_alloc ?_ _)); exact BK106.out) hb); have n1_ := Aside0.mk (below_step (by repeat (first | (with_reducible first | exact HB.out | apply below_alloc | apply pw_below_drewN | apply below_drew1 | refine below_set ?_ GE106.out) | exact HB.out)) hb); have n2_ := Aside0.mk (hbox); have n3_ := Aside0.mk ((by rw [hg]; exact (below_size (by repeat (first | (with_reducible first | exact HB.out | apply below_alloc | apply pw_below_drewN | apply below_drew1 | refine below_set ?_ GE106.out) | exact HB.out))) : w.heap.size ≤ gb108)); have n4_ := Aside0.mk ((by rw [hg]; exact (below_size (by repeat (first | (with_reducible first | exact HB.out | apply below_alloc | apply pw_below_drewN | apply below_drew1 | refine below_set ?_ GE106.out) | exact HB.out))) : w.heap.size ≤ gb108)); have n5_ := Aside0.mk ((by rw [hg]; exact Nat.ne_of_lt (blk_lt (g := gb106) (o := .cells #[.int .i64 0, .int .i64 0, .int .i64 0] 78 (0, 0)) (by (with_reducible repeat (first | refine blk_drewN ?_ _ | refine blk_drew ?_ | refine blk_alloc ?_ _)); exact BK106.out)) : gb106 ≠ gb108)); have n6_ := Aside0.mk ((by rw [hg]; exact Nat.ne_of_gt (blk_lt (g := gb106) (o := .cells #[.int .i64 0, .int .i64 0, .int .i64 0] 78 (0, 0)) (by (with_reducible repeat (first | refine blk_drewN ?_ _ | refine blk_drew ?_ | refine blk_alloc ?_ _)); exact BK106.out)) : gb108 ≠ gb106)); clear BK106; clear HB; have BK106 := n0_; have HB := n1_; have BK108 := n2_; have GW108 := n3_; have GE108 := n4_; have NB106_108 := n5_; have NB108_106 := n6_; clear n0_ n1_ n2_ n3_ n4_ n5_ n6_; clear hb hbox hg; (try have hu106_0 : w5.cell? ⟨gb106, 0, none⟩ = some (.int .i64 0) := (blk_cell BK106.out 0).trans rfl); (try have hu106_1 : w5.cell? ⟨gb106, 1, none⟩ = some (.int .i64 0) := (blk_cell BK106.out 1).trans rfl); (try have hu106_2 : w5.cell? ⟨gb106, 2, none⟩ = some (.int .i64 0) := (blk_cell BK106.out 2).trans rfl); (try have hv106_0 := blk_frozen BK106.out 0); (try have hv106_1 := blk_frozen BK106.out 1); (try have hv106_2 := blk_frozen BK106.out 2); (try have hu108_0 : w5.cell? ⟨gb108, 0, none⟩ = some (.int .i64 0) := (blk_cell BK108.out 0).trans rfl); (try have hu108_1 : w5.cell? ⟨gb108, 1, none⟩ = some (.int .i64 0) := (blk_cell BK108.out 1).trans rfl); (try have hu108_2 : w5.cell? ⟨gb108, 2, none⟩ = some (.int .i64 0) := (blk_cell BK108.out 2).trans rfl); (try have hv108_0 := blk_frozen BK108.out 0); (try have hv108_1 := blk_frozen BK108.out 1); (try have hv108_2 := blk_frozen BK108.out 2); have hnb6 := NB108_106.out; have hnc6 := NB106_108.out; have hcz7_0 : w5.cell? ⟨gb108, 0, none⟩ = some (.int .i64 0) := (blk_cell BK108.out 0).trans rfl; have hcz7_1 : w5.cell? ⟨gb108, 1, none⟩ = some (.int .i64 0) := (blk_cell BK108.out 1).trans rfl; have hcz7_2 : w5.cell? ⟨gb108, 2, none⟩ = some (.int .i64 0) := (blk_cell BK108.out 2).trans rfl; have hfz7_0 := blk_frozen BK108.out 0; have hfz7_1 := blk_frozen BK108.out 1; have hfz7_2 := blk_frozen BK108.out 2))
    go_loopg [] k (fun kq w' => ∃ (x109000_1 : Int), Aside0 (quittanceref03_Date.l0 kq (wrap64 (a0 + 25567)) x109000_1 1 0 = some (r1, r2, r3, r4)) ∧ Aside0 (kq ≤ k) ∧ Aside0 (w'.heap[gb106]? = some (.cells #[.int .i64 0, .int .i64 0, .int .i64 0] 78 (0, 0))) ∧ Aside0 (w'.heap[gb108]? = some (.cells #[.int .i64 x109000_1, .int .i64 1, .int .i64 0] 78 (0, 0))) ∧ Aside0 (Below w.heap.size w w'))
    case atStart => exact ⟨(wrap64 (1900 + (wrap64 (Int.tdiv (wrap64 (a0 + 25567)) 366)))), H', ⟨Nat.le_refl _⟩, ⟨by (with_reducible repeat (first | refine blk_drewN ?_ _ | refine blk_drew ?_ | refine blk_alloc ?_ _)); refine blk_far ?_ NB106_108.out _; (with_reducible repeat (first | refine blk_drewN ?_ _ | refine blk_drew ?_ | refine blk_alloc ?_ _)); refine blk_far ?_ NB106_108.out _; (with_reducible repeat (first | refine blk_drewN ?_ _ | refine blk_drew ?_ | refine blk_alloc ?_ _)); refine blk_far ?_ NB106_108.out _; (with_reducible repeat (first | refine blk_drewN ?_ _ | refine blk_drew ?_ | refine blk_alloc ?_ _)); exact BK106.out⟩, ⟨by (with_reducible repeat (first | refine blk_drewN ?_ _ | refine blk_drew ?_ | refine blk_alloc ?_ _)); refine blk_put (cs := #[.int .i64 (wrap64 (1900 + (wrap64 (Int.tdiv (wrap64 (a0 + 25567)) 366)))), .int .i64 1, .int .i64 0]) ?_ 2 _ rfl; (with_reducible repeat (first | refine blk_drewN ?_ _ | refine blk_drew ?_ | refine blk_alloc ?_ _)); refine blk_put (cs := #[.int .i64 (wrap64 (1900 + (wrap64 (Int.tdiv (wrap64 (a0 + 25567)) 366)))), .int .i64 0, .int .i64 0]) ?_ 1 _ rfl; (with_reducible repeat (first | refine blk_drewN ?_ _ | refine blk_drew ?_ | refine blk_alloc ?_ _)); refine blk_put (cs := #[.int .i64 0, .int .i64 0, .int .i64 0]) ?_ 0 _ rfl; (with_reducible repeat (first | refine blk_drewN ?_ _ | refine blk_drew ?_ | refine blk_alloc ?_ _)); exact BK108.out⟩, ⟨by repeat (first | (with_reducible first | exact HB.out | apply below_alloc | apply pw_below_drewN | apply below_drew1 | refine below_set ?_ GE106.out | refine below_set ?_ GE108.out) | exact HB.out)⟩⟩
    case round =>
      clear H'
      try clear p2
      try clear c3
      try clear c4
      try clear c6
      try clear p6
      try clear hcz7_0
      try clear hcz7_1
      try clear hcz7_2
      try clear hfz7_0
      try clear hfz7_1
      try clear hfz7_2
      obtain ⟨x109000_1, HA, HK1, BK106, BK108, HB⟩ := hrel
      cases gk with
      | zero => exact absurd HA.out (by simp [quittanceref03_Date.l0])
      | succ k1 =>
        have H := HA.out
        clear HA
        simp only [quittanceref03_Date.l0] at H
        replace H := Option.bind_eq_some_iff.mp H
        obtain ⟨t109, A80, H⟩ := H
        replace H : (if t109 ≤ (wrap64 (a0 + 25567)) then (quittanceref03_Date.l0 k1 (wrap64 (a0 + 25567)) (wrap64 (x109000_1 + 1)) 1 0) else ((Go.Proofs.YtbbbjjfecblhpaaGreat.H.quittanceref03_before.f x109000_1).bind fun t110 => (quittanceref03_Date.l1 k1 (wrap64 ((wrap64 (a0 + 25567)) - t110)) x109000_1 1 0))) = some (r1, r2, r3, r4) := H
        have A8 := Aside0.mk A80
        clear A80
        by_cases c9 : t109 ≤ (wrap64 (a0 + 25567))
        · rw [if_pos c9] at H
          have c9b0 : decide (t109 ≤ (wrap64 (a0 + 25567))) = true := decide_eq_true c9
          clear c9
          have H' := Aside0.mk H
          clear H
          have hnb10 := NB108_106.out
          have hnc10 := NB106_108.out
          have hcz11_0 : wr.cell? ⟨gb108, 0, none⟩ = some (.int .i64 x109000_1) := (blk_cell BK108.out 0).trans rfl
          have hcz11_1 : wr.cell? ⟨gb108, 1, none⟩ = some (.int .i64 1) := (blk_cell BK108.out 1).trans rfl
          have hcz11_2 : wr.cell? ⟨gb108, 2, none⟩ = some (.int .i64 0) := (blk_cell BK108.out 2).trans rfl
          have hfz11_0 := blk_frozen BK108.out 0
          have hfz11_1 := blk_frozen BK108.out 1
          have hfz11_2 := blk_frozen BK108.out 2
          go_wp2_with (first | ((with_reducible refine gate_callee (f := 60) rfl ?_); refine goesL_ (some 19) rfl rfl Tryz.func60 (by kernel_rfl) rfl #[.int .i64 (wrap64 (x109000_1 + 1))] rfl (by (try simp only [List.map_toArray, List.map_cons, List.map_nil]); first | done | rfl | (simp only [List.length_drop, List.length_take]; rfl)) ?_; (with_reducible refine (Go.Proofs.YtbbbjjfecblhpaaGreat.H.quittanceref03_before.calls (wrap64 (x109000_1 + 1)) t109 _ A8.out).mono ?_); rintro e w' ⟨rfl, ⟨nd, rfl⟩⟩; refine ⟨_, rfl, ?_⟩; (try (rw [drewN_self wr]; generalize hq_ : World.drewN wr _ = wr; have n0_ : Aside0 (wr.heap[gb106]? = some (.cells #[.int .i64 0, .int .i64 0, .int .i64 0] 78 (0, 0))) := ⟨by rw [← hq_]; exact (by (with_reducible repeat (first | refine blk_drewN ?_ _ | refine blk_drew ?_ | refine blk_alloc ?_ _)); exact BK106.out)⟩; have n1_ : Aside0 (wr.heap[gb108]? = some (.cells #[.int .i64 x109000_1, .int .i64 1, .int .i64 0] 78 (0, 0))) := ⟨by rw [← hq_]; exact (by (with_reducible repeat (first | refine blk_drewN ?_ _ | refine blk_drew ?_ | refine blk_alloc ?_ _)); exact BK108.out)⟩; have n2_ : Aside0 (Below w.heap.size w wr) := ⟨by rw [← hq_]; exact (by repeat (first | (with_reducible first | exact HB.out | apply below_alloc | apply pw_below_drewN | apply below_drew1 | refine below_set ?_ GE106.out | refine below_set ?_ GE108.out) | exact HB.out))⟩; clear BK106 BK108 HB hq_; have BK106 := n0_; have BK108 := n1_; have HB := n2_; clear n0_ n1_ n2_)); (try have hu106_0 : wr.cell? ⟨gb106, 0, none⟩ = some (.int .i64 0) := (blk_cell BK106.out 0).trans rfl); (try have hu106_1 : wr.cell? ⟨gb106, 1, none⟩ = some (.int .i64 0) := (blk_cell BK106.out 1).trans rfl); (try have hu106_2 : wr.cell? ⟨gb106, 2, none⟩ = some (.int .i64 0) := (blk_cell BK106.out 2).trans rfl); (try have hv106_0 := blk_frozen BK106.out 0); (try have hv106_1 := blk_frozen BK106.out 1); (try have hv106_2 := blk_frozen BK106.out 2); (try have hu108_0 : wr.cell? ⟨gb108, 0, none⟩ = some (.int .i64 x109000_1) := (blk_cell BK108.out 0).trans rfl); (try have hu108_1 : wr.cell? ⟨gb108, 1, none⟩ = some (.int .i64 1) := (blk_cell BK108.out 1).trans rfl); (try have hu108_2 : wr.cell? ⟨gb108, 2, none⟩ = some (.int .i64 0) := (blk_cell BK108.out 2).trans rfl); (try have hv108_0 := blk_frozen BK108.out 0); (try have hv108_1 := blk_frozen BK108.out 1); (try have hv108_2 := blk_frozen BK108.out 2)))
          go_roundg k1
          case measure => have := HK1.out; omega
          case rel => exact ⟨(wrap64 (x109000_1 + 1)), H', ⟨by have := HK1.out; omega⟩, ⟨by (with_reducible repeat (first | refine blk_drewN ?_ _ | refine blk_drew ?_ | refine blk_alloc ?_ _)); refine blk_far ?_ NB106_108.out _; (with_reducible repeat (first | refine blk_drewN ?_ _ | refine blk_drew ?_ | refine blk_alloc ?_ _)); exact BK106.out⟩, ⟨by (with_reducible repeat (first | refine blk_drewN ?_ _ | refine blk_drew ?_ | refine blk_alloc ?_ _)); refine blk_put (cs := #[.int .i64 x109000_1, .int .i64 1, .int .i64 0]) ?_ 0 _ rfl; (with_reducible repeat (first | refine blk_drewN ?_ _ | refine blk_drew ?_ | refine blk_alloc ?_ _)); exact BK108.out⟩, ⟨by repeat (first | (with_reducible first | exact HB.out | apply below_alloc | apply pw_below_drewN | apply below_drew1 | refine below_set ?_ GE106.out | refine below_set ?_ GE108.out) | exact HB.out)⟩⟩
        · rw [if_neg c9] at H
          have c9b0 : decide (t109 ≤ (wrap64 (a0 + 25567))) = false := decide_eq_false c9
          clear c9
          replace H := Option.bind_eq_some_iff.mp H
          obtain ⟨t110, A120, H⟩ := H
          replace H : (quittanceref03_Date.l1 k1 (wrap64 ((wrap64 (a0 + 25567)) - t110)) x109000_1 1 0) = some (r1, r2, r3, r4) := H
          have A12 := Aside0.mk A120
          clear A120
          have H' := Aside0.mk H
          clear H
          have hnb13 := NB108_106.out
          have hnc13 := NB106_108.out
          have hcz14_0 : wr.cell? ⟨gb108, 0, none⟩ = some (.int .i64 x109000_1) := (blk_cell BK108.out 0).trans rfl
          have hcz14_1 : wr.cell? ⟨gb108, 1, none⟩ = some (.int .i64 1) := (blk_cell BK108.out 1).trans rfl
          have hcz14_2 : wr.cell? ⟨gb108, 2, none⟩ = some (.int .i64 0) := (blk_cell BK108.out 2).trans rfl
          have hfz14_0 := blk_frozen BK108.out 0
          have hfz14_1 := blk_frozen BK108.out 1
          have hfz14_2 := blk_frozen BK108.out 2
          go_wp2_with (first | ((with_reducible refine gate_callee (f := 60) rfl ?_); refine goesL_ (some 19) rfl rfl Tryz.func60 (by kernel_rfl) rfl #[.int .i64 (wrap64 (x109000_1 + 1))] rfl (by (try simp only [List.map_toArray, List.map_cons, List.map_nil]); first | done | rfl | (simp only [List.length_drop, List.length_take]; rfl)) ?_; (with_reducible refine (Go.Proofs.YtbbbjjfecblhpaaGreat.H.quittanceref03_before.calls (wrap64 (x109000_1 + 1)) t109 _ A8.out).mono ?_); rintro e w' ⟨rfl, ⟨nd, rfl⟩⟩; refine ⟨_, rfl, ?_⟩) | ((with_reducible refine gate_callee (f := 60) rfl ?_); refine goesL_ (some 29) rfl rfl Tryz.func60 (by kernel_rfl) rfl #[.int .i64 x109000_1] rfl (by (try simp only [List.map_toArray, List.map_cons, List.map_nil]); first | done | rfl | (simp only [List.length_drop, List.length_take]; rfl)) ?_; (with_reducible refine (Go.Proofs.YtbbbjjfecblhpaaGreat.H.quittanceref03_before.calls x109000_1 t110 _ A12.out).mono ?_); rintro e w' ⟨rfl, ⟨nd, rfl⟩⟩; refine ⟨_, rfl, ?_⟩))
          go_loopg [4] k1 (fun kq v4 w' => ∃ (x4_2 : Int) (x109001_2 : Int), v4 = .int .i64 x4_2 ∧ Aside0 (quittanceref03_Date.l1 kq x4_2 x109000_1 x109001_2 0 = some (r1, r2, r3, r4)) ∧ Aside0 (kq ≤ k1) ∧ Aside0 (w'.heap[gb106]? = some (.cells #[.int .i64 0, .int .i64 0, .int .i64 0] 78 (0, 0))) ∧ Aside0 (w'.heap[gb108]? = some (.cells #[.int .i64 x109000_1, .int .i64 x109001_2, .int .i64 0] 78 (0, 0))) ∧ Aside0 (Below w.heap.size w w'))
          case atStart => exact ⟨(wrap64 ((wrap64 (a0 + 25567)) - t110)), (1), (by first | rfl | (simp; done) | (simp [*]; done)), H', ⟨Nat.le_refl _⟩, ⟨by (with_reducible repeat (first | refine blk_drewN ?_ _ | refine blk_drew ?_ | refine blk_alloc ?_ _)); exact BK106.out⟩, ⟨by (with_reducible repeat (first | refine blk_drewN ?_ _ | refine blk_drew ?_ | refine blk_alloc ?_ _)); exact BK108.out⟩, ⟨by repeat (first | (with_reducible first | exact HB.out | apply below_alloc | apply pw_below_drewN | apply below_drew1 | refine below_set ?_ GE106.out | refine below_set ?_ GE108.out) | exact HB.out)⟩⟩
          case round =>
            clear H'
            try clear c1
            try clear p2
            try clear c3
            try clear c4
            try clear c6
            try clear p6
            try clear c9
            try clear c9b0
            try clear c10
            try clear c13
            try clear hcz11_0
            try clear hcz11_1
            try clear hcz11_2
            try clear hcz14_0
            try clear hcz14_1
            try clear hcz14_2
            try clear hcz7_0
            try clear hcz7_1
            try clear hcz7_2
            try clear hfz11_0
            try clear hfz11_1
            try clear hfz11_2
            try clear hfz14_0
            try clear hfz14_1
            try clear hfz14_2
            try clear hfz7_0
            try clear hfz7_1
            try clear hfz7_2
            try clear p2
            try clear p6
            obtain ⟨x4_2, x109001_2, rfl, HA, HK2, BK106, BK108, HB⟩ := hrel
            cases gk with
            | zero => exact absurd HA.out (by simp [quittanceref03_Date.l1])
            | succ k2 =>
              have H := HA.out
              clear HA
              simp only [quittanceref03_Date.l1] at H
              replace H := Option.bind_eq_some_iff.mp H
              obtain ⟨t111, A150, H⟩ := H
              replace H : (if x4_2 ≥ t111 then ((Go.Proofs.YtbbbjjfecblhpaaGreat.H.quittanceref03_Month.f x109000_1 x109001_2).bind fun t112 => (quittanceref03_Date.l1 k2 (wrap64 (x4_2 - t112)) x109000_1 (wrap64 (x109001_2 + 1)) 0)) else (some (x109000_1, x109001_2, wrap64 (x4_2 + 1), 0))) = some (r1, r2, r3, r4) := H
              have A15 := Aside0.mk A150
              clear A150
              by_cases c16 : x4_2 ≥ t111
              · rw [if_pos c16] at H
                have c16b0 : decide (t111 ≤ x4_2) = true := decide_eq_true c16
                clear c16
                replace H := Option.bind_eq_some_iff.mp H
                obtain ⟨t112, A170, H⟩ := H
                replace H : (quittanceref03_Date.l1 k2 (wrap64 (x4_2 - t112)) x109000_1 (wrap64 (x109001_2 + 1)) 0) = some (r1, r2, r3, r4) := H
                have A17 := Aside0.mk A170
                clear A170
                have H' := Aside0.mk H
                clear H
                have hnb18 := NB108_106.out
                have hnc18 := NB106_108.out
                have hcz19_0 : wr.cell? ⟨gb108, 0, none⟩ = some (.int .i64 x109000_1) := (blk_cell BK108.out 0).trans rfl
                have hcz19_1 : wr.cell? ⟨gb108, 1, none⟩ = some (.int .i64 x109001_2) := (blk_cell BK108.out 1).trans rfl
                have hcz19_2 : wr.cell? ⟨gb108, 2, none⟩ = some (.int .i64 0) := (blk_cell BK108.out 2).trans rfl
                have hfz19_0 := blk_frozen BK108.out 0
                have hfz19_1 := blk_frozen BK108.out 1
                have hfz19_2 := blk_frozen BK108.out 2
                go_wp2_with (first | ((with_reducible refine gate_callee (f := 61) rfl ?_); refine goesL_ (some 36) rfl rfl Tryz.func61 (by kernel_rfl) rfl #[.int .i64 x109000_1, .int .i64 x109001_2] rfl (by (try simp only [List.map_toArray, List.map_cons, List.map_nil]); first | done | rfl | (simp only [List.length_drop, List.length_take]; rfl)) ?_; (with_reducible refine (Go.Proofs.YtbbbjjfecblhpaaGreat.H.quittanceref03_Month.calls x109000_1 x109001_2 t111 _ A15.out).mono ?_); rintro e w' ⟨rfl, ⟨nd, rfl⟩⟩; refine ⟨_, rfl, ?_⟩; (try (rw [drewN_self wr]; generalize hq_ : World.drewN wr _ = wr; have n0_ : Aside0 (wr.heap[gb106]? = some (.cells #[.int .i64 0, .int .i64 0, .int .i64 0] 78 (0, 0))) := ⟨by rw [← hq_]; exact (by (with_reducible repeat (first | refine blk_drewN ?_ _ | refine blk_drew ?_ | refine blk_alloc ?_ _)); exact BK106.out)⟩; have n1_ : Aside0 (wr.heap[gb108]? = some (.cells #[.int .i64 x109000_1, .int .i64 x109001_2, .int .i64 0] 78 (0, 0))) := ⟨by rw [← hq_]; exact (by (with_reducible repeat (first | refine blk_drewN ?_ _ | refine blk_drew ?_ | refine blk_alloc ?_ _)); exact BK108.out)⟩; have n2_ : Aside0 (Below w.heap.size w wr) := ⟨by rw [← hq_]; exact (by repeat (first | (with_reducible first | exact HB.out | apply below_alloc | apply pw_below_drewN | apply below_drew1 | refine below_set ?_ GE106.out | refine below_set ?_ GE108.out) | exact HB.out))⟩; clear BK106 BK108 HB hq_; have BK106 := n0_; have BK108 := n1_; have HB := n2_; clear n0_ n1_ n2_)); (try have hu106_0 : wr.cell? ⟨gb106, 0, none⟩ = some (.int .i64 0) := (blk_cell BK106.out 0).trans rfl); (try have hu106_1 : wr.cell? ⟨gb106, 1, none⟩ = some (.int .i64 0) := (blk_cell BK106.out 1).trans rfl); (try have hu106_2 : wr.cell? ⟨gb106, 2, none⟩ = some (.int .i64 0) := (blk_cell BK106.out 2).trans rfl); (try have hv106_0 := blk_frozen BK106.out 0); (try have hv106_1 := blk_frozen BK106.out 1); (try have hv106_2 := blk_frozen BK106.out 2); (try have hu108_0 : wr.cell? ⟨gb108, 0, none⟩ = some (.int .i64 x109000_1) := (blk_cell BK108.out 0).trans rfl); (try have hu108_1 : wr.cell? ⟨gb108, 1, none⟩ = some (.int .i64 x109001_2) := (blk_cell BK108.out 1).trans rfl); (try have hu108_2 : wr.cell? ⟨gb108, 2, none⟩ = some (.int .i64 0) := (blk_cell BK108.out 2).trans rfl); (try have hv108_0 := blk_frozen BK108.out 0); (try have hv108_1 := blk_frozen BK108.out 1); (try have hv108_2 := blk_frozen BK108.out 2)) | ((with_reducible refine gate_callee (f := 61) rfl ?_); refine goesL_ (some 43) rfl rfl Tryz.func61 (by kernel_rfl) rfl #[.int .i64 x109000_1, .int .i64 x109001_2] rfl (by (try simp only [List.map_toArray, List.map_cons, List.map_nil]); first | done | rfl | (simp only [List.length_drop, List.length_take]; rfl)) ?_; (with_reducible refine (Go.Proofs.YtbbbjjfecblhpaaGreat.H.quittanceref03_Month.calls x109000_1 x109001_2 t112 _ A17.out).mono ?_); rintro e w' ⟨rfl, ⟨nd, rfl⟩⟩; refine ⟨_, rfl, ?_⟩; (try (rw [drewN_self wr]; generalize hq_ : World.drewN wr _ = wr; have n0_ : Aside0 (wr.heap[gb106]? = some (.cells #[.int .i64 0, .int .i64 0, .int .i64 0] 78 (0, 0))) := ⟨by rw [← hq_]; exact (by (with_reducible repeat (first | refine blk_drewN ?_ _ | refine blk_drew ?_ | refine blk_alloc ?_ _)); exact BK106.out)⟩; have n1_ : Aside0 (wr.heap[gb108]? = some (.cells #[.int .i64 x109000_1, .int .i64 x109001_2, .int .i64 0] 78 (0, 0))) := ⟨by rw [← hq_]; exact (by (with_reducible repeat (first | refine blk_drewN ?_ _ | refine blk_drew ?_ | refine blk_alloc ?_ _)); exact BK108.out)⟩; have n2_ : Aside0 (Below w.heap.size w wr) := ⟨by rw [← hq_]; exact (by repeat (first | (with_reducible first | exact HB.out | apply below_alloc | apply pw_below_drewN | apply below_drew1 | refine below_set ?_ GE106.out | refine below_set ?_ GE108.out) | exact HB.out))⟩; clear BK106 BK108 HB hq_; have BK106 := n0_; have BK108 := n1_; have HB := n2_; clear n0_ n1_ n2_)); (try have hu106_0 : wr.cell? ⟨gb106, 0, none⟩ = some (.int .i64 0) := (blk_cell BK106.out 0).trans rfl); (try have hu106_1 : wr.cell? ⟨gb106, 1, none⟩ = some (.int .i64 0) := (blk_cell BK106.out 1).trans rfl); (try have hu106_2 : wr.cell? ⟨gb106, 2, none⟩ = some (.int .i64 0) := (blk_cell BK106.out 2).trans rfl); (try have hv106_0 := blk_frozen BK106.out 0); (try have hv106_1 := blk_frozen BK106.out 1); (try have hv106_2 := blk_frozen BK106.out 2); (try have hu108_0 : wr.cell? ⟨gb108, 0, none⟩ = some (.int .i64 x109000_1) := (blk_cell BK108.out 0).trans rfl); (try have hu108_1 : wr.cell? ⟨gb108, 1, none⟩ = some (.int .i64 x109001_2) := (blk_cell BK108.out 1).trans rfl); (try have hu108_2 : wr.cell? ⟨gb108, 2, none⟩ = some (.int .i64 0) := (blk_cell BK108.out 2).trans rfl); (try have hv108_0 := blk_frozen BK108.out 0); (try have hv108_1 := blk_frozen BK108.out 1); (try have hv108_2 := blk_frozen BK108.out 2)))
                go_roundg k2
                case measure => have := HK1.out; have := HK2.out; omega
                case rel => exact ⟨(wrap64 (x4_2 - t112)), (wrap64 (x109001_2 + 1)), (by first | rfl | (simp; done) | (simp [*]; done)), H', ⟨by have := HK1.out; have := HK2.out; omega⟩, ⟨by (with_reducible repeat (first | refine blk_drewN ?_ _ | refine blk_drew ?_ | refine blk_alloc ?_ _)); refine blk_far ?_ NB106_108.out _; (with_reducible repeat (first | refine blk_drewN ?_ _ | refine blk_drew ?_ | refine blk_alloc ?_ _)); exact BK106.out⟩, ⟨by (with_reducible repeat (first | refine blk_drewN ?_ _ | refine blk_drew ?_ | refine blk_alloc ?_ _)); refine blk_put (cs := #[.int .i64 x109000_1, .int .i64 x109001_2, .int .i64 0]) ?_ 1 _ rfl; (with_reducible repeat (first | refine blk_drewN ?_ _ | refine blk_drew ?_ | refine blk_alloc ?_ _)); exact BK108.out⟩, ⟨by repeat (first | (with_reducible first | exact HB.out | apply below_alloc | apply pw_below_drewN | apply below_drew1 | refine below_set ?_ GE106.out | refine below_set ?_ GE108.out) | exact HB.out)⟩⟩
              · rw [if_neg c16] at H
                have c16b0 : decide (t111 ≤ x4_2) = false := decide_eq_false c16
                clear c16
                simp only [Option.some.injEq, Prod.mk.injEq] at H
                obtain ⟨rfl, rfl, rfl, rfl⟩ := H
                have hnb20 := NB108_106.out
                have hnc20 := NB106_108.out
                have hcz21_0 : wr.cell? ⟨gb108, 0, none⟩ = some (.int .i64 x109000_1) := (blk_cell BK108.out 0).trans rfl
                have hcz21_1 : wr.cell? ⟨gb108, 1, none⟩ = some (.int .i64 x109001_2) := (blk_cell BK108.out 1).trans rfl
                have hcz21_2 : wr.cell? ⟨gb108, 2, none⟩ = some (.int .i64 0) := (blk_cell BK108.out 2).trans rfl
                have hfz21_0 := blk_frozen BK108.out 0
                have hfz21_1 := blk_frozen BK108.out 1
                have hfz21_2 := blk_frozen BK108.out 2
                go_wp2_with (first | ((with_reducible refine gate_callee (f := 61) rfl ?_); refine goesL_ (some 36) rfl rfl Tryz.func61 (by kernel_rfl) rfl #[.int .i64 x109000_1, .int .i64 x109001_2] rfl (by (try simp only [List.map_toArray, List.map_cons, List.map_nil]); first | done | rfl | (simp only [List.length_drop, List.length_take]; rfl)) ?_; (with_reducible refine (Go.Proofs.YtbbbjjfecblhpaaGreat.H.quittanceref03_Month.calls x109000_1 x109001_2 t111 _ A15.out).mono ?_); rintro e w' ⟨rfl, ⟨nd, rfl⟩⟩; refine ⟨_, rfl, ?_⟩; (try (rw [drewN_self wr]; generalize hq_ : World.drewN wr _ = wr; have n0_ : Aside0 (wr.heap[gb106]? = some (.cells #[.int .i64 0, .int .i64 0, .int .i64 0] 78 (0, 0))) := ⟨by rw [← hq_]; exact (by (with_reducible repeat (first | refine blk_drewN ?_ _ | refine blk_drew ?_ | refine blk_alloc ?_ _)); exact BK106.out)⟩; have n1_ : Aside0 (wr.heap[gb108]? = some (.cells #[.int .i64 x109000_1, .int .i64 x109001_2, .int .i64 0] 78 (0, 0))) := ⟨by rw [← hq_]; exact (by (with_reducible repeat (first | refine blk_drewN ?_ _ | refine blk_drew ?_ | refine blk_alloc ?_ _)); exact BK108.out)⟩; have n2_ : Aside0 (Below w.heap.size w wr) := ⟨by rw [← hq_]; exact (by repeat (first | (with_reducible first | exact HB.out | apply below_alloc | apply pw_below_drewN | apply below_drew1 | refine below_set ?_ GE106.out | refine below_set ?_ GE108.out) | exact HB.out))⟩; clear BK106 BK108 HB hq_; have BK106 := n0_; have BK108 := n1_; have HB := n2_; clear n0_ n1_ n2_)); (try have hu106_0 : wr.cell? ⟨gb106, 0, none⟩ = some (.int .i64 0) := (blk_cell BK106.out 0).trans rfl); (try have hu106_1 : wr.cell? ⟨gb106, 1, none⟩ = some (.int .i64 0) := (blk_cell BK106.out 1).trans rfl); (try have hu106_2 : wr.cell? ⟨gb106, 2, none⟩ = some (.int .i64 0) := (blk_cell BK106.out 2).trans rfl); (try have hv106_0 := blk_frozen BK106.out 0); (try have hv106_1 := blk_frozen BK106.out 1); (try have hv106_2 := blk_frozen BK106.out 2); (try have hu108_0 : wr.cell? ⟨gb108, 0, none⟩ = some (.int .i64 x109000_1) := (blk_cell BK108.out 0).trans rfl); (try have hu108_1 : wr.cell? ⟨gb108, 1, none⟩ = some (.int .i64 x109001_2) := (blk_cell BK108.out 1).trans rfl); (try have hu108_2 : wr.cell? ⟨gb108, 2, none⟩ = some (.int .i64 0) := (blk_cell BK108.out 2).trans rfl); (try have hv108_0 := blk_frozen BK108.out 0); (try have hv108_1 := blk_frozen BK108.out 1); (try have hv108_2 := blk_frozen BK108.out 2); have hcz22_0 : wr.cell? ⟨gb106, 0, none⟩ = some (.int .i64 0) := (blk_cell BK106.out 0).trans rfl; have hcz22_1 : wr.cell? ⟨gb106, 1, none⟩ = some (.int .i64 0) := (blk_cell BK106.out 1).trans rfl; have hcz22_2 : wr.cell? ⟨gb106, 2, none⟩ = some (.int .i64 0) := (blk_cell BK106.out 2).trans rfl; have hfz22_0 := blk_frozen BK106.out 0; have hfz22_1 := blk_frozen BK106.out 1; have hfz22_2 := blk_frozen BK106.out 2))
                refine bodyPost_ret (results_ct rfl _ _ gb106 78 #[.int .i64 x109000_1, .int .i64 x109001_2, .int .i64 (wrap64 (x4_2 + 1))] (0, 0) _ rfl (by (with_reducible repeat (first | refine blk_drewN ?_ _ | refine blk_drew ?_ | refine blk_alloc ?_ _)); refine blk_put (cs := #[.int .i64 x109000_1, .int .i64 x109001_2, .int .i64 0]) ?_ 2 _ rfl; (with_reducible repeat (first | refine blk_drewN ?_ _ | refine blk_drew ?_ | refine blk_alloc ?_ _)); refine blk_put (cs := #[.int .i64 x109000_1, .int .i64 0, .int .i64 0]) ?_ 1 _ rfl; (with_reducible repeat (first | refine blk_drewN ?_ _ | refine blk_drew ?_ | refine blk_alloc ?_ _)); refine blk_put (cs := #[.int .i64 0, .int .i64 0, .int .i64 0]) ?_ 0 _ rfl; (with_reducible repeat (first | refine blk_drewN ?_ _ | refine blk_drew ?_ | refine blk_alloc ?_ _)); refine blk_far ?_ NB106_108.out _; (with_reducible repeat (first | refine blk_drewN ?_ _ | refine blk_drew ?_ | refine blk_alloc ?_ _)); exact BK106.out) Tryz.underlying78 rfl (by kernel_rfl)) rfl ?_
                exact ⟨by first | rfl | (simp [errW_none, errW_some] <;> rfl) | (simp [*, errW_none, errW_some] <;> rfl), by repeat (first | (with_reducible first | exact HB.out | apply below_alloc | apply pw_below_drewN | apply below_drew1 | refine below_set ?_ GE106.out | refine below_set ?_ GE108.out) | exact HB.out)⟩
  · replace c3 := Bool.eq_false_iff.mpr c3
    subst c3
    have H1 : (some (0, 0, 0, 5)) = some (r1, r2, r3, r4) := by rw [if_neg (show ¬ (false = true) by decide)] at H; exact H
    clear H
    have H := H1
    clear H1
    simp only [Option.some.injEq, Prod.mk.injEq] at H
    obtain ⟨rfl, rfl, rfl, rfl⟩ := H
    go_enter Tryz.func40, Tryz.ntmps40
    go_wp2_with (first | ((with_reducible refine gate_dst (N := 2) rfl ?_); refine box_event ?hg (N := 2) ?hd (cs := #[.int .i64 0, .int .i64 0, .int .i64 0]) (t := 78) ?hr ?_; (case hd => rfl); (case hg => rfl); (case hr => first | (go_simp; done) | (go_simp; rfl)); intro gb106 hg w23 hbox hb; have n0_ := Aside0.mk (below_step (by repeat (first | (with_reducible first | exact HB.out | apply below_alloc | apply pw_below_drewN | apply below_drew1) | exact HB.out)) hb); have n1_ := Aside0.mk (hbox); have n2_ := Aside0.mk ((by rw [hg]; exact (below_size (by repeat (first | (with_reducible first | exact HB.out | apply below_alloc | apply pw_below_drewN | apply below_drew1) | exact HB.out))) : w.heap.size ≤ gb106)); have n3_ := Aside0.mk ((by rw [hg]; exact (below_size (by repeat (first | (with_reducible first | exact HB.out | apply below_alloc | apply pw_below_drewN | apply below_drew1) | exact HB.out))) : w.heap.size ≤ gb106)); clear HB; have HB := n0_; have BK106 := n1_; have GW106 := n2_; have GE106 := n3_; clear n0_ n1_ n2_ n3_; clear hb hbox hg; (try have hu106_0 : w23.cell? ⟨gb106, 0, none⟩ = some (.int .i64 0) := (blk_cell BK106.out 0).trans rfl); (try have hu106_1 : w23.cell? ⟨gb106, 1, none⟩ = some (.int .i64 0) := (blk_cell BK106.out 1).trans rfl); (try have hu106_2 : w23.cell? ⟨gb106, 2, none⟩ = some (.int .i64 0) := (blk_cell BK106.out 2).trans rfl); (try have hv106_0 := blk_frozen BK106.out 0); (try have hv106_1 := blk_frozen BK106.out 1); (try have hv106_2 := blk_frozen BK106.out 2)) | ((with_reducible refine gate_callee (f := 39) rfl ?_); refine goesL_ (some 7) rfl rfl Tryz.func39 (by kernel_rfl) rfl #[.int .i64 a0] rfl (by (try simp only [List.map_toArray, List.map_cons, List.map_nil]); first | done | rfl | (simp only [List.length_drop, List.length_take]; rfl)) ?_; (with_reducible refine (Go.Proofs.YtbbbjjfecblhpaaGreat.H.quittanceref03_Is.calls a0 false _ A2.out).mono ?_); rintro e w' ⟨rfl, ⟨nd, rfl⟩⟩; refine ⟨_, rfl, ?_⟩; (try (rw [drewN_self w23]; generalize hq_ : World.drewN w23 _ = w23; have n0_ : Aside0 (w23.heap[gb106]? = some (.cells #[.int .i64 0, .int .i64 0, .int .i64 0] 78 (0, 0))) := ⟨by rw [← hq_]; exact (by (with_reducible repeat (first | refine blk_drewN ?_ _ | refine blk_drew ?_ | refine blk_alloc ?_ _)); exact BK106.out)⟩; have n1_ : Aside0 (Below w.heap.size w w23) := ⟨by rw [← hq_]; exact (by repeat (first | (with_reducible first | exact HB.out | apply below_alloc | apply pw_below_drewN | apply below_drew1 | refine below_set ?_ GE106.out) | exact HB.out))⟩; clear BK106 HB hq_; have BK106 := n0_; have HB := n1_; clear n0_ n1_)); (try have hu106_0 : w23.cell? ⟨gb106, 0, none⟩ = some (.int .i64 0) := (blk_cell BK106.out 0).trans rfl); (try have hu106_1 : w23.cell? ⟨gb106, 1, none⟩ = some (.int .i64 0) := (blk_cell BK106.out 1).trans rfl); (try have hu106_2 : w23.cell? ⟨gb106, 2, none⟩ = some (.int .i64 0) := (blk_cell BK106.out 2).trans rfl); (try have hv106_0 := blk_frozen BK106.out 0); (try have hv106_1 := blk_frozen BK106.out 1); (try have hv106_2 := blk_frozen BK106.out 2); have hcz24_0 : w23.cell? ⟨gb106, 0, none⟩ = some (.int .i64 0) := (blk_cell BK106.out 0).trans rfl; have hcz24_1 : w23.cell? ⟨gb106, 1, none⟩ = some (.int .i64 0) := (blk_cell BK106.out 1).trans rfl; have hcz24_2 : w23.cell? ⟨gb106, 2, none⟩ = some (.int .i64 0) := (blk_cell BK106.out 2).trans rfl; have hfz24_0 := blk_frozen BK106.out 0; have hfz24_1 := blk_frozen BK106.out 1; have hfz24_2 := blk_frozen BK106.out 2))
    refine bodyPost_ret (results_ct rfl _ _ gb106 78 #[.int .i64 0, .int .i64 0, .int .i64 0] (0, 0) _ rfl (by (with_reducible repeat (first | refine blk_drewN ?_ _ | refine blk_drew ?_ | refine blk_alloc ?_ _)); refine blk_put (cs := #[.int .i64 0, .int .i64 0, .int .i64 0]) ?_ 2 _ rfl; (with_reducible repeat (first | refine blk_drewN ?_ _ | refine blk_drew ?_ | refine blk_alloc ?_ _)); refine blk_put (cs := #[.int .i64 0, .int .i64 0, .int .i64 0]) ?_ 1 _ rfl; (with_reducible repeat (first | refine blk_drewN ?_ _ | refine blk_drew ?_ | refine blk_alloc ?_ _)); refine blk_put (cs := #[.int .i64 0, .int .i64 0, .int .i64 0]) ?_ 0 _ rfl; (with_reducible repeat (first | refine blk_drewN ?_ _ | refine blk_drew ?_ | refine blk_alloc ?_ _)); exact BK106.out) Tryz.underlying78 rfl (by kernel_rfl)) rfl ?_
    exact ⟨by first | rfl | (simp [errW_none, errW_some] <;> rfl) | (simp [*, errW_none, errW_some] <;> rfl), by repeat (first | (with_reducible first | exact HB.out | apply below_alloc | apply pw_below_drewN | apply below_drew1 | refine below_set ?_ GE106.out) | exact HB.out)⟩

end Go.Proofs.YtbbbjjfecblhpaaGreat.PB
/- What the printed functions on dates come to, in plain numbers: which number a date has, which date a number is; and their contracts in these words. -/
namespace Go.Proofs.YtbbbjjfecblhpaaGreat.H
open Go.RowKit Go.Proofs.YtbbbjjfecblhpaaGreatW.PrintWords Go.Proofs.YtbbbjjfecblhpaaGreatW.PrintLast Go.Proofs.YtbbbjjfecblhpaaGreatW.PrintMore
open Go.Proofs.YtbbbjjfecblhpaaGreat.Math

theorem opens_bd {y : Int} (h1 : 1 ≤ y) (h2 : y ≤ 1000000) : -1000000 ≤ opens y ∧ opens y ≤ 400000000 := by unfold opens; omega

theorem month_test {y r i : Int} (h0 : 0 ≤ r) (h1 : r < 365 + leap y) (hi : 1 ≤ i) (hi2 : i ≤ 12) : (i < monthIn y r → mlen y i ≤ r - cum y i) ∧ (i = monthIn y r → ¬ mlen y i ≤ r - cum y i) := by
  obtain ⟨m1, m2, m3, m4⟩ := monthIn_spec h0 h1
  have hc := cum_succ y i hi hi2
  refine ⟨fun h => ?_, fun h => ?_⟩
  · have := cum_mono (y := y) hi h (by omega); omega
  · rw [← h] at m4; omega
theorem date_loop (d : Nat) : ∀ (k : Nat) (i y r : Int), 0 ≤ r → r < 365 + leap y → monthIn y r - i = d → d < k → 1 ≤ i →
    PB.civil_Date.l1 k y (r - cum y i) i = some (y, monthIn y r, r - cum y (monthIn y r) + 1, 0) := by
  induction d with
  | zero =>
    intro k i y r h0 h1 h2 h3 h4
    obtain ⟨k, rfl⟩ : ∃ m, k = m + 1 := ⟨k - 1, by omega⟩
    obtain ⟨m1, m2, m3, m4⟩ := monthIn_spec h0 h1
    have hl := leap_01 y
    have hb := cum_bd y (monthIn y r) m1 (by omega)
    have ht := (month_test h0 h1 h4 (by omega)).2 (by omega)
    simp only [PB.civil_Date.l1, civil_Month.f, Option.bind_some]
    obtain e : i = monthIn y r := by omega
    rw [if_neg ht, e, w64 (by omega) (by omega)]
  | succ d ih =>
    intro k i y r h0 h1 h2 h3 h4
    obtain ⟨k, rfl⟩ : ∃ m, k = m + 1 := ⟨k - 1, by omega⟩
    obtain ⟨m1, m2, m3, m4⟩ := monthIn_spec h0 h1
    have hl := leap_01 y
    have hb := cum_bd y i h4 (by omega)
    have hm := mlen_bd y i
    have hc := cum_succ y i h4 (by omega)
    have ht := (month_test h0 h1 h4 (by omega)).1 (by omega)
    simp only [PB.civil_Date.l1, civil_Month.f, Option.bind_some]
    rw [if_pos ht, w64 (by omega) (by omega), w64 (x := i + 1) (by omega) (by omega), show r - cum y i - mlen y i = r - cum y (i + 1) by omega]
    exact ih k (i + 1) y r h0 h1 (by omega) (by omega) (by omega)
theorem rdate_loop (d : Nat) : ∀ (k : Nat) (i y r z : Int), 0 ≤ r → r < 365 + leap y → monthIn y r - i = d → d < k → 1 ≤ i →
    PB.quittanceref03_Date.l1 k (r - cum y i) y i z = some (y, monthIn y r, r - cum y (monthIn y r) + 1, 0) := by
  induction d with
  | zero =>
    intro k i y r z h0 h1 h2 h3 h4
    obtain ⟨k, rfl⟩ : ∃ m, k = m + 1 := ⟨k - 1, by omega⟩
    obtain ⟨m1, m2, m3, m4⟩ := monthIn_spec h0 h1
    have hl := leap_01 y
    have hb := cum_bd y (monthIn y r) m1 (by omega)
    have ht := (month_test h0 h1 h4 (by omega)).2 (by omega)
    simp only [PB.quittanceref03_Date.l1, quittanceref03_Month.f, Option.bind_some]
    obtain e : i = monthIn y r := by omega
    rw [if_neg ht, e, w64 (by omega) (by omega)]
  | succ d ih =>
    intro k i y r z h0 h1 h2 h3 h4
    obtain ⟨k, rfl⟩ : ∃ m, k = m + 1 := ⟨k - 1, by omega⟩
    obtain ⟨m1, m2, m3, m4⟩ := monthIn_spec h0 h1
    have hl := leap_01 y
    have hb := cum_bd y i h4 (by omega)
    have hm := mlen_bd y i
    have hc := cum_succ y i h4 (by omega)
    have ht := (month_test h0 h1 h4 (by omega)).1 (by omega)
    simp only [PB.quittanceref03_Date.l1, quittanceref03_Month.f, Option.bind_some]
    rw [if_pos ht, w64 (by omega) (by omega), w64 (x := i + 1) (by omega) (by omega), show r - cum y i - mlen y i = r - cum y (i + 1) by omega]
    exact ih k (i + 1) y r z h0 h1 (by omega) (by omega) (by omega)

theorem date_in (k : Nat) (hk : 20 ≤ k) {n : Int} (h : isDay n) : PB.civil_Date.j2 k n (yearOf n) = some (date n) := by
  obtain ⟨k, rfl⟩ : ∃ m, k = m + 1 := ⟨k - 1, by omega⟩
  obtain ⟨y1, y2, y3, y4⟩ := yearOf_spec h
  have ho := opens_succ (yearOf n)
  obtain ⟨m1, m2, m3, m4⟩ := monthIn_spec (y := yearOf n) (r := n - opens (yearOf n)) (by omega) (by omega)
  have hb := opens_bd (y := yearOf n) (by omega) (by omega)
  obtain ⟨h1, h2⟩ := h
  simp only [PB.civil_Date.j2, civil_Opens.f]
  rw [if_pos (by omega)]
  simp only [Option.bind_some]
  have e := date_loop (monthIn (yearOf n) (n - opens (yearOf n)) - 1).toNat k 1 (yearOf n) (n - opens (yearOf n)) (by omega) (by omega) (by omega) (by omega) (by omega)
  have c1 : cum (yearOf n) 1 = 0 := rfl
  rw [c1, Int.sub_zero] at e
  rw [w64 (by omega) (by omega), e]
  rw [date_yes ⟨h1, h2⟩]
  rfl
theorem civDate (k : Nat) (hk : 30 ≤ k) (n : Int) : PB.civil_Date.f k n = some (date n) := by
  obtain ⟨k, rfl⟩ : ∃ m, k = m + 1 := ⟨k - 1, by omega⟩
  unfold PB.civil_Date.f
  simp only [PB.civil_Date.j0]
  by_cases h1 : n < -25567
  · rw [if_pos h1, date_no (by unfold isDay; omega)]; simp
  rw [if_neg h1]
  by_cases h2 : n > 84370
  · rw [decide_eq_true h2, date_no (by unfold isDay; omega)]; simp
  rw [decide_eq_false h2]
  simp only [Bool.false_eq_true, if_false]
  have hd : isDay n := ⟨by omega, by omega⟩
  obtain ⟨g1, g2, g3, g4⟩ := guess_spec hd
  have eg : wrap64 (1900 + wrap64 (Int.tdiv (wrap64 (n + 25567)) 366)) = guess n := by
    unfold guess
    rw [w64 (x := n + 25567) (by omega) (by omega), tdiv_pos (by omega), w64 (x := (n + 25567) / 366) (by omega) (by omega), w64 (by omega) (by omega)]
  rw [eg]
  obtain ⟨k, rfl⟩ : ∃ m, k = m + 2 := ⟨k - 2, by omega⟩
  have jd := date_in (k + 1) (by omega) hd
  have jd0 := date_in k (by omega) hd
  obtain ⟨y1, y2, y3, y4⟩ := yearOf_spec hd
  unfold yearOf at jd jd0 y2
  by_cases hlt : guess n < 2200
  · simp only [PB.civil_Date.l0, civil_Opens.f]
    rw [if_pos hlt, w64 (x := guess n + 1) (by omega) (by omega), if_pos (by omega)]
    simp only [Option.bind_some]
    by_cases hle : opens (guess n + 1) ≤ n
    · rw [if_pos hle]
      rw [if_pos hle] at jd jd0 y2
      by_cases hl2 : guess n + 1 < 2200
      · rw [if_pos hl2, w64 (x := guess n + 1 + 1) (by omega) (by omega), if_pos (by omega)]
        simp only [Option.bind_some]
        rw [if_neg (by rw [show guess n + 1 + 1 = guess n + 2 by omega]; omega)]
        exact jd0
      · rw [if_neg hl2]; exact jd0
    · rw [if_neg hle]
      rw [if_neg hle] at jd
      exact jd
  · have e : guess n = 2200 := by omega
    simp only [PB.civil_Date.l0]
    rw [if_neg hlt]
    have hle : ¬ opens (guess n + 1) ≤ n := fun hle => by rw [if_pos hle] at y2; omega
    rw [if_neg hle] at jd
    exact jd

theorem rdate_in (k : Nat) (hk : 20 ≤ k) {n : Int} (z : Int) (h : isDay n) : PB.quittanceref03_Date.l1 k (n - opens (yearOf n)) (yearOf n) 1 z = some (date n) := by
  obtain ⟨y1, y2, y3, y4⟩ := yearOf_spec h
  have ho := opens_succ (yearOf n)
  obtain ⟨m1, m2, m3, m4⟩ := monthIn_spec (y := yearOf n) (r := n - opens (yearOf n)) (by omega) (by omega)
  have e := rdate_loop (monthIn (yearOf n) (n - opens (yearOf n)) - 1).toNat k 1 (yearOf n) (n - opens (yearOf n)) z (by omega) (by omega) (by omega) (by omega) (by omega)
  have c1 : cum (yearOf n) 1 = 0 := rfl
  rw [c1, Int.sub_zero] at e
  rw [e]
  rw [date_yes h]
  rfl
theorem refDate (k : Nat) (hk : 30 ≤ k) (n : Int) : PB.quittanceref03_Date.f k n = some (date n) := by
  unfold PB.quittanceref03_Date.f
  simp only [quittanceref03_Is.f, Option.bind_some]
  by_cases hd : isDay n
  · rw [decide_eq_true hd]
    simp only [if_true]
    obtain ⟨g1, g2, g3, g4⟩ := guess_spec hd
    obtain ⟨h1, h2⟩ := id hd
    have e0 : wrap64 (n + 25567) = n + 25567 := w64 (by omega) (by omega)
    have eg : wrap64 (1900 + wrap64 (Int.tdiv (n + 25567) 366)) = guess n := by
      unfold guess
      rw [tdiv_pos (by omega), w64 (x := (n + 25567) / 366) (by omega) (by omega), w64 (by omega) (by omega)]
    rw [e0, eg]
    obtain ⟨k, rfl⟩ : ∃ m, k = m + 2 := ⟨k - 2, by omega⟩
    have jd := rdate_in (k + 1) (by omega) 0 hd
    have jd0 := rdate_in k (by omega) 0 hd
    obtain ⟨y1, y2, y3, y4⟩ := yearOf_spec hd
    have hob := opens_bd (y := guess n) (by omega) (by omega)
    have hob1 := opens_bd (y := guess n + 1) (by omega) (by omega)
    have hob2 := opens_bd (y := guess n + 2) (by omega) (by omega)
    unfold yearOf at jd jd0 y2
    simp only [PB.quittanceref03_Date.l0, quittanceref03_before.f]
    rw [w64 (x := guess n + 1) (by omega) (by omega), if_pos (by omega)]
    simp only [Option.bind_some]
    by_cases hle : opens (guess n + 1) ≤ n
    · rw [if_pos (by omega), w64 (x := guess n + 1 + 1) (by omega) (by omega), if_pos (by omega)]
      rw [if_pos hle] at jd0
      simp only [Option.bind_some]
      rw [if_neg (by rw [show guess n + 1 + 1 = guess n + 2 by omega]; omega)]
      rw [w64 (by omega) (by omega), show n + 25567 - (opens (guess n + 1) + 25567) = n - opens (guess n + 1) by omega]
      exact jd0
    · rw [if_neg (by omega), if_pos (by omega)]
      rw [if_neg hle] at jd
      simp only [Option.bind_some]
      rw [w64 (by omega) (by omega), show n + 25567 - (opens (guess n) + 25567) = n - opens (guess n) by omega]
      exact jd
  · rw [decide_eq_false hd]
    rw [date_no hd]; simp

/-! ### The contracts in these words -/
def civil_Number.f (y m d : Int) : Option (Int × Int) := some (number y m d)
def quittanceref03_Number.f (y m d : Int) : Option (Int × Int) := some (number y m d)
def civil_Date.f (n : Int) : Option (Int × Int × Int × Int) := some (date n)
theorem civil_Date.calls (a0 r1 r2 r3 r4 : Int) (w : World) (h : civil_Date.f a0 = some (r1, r2, r3, r4)) :
    Calls Tryz.prog 87 #[.int .i64 a0] w fun e w' => e = .returned (.tuple #[.agg #[.int .i64 r1, .int .i64 r2, .int .i64 r3], .int .i64 r4]) ∧ Below w.heap.size w w' :=
  PB.civil_Date.calls 30 a0 r1 r2 r3 r4 w ((civDate 30 (by omega) a0).trans h)
def quittanceref03_Date.f (n : Int) : Option (Int × Int × Int × Int) := some (date n)
theorem quittanceref03_Date.calls (a0 r1 r2 r3 r4 : Int) (w : World) (h : quittanceref03_Date.f a0 = some (r1, r2, r3, r4)) :
    Calls Tryz.prog 40 #[.int .i64 a0] w fun e w' => e = .returned (.tuple #[.agg #[.int .i64 r1, .int .i64 r2, .int .i64 r3], .int .i64 r4]) ∧ Below w.heap.size w w' :=
  PB.quittanceref03_Date.calls 30 a0 r1 r2 r3 r4 w ((refDate 30 (by omega) a0).trans h)
end Go.Proofs.YtbbbjjfecblhpaaGreat.H
-- Written by a program of this session (wip/tools/myprint.py) with the help of the printer of the kit; Lean checks it.
namespace Go.Proofs.YtbbbjjfecblhpaaGreat.PD
open Go.RowKit Go.Proofs.YtbbbjjfecblhpaaGreatW.PrintWords Go.Proofs.YtbbbjjfecblhpaaGreatW.PrintLast Go.Proofs.YtbbbjjfecblhpaaGreatW.PrintMore Go.Proofs.YtbbbjjfecblhpaaGreat.HW
attribute [local go_sem] run_makeFunc_ max2_int min2_int max_two min_two max_three min_three max_four min_four   -- for this text's walks alone
set_option linter.unusedVariables false
set_option linter.unusedSimpArgs false



def errW : Option Int → Value
  | none => .nilIface
  | some c => .iface 0 (.int .i64 c)
theorem errW_none : errW none = .nilIface := rfl
theorem errW_some (c : Int) : errW (some c) = .iface 0 (.int .i64 c) := rfl

-- the values' own types

end Go.Proofs.YtbbbjjfecblhpaaGreat.PD
-- Written by a program of this session (wip/tools/myprint.py) with the help of the printer of the kit; Lean checks it.
namespace Go.Proofs.YtbbbjjfecblhpaaGreat.PD
open Go.RowKit Go.Proofs.YtbbbjjfecblhpaaGreatW.PrintWords Go.Proofs.YtbbbjjfecblhpaaGreatW.PrintLast Go.Proofs.YtbbbjjfecblhpaaGreatW.PrintMore Go.Proofs.YtbbbjjfecblhpaaGreat.HW
attribute [local go_sem] run_makeFunc_ max2_int min2_int max_two min_two max_three min_three max_four min_four   -- for this text's walks alone
set_option linter.unusedVariables false
set_option linter.unusedSimpArgs false

/-! ### quittanceref06_thirty: function 42 -/
def quittanceref06_thirty.f (a0 : Int) : Option (Int) := (Go.Proofs.YtbbbjjfecblhpaaGreat.H.quittanceref03_Date.f a0).bind fun bt101 => (some (wrap64 ((wrap64 ((wrap64 (360 * bt101.1)) + (wrap64 (30 * bt101.2.1)))) + (mn bt101.2.2.1 30))))
set_option maxHeartbeats 8000000 in
set_option maxRecDepth 100000 in
theorem quittanceref06_thirty.calls (a0 : Int) (r : Int) (w : World) (h : quittanceref06_thirty.f a0 = some r) :
    Calls Tryz.prog 42 #[.int .i64 a0] w fun e w' => e = .returned (.int .i64 r) ∧ Below w.heap.size w w' := by
  have hu78 := Tryz.underlying78
  have HB := Aside0.mk (Below.refl w.heap.size w)
  have H : ((Go.Proofs.YtbbbjjfecblhpaaGreat.H.quittanceref03_Date.f a0).bind fun bt101 => (some (wrap64 ((wrap64 ((wrap64 (360 * bt101.1)) + (wrap64 (30 * bt101.2.1)))) + (mn bt101.2.2.1 30))))) = some r := h
  clear h
  replace H := Option.bind_eq_some_iff.mp H
  obtain ⟨⟨t101, t102, t103, t104⟩, A20, H⟩ := H
  replace H : (some (wrap64 ((wrap64 ((wrap64 (360 * t101)) + (wrap64 (30 * t102)))) + (mn t103 30)))) = some r := H
  have A2 := Aside0.mk A20
  clear A20
  obtain ⟨ji3, hji3⟩ : ∃ j_ : Int, (mn t103 30) = j_ := ⟨_, rfl⟩
  replace H : (some (wrap64 ((wrap64 ((wrap64 (360 * t101)) + (wrap64 (30 * t102)))) + (ji3)))) = some r := by first | (rw [hji3] at H; exact H) | (simp only [hji3] at H ⊢; exact H)
  (try rw [hji3] at A2)
  (try (have hji3h : ji3 ≤ 30 := by (rw [← hji3]; unfold mn; (repeat' split) <;> omega)))
  (try (have hji3g : ji3 ≤ 64 := by omega))
  have hji3_ : (if 30 < t103 then 30 else t103) = ji3 := hji3
  obtain rfl := Option.some.inj H
  go_enter Tryz.func42, Tryz.ntmps42
  go_wp2_with (first | ((with_reducible refine gate_callee (f := 40) rfl ?_); refine goesL_ (some 7) rfl rfl Tryz.func40 (by kernel_rfl) rfl #[.int .i64 a0] rfl (by (try simp only [List.map_toArray, List.map_cons, List.map_nil]); first | done | rfl | (simp only [List.length_drop, List.length_take]; rfl)) ?_; (with_reducible refine (Go.Proofs.YtbbbjjfecblhpaaGreat.H.quittanceref03_Date.calls a0 t101 t102 t103 t104 _ A2.out).mono ?_); rintro e w4 ⟨rfl, hb⟩; refine ⟨_, rfl, ?_⟩; have n0_ := Aside0.mk (below_step (by repeat (first | (with_reducible first | exact HB.out | apply below_alloc | apply pw_below_drewN | apply below_drew1) | exact HB.out)) hb); clear HB; have HB := n0_; clear n0_; (try clear hb); (try clear hb2); (try clear hk); (try clear hi)) | ((with_reducible refine gate_dst (N := 3) rfl ?_); refine box_event ?hg (N := 3) ?hd (cs := #[.int .i64 0, .int .i64 0, .int .i64 0]) (t := 78) ?hr ?_; (case hd => rfl); (case hg => rfl); (case hr => first | (go_simp; done) | (go_simp; rfl)); intro gb105 hg w5 hbox hb; have n0_ := Aside0.mk (below_step (by repeat (first | (with_reducible first | exact HB.out | apply below_alloc | apply pw_below_drewN | apply below_drew1) | exact HB.out)) hb); have n1_ := Aside0.mk (hbox); have n2_ := Aside0.mk ((by rw [hg]; exact (below_size (by repeat (first | (with_reducible first | exact HB.out | apply below_alloc | apply pw_below_drewN | apply below_drew1) | exact HB.out))) : w.heap.size ≤ gb105)); have n3_ := Aside0.mk ((by rw [hg]; exact (below_size (by repeat (first | (with_reducible first | exact HB.out | apply below_alloc | apply pw_below_drewN | apply below_drew1) | exact HB.out))) : w.heap.size ≤ gb105)); clear HB; have HB := n0_; have BK105 := n1_; have GW105 := n2_; have GE105 := n3_; clear n0_ n1_ n2_ n3_; clear hb hbox hg; (try have hu105_0 : w5.cell? ⟨gb105, 0, none⟩ = some (.int .i64 0) := (blk_cell BK105.out 0).trans rfl); (try have hu105_1 : w5.cell? ⟨gb105, 1, none⟩ = some (.int .i64 0) := (blk_cell BK105.out 1).trans rfl); (try have hu105_2 : w5.cell? ⟨gb105, 2, none⟩ = some (.int .i64 0) := (blk_cell BK105.out 2).trans rfl); (try have hv105_0 := blk_frozen BK105.out 0); (try have hv105_1 := blk_frozen BK105.out 1); (try have hv105_2 := blk_frozen BK105.out 2); have hcz6_0 : w5.cell? ⟨gb105, 0, none⟩ = some (.int .i64 0) := (blk_cell BK105.out 0).trans rfl; have hcz6_1 : w5.cell? ⟨gb105, 1, none⟩ = some (.int .i64 0) := (blk_cell BK105.out 1).trans rfl; have hcz6_2 : w5.cell? ⟨gb105, 2, none⟩ = some (.int .i64 0) := (blk_cell BK105.out 2).trans rfl; have hfz6_0 := blk_frozen BK105.out 0; have hfz6_1 := blk_frozen BK105.out 1; have hfz6_2 := blk_frozen BK105.out 2))
  go_ret
  exact ⟨by first | rfl | (simp [errW_none, errW_some] <;> rfl) | (simp only [← hji3]; first | rfl | (simp [errW_none, errW_some] <;> rfl)) | (simp [*, errW_none, errW_some] <;> rfl), by repeat (first | (with_reducible first | exact HB.out | apply below_alloc | apply pw_below_drewN | apply below_drew1 | refine below_set ?_ GE105.out) | exact HB.out)⟩

/-! ### quittanceref06_One: function 18 -/
def quittanceref06_One.f (a0 : Int) (a1 : Int) : Option (Int) := (Go.Proofs.YtbbbjjfecblhpaaGreat.H.quittanceref03_Date.f a1).bind fun bt106 => (if a0 = 2 then (some 1) else (if a0 = 3 then ((Go.Proofs.YtbbbjjfecblhpaaGreat.H.quittanceref03_Long.f bt106.1).bind fun t111 => (if t111 = true then (some 365) else (some 366))) else ((quittanceref06_thirty.f (wrap64 (a1 + 1))).bind fun t112 => ((quittanceref06_thirty.f a1).bind fun t113 => (some (wrap64 (t112 - t113)))))))
set_option maxHeartbeats 8000000 in
set_option maxRecDepth 100000 in
theorem quittanceref06_One.calls (a0 : Int) (a1 : Int) (r : Int) (w : World) (h : quittanceref06_One.f a0 a1 = some r) :
    Calls Tryz.prog 18 #[.int .i64 a0, .int .i64 a1] w fun e w' => e = .returned (.int .i64 r) ∧ Below w.heap.size w w' := by
  have hu78 := Tryz.underlying78
  have HB := Aside0.mk (Below.refl w.heap.size w)
  have H : ((Go.Proofs.YtbbbjjfecblhpaaGreat.H.quittanceref03_Date.f a1).bind fun bt106 => (if a0 = 2 then (some 1) else (if a0 = 3 then ((Go.Proofs.YtbbbjjfecblhpaaGreat.H.quittanceref03_Long.f bt106.1).bind fun t111 => (if t111 = true then (some 365) else (some 366))) else ((quittanceref06_thirty.f (wrap64 (a1 + 1))).bind fun t112 => ((quittanceref06_thirty.f a1).bind fun t113 => (some (wrap64 (t112 - t113)))))))) = some r := h
  clear h
  replace H := Option.bind_eq_some_iff.mp H
  obtain ⟨⟨t106, t107, t108, t109⟩, A30, H⟩ := H
  replace H : (if a0 = 2 then (some 1) else (if a0 = 3 then ((Go.Proofs.YtbbbjjfecblhpaaGreat.H.quittanceref03_Long.f t106).bind fun t111 => (if t111 = true then (some 365) else (some 366))) else ((quittanceref06_thirty.f (wrap64 (a1 + 1))).bind fun t112 => ((quittanceref06_thirty.f a1).bind fun t113 => (some (wrap64 (t112 - t113))))))) = some r := H
  have A3 := Aside0.mk A30
  clear A30
  by_cases c4 : a0 = 2
  · rw [if_pos c4] at H
    have c4b0 : (a0 == 2) = true := beq_iff_eq.mpr c4
    have c4b1 : (a0 != 2) = false := bne_eq_false_iff_eq.mpr c4
    clear c4
    obtain rfl := Option.some.inj H
    go_enter Tryz.func18, Tryz.ntmps18
    go_wp2_with (first | ((with_reducible refine gate_callee (f := 40) rfl ?_); refine goesL_ (some 9) rfl rfl Tryz.func40 (by kernel_rfl) rfl #[.int .i64 a1] rfl (by (try simp only [List.map_toArray, List.map_cons, List.map_nil]); first | done | rfl | (simp only [List.length_drop, List.length_take]; rfl)) ?_; (with_reducible refine (Go.Proofs.YtbbbjjfecblhpaaGreat.H.quittanceref03_Date.calls a1 t106 t107 t108 t109 _ A3.out).mono ?_); rintro e w5 ⟨rfl, hb⟩; refine ⟨_, rfl, ?_⟩; have n0_ := Aside0.mk (below_step (by repeat (first | (with_reducible first | exact HB.out | apply below_alloc | apply pw_below_drewN | apply below_drew1) | exact HB.out)) hb); clear HB; have HB := n0_; clear n0_; (try clear hb); (try clear hb2); (try clear hk); (try clear hi)) | ((with_reducible refine gate_dst (N := 5) rfl ?_); refine box_event ?hg (N := 5) ?hd (cs := #[.int .i64 0, .int .i64 0, .int .i64 0]) (t := 78) ?hr ?_; (case hd => rfl); (case hg => rfl); (case hr => first | (go_simp; done) | (go_simp; rfl)); intro gb110 hg w6 hbox hb; have n0_ := Aside0.mk (below_step (by repeat (first | (with_reducible first | exact HB.out | apply below_alloc | apply pw_below_drewN | apply below_drew1) | exact HB.out)) hb); have n1_ := Aside0.mk (hbox); have n2_ := Aside0.mk ((by rw [hg]; exact (below_size (by repeat (first | (with_reducible first | exact HB.out | apply below_alloc | apply pw_below_drewN | apply below_drew1) | exact HB.out))) : w.heap.size ≤ gb110)); have n3_ := Aside0.mk ((by rw [hg]; exact (below_size (by repeat (first | (with_reducible first | exact HB.out | apply below_alloc | apply pw_below_drewN | apply below_drew1) | exact HB.out))) : w.heap.size ≤ gb110)); clear HB; have HB := n0_; have BK110 := n1_; have GW110 := n2_; have GE110 := n3_; clear n0_ n1_ n2_ n3_; clear hb hbox hg; (try have hu110_0 : w6.cell? ⟨gb110, 0, none⟩ = some (.int .i64 0) := (blk_cell BK110.out 0).trans rfl); (try have hu110_1 : w6.cell? ⟨gb110, 1, none⟩ = some (.int .i64 0) := (blk_cell BK110.out 1).trans rfl); (try have hu110_2 : w6.cell? ⟨gb110, 2, none⟩ = some (.int .i64 0) := (blk_cell BK110.out 2).trans rfl); (try have hv110_0 := blk_frozen BK110.out 0); (try have hv110_1 := blk_frozen BK110.out 1); (try have hv110_2 := blk_frozen BK110.out 2); have hcz7_0 : w6.cell? ⟨gb110, 0, none⟩ = some (.int .i64 0) := (blk_cell BK110.out 0).trans rfl; have hcz7_1 : w6.cell? ⟨gb110, 1, none⟩ = some (.int .i64 0) := (blk_cell BK110.out 1).trans rfl; have hcz7_2 : w6.cell? ⟨gb110, 2, none⟩ = some (.int .i64 0) := (blk_cell BK110.out 2).trans rfl; have hfz7_0 := blk_frozen BK110.out 0; have hfz7_1 := blk_frozen BK110.out 1; have hfz7_2 := blk_frozen BK110.out 2))
    go_ret
    exact ⟨by first | rfl | (simp [errW_none, errW_some] <;> rfl) | (simp [*, errW_none, errW_some] <;> rfl), by repeat (first | (with_reducible first | exact HB.out | apply below_alloc | apply pw_below_drewN | apply below_drew1 | refine below_set ?_ GE110.out) | exact HB.out)⟩
  · rw [if_neg c4] at H
    have c4b0 : (a0 == 2) = false := beq_eq_false_iff_ne.mpr c4
    have c4b1 : (a0 != 2) = true := bne_iff_ne.mpr c4
    by_cases c8 : a0 = 3
    · rw [if_pos c8] at H
      have c8b0 : (a0 == 3) = true := beq_iff_eq.mpr c8
      have c8b1 : (a0 != 3) = false := bne_eq_false_iff_eq.mpr c8
      clear c8
      replace H := Option.bind_eq_some_iff.mp H
      obtain ⟨t111, A90, H⟩ := H
      replace H : (if t111 = true then (some 365) else (some 366)) = some r := H
      have A9 := Aside0.mk A90
      clear A90
      by_cases c10 : t111 = true
      · subst c10
        have H1 : (some 365) = some r := by rw [if_pos rfl] at H; exact H
        clear H
        have H := H1
        clear H1
        obtain rfl := Option.some.inj H
        go_enter Tryz.func18, Tryz.ntmps18
        go_wp2_with (first | ((with_reducible refine gate_callee (f := 40) rfl ?_); refine goesL_ (some 9) rfl rfl Tryz.func40 (by kernel_rfl) rfl #[.int .i64 a1] rfl (by (try simp only [List.map_toArray, List.map_cons, List.map_nil]); first | done | rfl | (simp only [List.length_drop, List.length_take]; rfl)) ?_; (with_reducible refine (Go.Proofs.YtbbbjjfecblhpaaGreat.H.quittanceref03_Date.calls a1 t106 t107 t108 t109 _ A3.out).mono ?_); rintro e w11 ⟨rfl, hb⟩; refine ⟨_, rfl, ?_⟩; have n0_ := Aside0.mk (below_step (by repeat (first | (with_reducible first | exact HB.out | apply below_alloc | apply pw_below_drewN | apply below_drew1) | exact HB.out)) hb); clear HB; have HB := n0_; clear n0_; (try clear hb); (try clear hb2); (try clear hk); (try clear hi)) | ((with_reducible refine gate_dst (N := 5) rfl ?_); refine box_event ?hg (N := 5) ?hd (cs := #[.int .i64 0, .int .i64 0, .int .i64 0]) (t := 78) ?hr ?_; (case hd => rfl); (case hg => rfl); (case hr => first | (go_simp; done) | (go_simp; rfl)); intro gb110 hg w12 hbox hb; have n0_ := Aside0.mk (below_step (by repeat (first | (with_reducible first | exact HB.out | apply below_alloc | apply pw_below_drewN | apply below_drew1) | exact HB.out)) hb); have n1_ := Aside0.mk (hbox); have n2_ := Aside0.mk ((by rw [hg]; exact (below_size (by repeat (first | (with_reducible first | exact HB.out | apply below_alloc | apply pw_below_drewN | apply below_drew1) | exact HB.out))) : w.heap.size ≤ gb110)); have n3_ := Aside0.mk ((by rw [hg]; exact (below_size (by repeat (first | (with_reducible first | exact HB.out | apply below_alloc | apply pw_below_drewN | apply below_drew1) | exact HB.out))) : w.heap.size ≤ gb110)); clear HB; have HB := n0_; have BK110 := n1_; have GW110 := n2_; have GE110 := n3_; clear n0_ n1_ n2_ n3_; clear hb hbox hg; (try have hu110_0 : w12.cell? ⟨gb110, 0, none⟩ = some (.int .i64 0) := (blk_cell BK110.out 0).trans rfl); (try have hu110_1 : w12.cell? ⟨gb110, 1, none⟩ = some (.int .i64 0) := (blk_cell BK110.out 1).trans rfl); (try have hu110_2 : w12.cell? ⟨gb110, 2, none⟩ = some (.int .i64 0) := (blk_cell BK110.out 2).trans rfl); (try have hv110_0 := blk_frozen BK110.out 0); (try have hv110_1 := blk_frozen BK110.out 1); (try have hv110_2 := blk_frozen BK110.out 2); have hcz13_0 : w12.cell? ⟨gb110, 0, none⟩ = some (.int .i64 0) := (blk_cell BK110.out 0).trans rfl; have hcz13_1 : w12.cell? ⟨gb110, 1, none⟩ = some (.int .i64 0) := (blk_cell BK110.out 1).trans rfl; have hcz13_2 : w12.cell? ⟨gb110, 2, none⟩ = some (.int .i64 0) := (blk_cell BK110.out 2).trans rfl; have hfz13_0 := blk_frozen BK110.out 0; have hfz13_1 := blk_frozen BK110.out 1; have hfz13_2 := blk_frozen BK110.out 2) | ((with_reducible refine gate_callee (f := 41) rfl ?_); refine goesL_ (some 19) rfl rfl Tryz.func41 (by kernel_rfl) rfl #[.int .i64 t106] rfl (by (try simp only [List.map_toArray, List.map_cons, List.map_nil]); first | done | rfl | (simp only [List.length_drop, List.length_take]; rfl)) ?_; (with_reducible refine (Go.Proofs.YtbbbjjfecblhpaaGreat.H.quittanceref03_Long.calls t106 true _ A9.out).mono ?_); rintro e w' ⟨rfl, ⟨nd, rfl⟩⟩; refine ⟨_, rfl, ?_⟩))
        go_ret
        exact ⟨by first | rfl | (simp [errW_none, errW_some] <;> rfl) | (simp [*, errW_none, errW_some] <;> rfl), by repeat (first | (with_reducible first | exact HB.out | apply below_alloc | apply pw_below_drewN | apply below_drew1 | refine below_set ?_ GE110.out) | exact HB.out)⟩
      · replace c10 := Bool.eq_false_iff.mpr c10
        subst c10
        have H1 : (some 366) = some r := by rw [if_neg (show ¬ (false = true) by decide)] at H; exact H
        clear H
        have H := H1
        clear H1
        obtain rfl := Option.some.inj H
        go_enter Tryz.func18, Tryz.ntmps18
        go_wp2_with (first | ((with_reducible refine gate_callee (f := 40) rfl ?_); refine goesL_ (some 9) rfl rfl Tryz.func40 (by kernel_rfl) rfl #[.int .i64 a1] rfl (by (try simp only [List.map_toArray, List.map_cons, List.map_nil]); first | done | rfl | (simp only [List.length_drop, List.length_take]; rfl)) ?_; (with_reducible refine (Go.Proofs.YtbbbjjfecblhpaaGreat.H.quittanceref03_Date.calls a1 t106 t107 t108 t109 _ A3.out).mono ?_); rintro e w14 ⟨rfl, hb⟩; refine ⟨_, rfl, ?_⟩; have n0_ := Aside0.mk (below_step (by repeat (first | (with_reducible first | exact HB.out | apply below_alloc | apply pw_below_drewN | apply below_drew1) | exact HB.out)) hb); clear HB; have HB := n0_; clear n0_; (try clear hb); (try clear hb2); (try clear hk); (try clear hi)) | ((with_reducible refine gate_dst (N := 5) rfl ?_); refine box_event ?hg (N := 5) ?hd (cs := #[.int .i64 0, .int .i64 0, .int .i64 0]) (t := 78) ?hr ?_; (case hd => rfl); (case hg => rfl); (case hr => first | (go_simp; done) | (go_simp; rfl)); intro gb110 hg w15 hbox hb; have n0_ := Aside0.mk (below_step (by repeat (first | (with_reducible first | exact HB.out | apply below_alloc | apply pw_below_drewN | apply below_drew1) | exact HB.out)) hb); have n1_ := Aside0.mk (hbox); have n2_ := Aside0.mk ((by rw [hg]; exact (below_size (by repeat (first | (with_reducible first | exact HB.out | apply below_alloc | apply pw_below_drewN | apply below_drew1) | exact HB.out))) : w.heap.size ≤ gb110)); have n3_ := Aside0.mk ((by rw [hg]; exact (below_size (by repeat (first | (with_reducible first | exact HB.out | apply below_alloc | apply pw_below_drewN | apply below_drew1) | exact HB.out))) : w.heap.size ≤ gb110)); clear HB; have HB := n0_; have BK110 := n1_; have GW110 := n2_; have GE110 := n3_; clear n0_ n1_ n2_ n3_; clear hb hbox hg; (try have hu110_0 : w15.cell? ⟨gb110, 0, none⟩ = some (.int .i64 0) := (blk_cell BK110.out 0).trans rfl); (try have hu110_1 : w15.cell? ⟨gb110, 1, none⟩ = some (.int .i64 0) := (blk_cell BK110.out 1).trans rfl); (try have hu110_2 : w15.cell? ⟨gb110, 2, none⟩ = some (.int .i64 0) := (blk_cell BK110.out 2).trans rfl); (try have hv110_0 := blk_frozen BK110.out 0); (try have hv110_1 := blk_frozen BK110.out 1); (try have hv110_2 := blk_frozen BK110.out 2); have hcz16_0 : w15.cell? ⟨gb110, 0, none⟩ = some (.int .i64 0) := (blk_cell BK110.out 0).trans rfl; have hcz16_1 : w15.cell? ⟨gb110, 1, none⟩ = some (.int .i64 0) := (blk_cell BK110.out 1).trans rfl; have hcz16_2 : w15.cell? ⟨gb110, 2, none⟩ = some (.int .i64 0) := (blk_cell BK110.out 2).trans rfl; have hfz16_0 := blk_frozen BK110.out 0; have hfz16_1 := blk_frozen BK110.out 1; have hfz16_2 := blk_frozen BK110.out 2) | ((with_reducible refine gate_callee (f := 41) rfl ?_); refine goesL_ (some 19) rfl rfl Tryz.func41 (by kernel_rfl) rfl #[.int .i64 t106] rfl (by (try simp only [List.map_toArray, List.map_cons, List.map_nil]); first | done | rfl | (simp only [List.length_drop, List.length_take]; rfl)) ?_; (with_reducible refine (Go.Proofs.YtbbbjjfecblhpaaGreat.H.quittanceref03_Long.calls t106 false _ A9.out).mono ?_); rintro e w' ⟨rfl, ⟨nd, rfl⟩⟩; refine ⟨_, rfl, ?_⟩))
        go_ret
        exact ⟨by first | rfl | (simp [errW_none, errW_some] <;> rfl) | (simp [*, errW_none, errW_some] <;> rfl), by repeat (first | (with_reducible first | exact HB.out | apply below_alloc | apply pw_below_drewN | apply below_drew1 | refine below_set ?_ GE110.out) | exact HB.out)⟩
    · rw [if_neg c8] at H
      have c8b0 : (a0 == 3) = false := beq_eq_false_iff_ne.mpr c8
      have c8b1 : (a0 != 3) = true := bne_iff_ne.mpr c8
      replace H := Option.bind_eq_some_iff.mp H
      obtain ⟨t112, A170, H⟩ := H
      replace H : ((quittanceref06_thirty.f a1).bind fun t113 => (some (wrap64 (t112 - t113)))) = some r := H
      have A17 := Aside0.mk A170
      clear A170
      replace H := Option.bind_eq_some_iff.mp H
      obtain ⟨t113, A180, H⟩ := H
      replace H : (some (wrap64 (t112 - t113))) = some r := H
      have A18 := Aside0.mk A180
      clear A180
      obtain rfl := Option.some.inj H
      go_enter Tryz.func18, Tryz.ntmps18
      go_wp2_with (first | ((with_reducible refine gate_callee (f := 40) rfl ?_); refine goesL_ (some 9) rfl rfl Tryz.func40 (by kernel_rfl) rfl #[.int .i64 a1] rfl (by (try simp only [List.map_toArray, List.map_cons, List.map_nil]); first | done | rfl | (simp only [List.length_drop, List.length_take]; rfl)) ?_; (with_reducible refine (Go.Proofs.YtbbbjjfecblhpaaGreat.H.quittanceref03_Date.calls a1 t106 t107 t108 t109 _ A3.out).mono ?_); rintro e w19 ⟨rfl, hb⟩; refine ⟨_, rfl, ?_⟩; have n0_ := Aside0.mk (below_step (by repeat (first | (with_reducible first | exact HB.out | apply below_alloc | apply pw_below_drewN | apply below_drew1) | exact HB.out)) hb); clear HB; have HB := n0_; clear n0_; (try clear hb); (try clear hb2); (try clear hk); (try clear hi)) | ((with_reducible refine gate_dst (N := 5) rfl ?_); refine box_event ?hg (N := 5) ?hd (cs := #[.int .i64 0, .int .i64 0, .int .i64 0]) (t := 78) ?hr ?_; (case hd => rfl); (case hg => rfl); (case hr => first | (go_simp; done) | (go_simp; rfl)); intro gb110 hg w20 hbox hb; have n0_ := Aside0.mk (below_step (by repeat (first | (with_reducible first | exact HB.out | apply below_alloc | apply pw_below_drewN | apply below_drew1) | exact HB.out)) hb); have n1_ := Aside0.mk (hbox); have n2_ := Aside0.mk ((by rw [hg]; exact (below_size (by repeat (first | (with_reducible first | exact HB.out | apply below_alloc | apply pw_below_drewN | apply below_drew1) | exact HB.out))) : w.heap.size ≤ gb110)); have n3_ := Aside0.mk ((by rw [hg]; exact (below_size (by repeat (first | (with_reducible first | exact HB.out | apply below_alloc | apply pw_below_drewN | apply below_drew1) | exact HB.out))) : w.heap.size ≤ gb110)); clear HB; have HB := n0_; have BK110 := n1_; have GW110 := n2_; have GE110 := n3_; clear n0_ n1_ n2_ n3_; clear hb hbox hg; (try have hu110_0 : w20.cell? ⟨gb110, 0, none⟩ = some (.int .i64 0) := (blk_cell BK110.out 0).trans rfl); (try have hu110_1 : w20.cell? ⟨gb110, 1, none⟩ = some (.int .i64 0) := (blk_cell BK110.out 1).trans rfl); (try have hu110_2 : w20.cell? ⟨gb110, 2, none⟩ = some (.int .i64 0) := (blk_cell BK110.out 2).trans rfl); (try have hv110_0 := blk_frozen BK110.out 0); (try have hv110_1 := blk_frozen BK110.out 1); (try have hv110_2 := blk_frozen BK110.out 2); have hcz21_0 : w20.cell? ⟨gb110, 0, none⟩ = some (.int .i64 0) := (blk_cell BK110.out 0).trans rfl; have hcz21_1 : w20.cell? ⟨gb110, 1, none⟩ = some (.int .i64 0) := (blk_cell BK110.out 1).trans rfl; have hcz21_2 : w20.cell? ⟨gb110, 2, none⟩ = some (.int .i64 0) := (blk_cell BK110.out 2).trans rfl; have hfz21_0 := blk_frozen BK110.out 0; have hfz21_1 := blk_frozen BK110.out 1; have hfz21_2 := blk_frozen BK110.out 2) | ((with_reducible refine gate_callee (f := 42) rfl ?_); refine goesL_ (some 22) rfl rfl Tryz.func42 (by kernel_rfl) rfl #[.int .i64 (wrap64 (a1 + 1))] rfl (by (try simp only [List.map_toArray, List.map_cons, List.map_nil]); first | done | rfl | (simp only [List.length_drop, List.length_take]; rfl)) ?_; (with_reducible refine (quittanceref06_thirty.calls (wrap64 (a1 + 1)) t112 _ A17.out).mono ?_); rintro e w22 ⟨rfl, hb⟩; refine ⟨_, rfl, ?_⟩; have n0_ := Aside0.mk (blk_below (g := gb110) (o := .cells #[.int .i64 t106, .int .i64 t107, .int .i64 t108] 78 (0, 0)) (by (with_reducible repeat (first | refine blk_drewN ?_ _ | refine blk_drew ?_ | refine blk_alloc ?_ _)); refine blk_put (cs := #[.int .i64 t106, .int .i64 t107, .int .i64 0]) ?_ 2 _ rfl; (with_reducible repeat (first | refine blk_drewN ?_ _ | refine blk_drew ?_ | refine blk_alloc ?_ _)); refine blk_put (cs := #[.int .i64 t106, .int .i64 0, .int .i64 0]) ?_ 1 _ rfl; (with_reducible repeat (first | refine blk_drewN ?_ _ | refine blk_drew ?_ | refine blk_alloc ?_ _)); refine blk_put (cs := #[.int .i64 0, .int .i64 0, .int .i64 0]) ?_ 0 _ rfl; (with_reducible repeat (first | refine blk_drewN ?_ _ | refine blk_drew ?_ | refine blk_alloc ?_ _)); exact BK110.out) hb); have n1_ := Aside0.mk (below_step (by repeat (first | (with_reducible first | exact HB.out | apply below_alloc | apply pw_below_drewN | apply below_drew1 | refine below_set ?_ GE110.out) | exact HB.out)) hb); clear BK110; clear HB; have BK110 := n0_; have HB := n1_; clear n0_ n1_; (try clear hb); (try clear hb2); (try clear hk); (try clear hi); (try have hu110_0 : w22.cell? ⟨gb110, 0, none⟩ = some (.int .i64 t106) := (blk_cell BK110.out 0).trans rfl); (try have hu110_1 : w22.cell? ⟨gb110, 1, none⟩ = some (.int .i64 t107) := (blk_cell BK110.out 1).trans rfl); (try have hu110_2 : w22.cell? ⟨gb110, 2, none⟩ = some (.int .i64 t108) := (blk_cell BK110.out 2).trans rfl); (try have hv110_0 := blk_frozen BK110.out 0); (try have hv110_1 := blk_frozen BK110.out 1); (try have hv110_2 := blk_frozen BK110.out 2)) | ((with_reducible refine gate_callee (f := 42) rfl ?_); refine goesL_ (some 24) rfl rfl Tryz.func42 (by kernel_rfl) rfl #[.int .i64 a1] rfl (by (try simp only [List.map_toArray, List.map_cons, List.map_nil]); first | done | rfl | (simp only [List.length_drop, List.length_take]; rfl)) ?_; (with_reducible refine (quittanceref06_thirty.calls a1 t113 _ A18.out).mono ?_); rintro e w23 ⟨rfl, hb⟩; refine ⟨_, rfl, ?_⟩; have n0_ := Aside0.mk (blk_below (g := gb110) (o := .cells #[.int .i64 t106, .int .i64 t107, .int .i64 t108] 78 (0, 0)) (by (with_reducible repeat (first | refine blk_drewN ?_ _ | refine blk_drew ?_ | refine blk_alloc ?_ _)); exact BK110.out) hb); have n1_ := Aside0.mk (below_step (by repeat (first | (with_reducible first | exact HB.out | apply below_alloc | apply pw_below_drewN | apply below_drew1 | refine below_set ?_ GE110.out) | exact HB.out)) hb); clear BK110; clear HB; have BK110 := n0_; have HB := n1_; clear n0_ n1_; (try clear hb); (try clear hb2); (try clear hk); (try clear hi); (try have hu110_0 : w23.cell? ⟨gb110, 0, none⟩ = some (.int .i64 t106) := (blk_cell BK110.out 0).trans rfl); (try have hu110_1 : w23.cell? ⟨gb110, 1, none⟩ = some (.int .i64 t107) := (blk_cell BK110.out 1).trans rfl); (try have hu110_2 : w23.cell? ⟨gb110, 2, none⟩ = some (.int .i64 t108) := (blk_cell BK110.out 2).trans rfl); (try have hv110_0 := blk_frozen BK110.out 0); (try have hv110_1 := blk_frozen BK110.out 1); (try have hv110_2 := blk_frozen BK110.out 2)))
      go_ret
      exact ⟨by first | rfl | (simp [errW_none, errW_some] <;> rfl) | (simp [*, errW_none, errW_some] <;> rfl), by repeat (first | (with_reducible first | exact HB.out | apply below_alloc | apply pw_below_drewN | apply below_drew1 | refine below_set ?_ GE110.out) | exact HB.out)⟩

end Go.Proofs.YtbbbjjfecblhpaaGreat.PD
/- Plain law: which products may be. -/
namespace Go.Proofs.YtbbbjjfecblhpaaGreat.Pm
set_option linter.unusedVariables false
/-- A product. -/
structure Prod where
  name : ByteArray
  count : Int
  round : Int
  kind : Int
  every : Int
  times : Int
  grace : Int
  rate : Int
  resets : List (List Int)
  penalty : Int
  o1 : Int
  o2 : Int
  o3 : Int
  o4 : Int
  over : Int
  late : List (List Int)
  cap : Int
  roll : Int
  hol : List Int
/-- A text of bytes. -/
def txt (l : List UInt8) : ByteArray := ⟨l.toArray⟩
def small (c : UInt8) : Bool := decide (97 ≤ (c.toNat : Int)) && decide ((c.toNat : Int) ≤ 122)
def other (c : UInt8) : Bool := (decide (48 ≤ (c.toNat : Int)) && decide ((c.toNat : Int) ≤ 57)) || decide ((c.toNat : Int) = 45)
def letter (c : UInt8) : Bool := small c || other c
/-- The letters of a name. -/
def chars : List UInt8 → Bool
  | [] => true
  | c :: l => small c && l.all letter
def wordsL : List (List UInt8) :=
  [[112, 114, 111, 100, 117, 99, 116], [99, 111, 117, 110, 116], [116, 104, 105, 114, 116, 121], [102, 105, 120, 101, 100], [97, 99, 116, 117, 97, 108], [114, 111, 117, 110, 100], [104, 97, 108, 102, 45, 117, 112], [100, 111, 119, 110], [107, 105, 110, 100], [97, 110, 110, 117, 105, 116, 121], [101, 113, 117, 97, 108], [98, 117, 108, 108, 101, 116], [101, 118, 101, 114, 121], [116, 105, 109, 101, 115], [103, 114, 97, 99, 101], [114, 97, 116, 101], [112, 101, 110, 97, 108, 116, 121], [114, 101, 115, 101, 116], [108, 97, 116, 101], [99, 97, 112], [104, 111, 108, 105, 100, 97, 121], [111, 114, 100, 101, 114], [102, 101, 101, 115], [105, 110, 116, 101, 114, 101, 115, 116], [112, 114, 105, 110, 99, 105, 112, 97, 108], [111, 118, 101, 114], [104, 111, 108, 100], [112, 114, 101, 112, 97, 121], [114, 101, 102, 117, 110, 100], [114, 111, 108, 108], [115, 116, 97, 121], [110, 101, 120, 116], [119, 105, 116, 104, 105, 110], [112, 114, 101, 118, 105, 111, 117, 115]]
def isWord (l : List UInt8) : Bool := wordsL.contains l
/-- A name. -/
def nameOk (l : List UInt8) : Bool := chars l && decide (1 ≤ l.length) && decide (l.length ≤ 20) && !isWord l
def shapeOk (p : Prod) : Bool :=
  nameOk p.name.data.toList && decide ((1 ≤ p.count ∧ p.count ≤ 3) ∧ (p.round = 1 ∨ p.round = 3) ∧ (1 ≤ p.kind ∧ p.kind ≤ 3) ∧ (p.every = 1 ∨ p.every = 2 ∨ p.every = 3 ∨ p.every = 4 ∨ p.every = 6 ∨ p.every = 12) ∧ (1 ≤ p.times ∧ p.times ≤ 600) ∧ (0 ≤ p.grace ∧ p.grace ≤ p.times - 1) ∧ (p.kind = 3 → p.grace = 0))
/-- Resets: behind so many instalments which rate. -/
def resetsOk (times : Int) : Int → List (List Int) → Bool
  | _, [] => true
  | prev, r :: l => decide (1 ≤ r.getD 0 0 ∧ r.getD 0 0 ≤ times - 1 ∧ 0 ≤ r.getD 1 0 ∧ r.getD 1 0 ≤ 1000000000 ∧ prev < r.getD 0 0) && resetsOk times (r.getD 0 0) l
def ratesOk (p : Prod) : Bool := decide ((0 ≤ p.rate ∧ p.rate ≤ 1000000000) ∧ (0 ≤ p.penalty ∧ p.penalty ≤ 1000000000) ∧ p.resets.length ≤ 20) && resetsOk p.times 0 p.resets
def orderOk (a b c d : Int) : Bool := decide ((1 ≤ a ∧ a ≤ 4) ∧ (1 ≤ b ∧ b ≤ 4) ∧ (1 ≤ c ∧ c ≤ 4) ∧ (1 ≤ d ∧ d ≤ 4) ∧ a ≠ b ∧ a ≠ c ∧ a ≠ d ∧ b ≠ c ∧ b ≠ d ∧ c ≠ d)
def ordOk (p : Prod) : Bool := orderOk p.o1 p.o2 p.o3 p.o4 && decide (1 ≤ p.over ∧ p.over ≤ 3)
/-- Tiers: how many days behind the due day which fee. -/
def tiersOk : Int → Int → List (List Int) → Bool
  | _, _, [] => true
  | pd, pf, t :: l => decide (1 ≤ t.getD 0 0 ∧ t.getD 0 0 ≤ 365 ∧ 0 ≤ t.getD 1 0 ∧ t.getD 1 0 ≤ 10000000000000 ∧ pd < t.getD 0 0 ∧ pf ≤ t.getD 1 0) && tiersOk (t.getD 0 0) (t.getD 1 0) l
def lateOk (p : Prod) : Bool := decide (p.late.length ≤ 8 ∧ (0 ≤ p.cap ∧ p.cap ≤ 10000000000000) ∧ (p.late = [] → p.cap = 0)) && tiersOk 0 0 p.late
/-- Holidays rise. -/
def holsOk : Int → List Int → Bool
  | _, [] => true
  | p, a :: l => decide (-25567 ≤ a ∧ a ≤ 84370 ∧ p < a) && holsOk a l
def daysOk (p : Prod) : Bool := decide (p.hol.length ≤ 200 ∧ (1 ≤ p.roll ∧ p.roll ≤ 4) ∧ (p.roll = 1 → p.hol = [])) && holsOk (-25568) p.hol
def ok (p : Prod) : Bool := shapeOk p && ratesOk p && ordOk p && lateOk p && daysOk p
/-- What a look at a product answers. -/
def err (p : Prod) : Int := if ok p = true then 0 else 9
/-- A text of grammar, each word between blanks. -/
def joined : List (List UInt8) → List UInt8
  | [] => [32]
  | w :: ws => 32 :: (w ++ joined ws)
theorem joined_head (ws : List (List UInt8)) : ∃ t, joined ws = 32 :: t := by cases ws <;> exact ⟨_, rfl⟩
theorem pre_word : ∀ (s w L : List UInt8), (32 : UInt8) ∉ s → (32 : UInt8) ∉ w → ((s ++ [32]).isPrefixOf (w ++ 32 :: L) = true ↔ s = w)
  | [], [], L, _, _ => by simp
  | [], b :: w, L, _, hw => by
    have h1 : ((32 : UInt8) == b) = false := by
      rw [beq_eq_false_iff_ne]; intro e; exact hw (by simp [e])
    simp [List.isPrefixOf, h1]
  | a :: s, [], L, hs, _ => by
    have h1 : (a == (32 : UInt8)) = false := by
      rw [beq_eq_false_iff_ne]; intro e; exact hs (by simp [e])
    simp [List.isPrefixOf, h1]
  | a :: s, b :: w, L, hs, hw => by
    have ih := pre_word s w L (fun h => hs (List.mem_cons_of_mem _ h)) (fun h => hw (List.mem_cons_of_mem _ h))
    simp only [List.cons_append, List.isPrefixOf, Bool.and_eq_true, beq_iff_eq, List.cons.injEq]
    rw [ih]
end Go.Proofs.YtbbbjjfecblhpaaGreat.Pm
/- Contracts by hand: a calendar made new; of no other text of this seat. -/
namespace Go.Proofs.YtbbbjjfecblhpaaGreat.Nw
open Go.RowKit Go.Proofs.YtbbbjjfecblhpaaGreatW.PrintWords Go.Proofs.YtbbbjjfecblhpaaGreatW.PrintLast Go.Proofs.YtbbbjjfecblhpaaGreatW.PrintMore Go.Proofs.YtbbbjjfecblhpaaGreat.HW
set_option linter.unusedVariables false
set_option linter.unusedSimpArgs false
def isDay (n : Int) : Prop := -25567 ≤ n ∧ n ≤ 84370
instance (n : Int) : Decidable (isDay n) := by unfold isDay; infer_instance
theorem rd_nat (l : List Int) (k : Nat) (h : k < l.length) : rd l (k : Int) = l[k] := by
  simp [rd, h]
theorem rd_cons (l : List Int) (k : Nat) (h : k < l.length) : l.drop k = rd l (k : Int) :: l.drop (k + 1) := by
  rw [List.drop_eq_getElem_cons h, rd_nat l k h]
/-- Each one is a day, and behind the one ahead. -/
def rises : Int → List Int → Bool
  | _, [] => true
  | p, x :: xs => decide (isDay x) && (decide (p < x) && rises x xs)
theorem rises_all (l : List Int) : ∀ p, rises p l = true → ∀ x ∈ l, isDay x ∧ p < x := by
  induction l with
  | nil => intro p _ x hx; simp at hx
  | cons y ys ih =>
    intro p h x hx
    simp only [rises, Bool.and_eq_true, decide_eq_true_eq] at h
    obtain ⟨h1, h2, h3⟩ := h
    rcases List.mem_cons.1 hx with rfl | hx
    · exact ⟨h1, h2⟩
    · obtain ⟨h4, h5⟩ := ih y h3 x hx
      exact ⟨h4, by omega⟩
theorem rises_pair (l : List Int) : ∀ p, rises p l = true → l.Pairwise (· < ·) := by
  induction l with
  | nil => intro p _; exact List.Pairwise.nil
  | cons y ys ih =>
    intro p h
    simp only [rises, Bool.and_eq_true, decide_eq_true_eq] at h
    exact List.Pairwise.cons (fun x hx => (rises_all ys y h.2.2 x hx).2) (ih y h.2.2)
theorem rises_pm (l : List Int) : ∀ p, rises p l = Pm.holsOk p l := by
  induction l with
  | nil => intro p; rfl
  | cons a l ih =>
    intro p
    simp only [rises, Pm.holsOk, ih]
    rw [Bool.eq_iff_iff]
    simp only [Bool.and_eq_true, decide_eq_true_eq]
    constructor
    · rintro ⟨⟨h1, h2⟩, h3, h4⟩; exact ⟨⟨h1, h2, h3⟩, h4⟩
    · rintro ⟨⟨h1, h2, h3⟩, h4⟩; exact ⟨⟨h1, h2⟩, h3, h4⟩
theorem there_any (n : Int) (w : World) : Calls Tryz.prog 93 #[.int .i64 n] w fun e w' => e = .returned (.bool (decide (isDay n))) ∧ Drawn0 w w' := by
  by_cases h1 : -25567 ≤ n
  · by_cases h2 : n ≤ 84370
    · have hd : decide (isDay n) = true := decide_eq_true ⟨h1, h2⟩
      rw [hd]
      clear hd
      go_enter Tryz.func93, Tryz.ntmps93
      go_wp2
      go_ret
      exact ⟨rfl, Drawn0.refl _⟩
    · have hd : decide (isDay n) = false := decide_eq_false (fun h => h2 h.2)
      rw [hd]
      have q : decide (n ≤ 84370) = false := decide_eq_false h2
      clear hd
      go_enter Tryz.func93, Tryz.ntmps93
      go_wp2
      go_ret
      exact ⟨rfl, Drawn0.refl _⟩
  · have hd : decide (isDay n) = false := decide_eq_false (fun h => h1 h.1)
    rw [hd]
    have q : decide (-25567 ≤ n) = false := decide_eq_false h1
    clear hd
    go_enter Tryz.func93, Tryz.ntmps93
    go_wp2
    go_ret
    exact ⟨rfl, Drawn0.refl _⟩
theorem info_int : (Tryz.prog.info? 3).map (fun i => (i.zero, i.size, i.bytes)) = some (some (.int .i64 0), 1, 8) := by kernel_rfl
/-- Cloned. -/
def Cloned (l : List Int) (w : World) (e : Ending) (w' : World) : Prop := ∃ A c, e = .returned (.slice A l.length c) ∧ Kd.C (Kd.int .i64) w' A l.length l ∧ l.length ≤ c ∧ Below w.heap.size w w' ∧ (∀ ad, A = some ad → w.heap.size ≤ ad.block)
theorem clone_nil (w : World) : Calls Tryz.prog 94 #[.slice none 0 0] w (Cloned [] w) := by
  have hnil := fun (w : World) => Lib.run_eql_slice_nil (P := Tryz.prog) w 25 3 none 0 0 0 0 Tryz.underlying25
  go_enter Tryz.func94, Tryz.ntmps94
  go_wp2_with fail
  go_ret
  exact ⟨none, 0, rfl, ⟨rfl, by simp, fun h => absurd h (Nat.lt_irrefl 0)⟩, Nat.le_refl _, Below.refl _ _, fun ad h => by cases h⟩
theorem clone_some (ad : Addr) (c0 : Nat) (l : List Int) (w : World) (hr0 : Kd.C (Kd.int .i64) w (some ad) l.length l) (hc0 : l.length ≤ c0) (hm : l.length ≤ 1000000) : Calls Tryz.prog 94 #[.slice (some ad) l.length c0] w (Cloned l w) := by
  have HN : ∀ j u, (nums .i64 l)[j]? = some u → (w.alloc (.cells #[] 3)).cell? (ad.add j) = some u := by
    intro j u hu
    have hj : j < l.length := by
      rcases Nat.lt_or_ge j l.length with h | h
      · exact h
      · rw [List.getElem?_eq_none (by rw [nums_length]; exact h)] at hu; cases hu
    obtain ⟨ad', e, hc⟩ := Kd.at_int (Kd.C_below hr0 ((Below.refl w.heap.size w).alloc (Nat.le_refl _) (.cells #[] 3))) (j : Int) (by omega) (by omega)
    obtain rfl : ad = ad' := Option.some.inj e
    rw [Int.toNat_natCast] at hc
    rw [hc, ← hu, rd_nat l j hj]
    simp [nums, hj]
  have HNN := Aside0.mk HN
  clear hr0 HN
  have hown : (w.alloc (.cells #[] 3)).ownsRow w.heap.size 3 1 (.slice (some ⟨w.heap.size, 0, none⟩) 0 0) 0 [] :=
    ⟨rfl, Or.inr ⟨w.heap.size, 0, #[], rfl, Nat.le_refl _, heap_alloc_new w _, Nat.le_refl _, Nat.zero_le _, rfl, rfl⟩⟩
  have HO := Aside0.mk hown
  clear hown
  obtain ⟨i0, hi, hz0, hz1, hz2⟩ := info_parts info_int
  have hnil := fun (w : World) => Lib.run_eql_slice_nil (P := Tryz.prog) w 25 3 (some ad) l.length c0 0 0 Tryz.underlying25
  go_enter Tryz.func94, Tryz.ntmps94
  go_wp2_with ((at_builtin; refine wpList_append_own _ rfl _ _ 25 rfl w.heap.size 3 i0 (.int .i64 0) 1 8 Tryz.underlying25 hi hz0 hz1 hz2 rfl (by decide) _ 0 [] rfl HO.out ad l.length c0 (nums .i64 l) rfl (by simp [nums]) HNN.out (by intro u hu; simp [nums] at hu; obtain ⟨a, _, rfl⟩ := hu; rfl) (by unfold maxLen; omega) (by omega) (by simp) ?_); intro v' w1 hown1 hgrow _)
  have hown2 : w1.ownsRow w.heap.size 3 1 v' l.length (encs (Value.int .i64) l) := by simpa [nums, encs] using hown1
  obtain ⟨A, c, rfl, hle, hr⟩ := own_reads_of_le (d := (0 : Int)) hown2
  have hb : Below w.heap.size w w1 := ((Below.refl w.heap.size w).alloc (Nat.le_refl _) (.cells #[] 3)).grown hgrow (by simp) (fun k hk => by cases hk; exact Nat.le_refl _)
  have hbs : ∀ ad, A = some ad → w.heap.size ≤ ad.block := fun ad e => own_base hown2 _ (by rw [e]; rfl)
  have HBS := Aside0.mk hbs
  clear hbs
  have HB := Aside0.mk hb
  have HC := Aside0.mk (show Kd.C (Kd.int .i64) w1 A l.length l from Kd.C_of_reads hr)
  clear hown1 hown2 hgrow hr hb
  go_wp2
  go_ret
  exact ⟨A, c, rfl, HC.out, hle, HB.out, HBS.out⟩
theorem clone_any (A0 : Option Addr) (c0 : Nat) (l : List Int) (w : World) (hr0 : Kd.C (Kd.int .i64) w A0 l.length l) (hc0 : l.length ≤ c0) (hn : A0 = none → c0 = 0) (hm : l.length ≤ 1000000) : Calls Tryz.prog 94 #[.slice A0 l.length c0] w (Cloned l w) := by
  cases A0 with
  | some ad => exact clone_some ad c0 l w hr0 hc0 hm
  | none =>
    obtain rfl := hn rfl
    obtain rfl : l = [] := List.eq_nil_of_length_eq_zero (by omega)
    exact clone_nil w

theorem new_many (A0 : Option Addr) (c0 : Nat) (l : List Int) (w : World) (h200 : 200 < l.length) (hm : l.length ≤ 1000000) :
    Calls Tryz.prog 83 #[.slice A0 l.length c0] w fun e w' => e = .returned (.tuple #[.pointer none, .int .i64 1]) ∧ Drawn0 w w' := by
  go_enter Tryz.func83, Tryz.ntmps83
  go_wp2_with fail
  go_ret2
  exact ⟨rfl, Drawn0.refl _⟩
/-- A calendar lies in block gb; its list lies from block B on. -/
def CalIn (B : Nat) (w : World) (gb : Nat) (l : List Int) : Prop := ∃ A c, w.cell? ⟨gb, 0, none⟩ = some (.slice A l.length c) ∧ Kd.C (Kd.int .i64) w A l.length l ∧ l.length ≤ c ∧ l.length ≤ 200 ∧ l.Pairwise (· < ·) ∧ gb < w.heap.size ∧ (∀ ad, A = some ad → B ≤ ad.block)
/-- A calendar made, or none. -/
def Made2 (l : List Int) (b : Bool) (w : World) (e : Ending) (w' : World) : Prop := Below w.heap.size w w' ∧ (b = false → e = .returned (.tuple #[.pointer none, .int .i64 1])) ∧ (b = true → ∃ gb, w.heap.size ≤ gb ∧ e = .returned (.tuple #[.pointer (some ⟨gb, 0, none⟩), .int .i64 0]) ∧ CalIn w.heap.size w' gb l)
set_option maxHeartbeats 1000000 in
/-- Some numbers that are no holidays, or some. -/
theorem new_few2 (A0 : Option Addr) (c0 : Nat) (l : List Int) (b : Bool) (w : World) (hr0 : Kd.C (Kd.int .i64) w A0 l.length l) (hc0 : l.length ≤ c0) (hn : A0 = none → c0 = 0) (hm : l.length ≤ 200) (hb : rises (-25568) l = b) :
    Calls Tryz.prog 83 #[.slice A0 l.length c0] w (Made2 l b w) := by
  have HR0 := Aside0.mk hr0
  have HB := Aside0.mk hb
  have HN := Aside0.mk hn
  clear hr0 hb hn
  go_enter Tryz.func83, Tryz.ntmps83
  go_wp2_with fail
  go_loopg [11] (l.length + 1) (fun gq i w' => ∃ (k : Nat) (p : Int), k ≤ l.length ∧ i = .int .i64 k ∧ Aside0 (gq = l.length + 1 - k) ∧ Aside0 (k = 0 ∧ p = -25568 ∨ 0 < k ∧ p = rd l ((k : Int) - 1)) ∧ Aside0 (rises p (l.drop k) = b) ∧ Drawn0 w w')
  case atStart => exact ⟨0, -25568, Nat.zero_le _, rfl, ⟨rfl⟩, ⟨Or.inl ⟨rfl, rfl⟩⟩, ⟨by rw [← HB.out]; rfl⟩, Drawn0.refl _⟩
  case round =>
    obtain ⟨k, p, hk, rfl, hg, hp, hq, ⟨m1, rfl⟩⟩ := hrel
    by_cases hlt : k < l.length
    · obtain ⟨ad, e0, hx0⟩ := Kd.at_int HR0.out (k : Int) (by omega) (by omega)
      subst e0
      rw [Int.toNat_natCast] at hx0
      have hrc := hq.out
      rw [rd_cons l k hlt] at hrc
      simp only [rises] at hrc
      have HX : Aside0 (∀ j : Nat, j < l.length → w.cell? (ad.add j) = some (.int .i64 (rd l (j : Int)))) := ⟨fun j hj => by
        obtain ⟨ad', e', hx'⟩ := Kd.at_int HR0.out (j : Int) (by omega) (by omega)
        obtain rfl : ad = ad' := Option.some.inj e'
        rw [Int.toNat_natCast] at hx'
        exact hx'⟩
      by_cases hd : isDay (rd l (k : Int))
      · have d1 := decide_eq_true hd
        rw [d1, Bool.true_and] at hrc
        rcases (by omega : k = 0 ∨ 0 < k) with h0 | h0
        · have hp0 : p = -25568 := by rcases hp.out with h | h <;> omega
          have hlt2 : decide (p < rd l (k : Int)) = true := decide_eq_true (by have := hd.1; omega)
          rw [hlt2, Bool.true_and] at hrc
          have HQ := Aside0.mk hrc
          have g1 : (k : Int) ≤ 0 := by omega
          clear hrc hq hd hlt2 hp0 hp h0
          go_wp2_with fail
          refine (there_any _ _).mono ?_
          rintro e w1 ⟨rfl, ⟨m2, rfl⟩⟩
          go_wp2_with fail
          go_roundg (l.length + 1 - (k + 1))
          case measure => have := hg.out; omega
          case rel => exact ⟨k + 1, rd l (k : Int), by omega, by simp, ⟨rfl⟩, ⟨Or.inr ⟨by omega, by congr 1; omega⟩⟩, HQ, ⟨_, rfl⟩⟩
        · have hx1 := HX.out (k - 1) (by omega)
          have hp1 : p = rd l (((k - 1 : Nat) : Int)) := by
            rcases hp.out with h | h
            · omega
            · rw [h.2]; congr 1; omega
          have g1 : (0 : Int) ≤ (k : Int) - 1 := by omega
          by_cases hlt2 : p < rd l (k : Int)
          · rw [decide_eq_true hlt2, Bool.true_and] at hrc
            have HQ := Aside0.mk hrc
            have hle2 : decide (rd l (k : Int) ≤ rd l (((k - 1 : Nat) : Int))) = false := decide_eq_false (by omega)
            clear hrc hq hd hlt2 hp1 hp
            go_wp2_with fail
            refine (there_any _ _).mono ?_
            rintro e w1 ⟨rfl, ⟨m2, rfl⟩⟩
            go_wp2_with fail
            go_roundg (l.length + 1 - (k + 1))
            case measure => have := hg.out; omega
            case rel => exact ⟨k + 1, rd l (k : Int), by omega, by simp, ⟨rfl⟩, ⟨Or.inr ⟨by omega, by congr 1; omega⟩⟩, HQ, ⟨_, rfl⟩⟩
          · rw [decide_eq_false hlt2, Bool.false_and] at hrc
            subst hrc
            have hle2 : decide (rd l (k : Int) ≤ rd l (((k - 1 : Nat) : Int))) = true := decide_eq_true (by omega)
            clear hq hd hlt2 hp1 hp
            go_wp2_with fail
            refine (there_any _ _).mono ?_
            rintro e w1 ⟨rfl, ⟨m2, rfl⟩⟩
            go_wp2_with fail
            go_ret2
            exact ⟨pw_below_drewN (Below.refl _ _) _, fun _ => rfl, fun h => by cases h⟩
      · have d1 := decide_eq_false hd
        rw [d1, Bool.false_and] at hrc
        subst hrc
        clear hd hq
        go_wp2_with fail
        refine (there_any _ _).mono ?_
        rintro e w1 ⟨rfl, ⟨m2, rfl⟩⟩
        go_wp2_with fail
        go_ret2
        exact ⟨pw_below_drewN (Below.refl _ _) _, fun _ => rfl, fun h => by cases h⟩
    · have hk2 : k = l.length := by omega
      subst hk2
      have hrc := hq.out
      rw [List.drop_length] at hrc
      obtain rfl : b = true := by rw [← hrc]; rfl
      clear hq
      go_wp2_with fail
      refine (clone_any A0 c0 l _ (Kd.C_drewN HR0.out _) hc0 HN.out (by omega)).mono ?_
      rintro e w1 ⟨A, c, rfl, hc1, hle, hbl, hbs⟩
      have HBS := Aside0.mk hbs
      clear hbs
      have HC1 := Aside0.mk hc1
      have HBL := Aside0.mk hbl
      clear hc1 hbl
      have hBsz := HBL.out.size
      have hgb : (w1.alloc (.cells #[.slice A l.length c] 146)).cell? ⟨w1.heap.size, 0, none⟩ = some (.slice A l.length c) := by simp [go_sem]
      have HCA := Aside0.mk (show CalIn w.heap.size (w1.alloc (.cells #[.slice A l.length c] 146)) w1.heap.size l from ⟨A, c, hgb, Kd.C_below HC1.out ((Below.refl _ _).alloc (Nat.le_refl _) _), hle, hm, rises_pair l _ HB.out, by simp, by have := HBS.out; simpa using this⟩)
      have HBB := Aside0.mk ((pw_below_drewN (Below.refl w.heap.size w) (m1)).trans (HBL.out.mono (by simp)))
      clear hgb
      go_wp2_with fail
      go_ret2
      exact ⟨HBB.out.alloc HBB.out.size _, (fun h => by cases h), fun _ => ⟨w1.heap.size, HBB.out.size, rfl, HCA.out⟩⟩
/-- A list that may be holidays, or none. -/
def New1 (l : List Int) (w : World) (e : Ending) (w' : World) : Prop := Below w.heap.size w w' ∧ ∃ q, (e = .returned (.tuple #[q, .int .i64 (if decide (l.length ≤ 200) && Pm.holsOk (-25568) l then 0 else 1)]))
theorem new_any (A0 : Option Addr) (c0 : Nat) (l : List Int) (w : World) (hr0 : Kd.C (Kd.int .i64) w A0 l.length l) (hc0 : l.length ≤ c0) (hn : A0 = none → c0 = 0) (hm : l.length ≤ 1000000) :
    Calls Tryz.prog 83 #[.slice A0 l.length c0] w (New1 l w) := by
  by_cases h : l.length ≤ 200
  · refine (new_few2 A0 c0 l _ w hr0 hc0 hn h rfl).mono ?_
    rintro e w1 ⟨hb, h1, h2⟩
    refine ⟨hb, ?_⟩
    rw [decide_eq_true h, Bool.true_and, ← rises_pm]
    cases hr : rises (-25568) l with
    | true =>
      obtain ⟨gb, _, he, _⟩ := h2 hr
      exact ⟨_, by rw [he]; rfl⟩
    | false => exact ⟨_, by rw [h1 hr]; rfl⟩
  · refine (new_many A0 c0 l w (by omega) hm).mono ?_
    rintro e w1 ⟨rfl, hd⟩
    refine ⟨hd.below, .pointer none, ?_⟩
    rw [decide_eq_false h]; rfl
end Go.Proofs.YtbbbjjfecblhpaaGreat.Nw
/- Plain law: a word among the words of grammar. -/
namespace Go.Proofs.YtbbbjjfecblhpaaGreat.Pm
open Go
set_option linter.unusedVariables false
theorem index_cons_pos (b : UInt8) (l sub : List UInt8) : 0 ≤ Lib.index (b :: l) sub ↔ sub.isPrefixOf (b :: l) = true ∨ 0 ≤ Lib.index l sub := by
  have hg := Lib.index_ge l sub
  rw [Lib.index]
  by_cases h : sub.isPrefixOf (b :: l) = true
  · rw [if_pos h]; simp [h]
  · rw [if_neg h]
    by_cases e : Lib.index l sub = -1
    · rw [if_pos (by rw [e]; rfl), e]; simp [h]
    · rw [if_neg (by simpa using e)]
      simp only [h, false_or]
      constructor <;> intro <;> omega
theorem index_nil_neg (a : UInt8) (t : List UInt8) : ¬ 0 ≤ Lib.index [] (a :: t) := by simp [Lib.index]
theorem index_skip (t L : List UInt8) : ∀ w : List UInt8, (32 : UInt8) ∉ w → (0 ≤ Lib.index (w ++ L) (32 :: t) ↔ 0 ≤ Lib.index L (32 :: t))
  | [], _ => by simp
  | b :: w, hw => by
    have h1 : ((32 : UInt8) == b) = false := by
      rw [beq_eq_false_iff_ne]; intro e; exact hw (by simp [e])
    have ih := index_skip t L w (fun h => hw (List.mem_cons_of_mem _ h))
    rw [List.cons_append, index_cons_pos, ih]
    simp [List.isPrefixOf, h1]
theorem index_joined (s : List UInt8) (hs : (32 : UInt8) ∉ s) : ∀ ws : List (List UInt8), (∀ w ∈ ws, (32 : UInt8) ∉ w) → (0 ≤ Lib.index (joined ws) (32 :: (s ++ [32])) ↔ s ∈ ws)
  | [], _ => by
    rw [joined, index_cons_pos]
    have h := index_nil_neg 32 (s ++ [32])
    have h2 : ¬ (s ++ [32]).isPrefixOf ([] : List UInt8) = true := by cases s <;> simp [List.isPrefixOf]
    simp [List.isPrefixOf, h, h2]
  | w :: ws, hw => by
    obtain ⟨t, ht⟩ := joined_head ws
    have ih := index_joined s hs ws (fun v hv => hw v (List.mem_cons_of_mem _ hv))
    have hw0 := hw w (by simp)
    rw [joined, index_cons_pos, index_skip _ _ w hw0, ih]
    have hp := pre_word s w t hs hw0
    simp only [List.isPrefixOf, beq_self_eq_true, Bool.true_and, List.mem_cons]
    rw [ht, hp]
theorem words_no : ∀ w ∈ wordsL, (32 : UInt8) ∉ w := by decide +kernel
theorem contains_word (s : List UInt8) (hs : (32 : UInt8) ∉ s) : Lib.contains (joined wordsL) (32 :: (s ++ [32])) = isWord s := by
  unfold Lib.contains isWord
  rw [Bool.eq_iff_iff, decide_eq_true_iff, List.contains_iff_mem]
  exact index_joined s hs wordsL words_no
theorem letter_no (c : UInt8) (h : letter c = true) : c ≠ 32 := by
  intro e; subst e; revert h; decide
end Go.Proofs.YtbbbjjfecblhpaaGreat.Pm
/- Arguments opened: structs of whole numbers, and slices of them. -/
namespace Go.Proofs.YtbbbjjfecblhpaaGreat.Op
open Go.ChangeShapes Go.WideShapes Go.Deep Go.RowKit Go.Joins
/-- Rows of so many whole numbers each, in memory. -/
def IntRows (w : World) (A : Option Addr) (sz : Nat) (rows : List (List Int)) : Prop :=
  (∀ r ∈ rows, r.length = sz ∧ ∀ x ∈ r, (Lit.int .i64 x).wf = true) ∧ ∀ (i : Nat) (r : List Int), rows[i]? = some r → ∃ ad, A = some ad ∧ ∀ (j : Nat) (x : Int), r[j]? = some x → w.cell? (ad.add (i * sz + j)) = some (.int .i64 x)
theorem list_of {α : Type} {P : Nat → α → Prop} (n : Nat) : (∀ i, i < n → ∃ x, P i x) → ∃ l : List α, l.length = n ∧ ∀ (i : Nat) (x : α), l[i]? = some x → P i x := by
  induction n with
  | zero => intro _; exact ⟨[], rfl, fun i x h => by simp at h⟩
  | succ n ih =>
    intro h
    obtain ⟨l, hl, hp⟩ := ih (fun i hi => h i (by omega))
    obtain ⟨x, hx⟩ := h n (by omega)
    refine ⟨l ++ [x], by simp [hl], fun i y hy => ?_⟩
    rcases Nat.lt_or_ge i l.length with h1 | h1
    · rw [List.getElem?_append_left h1] at hy; exact hp i y hy
    · rw [List.getElem?_append_right h1] at hy
      have : i - l.length = 0 := by
        rcases Nat.eq_zero_or_pos (i - l.length) with h2 | h2
        · exact h2
        · rw [List.getElem?_eq_none (by simp only [List.length_cons, List.length_nil]; omega)] at hy; cases hy
      rw [this] at hy
      simp at hy
      subst hy
      obtain rfl : i = n := by omega
      exact hx
section
variable {H : Type} {enc : TypeId × Value → H} {P : Program} {w : World} {base : Nat} {spare : Nat → Bool} {held : Bool}
theorem hone_of' {P : Program} {fs : Array Field} (h : oneCellFields P fs = true) (j : Nat) (f : Field) (hj : fs[j]? = some f) : f.offset = j ∧ P.cellsOf f.type = 1 := hone_of h j f hj
end
theorem IntRows.below {w w1 : World} {A : Option Addr} {sz : Nat} {rows : List (List Int)} (h : IntRows w A sz rows) (hb : Below w.heap.size w w1) : IntRows w1 A sz rows := by
  refine ⟨h.1, fun i r hi => ?_⟩
  obtain ⟨ad, e, hc⟩ := h.2 i r hi
  refine ⟨ad, e, fun j x hj => ?_⟩
  have hj' := hc j x hj
  have hlt : (ad.add (i * sz + j)).block < w.heap.size := by
    rcases Nat.lt_or_ge (ad.add (i * sz + j)).block w.heap.size with h1 | h1
    · exact h1
    · exfalso
      have e : w.heap[(ad.add (i * sz + j)).block]? = none := Array.getElem?_eq_none h1
      simp [World.cell?, e] at hj'
  rw [hb.cell hlt]; exact hj'
end Go.Proofs.YtbbbjjfecblhpaaGreat.Op
/- Contracts by hand: a product by value; what is thrown of it. -/
namespace Go.Proofs.YtbbbjjfecblhpaaGreat.Pd
open Go.RowKit Go.Proofs.YtbbbjjfecblhpaaGreatW.PrintWords Go.Proofs.YtbbbjjfecblhpaaGreatW.PrintLast Go.Proofs.YtbbbjjfecblhpaaGreatW.PrintMore Go.Proofs.YtbbbjjfecblhpaaGreat.HW
open Pm
set_option linter.unusedVariables false
set_option linter.unusedSimpArgs false
/-- A product, by value. -/
abbrev pv (p : Prod) (A1 : Option Addr) (c1 : Nat) (A2 : Option Addr) (c2 : Nat) (A3 : Option Addr) (c3 : Nat) : Value :=
  .agg #[.string p.name, .int .i64 p.count, .int .i64 p.round, .int .i64 p.kind, .int .i64 p.every, .int .i64 p.times, .int .i64 p.grace, .int .i64 p.rate, .slice A1 p.resets.length c1, .int .i64 p.penalty, .int .i64 p.o1, .int .i64 p.o2, .int .i64 p.o3, .int .i64 p.o4, .int .i64 p.over, .slice A2 p.late.length c2, .int .i64 p.cap, .int .i64 p.roll, .slice A3 p.hol.length c3]
/-- What a product leads to. -/
structure ProdAt (w : World) (p : Prod) (A1 : Option Addr) (c1 : Nat) (A2 : Option Addr) (c2 : Nat) (A3 : Option Addr) (c3 : Nat) : Prop where
  r1 : Op.IntRows w A1 2 p.resets
  l1 : p.resets.length ≤ c1
  n1 : A1 = none → c1 = 0
  r2 : Op.IntRows w A2 2 p.late
  l2 : p.late.length ≤ c2
  n2 : A2 = none → c2 = 0
  r3 : Kd.C (Kd.int .i64) w A3 p.hol.length p.hol
  l3 : p.hol.length ≤ c3
  n3 : A3 = none → c3 = 0
theorem ProdAt.below {w w1 : World} {p : Prod} {A1 : Option Addr} {c1 : Nat} {A2 : Option Addr} {c2 : Nat} {A3 : Option Addr} {c3 : Nat} (h : ProdAt w p A1 c1 A2 c2 A3 c3) (hb : Below w.heap.size w w1) : ProdAt w1 p A1 c1 A2 c2 A3 c3 :=
  ⟨h.r1.below hb, h.l1, h.n1, h.r2.below hb, h.l2, h.n2, Kd.C_below h.r3 hb, h.l3, h.n3⟩
/-- Not too long. -/
structure Small (p : Prod) : Prop where
  name : p.name.size ≤ 1000000
  s1 : p.resets.length ≤ 1000000
  s2 : p.late.length ≤ 1000000
  s3 : p.hol.length ≤ 1000000
theorem must_yes (w : World) : Calls Tryz.prog 79 #[.bool true] w fun e w' => e = .returned (.tuple #[]) ∧ w = w' := by
  go_enter Tryz.func79, Tryz.ntmps79
  go_wp2
  go_end0
  exact ⟨rfl, rfl⟩
/-- Thrown: a product that may not be. -/
abbrev refusedE : Ending := .panicked [{ v := .iface 115 (.agg #[]), recovered := false }]
theorem must_no (w : World) : Calls Tryz.prog 79 #[.bool false] w fun e w' => e = refusedE ∧ w = w' := by
  go_enter Tryz.func79, Tryz.ntmps79
  go_wp2
  exact ⟨rfl, rfl, rfl⟩
theorem within_i (v a b : Int) (w : World) : Calls Tryz.prog 81 #[.int .i64 v, .int .i64 a, .int .i64 b] w fun e w' => e = .returned (.bool (decide (a ≤ v ∧ v ≤ b))) ∧ w = w' := by
  by_cases h1 : a ≤ v
  · by_cases h2 : v ≤ b
    · have hd : decide (a ≤ v ∧ v ≤ b) = true := decide_eq_true ⟨h1, h2⟩
      rw [hd]
      clear hd
      go_enter Tryz.func81, Tryz.ntmps81
      go_wp2
      go_ret
      exact ⟨rfl, rfl⟩
    · have hd : decide (a ≤ v ∧ v ≤ b) = false := decide_eq_false (fun h => h2 h.2)
      rw [hd]
      have q : decide (v ≤ b) = false := decide_eq_false h2
      clear hd
      go_enter Tryz.func81, Tryz.ntmps81
      go_wp2
      go_ret
      exact ⟨rfl, rfl⟩
  · have hd : decide (a ≤ v ∧ v ≤ b) = false := decide_eq_false (fun h => h1 h.1)
    rw [hd]
    have q : decide (a ≤ v) = false := decide_eq_false h1
    clear hd
    go_enter Tryz.func81, Tryz.ntmps81
    go_wp2
    go_ret
    exact ⟨rfl, rfl⟩
theorem within_l (v a b : Int) (w : World) : Calls Tryz.prog 82 #[.int .i64 v, .int .i64 a, .int .i64 b] w fun e w' => e = .returned (.bool (decide (a ≤ v ∧ v ≤ b))) ∧ w = w' := by
  by_cases h1 : a ≤ v
  · by_cases h2 : v ≤ b
    · have hd : decide (a ≤ v ∧ v ≤ b) = true := decide_eq_true ⟨h1, h2⟩
      rw [hd]
      clear hd
      go_enter Tryz.func82, Tryz.ntmps82
      go_wp2
      go_ret
      exact ⟨rfl, rfl⟩
    · have hd : decide (a ≤ v ∧ v ≤ b) = false := decide_eq_false (fun h => h2 h.2)
      rw [hd]
      have q : decide (v ≤ b) = false := decide_eq_false h2
      clear hd
      go_enter Tryz.func82, Tryz.ntmps82
      go_wp2
      go_ret
      exact ⟨rfl, rfl⟩
  · have hd : decide (a ≤ v ∧ v ≤ b) = false := decide_eq_false (fun h => h1 h.1)
    rw [hd]
    have q : decide (a ≤ v) = false := decide_eq_false h1
    clear hd
    go_enter Tryz.func82, Tryz.ntmps82
    go_wp2
    go_ret
    exact ⟨rfl, rfl⟩
theorem within_i_is {v a b : Int} {r : Bool} (h : decide (a ≤ v ∧ v ≤ b) = r) (w : World) : Calls Tryz.prog 81 #[.int .i64 v, .int .i64 a, .int .i64 b] w fun e w' => e = .returned (.bool r) ∧ w = w' := h ▸ within_i v a b w
theorem within_l_is {v a b : Int} {r : Bool} (h : decide (a ≤ v ∧ v ≤ b) = r) (w : World) : Calls Tryz.prog 82 #[.int .i64 v, .int .i64 a, .int .i64 b] w fun e w' => e = .returned (.bool r) ∧ w = w' := h ▸ within_l v a b w
section
variable {P : Program} {ops : Array Oper} {rest : List Oper} {a : Act} {Q : Exit → Act → World → Prop}
/-- A new variable, and a whole value into it at once. -/
theorem copy_event {W : World} {o1 o2 : Oper} (hg1 : o1.guard = none) {N : Tmp} (hd1 : o1.dst = some N) (hg2 : o2.guard = none) (hd2 : o2.dst = none) {t : TypeId} {v : Operand} (ho2 : o2.op = .store t (.tmp N) v) {cs zs : Array Value}
    (hrun : (execOp a.eval o1).run P W = .ok (.value (.pointer (some ⟨W.heap.size, 0, none⟩))) (W.alloc (.cells zs t (0, 0))))
    (hp : (a.put o1.dst (.pointer (some ⟨W.heap.size, 0, none⟩))).eval (.tmp N) = .pointer (some ⟨W.heap.size, 0, none⟩))
    (hv : (a.put o1.dst (.pointer (some ⟨W.heap.size, 0, none⟩))).eval v = .agg cs)
    (hi : (P.info? t).map (·.size) = some cs.size) (hz : zs.size = cs.size) (h1 : cs.all (·.oneCell') = true)
    (h : ∀ g, g = W.heap.size → ∀ w1, w1.heap[g]? = some (.cells cs t (0, 0)) → Below W.heap.size W w1 → wpList P ops Q rest (a.put o1.dst (.pointer (some ⟨g, 0, none⟩))) w1) : wpList P ops Q (o1 :: o2 :: rest) a W := by
  refine Kd.event_run hg1 hrun ?_
  refine wpList_store_row hg2 t (.tmp N) v ho2 W.heap.size cs hp hv t zs (heap_alloc_new W _) hi hz h1 ?_
  rw [hd2, World.setRow_alloc_new]
  exact h _ rfl _ (blk_new W _) (below_alloc (Below.refl _ _) _)
end
theorem info_prod : (Tryz.prog.info? 27).map (·.size) = some 19 := by kernel_rfl
theorem info_looks : (Tryz.prog.info? 117).map (·.size) = some 19 := by kernel_rfl
/-- The cells of a product. -/
abbrev pcs (p : Prod) (A1 : Option Addr) (c1 : Nat) (A2 : Option Addr) (c2 : Nat) (A3 : Option Addr) (c3 : Nat) : Array Value :=
  #[.string p.name, .int .i64 p.count, .int .i64 p.round, .int .i64 p.kind, .int .i64 p.every, .int .i64 p.times, .int .i64 p.grace, .int .i64 p.rate, .slice A1 p.resets.length c1, .int .i64 p.penalty, .int .i64 p.o1, .int .i64 p.o2, .int .i64 p.o3, .int .i64 p.o4, .int .i64 p.over, .slice A2 p.late.length c2, .int .i64 p.cap, .int .i64 p.roll, .slice A3 p.hol.length c3]
theorem pcs_one (p : Prod) (A1 : Option Addr) (c1 : Nat) (A2 : Option Addr) (c2 : Nat) (A3 : Option Addr) (c3 : Nat) : (pcs p A1 c1 A2 c2 A3 c3).all (·.oneCell') = true := by
  simp [Value.oneCell']
/-- A product's cells, of nothing. -/
abbrev pzs : Array Value :=
  #[.string ⟨#[]⟩, .int .i64 0, .int .i64 0, .int .i64 0, .int .i64 0, .int .i64 0, .int .i64 0, .int .i64 0, .slice none 0 0, .int .i64 0, .int .i64 0, .int .i64 0, .int .i64 0, .int .i64 0, .int .i64 0, .slice none 0 0, .int .i64 0, .int .i64 0, .slice none 0 0]
theorem pc_cells {p : Prod} {A1 : Option Addr} {c1 : Nat} {A2 : Option Addr} {c2 : Nat} {A3 : Option Addr} {c3 : Nat} {w : World} {g : Nat} {t : TypeId} (h : w.heap[g]? = some (.cells (pcs p A1 c1 A2 c2 A3 c3) t (0, 0))) :
    w.cell? ⟨g, 0, none⟩ = some (.string p.name) ∧ w.cell? ⟨g, 1, none⟩ = some (.int .i64 p.count) ∧ w.cell? ⟨g, 2, none⟩ = some (.int .i64 p.round) ∧ w.cell? ⟨g, 3, none⟩ = some (.int .i64 p.kind) ∧ w.cell? ⟨g, 4, none⟩ = some (.int .i64 p.every) ∧ w.cell? ⟨g, 5, none⟩ = some (.int .i64 p.times) ∧ w.cell? ⟨g, 6, none⟩ = some (.int .i64 p.grace) ∧ w.cell? ⟨g, 7, none⟩ = some (.int .i64 p.rate) ∧ w.cell? ⟨g, 8, none⟩ = some (.slice A1 p.resets.length c1) ∧ w.cell? ⟨g, 9, none⟩ = some (.int .i64 p.penalty) ∧ w.cell? ⟨g, 10, none⟩ = some (.int .i64 p.o1) ∧ w.cell? ⟨g, 11, none⟩ = some (.int .i64 p.o2) ∧ w.cell? ⟨g, 12, none⟩ = some (.int .i64 p.o3) ∧ w.cell? ⟨g, 13, none⟩ = some (.int .i64 p.o4) ∧ w.cell? ⟨g, 14, none⟩ = some (.int .i64 p.over) ∧ w.cell? ⟨g, 15, none⟩ = some (.slice A2 p.late.length c2) ∧ w.cell? ⟨g, 16, none⟩ = some (.int .i64 p.cap) ∧ w.cell? ⟨g, 17, none⟩ = some (.int .i64 p.roll) ∧ w.cell? ⟨g, 18, none⟩ = some (.slice A3 p.hol.length c3) :=
  ⟨(blk_cell h 0).trans rfl, (blk_cell h 1).trans rfl, (blk_cell h 2).trans rfl, (blk_cell h 3).trans rfl, (blk_cell h 4).trans rfl, (blk_cell h 5).trans rfl, (blk_cell h 6).trans rfl, (blk_cell h 7).trans rfl, (blk_cell h 8).trans rfl, (blk_cell h 9).trans rfl, (blk_cell h 10).trans rfl, (blk_cell h 11).trans rfl, (blk_cell h 12).trans rfl, (blk_cell h 13).trans rfl, (blk_cell h 14).trans rfl, (blk_cell h 15).trans rfl, (blk_cell h 16).trans rfl, (blk_cell h 17).trans rfl, (blk_cell h 18).trans rfl⟩
theorem blk_below {w w1 : World} {g : Nat} {o : Obj} (h : w.heap[g]? = some o) (hb : Below w.heap.size w w1) : w1.heap[g]? = some o := by rw [hb.block g (blk_lt h)]; exact h
theorem must_yes_of {b : Bool} (h : b = true) (w : World) : Calls Tryz.prog 79 #[.bool b] w fun e w' => e = .returned (.tuple #[]) ∧ w = w' := h ▸ must_yes w
theorem must_no_of {b : Bool} (h : b = false) (w : World) : Calls Tryz.prog 79 #[.bool b] w fun e w' => e = refusedE ∧ w = w' := h ▸ must_no w
end Go.Proofs.YtbbbjjfecblhpaaGreat.Pd
/- What the printed functions on months further on and on parts of a year come to, in plain numbers; and their contracts in these words. -/
namespace Go.Proofs.YtbbbjjfecblhpaaGreat.H
open Go.RowKit Go.Proofs.YtbbbjjfecblhpaaGreatW.PrintWords Go.Proofs.YtbbbjjfecblhpaaGreatW.PrintLast Go.Proofs.YtbbbjjfecblhpaaGreatW.PrintMore
open Go.Proofs.YtbbbjjfecblhpaaGreat.Math

theorem mn_min (a b : Int) : mn a b = min a b := by unfold mn; omega
theorem date_bd {n : Int} (h : isDay n) : 1900 ≤ yearOf n ∧ yearOf n ≤ 2200 ∧ 1 ≤ monthOf n ∧ monthOf n ≤ 12 ∧ 1 ≤ dayOf n ∧ dayOf n ≤ 31 := by
  obtain ⟨⟨y1, y2, d1, d2⟩, m1, m2, _⟩ := date_ok h
  have := mlen_bd (yearOf n) (monthOf n)
  exact ⟨y1, y2, m1, m2, d1, by omega⟩

/-- A day's place in years of twelve months of thirty days. -/
def thirty (n : Int) : Int := if isDay n then 360 * yearOf n + 30 * monthOf n + min (dayOf n) 30 else 0
theorem refThirty (n : Int) : PD.quittanceref06_thirty.f n = some (thirty n) := by
  unfold PD.quittanceref06_thirty.f thirty
  simp only [quittanceref03_Date.f, Option.bind_some]
  by_cases hd : isDay n
  · rw [date_yes hd, if_pos hd]
    obtain ⟨y1, y2, m1, m2, d1, d2⟩ := date_bd hd
    simp only [mn_min]
    rw [w64 (x := 360 * yearOf n) (by omega) (by omega), w64 (x := 30 * monthOf n) (by omega) (by omega), w64 (x := 360 * yearOf n + 30 * monthOf n) (by omega) (by omega), w64 (by omega) (by omega)]
  · rw [date_no hd, if_neg hd]; simp [wrap64, mn]
theorem thirty_bd (n : Int) : 0 ≤ thirty n ∧ thirty n ≤ 1000000 := by
  unfold thirty
  split
  · rename_i h
    obtain ⟨y1, y2, m1, m2, d1, d2⟩ := date_bd h
    omega
  · omega
/-- A day's place in years of 365 times 366 parts. -/
def actual (n : Int) : Int := 133590 * yearOf n + (n - opens (yearOf n)) * (366 - leap (yearOf n))
/-- How many parts lie between a day and the next one. -/
def one (c n : Int) : Int := if c = 2 then 1 else if c = 3 then 366 - leap (date n).1 else thirty (n + 1) - thirty n
theorem refOne (c n : Int) (h1 : -9223372036854775808 ≤ n) (h2 : n < 9223372036854775807) : PD.quittanceref06_One.f c n = some (one c n) := by
  unfold PD.quittanceref06_One.f one
  simp only [quittanceref03_Date.f, quittanceref03_Long.f, Option.bind_some]
  by_cases a : c = 2
  · rw [if_pos a, if_pos a]
  rw [if_neg a, if_neg a]
  by_cases b : c = 3
  · rw [if_pos b, if_pos b]
    exact long_bind _ (fun x => if x = true then some 365 else some 366) (fun l => some (366 - l)) rfl rfl
  · rw [if_neg b, if_neg b]
    rw [w64 (by omega) (by omega), refThirty, refThirty]
    simp only [Option.bind_some]
    have := thirty_bd n
    have := thirty_bd (n + 1)
    rw [w64 (by omega) (by omega)]
/-! ### Parts between two days -/
theorem next_day {n : Int} (h : isDay n) (h' : isDay (n + 1)) : (yearOf (n + 1) = yearOf n ∧ n + 1 < opens (yearOf n + 1)) ∨ (yearOf (n + 1) = yearOf n + 1 ∧ n + 1 = opens (yearOf n + 1)) := by
  obtain ⟨y1, y2, y3, y4⟩ := yearOf_spec h
  obtain ⟨z1, z2, z3, z4⟩ := yearOf_spec h'
  by_cases e : n + 1 < opens (yearOf n + 1)
  · exact Or.inl ⟨(year_unique h' (by omega) e y1 y2).symm, e⟩
  · have e' : n + 1 = opens (yearOf n + 1) := by omega
    have ho := opens_succ (yearOf n + 1)
    have hl := leap_01 (yearOf n + 1)
    refine Or.inr ⟨(year_unique h' (by omega) (by omega) (by omega) ?_).symm, e'⟩
    by_cases e2 : yearOf n = 2200
    · rw [e2] at e'
      have : opens 2201 = 84371 := by decide
      obtain ⟨_, h2⟩ := h'
      rw [show (2200 : Int) + 1 = 2201 from rfl, this] at e'
      omega
    · omega
theorem actual_succ {n : Int} (h : isDay n) (h' : isDay (n + 1)) : actual (n + 1) = actual n + (366 - leap (yearOf n)) := by
  have hl := leap_01 (yearOf n)
  have ho := opens_succ (yearOf n)
  unfold actual
  rcases next_day h h' with ⟨e, e2⟩ | ⟨e, e2⟩
  · rw [e]
    rcases (by omega : leap (yearOf n) = 0 ∨ leap (yearOf n) = 1) with l | l <;> rw [l] <;> omega
  · rw [e, show n + 1 - opens (yearOf n + 1) = 0 by omega]
    rcases (by omega : leap (yearOf n) = 0 ∨ leap (yearOf n) = 1) with l | l <;> rw [l] at ho ⊢ <;> omega
theorem actual_bd {n : Int} (h : isDay n) : 0 ≤ actual n ∧ actual n ≤ 300000000 := by
  obtain ⟨y1, y2, y3, y4⟩ := yearOf_spec h
  have hl := leap_01 (yearOf n)
  have ho := opens_succ (yearOf n)
  unfold actual
  rcases (by omega : leap (yearOf n) = 0 ∨ leap (yearOf n) = 1) with l | l <;> rw [l] at ho ⊢ <;> omega
/-- A day's place, by a count. -/
def place (c n : Int) : Int := if c = 1 then thirty n else if c = 2 then n else actual n
theorem place_succ {c n : Int} (hc : c = 1 ∨ c = 2 ∨ c = 3) (h : isDay n) (h' : isDay (n + 1)) : place c (n + 1) = place c n + one c n := by
  unfold place one
  rcases hc with rfl | rfl | rfl
  · simp; omega
  · simp
  · simp only [show ¬ ((3 : Int) = 1) by decide, show ¬ ((3 : Int) = 2) by decide, if_false, if_true]
    rw [date_yes h]
    exact actual_succ h h'
theorem place_bd {c n : Int} (h : isDay n) : -300000000 ≤ place c n ∧ place c n ≤ 300000000 := by
  have a := thirty_bd n
  have b := actual_bd h
  obtain ⟨h1, h2⟩ := h
  unfold place
  repeat' split
  all_goals omega
/-- How many parts lie between two days, or which error. -/
def between (c a b : Int) : Int × Int := if c = 1 ∨ c = 2 ∨ c = 3 then (if isDay a ∧ isDay b then (place c b - place c a, 0) else (0, 5)) else (0, 1)
/-! ### The contracts in these words -/
def monthly_Add.f (n x : Int) : Option (Int × Int) := some (add n x)
def quittanceref04_Add.f (n x : Int) : Option (Int × Int) := some (add n x)
def quittanceref06_thirty.f (n : Int) : Option Int := some (thirty n)
theorem quittanceref06_thirty.calls (a0 r : Int) (w : World) (h : quittanceref06_thirty.f a0 = some r) : Calls Tryz.prog 42 #[.int .i64 a0] w fun e w' => e = .returned (.int .i64 r) ∧ Below w.heap.size w w' :=
  PD.quittanceref06_thirty.calls a0 r w ((refThirty a0).trans h)
def quittanceref06_One.f (c n : Int) : Option Int := if -9223372036854775808 ≤ n ∧ n < 9223372036854775807 then some (one c n) else none
theorem quittanceref06_One.calls (a0 a1 r : Int) (w : World) (h : quittanceref06_One.f a0 a1 = some r) : Calls Tryz.prog 18 #[.int .i64 a0, .int .i64 a1] w fun e w' => e = .returned (.int .i64 r) ∧ Below w.heap.size w w' := by
  unfold quittanceref06_One.f at h
  split at h
  · rename_i hb; exact PD.quittanceref06_One.calls a0 a1 r w ((refOne a0 a1 hb.1 hb.2).trans h)
  · cases h
def business_month.f (n : Int) : Option Int := some (12 * (date n).1 + (date n).2.1)
def quittanceref06_Between.f (c a b : Int) : Option (Int × Int) := some (between c a b)
end Go.Proofs.YtbbbjjfecblhpaaGreat.H
/- Nightly, plain: money and its dues; what nights make of a state. -/
namespace Go.Proofs.YtbbbjjfecblhpaaGreat.Nt
open Go.Proofs.YtbbbjjfecblhpaaGreat.Math Go.Proofs.YtbbbjjfecblhpaaGreat.H Go.Proofs.YtbbbjjfecblhpaaGreat.Lv Pm
set_option linter.unusedVariables false
set_option linter.unusedSimpArgs false
/-- A balance that may be. -/
def mayB (v : Int) : Bool := decide (0 ≤ v) && decide (v ≤ 1000000000000000)
theorem mayB_iff {v : Int} : mayB v = true ↔ 0 ≤ v ∧ v ≤ 1000000000000000 := by simp [mayB]
/-- Dues stand behind what came before. -/
def behind : Option (Int × Int) → Int → Int → Bool
  | none, _, _ => true
  | some (a, b), n, d => decide (a < n) && decide (b < d)
def okDue (pv : Option (Int × Int)) (n d i q : Int) : Bool := mayB i && mayB q && !(i + q == 0) && decide (1 ≤ n) && behind pv n d
/-- The sums of dues, if they may be. -/
def dsum : Option (Int × Int) → List (List Int) → Int → Int → Option (Int × Int)
  | _, [], a, b => some (a, b)
  | pv, [n, d, i, q] :: r, a, b => if (okDue pv n d i q && mayB (a + i) && mayB (b + q)) = true then dsum (some (n, d)) r (a + i) (b + q) else none
  | _, _ :: _, _, _ => none
theorem dsum_bd : ∀ (l : List (List Int)) (pv : Option (Int × Int)) (a b x y : Int), mayB a = true → mayB b = true → dsum pv l a b = some (x, y) → mayB x = true ∧ mayB y = true
  | [], pv, a, b, x, y, ha, hb, h => by
    obtain ⟨rfl, rfl⟩ := Prod.mk.inj (Option.some.inj h)
    exact ⟨ha, hb⟩
  | [n, d, i, q] :: r, pv, a, b, x, y, ha, hb, h => by
    rw [dsum] at h
    split at h
    · rename_i hc
      simp only [Bool.and_eq_true] at hc
      exact dsum_bd r _ _ _ x y hc.1.2 hc.2 h
    · simp at h
  | [] :: r, pv, a, b, x, y, ha, hb, h => by simp [dsum] at h
  | [_] :: r, pv, a, b, x, y, ha, hb, h => by simp [dsum] at h
  | [_, _] :: r, pv, a, b, x, y, ha, hb, h => by simp [dsum] at h
  | [_, _, _] :: r, pv, a, b, x, y, ha, hb, h => by simp [dsum] at h
  | (_ :: _ :: _ :: _ :: _ :: _) :: r, pv, a, b, x, y, ha, hb, h => by simp [dsum] at h
/-- Money. -/
structure Mny where
  p : Int
  acc : Int
  dues : List (List Int)
  pen : Int
  fees : Int
  un : Int
  cash : Int
  earned : Int
  fined : Int
  charged : Int
def Mny.flat (m : Mny) : List Int := [m.p, m.acc, m.pen, m.fees, m.un, m.earned, m.fined, m.charged]
/-- Money that is right: its sums. -/
def readM (m : Mny) : Option (Int × Int) :=
  if m.flat.all mayB = true then
    match dsum none m.dues 0 0 with
    | none => none
    | some (a, b) => if -1000000000000000 ≤ m.cash ∧ m.cash ≤ 1000000000000000 ∧ m.cash + m.p + m.acc + a + b + m.pen + m.fees = m.un + m.earned + m.fined + m.charged then some (a, b) else none
  else none
def owedP (m : Mny) : Int := match readM m with
  | none => 0
  | some (_, b) => b
/-- A loan's state. -/
structure St where
  day : Int
  opn : Bool
  start : Int
  plan : List Int
  next : Int
  rate : Int
  m : Mny
  lateFees : Int
  residue : Int
  fine : Int
def zeroM : Mny := ⟨0, 0, [], 0, 0, 0, 0, 0, 0, 0⟩
def zeroS : St := ⟨0, false, 0, [], 0, 0, zeroM, 0, 0, 0⟩
def restOk (P : Pm.Prod) (r : Int) : Bool := decide (-(Gm.half P.count P.round) ≤ r) && decide (r < Gm.whole P.count - Gm.half P.count P.round)
/-- What is wrong with a product and a state. -/
def mayE (P : Pm.Prod) (s : St) : Int :=
  if err P ≠ 0 then err P
  else if (restOk P s.residue && restOk P s.fine && decide (0 ≤ s.rate) && decide (s.rate ≤ 1000000000) && (readM s.m).isSome) = true then
    (if -25567 ≤ s.day ∧ s.day < 84370 then 0 else 5)
  else 1
/-- What so many nights make of a state. -/
def nightsB (P : Pm.Prod) (s : St) (n : Int) : St × Int :=
  if (Gm.bear (Gm.whole P.count) (Gm.half P.count P.round) s.residue s.m.p s.rate (place P.count (s.day + n) - place P.count s.day)).2.1 ≠ 0 then (zeroS, 3)
  else if (Gm.bear (Gm.whole P.count) (Gm.half P.count P.round) s.fine (owedP s.m) P.penalty (place P.count (s.day + n) - place P.count s.day)).2.1 ≠ 0 then (zeroS, 3)
  else
    let z1 := Gm.bear (Gm.whole P.count) (Gm.half P.count P.round) s.residue s.m.p s.rate (place P.count (s.day + n) - place P.count s.day)
    let z2 := Gm.bear (Gm.whole P.count) (Gm.half P.count P.round) s.fine (owedP s.m) P.penalty (place P.count (s.day + n) - place P.count s.day)
    let m2 : Mny := { s.m with acc := s.m.acc + z1.1, earned := s.m.earned + z1.1, pen := s.m.pen + z2.1, fined := s.m.fined + z2.1 }
    if (readM m2).isSome = true then ({ s with m := m2, residue := z1.2.2, fine := z2.2.2, day := s.day + n }, 0) else (zeroS, 3)
def nightsP (P : Pm.Prod) (s : St) (n : Int) : St × Int :=
  if mayE P s ≠ 0 then (zeroS, mayE P s) else if n < 0 then (zeroS, 1) else if 84370 - s.day < n then (zeroS, 5) else nightsB P s n
end Go.Proofs.YtbbbjjfecblhpaaGreat.Nt
/- Lists of days: which may be holidays, and whether a day is among them. -/
namespace Go.Proofs.YtbbbjjfecblhpaaGreat.H
open Go.RowKit Go.Proofs.YtbbbjjfecblhpaaGreatW.PrintWords Go.Proofs.YtbbbjjfecblhpaaGreatW.PrintLast Go.Proofs.YtbbbjjfecblhpaaGreatW.PrintMore
open Go.Proofs.YtbbbjjfecblhpaaGreat.Math
set_option linter.unusedVariables false
set_option linter.unusedSimpArgs false
theorem rd_nat (l : List Int) (k : Nat) (h : k < l.length) : rd l (k : Int) = l[k] := by
  simp [rd, h]
theorem rd_cons (l : List Int) (k : Nat) (h : k < l.length) : l.drop k = rd l (k : Int) :: l.drop (k + 1) := by
  rw [List.drop_eq_getElem_cons h, rd_nat l k h]
/-- Each one is a day, and behind the one ahead. -/
def rises : Int → List Int → Bool
  | _, [] => true
  | p, x :: xs => decide (isDay x) && (decide (p < x) && rises x xs)
def rightB (l : List Int) : Bool := rises (-25568) l && decide (l.length ≤ 200)
theorem rises_all (l : List Int) : ∀ p, rises p l = true → ∀ x ∈ l, isDay x ∧ p < x := by
  induction l with
  | nil => intro p _ x hx; simp at hx
  | cons y ys ih =>
    intro p h x hx
    simp only [rises, Bool.and_eq_true, decide_eq_true_eq] at h
    obtain ⟨h1, h2, h3⟩ := h
    rcases List.mem_cons.1 hx with rfl | hx
    · exact ⟨h1, h2⟩
    · obtain ⟨h4, h5⟩ := ih y h3 x hx
      exact ⟨h4, by omega⟩
theorem rises_pair (l : List Int) : ∀ p, rises p l = true → l.Pairwise (· < ·) := by
  induction l with
  | nil => intro p _; exact List.Pairwise.nil
  | cons y ys ih =>
    intro p h
    simp only [rises, Bool.and_eq_true, decide_eq_true_eq] at h
    exact List.Pairwise.cons (fun x hx => (rises_all ys y h.2.2 x hx).2) (ih y h.2.2)
theorem rises_lt {l : List Int} (h : l.Pairwise (· < ·)) {i j : Nat} (hij : i < j) (hj : j < l.length) : rd l (i : Int) < rd l (j : Int) := by
  rw [rd_nat l i (by omega), rd_nat l j hj]
  exact List.pairwise_iff_getElem.1 h i j (by omega) hj hij
theorem rises_of {l : List Int} : ∀ (p : Int), (∀ x ∈ l, isDay x ∧ p < x) → l.Pairwise (· < ·) → rises p l = true := by
  induction l with
  | nil => intro p _ _; rfl
  | cons y ys ih =>
    intro p h hp
    obtain ⟨h1, h2⟩ := h y (List.mem_cons_self)
    cases hp with
    | cons h3 h4 =>
      simp only [rises, Bool.and_eq_true, decide_eq_true_eq]
      exact ⟨h1, h2, ih y (fun x hx => ⟨(h x (List.mem_cons_of_mem _ hx)).1, h3 x hx⟩) h4⟩

theorem in_loop (l : List Int) (x : Int) (hm : l.length ≤ 1000000000) (d : Nat) : ∀ (k i : Nat), i ≤ l.length → l.length - i = d → d < k → PA.quittancehelp_In_int.l0 k l x (i : Int) = some ((l.drop i).contains x) := by
  induction d with
  | zero =>
    intro k i h1 h2 h3
    obtain ⟨k, rfl⟩ : ∃ m, k = m + 1 := ⟨k - 1, by omega⟩
    simp only [PA.quittancehelp_In_int.l0]
    rw [if_neg (by omega), List.drop_eq_nil_of_le (by omega)]; rfl
  | succ d ih =>
    intro k i h1 h2 h3
    obtain ⟨k, rfl⟩ : ∃ m, k = m + 1 := ⟨k - 1, by omega⟩
    simp only [PA.quittancehelp_In_int.l0]
    rw [if_pos (by omega), if_pos (by omega), rd_cons l i (by omega), List.contains_cons]
    by_cases e : rd l (i : Int) = x
    · rw [if_pos e]; simp [e]
    · have e' : (x == rd l (i : Int)) = false := by simpa using fun h => e h.symm
      rw [if_neg e, w64 (by omega) (by omega), show (i : Int) + 1 = ((i + 1 : Nat) : Int) by omega, ih k (i + 1) (by omega) (by omega) (by omega), e', Bool.false_or]
theorem in_is (l : List Int) (x : Int) (hm : l.length ≤ 1000000000) : PA.quittancehelp_In_int.f 1000000001 l x = some (l.contains x) := in_loop l x hm l.length 1000000001 0 (by omega) (by omega) (by omega)

theorem right_loop (l : List Int) (hm : l.length ≤ 1000000000) (d : Nat) : ∀ (k i : Nat) (p : Int), i ≤ l.length → l.length - i = d → d < k → (i = 0 ∧ p = -25568 ∨ 0 < i ∧ p = rd l ((i : Int) - 1)) →
    PA.quittanceref05_Right.l0 k l (i : Int) = some (rises p (l.drop i) && decide (l.length ≤ 200)) := by
  induction d with
  | zero =>
    intro k i p h1 h2 h3 hp
    obtain ⟨k, rfl⟩ : ∃ m, k = m + 1 := ⟨k - 1, by omega⟩
    simp only [PA.quittanceref05_Right.l0]
    rw [if_neg (by omega), List.drop_eq_nil_of_le (by omega)]
    simp only [rises, Bool.true_and]
    congr 1
    rw [decide_eq_decide]; omega
  | succ d ih =>
    intro k i p h1 h2 h3 hp
    obtain ⟨k, rfl⟩ : ∃ m, k = m + 1 := ⟨k - 1, by omega⟩
    simp only [PA.quittanceref05_Right.l0]
    rw [if_pos (by omega), if_pos (by omega), refIs, rd_cons l i (by omega)]
    simp only [Option.bind_some, rises]
    have hstep := ih k (i + 1) (rd l (i : Int)) (by omega) (by omega) (by omega) (Or.inr ⟨by omega, by rw [show (((i + 1 : Nat) : Int) - 1) = (i : Int) by omega]⟩)
    by_cases hd : isDay (rd l (i : Int))
    · rw [decide_eq_true hd, if_pos rfl, Bool.true_and]
      rcases hp with ⟨rfl, rfl⟩ | ⟨h0, rfl⟩
      · rw [if_neg (by omega), w64 (by omega) (by omega), show ((0 : Nat) : Int) + 1 = ((0 + 1 : Nat) : Int) by omega, hstep]
        have : decide (-25568 < rd l ((0 : Nat) : Int)) = true := decide_eq_true (by have := hd.1; omega)
        rw [this, Bool.true_and]
      · rw [if_pos (by omega), w64 (x := (i : Int) - 1) (by omega) (by omega), if_pos (by omega), if_pos (by omega)]
        by_cases hle : rd l (i : Int) ≤ rd l ((i : Int) - 1)
        · rw [if_pos hle, decide_eq_false (show ¬ rd l ((i : Int) - 1) < rd l (i : Int) by omega)]; rfl
        · rw [if_neg hle, w64 (by omega) (by omega), show (i : Int) + 1 = ((i + 1 : Nat) : Int) by omega, hstep, decide_eq_true (show rd l ((i : Int) - 1) < rd l (i : Int) by omega), Bool.true_and]
    · rw [decide_eq_false hd, if_neg (by decide)]; rfl
theorem right_is (l : List Int) (hm : l.length ≤ 1000000000) : PA.quittanceref05_Right.f 1000000001 l = some (rightB l) := right_loop l hm l.length 1000000001 0 (-25568) (by omega) (by omega) (by omega) (Or.inl ⟨rfl, rfl⟩)

/-! ### Contracts, restated -/
def help_In_int.f (l : List Int) (x : Int) : Option Bool := if l.length ≤ 1000000000 then some (l.contains x) else none
theorem help_In_int.calls (A0 : Option Addr) (c0 : Nat) (l0 : List Int) (a1 : Int) (r : Bool) (w : World) (hr0 : Kd.C (Kd.int .i64) w A0 l0.length l0) (hc0 : l0.length ≤ c0) (h : help_In_int.f l0 a1 = some r) :
    Calls Tryz.prog 28 #[.slice A0 l0.length c0, .int .i64 a1] w fun e w' => e = .returned (.bool r) ∧ Drawn0 w w' := by
  unfold help_In_int.f at h
  split at h
  · rename_i hm
    exact PA.quittancehelp_In_int.calls 1000000001 A0 c0 l0 a1 r w hr0 hc0 ((in_is l0 a1 hm).trans h)
  · cases h
def ref05_Right.f (l : List Int) : Option Bool := if l.length ≤ 1000000000 then some (rightB l) else none
theorem ref05_Right.calls (A0 : Option Addr) (c0 : Nat) (l0 : List Int) (r : Bool) (w : World) (hr0 : Kd.C (Kd.int .i64) w A0 l0.length l0) (hc0 : l0.length ≤ c0) (h : ref05_Right.f l0 = some r) :
    Calls Tryz.prog 32 #[.slice A0 l0.length c0] w fun e w' => e = .returned (.bool r) ∧ Drawn0 w w' := by
  unfold ref05_Right.f at h
  split at h
  · rename_i hm
    exact PA.quittanceref05_Right.calls 1000000001 A0 c0 l0 r w hr0 hc0 ((right_is l0 hm).trans h)
  · cases h
end Go.Proofs.YtbbbjjfecblhpaaGreat.H
/- Contracts by hand: a calendar: which days are open. -/
namespace Go.Proofs.YtbbbjjfecblhpaaGreat.H
open Go.RowKit Go.Proofs.YtbbbjjfecblhpaaGreatW.PrintWords Go.Proofs.YtbbbjjfecblhpaaGreatW.PrintLast Go.Proofs.YtbbbjjfecblhpaaGreatW.PrintMore Go.Proofs.YtbbbjjfecblhpaaGreat.HW
open Go.Proofs.YtbbbjjfecblhpaaGreat.Math
set_option linter.unusedVariables false
set_option linter.unusedSimpArgs false

/-- A calendar lies in block gb, with these holidays. -/
def CalAt (w : World) (gb : Nat) (l : List Int) : Prop := ∃ A c, w.cell? ⟨gb, 0, none⟩ = some (.slice A l.length c) ∧ Kd.C (Kd.int .i64) w A l.length l ∧ l.length ≤ c ∧ l.length ≤ 200 ∧ l.Pairwise (· < ·) ∧ gb < w.heap.size
theorem CalAt.below {w w1 : World} {gb : Nat} {l : List Int} (h : CalAt w gb l) (hb : Below w.heap.size w w1) : CalAt w1 gb l := by
  obtain ⟨A, c, h1, h2, h3, h4, h5, h6⟩ := h
  exact ⟨A, c, by rw [hb.cell (by exact h6)]; exact h1, Kd.C_below h2 hb, h3, h4, h5, Nat.lt_of_lt_of_le h6 hb.size⟩
theorem CalAt.drawn {w w1 : World} {gb : Nat} {l : List Int} (h : CalAt w gb l) (hb : Drawn0 w w1) : CalAt w1 gb l := h.below hb.below
theorem there_any (n : Int) (w : World) : Calls Tryz.prog 93 #[.int .i64 n] w fun e w' => e = .returned (.bool (decide (isDay n))) ∧ Drawn0 w w' := business_there.calls n _ w rfl
end Go.Proofs.YtbbbjjfecblhpaaGreat.H
/- Contracts by hand: a list of numbers cloned; a calendar made. -/
namespace Go.Proofs.YtbbbjjfecblhpaaGreat.H
open Go.RowKit Go.Proofs.YtbbbjjfecblhpaaGreatW.PrintWords Go.Proofs.YtbbbjjfecblhpaaGreatW.PrintLast Go.Proofs.YtbbbjjfecblhpaaGreatW.PrintMore Go.Proofs.YtbbbjjfecblhpaaGreat.HW
open Go.Proofs.YtbbbjjfecblhpaaGreat.Math
set_option linter.unusedVariables false
set_option linter.unusedSimpArgs false
theorem info_int : (Tryz.prog.info? 3).map (fun i => (i.zero, i.size, i.bytes)) = some (some (.int .i64 0), 1, 8) := by kernel_rfl
/-- Cloned. -/
def Cloned (l : List Int) (w : World) (e : Ending) (w' : World) : Prop := ∃ A c, e = .returned (.slice A l.length c) ∧ Kd.C (Kd.int .i64) w' A l.length l ∧ l.length ≤ c ∧ Below w.heap.size w w' ∧ (∀ ad, A = some ad → w.heap.size ≤ ad.block)
theorem clone_nil (w : World) : Calls Tryz.prog 94 #[.slice none 0 0] w (Cloned [] w) := by
  have hnil := fun (w : World) => Lib.run_eql_slice_nil (P := Tryz.prog) w 25 3 none 0 0 0 0 Tryz.underlying25
  go_enter Tryz.func94, Tryz.ntmps94
  go_wp2_with fail
  go_ret
  exact ⟨none, 0, rfl, ⟨rfl, by simp, fun h => absurd h (Nat.lt_irrefl 0)⟩, Nat.le_refl _, Below.refl _ _, fun ad h => by cases h⟩
theorem clone_some (ad : Addr) (c0 : Nat) (l : List Int) (w : World) (hr0 : Kd.C (Kd.int .i64) w (some ad) l.length l) (hc0 : l.length ≤ c0) (hm : l.length ≤ 1000000) : Calls Tryz.prog 94 #[.slice (some ad) l.length c0] w (Cloned l w) := by
  have HN : ∀ j u, (nums .i64 l)[j]? = some u → (w.alloc (.cells #[] 3)).cell? (ad.add j) = some u := by
    intro j u hu
    have hj : j < l.length := by
      rcases Nat.lt_or_ge j l.length with h | h
      · exact h
      · rw [List.getElem?_eq_none (by rw [nums_length]; exact h)] at hu; cases hu
    obtain ⟨ad', e, hc⟩ := Kd.at_int (Kd.C_below hr0 ((Below.refl w.heap.size w).alloc (Nat.le_refl _) (.cells #[] 3))) (j : Int) (by omega) (by omega)
    obtain rfl : ad = ad' := Option.some.inj e
    rw [Int.toNat_natCast] at hc
    rw [hc, ← hu, rd_nat l j hj]
    simp [nums, hj]
  have HNN := Aside0.mk HN
  clear hr0 HN
  have hown : (w.alloc (.cells #[] 3)).ownsRow w.heap.size 3 1 (.slice (some ⟨w.heap.size, 0, none⟩) 0 0) 0 [] :=
    ⟨rfl, Or.inr ⟨w.heap.size, 0, #[], rfl, Nat.le_refl _, heap_alloc_new w _, Nat.le_refl _, Nat.zero_le _, rfl, rfl⟩⟩
  have HO := Aside0.mk hown
  clear hown
  obtain ⟨i0, hi, hz0, hz1, hz2⟩ := info_parts info_int
  have hnil := fun (w : World) => Lib.run_eql_slice_nil (P := Tryz.prog) w 25 3 (some ad) l.length c0 0 0 Tryz.underlying25
  go_enter Tryz.func94, Tryz.ntmps94
  go_wp2_with ((at_builtin; refine wpList_append_own _ rfl _ _ 25 rfl w.heap.size 3 i0 (.int .i64 0) 1 8 Tryz.underlying25 hi hz0 hz1 hz2 rfl (by decide) _ 0 [] rfl HO.out ad l.length c0 (nums .i64 l) rfl (by simp [nums]) HNN.out (by intro u hu; simp [nums] at hu; obtain ⟨a, _, rfl⟩ := hu; rfl) (by unfold maxLen; omega) (by omega) (by simp) ?_); intro v' w1 hown1 hgrow _)
  have hown2 : w1.ownsRow w.heap.size 3 1 v' l.length (encs (Value.int .i64) l) := by simpa [nums, encs] using hown1
  obtain ⟨A, c, rfl, hle, hr⟩ := own_reads_of_le (d := (0 : Int)) hown2
  have hb : Below w.heap.size w w1 := ((Below.refl w.heap.size w).alloc (Nat.le_refl _) (.cells #[] 3)).grown hgrow (by simp) (fun k hk => by cases hk; exact Nat.le_refl _)
  have hbs : ∀ ad, A = some ad → w.heap.size ≤ ad.block := fun ad e => own_base hown2 _ (by rw [e]; rfl)
  have HBS := Aside0.mk hbs
  clear hbs
  have HB := Aside0.mk hb
  have HC := Aside0.mk (show Kd.C (Kd.int .i64) w1 A l.length l from Kd.C_of_reads hr)
  clear hown1 hown2 hgrow hr hb
  go_wp2
  go_ret
  exact ⟨A, c, rfl, HC.out, hle, HB.out, HBS.out⟩
theorem clone_any (A0 : Option Addr) (c0 : Nat) (l : List Int) (w : World) (hr0 : Kd.C (Kd.int .i64) w A0 l.length l) (hc0 : l.length ≤ c0) (hn : A0 = none → c0 = 0) (hm : l.length ≤ 1000000) : Calls Tryz.prog 94 #[.slice A0 l.length c0] w (Cloned l w) := by
  cases A0 with
  | some ad => exact clone_some ad c0 l w hr0 hc0 hm
  | none =>
    obtain rfl := hn rfl
    obtain rfl : l = [] := List.eq_nil_of_length_eq_zero (by omega)
    exact clone_nil w

theorem new_many (A0 : Option Addr) (c0 : Nat) (l : List Int) (w : World) (h200 : 200 < l.length) (hm : l.length ≤ 1000000) :
    Calls Tryz.prog 83 #[.slice A0 l.length c0] w fun e w' => e = .returned (.tuple #[.pointer none, .int .i64 1]) ∧ Drawn0 w w' := by
  go_enter Tryz.func83, Tryz.ntmps83
  go_wp2_with fail
  go_ret2
  exact ⟨rfl, Drawn0.refl _⟩
/-- A calendar lies in block gb; its list lies from block B on. -/
def CalIn (B : Nat) (w : World) (gb : Nat) (l : List Int) : Prop := ∃ A c, w.cell? ⟨gb, 0, none⟩ = some (.slice A l.length c) ∧ Kd.C (Kd.int .i64) w A l.length l ∧ l.length ≤ c ∧ l.length ≤ 200 ∧ l.Pairwise (· < ·) ∧ gb < w.heap.size ∧ (∀ ad, A = some ad → B ≤ ad.block)
theorem CalIn.at {B : Nat} {w : World} {gb : Nat} {l : List Int} (h : CalIn B w gb l) : CalAt w gb l := by
  obtain ⟨A, c, h1, h2, h3, h4, h5, h6, _⟩ := h
  exact ⟨A, c, h1, h2, h3, h4, h5, h6⟩
/-- A calendar made, or none. -/
def Made2 (l : List Int) (b : Bool) (w : World) (e : Ending) (w' : World) : Prop := Below w.heap.size w w' ∧ (b = false → e = .returned (.tuple #[.pointer none, .int .i64 1])) ∧ (b = true → ∃ gb, w.heap.size ≤ gb ∧ e = .returned (.tuple #[.pointer (some ⟨gb, 0, none⟩), .int .i64 0]) ∧ CalIn w.heap.size w' gb l)
set_option maxHeartbeats 1000000 in
/-- Some numbers that are no holidays, or some. -/
theorem new_few2 (A0 : Option Addr) (c0 : Nat) (l : List Int) (b : Bool) (w : World) (hr0 : Kd.C (Kd.int .i64) w A0 l.length l) (hc0 : l.length ≤ c0) (hn : A0 = none → c0 = 0) (hm : l.length ≤ 200) (hb : rises (-25568) l = b) :
    Calls Tryz.prog 83 #[.slice A0 l.length c0] w (Made2 l b w) := by
  have HR0 := Aside0.mk hr0
  have HB := Aside0.mk hb
  have HN := Aside0.mk hn
  clear hr0 hb hn
  go_enter Tryz.func83, Tryz.ntmps83
  go_wp2_with fail
  go_loopg [11] (l.length + 1) (fun gq i w' => ∃ (k : Nat) (p : Int), k ≤ l.length ∧ i = .int .i64 k ∧ Aside0 (gq = l.length + 1 - k) ∧ Aside0 (k = 0 ∧ p = -25568 ∨ 0 < k ∧ p = rd l ((k : Int) - 1)) ∧ Aside0 (rises p (l.drop k) = b) ∧ Drawn0 w w')
  case atStart => exact ⟨0, -25568, Nat.zero_le _, rfl, ⟨rfl⟩, ⟨Or.inl ⟨rfl, rfl⟩⟩, ⟨by rw [← HB.out]; rfl⟩, Drawn0.refl _⟩
  case round =>
    obtain ⟨k, p, hk, rfl, hg, hp, hq, ⟨m1, rfl⟩⟩ := hrel
    by_cases hlt : k < l.length
    · obtain ⟨ad, e0, hx0⟩ := Kd.at_int HR0.out (k : Int) (by omega) (by omega)
      subst e0
      rw [Int.toNat_natCast] at hx0
      have hrc := hq.out
      rw [rd_cons l k hlt] at hrc
      simp only [rises] at hrc
      have HX : Aside0 (∀ j : Nat, j < l.length → w.cell? (ad.add j) = some (.int .i64 (rd l (j : Int)))) := ⟨fun j hj => by
        obtain ⟨ad', e', hx'⟩ := Kd.at_int HR0.out (j : Int) (by omega) (by omega)
        obtain rfl : ad = ad' := Option.some.inj e'
        rw [Int.toNat_natCast] at hx'
        exact hx'⟩
      by_cases hd : isDay (rd l (k : Int))
      · have d1 := decide_eq_true hd
        rw [d1, Bool.true_and] at hrc
        rcases (by omega : k = 0 ∨ 0 < k) with h0 | h0
        · have hp0 : p = -25568 := by rcases hp.out with h | h <;> omega
          have hlt2 : decide (p < rd l (k : Int)) = true := decide_eq_true (by have := hd.1; omega)
          rw [hlt2, Bool.true_and] at hrc
          have HQ := Aside0.mk hrc
          have g1 : (k : Int) ≤ 0 := by omega
          clear hrc hq hd hlt2 hp0 hp h0
          go_wp2_with fail
          refine (there_any _ _).mono ?_
          rintro e w1 ⟨rfl, ⟨m2, rfl⟩⟩
          go_wp2_with fail
          go_roundg (l.length + 1 - (k + 1))
          case measure => have := hg.out; omega
          case rel => exact ⟨k + 1, rd l (k : Int), by omega, by simp, ⟨rfl⟩, ⟨Or.inr ⟨by omega, by congr 1; omega⟩⟩, HQ, ⟨_, rfl⟩⟩
        · have hx1 := HX.out (k - 1) (by omega)
          have hp1 : p = rd l (((k - 1 : Nat) : Int)) := by
            rcases hp.out with h | h
            · omega
            · rw [h.2]; congr 1; omega
          have g1 : (0 : Int) ≤ (k : Int) - 1 := by omega
          by_cases hlt2 : p < rd l (k : Int)
          · rw [decide_eq_true hlt2, Bool.true_and] at hrc
            have HQ := Aside0.mk hrc
            have hle2 : decide (rd l (k : Int) ≤ rd l (((k - 1 : Nat) : Int))) = false := decide_eq_false (by omega)
            clear hrc hq hd hlt2 hp1 hp
            go_wp2_with fail
            refine (there_any _ _).mono ?_
            rintro e w1 ⟨rfl, ⟨m2, rfl⟩⟩
            go_wp2_with fail
            go_roundg (l.length + 1 - (k + 1))
            case measure => have := hg.out; omega
            case rel => exact ⟨k + 1, rd l (k : Int), by omega, by simp, ⟨rfl⟩, ⟨Or.inr ⟨by omega, by congr 1; omega⟩⟩, HQ, ⟨_, rfl⟩⟩
          · rw [decide_eq_false hlt2, Bool.false_and] at hrc
            subst hrc
            have hle2 : decide (rd l (k : Int) ≤ rd l (((k - 1 : Nat) : Int))) = true := decide_eq_true (by omega)
            clear hq hd hlt2 hp1 hp
            go_wp2_with fail
            refine (there_any _ _).mono ?_
            rintro e w1 ⟨rfl, ⟨m2, rfl⟩⟩
            go_wp2_with fail
            go_ret2
            exact ⟨pw_below_drewN (Below.refl _ _) _, fun _ => rfl, fun h => by cases h⟩
      · have d1 := decide_eq_false hd
        rw [d1, Bool.false_and] at hrc
        subst hrc
        clear hd hq
        go_wp2_with fail
        refine (there_any _ _).mono ?_
        rintro e w1 ⟨rfl, ⟨m2, rfl⟩⟩
        go_wp2_with fail
        go_ret2
        exact ⟨pw_below_drewN (Below.refl _ _) _, fun _ => rfl, fun h => by cases h⟩
    · have hk2 : k = l.length := by omega
      subst hk2
      have hrc := hq.out
      rw [List.drop_length] at hrc
      obtain rfl : b = true := by rw [← hrc]; rfl
      clear hq
      go_wp2_with fail
      refine (clone_any A0 c0 l _ (Kd.C_drewN HR0.out _) hc0 HN.out (by omega)).mono ?_
      rintro e w1 ⟨A, c, rfl, hc1, hle, hbl, hbs⟩
      have HBS := Aside0.mk hbs
      clear hbs
      have HC1 := Aside0.mk hc1
      have HBL := Aside0.mk hbl
      clear hc1 hbl
      have hBsz := HBL.out.size
      have hgb : (w1.alloc (.cells #[.slice A l.length c] 146)).cell? ⟨w1.heap.size, 0, none⟩ = some (.slice A l.length c) := by simp [go_sem]
      have HCA := Aside0.mk (show CalIn w.heap.size (w1.alloc (.cells #[.slice A l.length c] 146)) w1.heap.size l from ⟨A, c, hgb, Kd.C_below HC1.out ((Below.refl _ _).alloc (Nat.le_refl _) _), hle, hm, rises_pair l _ HB.out, by simp, by have := HBS.out; simpa using this⟩)
      have HBB := Aside0.mk ((pw_below_drewN (Below.refl w.heap.size w) (m1)).trans (HBL.out.mono (by simp)))
      clear hgb
      go_wp2_with fail
      go_ret2
      exact ⟨HBB.out.alloc HBB.out.size _, (fun h => by cases h), fun _ => ⟨w1.heap.size, HBB.out.size, rfl, HCA.out⟩⟩
end Go.Proofs.YtbbbjjfecblhpaaGreat.H
/- Plain law: which day is found, a step at a time. -/
namespace Go.Proofs.YtbbbjjfecblhpaaGreat.H
open Go.RowKit Go.Proofs.YtbbbjjfecblhpaaGreatW.PrintWords Go.Proofs.YtbbbjjfecblhpaaGreatW.PrintLast Go.Proofs.YtbbbjjfecblhpaaGreatW.PrintMore Go.Proofs.YtbbbjjfecblhpaaGreat.HW
open Go.Proofs.YtbbbjjfecblhpaaGreat.Math
set_option linter.unusedVariables false
set_option linter.unusedSimpArgs false
/-! ### Some days, that rise -/
def Some (lo hi : Int) (s : List Int) : Prop := s.Pairwise (· < ·) ∧ ∀ x ∈ s, lo ≤ x ∧ x ≤ hi
theorem Some.nil (lo hi : Int) : Some lo hi [] := ⟨List.Pairwise.nil, by simp⟩
theorem Some.snoc {lo hi x : Int} {s : List Int} (h : Some lo hi s) (h1 : lo ≤ x) (h2 : x ≤ hi) (h3 : s = [] ∨ rd s ((s.length : Int) - 1) < x) : Some lo hi (s ++ [x]) := by
  obtain ⟨p, a⟩ := h
  refine ⟨List.pairwise_append.2 ⟨p, List.pairwise_singleton _ _, fun y hy z hz => ?_⟩, fun y hy => ?_⟩
  · obtain rfl : z = x := by simpa using hz
    rcases h3 with rfl | h3
    · simp at hy
    · obtain ⟨j, hj, e⟩ := List.getElem_of_mem hy
      rw [← rd_nat s j hj] at e
      have hl : ((s.length : Int) - 1) = ((s.length - 1 : Nat) : Int) := by omega
      rw [hl] at h3
      rcases (by omega : j < s.length - 1 ∨ j = s.length - 1) with h | h
      · have := rises_lt p h (by omega)
        omega
      · rw [h] at e; omega
  · rcases List.mem_append.1 hy with h | h
    · exact a y h
    · obtain rfl : y = x := by simpa using h
      exact ⟨h1, h2⟩
theorem Some.right {lo hi : Int} {s : List Int} (h : Some lo hi s) (h1 : isDay lo) (h2 : isDay hi) (hl : s.length ≤ 200) : rightB s = true := by
  unfold rightB
  rw [decide_eq_true hl, Bool.and_true]
  exact rises_of _ (fun x hx => by obtain ⟨a, b⟩ := h.2 x hx; have := h1.1; have := h2.2; exact ⟨⟨by omega, by omega⟩, by omega⟩) h.1
end Go.Proofs.YtbbbjjfecblhpaaGreat.H
/- Words: all blocks but one are as1 they were; a row of numbers of one's own. -/
namespace Go.Proofs.YtbbbjjfecblhpaaGreat.H
open Go.RowKit Go.Proofs.YtbbbjjfecblhpaaGreatW.PrintWords Go.Proofs.YtbbbjjfecblhpaaGreatW.PrintLast Go.Proofs.YtbbbjjfecblhpaaGreatW.PrintMore
set_option linter.unusedVariables false
set_option linter.unusedSimpArgs false
/-- All blocks but one are as1 they were. -/
structure But (gb : Nat) (w w' : World) : Prop where
  os : w'.os = w.os
  tape : w'.tape = w.tape
  output : w'.output = w.output
  size : w.heap.size ≤ w'.heap.size
  block : ∀ k, k < w.heap.size → k ≠ gb → w'.heap[k]? = w.heap[k]?
theorem But.of {gb : Nat} {w w' : World} (h : Below w.heap.size w w') : But gb w w' := ⟨h.os, h.tape, h.output, h.size, fun k hk _ => h.block k hk⟩
theorem But.below {B gb : Nat} {a w w' : World} (h : Below B a w) (hw : B ≤ w.heap.size) (hg : B ≤ gb) (hb : But gb w w') : Below B a w' :=
  h.trans ⟨hb.os, hb.tape, hb.output, hb.size, fun k hk => hb.block k (by omega) (by omega)⟩
theorem But.setCell {gb : Nat} {a w : World} (h : But gb a w) {p : Addr} (hp : p.block = gb ∨ a.heap.size ≤ p.block) (u : Value) : But gb a (w.setCell p u) :=
  ⟨h.os, h.tape, h.output, by have := h.size; simp [World.setCell]; omega, fun k hk hn => by rw [Below.heap_setCell _ _ _ _ (by omega)]; exact h.block k hk hn⟩
theorem But.cell {gb : Nat} {w w' : World} (h : But gb w w') {p : Addr} (hp : p.block < w.heap.size) (hn : p.block ≠ gb) : w'.cell? p = w.cell? p := World.cell?_of_block (w := w) (h.block p.block hp hn)
theorem But.frozen {gb : Nat} {w w' : World} (h : But gb w w') {p : Addr} (hp : p.block < w.heap.size) (hn : p.block ≠ gb) : w'.frozen? p = w.frozen? p := World.frozen?_of_block (w := w) (h.block p.block hp hn)

/-- A block of cells, all told; it may be written. -/
def Blk (w : World) (g : Nat) (e : TypeId) (vs : List Value) : Prop := w.heap[g]? = some (.cells vs.toArray e (0, 0))
theorem Blk.lt {w : World} {g : Nat} {e : TypeId} {vs : List Value} (h : Blk w g e vs) : g < w.heap.size := by
  rcases Nat.lt_or_ge g w.heap.size with h1 | h1
  · exact h1
  · unfold Blk at h; rw [Array.getElem?_eq_none h1] at h; cases h
theorem Blk.same {w w1 : World} {g : Nat} {e : TypeId} {vs : List Value} (h : Blk w g e vs) (hb : w1.heap[g]? = w.heap[g]?) : Blk w1 g e vs := hb.trans h
theorem Blk.below {w w1 : World} {g : Nat} {e : TypeId} {vs : List Value} (h : Blk w g e vs) (hb : Below w.heap.size w w1) : Blk w1 g e vs := h.same (hb.block g h.lt)
theorem Blk.cell {w : World} {g : Nat} {e : TypeId} {vs : List Value} (h : Blk w g e vs) (j : Nat) : w.cell? ⟨g, j, none⟩ = vs[j]? := by
  rw [cell_of_row w g j _ e (0, 0) h]; simp
theorem Blk.frozen {w : World} {g : Nat} {e : TypeId} {vs : List Value} (h : Blk w g e vs) (j : Nat) : w.frozen? ⟨g, j, none⟩ = false := frozen_of_row w g j _ e h
theorem Blk.put {w : World} {g : Nat} {e : TypeId} {vs : List Value} (h : Blk w g e vs) (j : Nat) (u : Value) : Blk (w.setCell ⟨g, j, none⟩ u) g e (vs.set j u) := by
  have h1 := heap_setCell_same w g j _ e u h
  unfold Blk
  rw [h1]
  congr 2
  apply Array.ext'
  simp
theorem Blk.made (w : World) (e : TypeId) (vs : List Value) : Blk (w.alloc (.cells vs.toArray e)) w.heap.size e vs := heap_alloc_new w _
/-- What the call owns, all told. -/
theorem Blk.ofOwn {w : World} {base B n cap : Nat} {e : TypeId} {size : Nat} {xs : List Value} (h : w.ownsRow base e size (.slice (some ⟨B, 0, none⟩) n cap) n xs) : ∃ t : List Value, t.length = (cap - n) * size ∧ Blk w B e (xs ++ t) ∧ n ≤ cap := by
  rcases h.2 with ⟨h, _⟩ | ⟨g', cap', cur, e', _, hh, h1, h2, h3, h4⟩
  · cases h
  · injection e' with e1 e2 e3
    injection e1 with e1
    injection e1 with e4
    subst e4
    subst e3
    have ee : cur.toList = xs ++ cur.toList.drop (n * size) := by rw [← h4, List.take_append_drop]
    refine ⟨cur.toList.drop (n * size), by rw [List.length_drop, Array.length_toList, h3, Nat.sub_mul], ?_, h1⟩
    unfold Blk
    rw [← ee, hh]
/-- Numbers in a block, read. -/
theorem Blk.reads {w : World} {g : Nat} {e : TypeId} {k : IntKind} {l : List Int} {t : List Value} (h : Blk w g e (nums k l ++ t)) (hm : l.length ≤ 9223372036854775807) : Kd.C (Kd.int k) w (some ⟨g, 0, none⟩) l.length l := by
  refine Kd.C_of_reads (d := (0 : Int)) ⟨rfl, hm, fun _ => ⟨_, rfl, fun j hj => ?_⟩⟩
  have e' : (⟨g, 0, none⟩ : Addr).add j = ⟨g, j, none⟩ := by simp [Addr.add]; try exact fun h => h.symm
  rw [e', h.cell j, List.getElem?_append_left (by rw [nums_length]; exact hj)]
  simp [nums, hj]
end Go.Proofs.YtbbbjjfecblhpaaGreat.H
/- Plain: days rolled, rising; a list of one's own as1 a block of numbers. -/
namespace Go.Proofs.YtbbbjjfecblhpaaGreat.Du
open Go.RowKit Go.Proofs.YtbbbjjfecblhpaaGreatW.PrintWords Go.Proofs.YtbbbjjfecblhpaaGreatW.PrintLast Go.Proofs.YtbbbjjfecblhpaaGreatW.PrintMore
open Go.Proofs.YtbbbjjfecblhpaaGreat.Math Go.Proofs.YtbbbjjfecblhpaaGreat.H
set_option linter.unusedVariables false
set_option linter.unusedSimpArgs false
theorem rises_pm (l : List Int) : ∀ p, rises p l = Pm.holsOk p l := by
  induction l with
  | nil => intro p; rfl
  | cons a l ih =>
    intro p
    simp only [rises, Pm.holsOk, ih]
    rw [Bool.eq_iff_iff]
    simp only [Bool.and_eq_true, decide_eq_true_eq]
    constructor
    · rintro ⟨⟨h1, h2⟩, h3, h4⟩; exact ⟨⟨h1, h2, h3⟩, h4⟩
    · rintro ⟨⟨h1, h2, h3⟩, h4⟩; exact ⟨⟨h1, h2⟩, h3, h4⟩
/-- What was told, and what follows, or why none. -/
def after (pre : List Int) (r : List Int × Int) : List Int × Int := if r.2 = 0 then (pre ++ r.1, 0) else ([], r.2)
/-- A list of the call's own. -/
def RowI (w : World) (B : Nat) (v : Value) (l : List Int) : Prop :=
  (v = .slice none 0 0 ∧ l = []) ∨ ∃ g c t, v = .slice (some ⟨g, 0, none⟩) l.length c ∧ B ≤ g ∧ l.length ≤ c ∧ H.Blk w g 3 (nums .i64 l ++ t)
end Go.Proofs.YtbbbjjfecblhpaaGreat.Du
/-
  DERIVED: THE SHELF's CONTRACTS AT THIS DUMP, IN PLAIN WORDS (tools/lay-plain.mjs out of 'TryzShelf.lean', which tools/lay-shelf.mjs wrote): THE SAME DECLARATIONS UNDER THE SAME NAMES: 'import', 'namespace', 'open', 'def', 'theorem' AND NOTHING ELSE: no command of the shelf's: FOR A HAND-IN. Each laying: the table of numbers ('.._ren') and one theorem, a field a fact of the dump's own or the kernel's comparison; each contract: ONE APPLICATION.
-/
namespace Go.Proofs
open Go.Shelf
def Tryz.lays134_ren : Go.Shelf.Ren := ⟨fun | 134 => 100 | 129 => 102 | n => n, fun | 53 => 51 | 3 => 3 | 4 => 4 | 46 => 50 | 5 => 5 | 9 => 9 | n => n, fun | n => n⟩
theorem Tryz.lays134 : Go.Proofs.Lays.n134 Tryz.prog Tryz.lays134_ren := {
  mixed := by kernel_rfl
  f129 := Tryz.func102.trans (congrArg some (by kernel_rfl))
  f134 := Tryz.func100.trans (congrArg some (by kernel_rfl))
  t3 := Tryz.underlying3
  a3 := Tryz.isAgg3
  z3 := Tryz.sizeOf3
  v3 := Tryz.zeroValue3
  t4 := Tryz.underlying4
  a4 := Tryz.isAgg4
  z4 := Tryz.sizeOf4
  v4 := Tryz.zeroValue4
  t5 := Tryz.underlying5
  a5 := Tryz.isAgg5
  z5 := Tryz.sizeOf5
  v5 := Tryz.zeroValue5
  t9 := Tryz.underlying9
  a9 := Tryz.isAgg9
  z9 := Tryz.sizeOf9
  v9 := Tryz.zeroValue9
  t46 := Tryz.underlying50
  a46 := Tryz.isAgg50
  z46 := Tryz.sizeOf50
  v46 := Tryz.zeroValue50
  t53 := Tryz.underlying51
  a53 := Tryz.isAgg51
  z53 := Tryz.sizeOf51
  v53 := Tryz.zeroValue51 }
/-- bits.LeadingZeros64: "LeadingZeros64 returns the number of leading zero bits in x; the result is 64 for x == 0.": IT RETURNS '64 - Lib.bitLen x'; the world is as1 it was. ITS CALLEE bits.Len64 IS MET BY ITS OWN CONTRACT OFF THE SHELF (lay that first): entered in place it sends the kernel out of memory. (LAID: no walk: one application.) -/
theorem Tryz.bits_LeadingZeros64 (x : Int) (w : World) (h0 : 0 ≤ x) (h1 : x ≤ 18446744073709551615) :
    Calls Tryz.prog 100 #[.int .u64 x] w fun e w' => e = .returned (.int .i64 (64 - (Lib.bitLen x.toNat : Int))) ∧ w' = w := Any.bits_LeadingZeros64 Tryz.lays134 x w h0 h1
def Tryz.lays144_ren : Go.Shelf.Ren := ⟨fun | 144 => 92 | 143 => 99 | 219 => 101 | 217 => 103 | 225 => 104 | 224 => 105 | 267 => 106 | 266 => 107 | 314 => 108 | n => n, fun | 9 => 9 | 4 => 4 | 3 => 3 | 5 => 5 | 46 => 50 | 146 => 156 | 51 => 155 | n => n, fun | 1 => 2 | n => n⟩
theorem Tryz.lays144 : Go.Proofs.Lays.n144 Tryz.prog Tryz.lays144_ren := {
  mixed := by kernel_rfl
  f143 := Tryz.func99.trans (congrArg some (by kernel_rfl))
  f144 := Tryz.func92.trans (congrArg some (by kernel_rfl))
  f217 := Tryz.func103.trans (congrArg some (by kernel_rfl))
  f219 := Tryz.func101.trans (congrArg some (by kernel_rfl))
  f224 := Tryz.func105.trans (congrArg some (by kernel_rfl))
  f225 := Tryz.func104.trans (congrArg some (by kernel_rfl))
  f266 := Tryz.func107.trans (congrArg some (by kernel_rfl))
  f267 := Tryz.func106.trans (congrArg some (by kernel_rfl))
  f314 := Tryz.func108.trans (congrArg some (by kernel_rfl))
  t3 := Tryz.underlying3
  a3 := Tryz.isAgg3
  z3 := Tryz.sizeOf3
  v3 := Tryz.zeroValue3
  t4 := Tryz.underlying4
  a4 := Tryz.isAgg4
  z4 := Tryz.sizeOf4
  v4 := Tryz.zeroValue4
  t5 := Tryz.underlying5
  a5 := Tryz.isAgg5
  z5 := Tryz.sizeOf5
  v5 := Tryz.zeroValue5
  t9 := Tryz.underlying9
  a9 := Tryz.isAgg9
  z9 := Tryz.sizeOf9
  v9 := Tryz.zeroValue9
  t46 := Tryz.underlying50
  a46 := Tryz.isAgg50
  z46 := Tryz.sizeOf50
  v46 := Tryz.zeroValue50
  t51 := Tryz.underlying155
  a51 := Tryz.isAgg155
  z51 := Tryz.sizeOf155
  v51 := Tryz.zeroValue155
  t146 := Tryz.underlying156
  a146 := Tryz.isAgg156
  z146 := Tryz.sizeOf156
  v146 := Tryz.zeroValue156
  g1 := by kernel_rfl }
open Go.RowKit Go.Lib in
/-- strings.Contains: "Contains reports whether substr is within s.": IT RETURNS 'Lib.contains s substr'; the world is as1 it was. (LAID: no walk: one application.) -/
theorem Tryz.strings_Contains (s sub : ByteArray) (m : Int) (w : World) (hs : s.size < 4294967281) (hm : w.cell? ⟨2, 0, none⟩ = some (.int .i64 m)) :
    Calls Tryz.prog 92 #[.string s, .string sub] w fun e w' => e = .returned (.bool (Lib.contains s.data.toList sub.data.toList)) ∧ w' = w := Any.strings_Contains Tryz.lays144 s sub m w hs hm
def Tryz.lays264_ren : Go.Shelf.Ren := ⟨fun | 264 => 96 | n => n, fun | 53 => 51 | 46 => 50 | n => n, fun | n => n⟩
theorem Tryz.lays264 : Go.Proofs.Lays.n264 Tryz.prog Tryz.lays264_ren := {
  mixed := by kernel_rfl
  f264 := Tryz.func96.trans (congrArg some (by kernel_rfl))
  t46 := Tryz.underlying50
  a46 := Tryz.isAgg50
  z46 := Tryz.sizeOf50
  v46 := Tryz.zeroValue50
  t53 := Tryz.underlying51
  a53 := Tryz.isAgg51
  z53 := Tryz.sizeOf51
  v53 := Tryz.zeroValue51 }
open Go.RowKit Go.Lib in
theorem Tryz.bits_Mul64 (x y : Nat) (hx : x < 18446744073709551616) (hy : y < 18446744073709551616) (w : World) :
    Calls Tryz.prog 96 #[.int .u64 x, .int .u64 y] w fun e w' => e = .returned (.tuple #[.int .u64 ((x * y / 18446744073709551616 : Nat) : Int), .int .u64 ((x * y % 18446744073709551616 : Nat) : Int)]) ∧ w' = w := Any.bits_Mul64 Tryz.lays264 x y hx hy w
end Go.Proofs
/- Contracts by hand: a name. -/
namespace Go.Proofs.YtbbbjjfecblhpaaGreat.Pd
open Go.RowKit Go.Proofs.YtbbbjjfecblhpaaGreatW.PrintWords Go.Proofs.YtbbbjjfecblhpaaGreatW.PrintLast Go.Proofs.YtbbbjjfecblhpaaGreatW.PrintMore Go.Proofs.YtbbbjjfecblhpaaGreat.HW
open Pm
set_option linter.unusedVariables false
set_option linter.unusedSimpArgs false
/-- The library's own variable holds some number. -/
def GV (w : World) : Prop := ∃ m, w.cell? ⟨2, 0, none⟩ = some (.int .i64 m)
theorem GV.lt {w : World} (h : GV w) : 2 < w.heap.size := by
  obtain ⟨m, h⟩ := h
  rcases Nat.lt_or_ge 2 w.heap.size with h1 | h1
  · exact h1
  · exfalso
    have e : w.heap[2]? = none := Array.getElem?_eq_none h1
    simp [World.cell?, e] at h
theorem GV.below {w w1 : World} (h : GV w) (hb : Below w.heap.size w w1) : GV w1 := by
  have hl := h.lt
  obtain ⟨m, h⟩ := h
  exact ⟨m, by rw [hb.cell hl]; exact h⟩
theorem bytes_belowP (w : World) (t : ByteArray) : Below w.heap.size w (Lib.bytesWorld w 5 t) := by
  refine ⟨rfl, rfl, rfl, ?_, fun k hk => ?_⟩
  · rw [Lib.bytesWorld_size]; omega
  · exact Lib.bytesWorld_at_old _ _ _ k hk
set_option maxRecDepth 100000 in
theorem name_empty (s : ByteArray) (w : World) (h : s.size = 0) : Calls Tryz.prog 80 #[.string s] w fun e w' => e = .returned (.bool false) ∧ w = w' := by
  have h1 : s.size < 1 := by omega
  clear h
  go_enter Tryz.func80, Tryz.ntmps80
  go_wp2_with fail
  go_ret
  exact ⟨rfl, rfl⟩
set_option maxRecDepth 100000 in
theorem name_long (s : ByteArray) (w : World) (h : 20 < s.size) : Calls Tryz.prog 80 #[.string s] w fun e w' => e = .returned (.bool false) ∧ w = w' := by
  go_enter Tryz.func80, Tryz.ntmps80
  go_wp2_with fail
  go_ret
  exact ⟨rfl, rfl⟩
set_option maxRecDepth 100000 in
theorem name_head (s : ByteArray) (w : World) (h0 : 0 < s.size) (h20 : s.size ≤ 20) (hc : (s[0].toNat : Int) < 97 ∨ 122 < (s[0].toNat : Int)) : Calls Tryz.prog 80 #[.string s] w fun e w' => e = .returned (.bool false) ∧ w = w' := by
  have h1 : 1 ≤ s.size := h0
  rcases hc with hc | hc
  · go_enter Tryz.func80, Tryz.ntmps80
    go_wp2_with fail
    go_ret
    exact ⟨rfl, rfl⟩
  · have hc2 : 97 ≤ (s[0].toNat : Int) := by omega
    go_enter Tryz.func80, Tryz.ntmps80
    go_wp2_with fail
    go_ret
    exact ⟨rfl, rfl⟩
theorem getD_dropP (l : List UInt8) (k : Nat) (h : k < l.length) : l.drop k = l.getD k 0 :: l.drop (k + 1) := by
  rw [List.drop_eq_getElem_cons h, List.getD_eq_getElem?_getD, List.getElem?_eq_getElem h]; rfl
theorem letter_yes {c : UInt8} (h : letter c = true) : (97 ≤ (c.toNat : Int) ∧ (c.toNat : Int) ≤ 122) ∨ (48 ≤ (c.toNat : Int) ∧ (c.toNat : Int) ≤ 57) ∨ (c.toNat : Int) = 45 := by
  simpa [letter, small, other, Bool.or_eq_true, Bool.and_eq_true] using h
theorem letter_not {c : UInt8} (h : letter c = false) : ¬ ((97 ≤ (c.toNat : Int) ∧ (c.toNat : Int) ≤ 122) ∨ (48 ≤ (c.toNat : Int) ∧ (c.toNat : Int) ≤ 57) ∨ (c.toNat : Int) = 45) := by
  intro h2
  have : letter c = true := by simpa [letter, small, other, Bool.or_eq_true, Bool.and_eq_true] using h2
  rw [h] at this; cases this
theorem all_no {l : List UInt8} (h : l.all letter = true) : (32 : UInt8) ∉ l := by
  intro hm
  exact letter_no _ (List.all_eq_true.1 h _ hm) rfl
theorem words_is (s : ByteArray) (h : s.data.toList.all letter = true) : Lib.contains (joined wordsL) ((⟨#[32]⟩ : ByteArray) ++ s ++ (⟨#[32]⟩ : ByteArray)).data.toList = isWord s.data.toList := by
  have e : ((⟨#[32]⟩ : ByteArray) ++ s ++ (⟨#[32]⟩ : ByteArray)).data.toList = 32 :: (s.data.toList ++ [32]) := by simp
  rw [e]
  exact contains_word _ (all_no h)
theorem contains_is (ws s : ByteArray) {w : World} (hw : ws.data.toList = joined wordsL) (h : s.data.toList.all letter = true) (hg : GV w) :
    Calls Tryz.prog 92 #[.string ws, .string ((⟨#[32]⟩ : ByteArray) ++ s ++ (⟨#[32]⟩ : ByteArray))] w fun e w' => e = .returned (.bool (isWord s.data.toList)) ∧ w = w' := by
  obtain ⟨m, hm⟩ := hg
  have hsz : ws.size < 4294967281 := by
    have : ws.size = ws.data.toList.length := rfl
    rw [this, hw]; decide +kernel
  refine (Tryz.strings_Contains ws _ m w hsz hm).mono ?_
  rintro e w1 ⟨rfl, rfl⟩
  rw [hw, words_is s h]
  exact ⟨rfl, rfl⟩
set_option maxRecDepth 100000 in
set_option maxHeartbeats 1000000 in
theorem name_tail (s : ByteArray) (w : World) (hg : GV w) (h0 : 0 < s.size) (h20 : s.size ≤ 20) (hc0 : 97 ≤ (s[0].toNat : Int)) (hc1 : (s[0].toNat : Int) ≤ 122) : Calls Tryz.prog 80 #[.string s] w fun e w' => e = .returned (.bool (s.data.toList.all letter && !isWord s.data.toList)) ∧ Below w.heap.size w w' := by
  have h1 : 1 ≤ s.size := h0
  have HG := Aside0.mk hg
  have hcv := fun (W : World) (t : ByteArray) => Lib.run_convert_string_bytes (P := Tryz.prog) W 9 142 5 t Tryz.underlying9 Tryz.underlying142 Tryz.underlying5
  have hbel := Aside0.mk (bytes_belowP w s)
  have HC := Aside0.mk (fun j hj => Lib.bytesWorld_cell w 5 s j hj)
  obtain ⟨l, hl⟩ : ∃ l, s.data.toList = l := ⟨_, rfl⟩
  have hlen : l.length = s.size := by rw [← hl]; rfl
  have HL := Aside0.mk hlen
  have HLS := Aside0.mk hl
  obtain ⟨bb, hbb⟩ : ∃ bb, l.all letter = bb := ⟨_, rfl⟩
  have HBB := Aside0.mk hbb
  have hgoal : Aside0 ((s.data.toList.all letter && !isWord s.data.toList) = (bb && !isWord l)) := ⟨by rw [hl, hbb]⟩
  rw [hgoal.out]
  clear hlen hl hbb hg
  go_enter Tryz.func80, Tryz.ntmps80
  go_wp2_with fail
  clear hcv
  generalize hW : Lib.bytesWorld w 5 s = W at *
  clear hW
  go_loop [26] (fun i => ∃ (k : Nat), k ≤ s.size ∧ i = .int .i64 k ∧ Aside0 ((l.drop k).all letter = bb)) (fun i => s.size - (intOf i).toNat)
  case atStart => exact ⟨0, Nat.zero_le _, rfl, ⟨by simpa using HBB.out⟩⟩
  case round =>
    obtain ⟨k, hk, rfl, hd⟩ := hrel
    by_cases hlt : k < s.size
    · have hc := HC.out k hlt
      rw [HLS.out, List.getD_eq_getElem?_getD] at hc
      have hdr := getD_dropP l k (by rw [HL.out]; exact hlt)
      rw [List.getD_eq_getElem?_getD] at hdr
      have hd2 := hd.out
      rw [hdr, List.all_cons] at hd2
      generalize l[k]?.getD 0 = c at *
      clear hdr hd
      have hb0 : 0 ≤ (c.toNat : Int) := by omega
      have hb1 : (c.toNat : Int) ≤ 255 := by have := c.toNat_lt; omega
      cases hcl : letter c with
      | true =>
        rw [hcl, Bool.true_and] at hd2
        have HD := Aside0.mk hd2
        clear hd2
        rcases letter_yes hcl with ⟨q1, q2⟩ | ⟨q1, q2⟩ | q1
        · clear hcl
          go_wp2_with fail
          go_round
          case rel => exact ⟨k + 1, by omega, by go_num, HD⟩
          case measure => simp [intOf]; omega
        · have q3 : (c.toNat : Int) < 97 := by omega
          clear hcl
          go_wp2_with fail
          go_round
          case rel => exact ⟨k + 1, by omega, by go_num, HD⟩
          case measure => simp [intOf]; omega
        · have q3 : (c.toNat : Int) < 97 := by omega
          have q4 : (c.toNat : Int) < 48 := by omega
          have q5 : ((c.toNat : Int) != 45) = false := by rw [q1]; rfl
          have q6 : ((c.toNat : Int) == 45) = true := by rw [q1]; rfl
          clear hcl q1
          go_wp2_with fail
          go_round
          case rel => exact ⟨k + 1, by omega, by go_num, HD⟩
          case measure => simp [intOf]; omega
      | false =>
        rw [hcl, Bool.false_and] at hd2
        subst hd2
        have hno := letter_not hcl
        have q5 : ((c.toNat : Int) != 45) = true := by simp; omega
        have q6 : ((c.toNat : Int) == 45) = false := by simp; omega
        clear hcl
        rcases (by omega : (c.toNat : Int) < 48 ∨ (57 < (c.toNat : Int) ∧ (c.toNat : Int) < 97) ∨ (57 < (c.toNat : Int) ∧ 97 ≤ (c.toNat : Int) ∧ 122 < (c.toNat : Int))) with r | ⟨r, r2⟩ | ⟨r, r2, r3⟩
        · have r4 : (c.toNat : Int) < 97 := by omega
          clear hno
          go_wp2_with fail
          go_ret
          exact ⟨rfl, hbel.out⟩
        · have r4 : 48 ≤ (c.toNat : Int) := by omega
          clear hno
          go_wp2_with fail
          go_ret
          exact ⟨rfl, hbel.out⟩
        · have r4 : 48 ≤ (c.toNat : Int) := by omega
          clear hno
          go_wp2_with fail
          go_ret
          exact ⟨rfl, hbel.out⟩
    · have hk2 : k = s.size := by omega
      have hd2 := hd.out
      rw [List.drop_of_length_le (by rw [HL.out]; omega)] at hd2
      obtain rfl : true = bb := hd2
      clear hd
      have HBL := Aside0.mk hbel.out
      have HG2 := Aside0.mk (HG.out.below hbel.out)
      have HAL := Aside0.mk (show s.data.toList.all letter = true by rw [HLS.out]; exact HBB.out)
      have HLS2 := HLS
      go_wp2_with fail
      refine (contains_is _ s rfl HAL.out HG2.out).mono ?_
      rintro e w1 ⟨rfl, rfl⟩
      go_wp2_with fail
      go_ret
      exact ⟨by rw [HLS2.out]; simp, HBL.out⟩
theorem toList_head (s : ByteArray) (h0 : 0 < s.size) : ∃ l, s.data.toList = s[0] :: l := by
  obtain ⟨⟨l⟩⟩ := s
  match l, h0 with
  | c :: l, _ => exact ⟨l, rfl⟩
theorem small_letter {c : UInt8} (h : small c = true) : letter c = true := by unfold letter; rw [h]; rfl
/-- A name, or none. -/
theorem name_any (s : ByteArray) (w : World) (hg : GV w) : Calls Tryz.prog 80 #[.string s] w fun e w' => e = .returned (.bool (nameOk s.data.toList)) ∧ Below w.heap.size w w' := by
  have hsz : s.data.toList.length = s.size := rfl
  by_cases h0 : s.size = 0
  · refine (name_empty s w h0).mono ?_
    rintro e w1 ⟨rfl, rfl⟩
    refine ⟨?_, Below.refl _ _⟩
    rw [show nameOk s.data.toList = false by unfold nameOk; rw [hsz, h0]; simp]
  · by_cases h20 : 20 < s.size
    · refine (name_long s w h20).mono ?_
      rintro e w1 ⟨rfl, rfl⟩
      refine ⟨?_, Below.refl _ _⟩
      rw [show nameOk s.data.toList = false by unfold nameOk; rw [hsz, decide_eq_false (show ¬ s.size ≤ 20 by omega)]; simp]
    · have hp : 0 < s.size := by omega
      obtain ⟨l, hl⟩ := toList_head s hp
      have e1 : decide (1 ≤ s.data.toList.length) = true := decide_eq_true (by omega)
      have e2 : decide (s.data.toList.length ≤ 20) = true := decide_eq_true (by omega)
      cases hc : small s[0] with
      | true =>
        have hb : 97 ≤ (s[0].toNat : Int) ∧ (s[0].toNat : Int) ≤ 122 := by simpa [small] using hc
        refine (name_tail s w hg hp (by omega) hb.1 hb.2).mono ?_
        rintro e w1 ⟨rfl, hbl⟩
        refine ⟨?_, hbl⟩
        have : nameOk s.data.toList = (s.data.toList.all letter && !isWord s.data.toList) := by
          unfold nameOk
          rw [e1, e2, Bool.and_true, Bool.and_true]
          congr 1
          rw [hl]
          simp only [chars, List.all_cons, hc, small_letter hc]
        rw [this]
      | false =>
        have hb : (s[0].toNat : Int) < 97 ∨ 122 < (s[0].toNat : Int) := by
          have : ¬ (97 ≤ (s[0].toNat : Int) ∧ (s[0].toNat : Int) ≤ 122) := by
            intro h
            have : small s[0] = true := by simpa [small] using h
            rw [hc] at this; cases this
          omega
        refine (name_head s w hp (by omega) hb).mono ?_
        rintro e w1 ⟨rfl, rfl⟩
        refine ⟨?_, Below.refl _ _⟩
        rw [show nameOk s.data.toList = false by unfold nameOk; rw [show chars s.data.toList = false by rw [hl]; simp [chars, hc]]; simp]
end Go.Proofs.YtbbbjjfecblhpaaGreat.Pd
/- Contracts by hand: a product's shape is looked at. -/
namespace Go.Proofs.YtbbbjjfecblhpaaGreat.Pd
open Go.RowKit Go.Proofs.YtbbbjjfecblhpaaGreatW.PrintWords Go.Proofs.YtbbbjjfecblhpaaGreatW.PrintLast Go.Proofs.YtbbbjjfecblhpaaGreatW.PrintMore Go.Proofs.YtbbbjjfecblhpaaGreat.HW
open Pm
set_option linter.unusedVariables false
set_option linter.unusedSimpArgs false

set_option maxRecDepth 100000 in
set_option maxHeartbeats 1000000 in
theorem shape_0 (p : Prod) (A1 : Option Addr) (c1 : Nat) (A2 : Option Addr) (c2 : Nat) (A3 : Option Addr) (c3 : Nat) (w : World) (hg : GV w) (hn : nameOk p.name.data.toList = false) :
    Calls Tryz.prog 66 #[pv p A1 c1 A2 c2 A3 c3] w fun e w' => e = refusedE ∧ Below w.heap.size w w' := by
  have HG := Aside0.mk hg
  have HN := Aside0.mk hn
  clear hg hn
  go_enter Tryz.func66, Tryz.ntmps66
  go_wp2_with (first
    | ((with_reducible refine gate_dst (N := 1) rfl ?_); refine box_event ?hg (N := 1) ?hd (cs := pcs p A1 c1 A2 c2 A3 c3) (t := 117) ?hr ?_; (case hd => rfl); (case hg => rfl); (case hr => first | (go_simp; done) | (go_simp; rfl)); intro g1 hg w1 hb1 hbl1; clear hg)
    | ((with_reducible refine gate_dst (N := 4) rfl ?_); refine wpList_load_row rfl 27 (.tmp 3) rfl g1 rfl 117 _ (0, 0) _ hb1 Tryz.underlying27 rfl info_prod ?_)
    | ((with_reducible refine gate_dst (N := 2) rfl ?_); refine copy_event rfl (N := 2) rfl rfl rfl (t := 27) (v := .tmp 4) rfl (cs := pcs p A1 c1 A2 c2 A3 c3) (zs := pzs) ?hr rfl rfl info_prod ?hz (pcs_one _ _ _ _ _ _ _) ?_; (case hr => first | (go_simp; done) | (go_simp; rfl)); (case hz => rfl); intro g2 hg w2 hb2 hbl2; clear hg; have HB2 := Aside0.mk hb2; have BL2 := Aside0.mk (below_step hbl1 hbl2); clear hb1 hbl1 hbl2; have q0 := (pc_cells hb2).1; clear hb2))
  refine (name_any p.name _ (HG.out.below BL2.out)).mono ?_
  rw [HN.out]
  rintro e w3 ⟨rfl, hb⟩
  have BL := Aside0.mk (below_step BL2.out hb)
  obtain ⟨_, q1, q2, q3, q4, q5, q6, _⟩ := pc_cells (blk_below HB2.out hb)
  clear hb HB2 BL2 q0 HG
  go_wp2_with fail
  refine (must_no _).mono ?_
  rintro e w' ⟨rfl, rfl⟩
  exact ⟨rfl, rfl, BL.out⟩

set_option maxRecDepth 100000 in
set_option maxHeartbeats 1000000 in
theorem shape_1 (p : Prod) (A1 : Option Addr) (c1 : Nat) (A2 : Option Addr) (c2 : Nat) (A3 : Option Addr) (c3 : Nat) (w : World) (hg : GV w) (hn : nameOk p.name.data.toList = true) (ha : decide (1 ≤ p.count ∧ p.count ≤ 3) = false) :
    Calls Tryz.prog 66 #[pv p A1 c1 A2 c2 A3 c3] w fun e w' => e = refusedE ∧ Below w.heap.size w w' := by
  have HG := Aside0.mk hg
  have HN := Aside0.mk hn
  have HA := Aside0.mk ha
  clear hg hn ha
  go_enter Tryz.func66, Tryz.ntmps66
  go_wp2_with (first
    | ((with_reducible refine gate_dst (N := 1) rfl ?_); refine box_event ?hg (N := 1) ?hd (cs := pcs p A1 c1 A2 c2 A3 c3) (t := 117) ?hr ?_; (case hd => rfl); (case hg => rfl); (case hr => first | (go_simp; done) | (go_simp; rfl)); intro g1 hg w1 hb1 hbl1; clear hg)
    | ((with_reducible refine gate_dst (N := 4) rfl ?_); refine wpList_load_row rfl 27 (.tmp 3) rfl g1 rfl 117 _ (0, 0) _ hb1 Tryz.underlying27 rfl info_prod ?_)
    | ((with_reducible refine gate_dst (N := 2) rfl ?_); refine copy_event rfl (N := 2) rfl rfl rfl (t := 27) (v := .tmp 4) rfl (cs := pcs p A1 c1 A2 c2 A3 c3) (zs := pzs) ?hr rfl rfl info_prod ?hz (pcs_one _ _ _ _ _ _ _) ?_; (case hr => first | (go_simp; done) | (go_simp; rfl)); (case hz => rfl); intro g2 hg w2 hb2 hbl2; clear hg; have HB2 := Aside0.mk hb2; have BL2 := Aside0.mk (below_step hbl1 hbl2); clear hb1 hbl1 hbl2; have q0 := (pc_cells hb2).1; clear hb2))
  refine (name_any p.name _ (HG.out.below BL2.out)).mono ?_
  rw [HN.out]
  rintro e w3 ⟨rfl, hb⟩
  have BL := Aside0.mk (below_step BL2.out hb)
  obtain ⟨_, q1, q2, q3, q4, q5, q6, _⟩ := pc_cells (blk_below HB2.out hb)
  clear hb HB2 BL2 q0 HG
  go_wp2_with fail
  refine (within_i_is HA.out _).mono ?_
  rintro e w' ⟨rfl, rfl⟩
  go_wp2_with fail
  refine (must_no _).mono ?_
  rintro e w' ⟨rfl, rfl⟩
  exact ⟨rfl, rfl, BL.out⟩

set_option maxRecDepth 100000 in
set_option maxHeartbeats 1000000 in
theorem shape_2 (p : Prod) (A1 : Option Addr) (c1 : Nat) (A2 : Option Addr) (c2 : Nat) (A3 : Option Addr) (c3 : Nat) (w : World) (hg : GV w) (hn : nameOk p.name.data.toList = true) (ha : decide (1 ≤ p.count ∧ p.count ≤ 3) = true) (r1 : (p.round == 1) = false) (r3 : (p.round == 3) = false) :
    Calls Tryz.prog 66 #[pv p A1 c1 A2 c2 A3 c3] w fun e w' => e = refusedE ∧ Below w.heap.size w w' := by
  have HG := Aside0.mk hg
  have HN := Aside0.mk hn
  have HA := Aside0.mk ha
  clear hg hn ha
  go_enter Tryz.func66, Tryz.ntmps66
  go_wp2_with (first
    | ((with_reducible refine gate_dst (N := 1) rfl ?_); refine box_event ?hg (N := 1) ?hd (cs := pcs p A1 c1 A2 c2 A3 c3) (t := 117) ?hr ?_; (case hd => rfl); (case hg => rfl); (case hr => first | (go_simp; done) | (go_simp; rfl)); intro g1 hg w1 hb1 hbl1; clear hg)
    | ((with_reducible refine gate_dst (N := 4) rfl ?_); refine wpList_load_row rfl 27 (.tmp 3) rfl g1 rfl 117 _ (0, 0) _ hb1 Tryz.underlying27 rfl info_prod ?_)
    | ((with_reducible refine gate_dst (N := 2) rfl ?_); refine copy_event rfl (N := 2) rfl rfl rfl (t := 27) (v := .tmp 4) rfl (cs := pcs p A1 c1 A2 c2 A3 c3) (zs := pzs) ?hr rfl rfl info_prod ?hz (pcs_one _ _ _ _ _ _ _) ?_; (case hr => first | (go_simp; done) | (go_simp; rfl)); (case hz => rfl); intro g2 hg w2 hb2 hbl2; clear hg; have HB2 := Aside0.mk hb2; have BL2 := Aside0.mk (below_step hbl1 hbl2); clear hb1 hbl1 hbl2; have q0 := (pc_cells hb2).1; clear hb2))
  refine (name_any p.name _ (HG.out.below BL2.out)).mono ?_
  rw [HN.out]
  rintro e w3 ⟨rfl, hb⟩
  have BL := Aside0.mk (below_step BL2.out hb)
  obtain ⟨_, q1, q2, q3, q4, q5, q6, _⟩ := pc_cells (blk_below HB2.out hb)
  clear hb HB2 BL2 q0 HG
  go_wp2_with fail
  refine (within_i_is HA.out _).mono ?_
  rintro e w' ⟨rfl, rfl⟩
  go_wp2_with fail
  refine (must_no _).mono ?_
  rintro e w' ⟨rfl, rfl⟩
  exact ⟨rfl, rfl, BL.out⟩

set_option maxRecDepth 100000 in
set_option maxHeartbeats 1000000 in
theorem shape_3 (p : Prod) (A1 : Option Addr) (c1 : Nat) (A2 : Option Addr) (c2 : Nat) (A3 : Option Addr) (c3 : Nat) (w : World) (hg : GV w) (hn : nameOk p.name.data.toList = true) (ha : decide (1 ≤ p.count ∧ p.count ≤ 3) = true) (hr : ((p.round == 1) = true) ∨ ((p.round == 1) = false ∧ (p.round == 3) = true)) (hb : decide (1 ≤ p.kind ∧ p.kind ≤ 3) = false) :
    Calls Tryz.prog 66 #[pv p A1 c1 A2 c2 A3 c3] w fun e w' => e = refusedE ∧ Below w.heap.size w w' := by
  have HG := Aside0.mk hg
  have HN := Aside0.mk hn
  have HA := Aside0.mk ha
  have HB := Aside0.mk hb
  clear hg hn ha hb
  go_enter Tryz.func66, Tryz.ntmps66
  go_wp2_with (first
    | ((with_reducible refine gate_dst (N := 1) rfl ?_); refine box_event ?hg (N := 1) ?hd (cs := pcs p A1 c1 A2 c2 A3 c3) (t := 117) ?hr ?_; (case hd => rfl); (case hg => rfl); (case hr => first | (go_simp; done) | (go_simp; rfl)); intro g1 hg w1 hb1 hbl1; clear hg)
    | ((with_reducible refine gate_dst (N := 4) rfl ?_); refine wpList_load_row rfl 27 (.tmp 3) rfl g1 rfl 117 _ (0, 0) _ hb1 Tryz.underlying27 rfl info_prod ?_)
    | ((with_reducible refine gate_dst (N := 2) rfl ?_); refine copy_event rfl (N := 2) rfl rfl rfl (t := 27) (v := .tmp 4) rfl (cs := pcs p A1 c1 A2 c2 A3 c3) (zs := pzs) ?hr rfl rfl info_prod ?hz (pcs_one _ _ _ _ _ _ _) ?_; (case hr => first | (go_simp; done) | (go_simp; rfl)); (case hz => rfl); intro g2 hg w2 hb2 hbl2; clear hg; have HB2 := Aside0.mk hb2; have BL2 := Aside0.mk (below_step hbl1 hbl2); clear hb1 hbl1 hbl2; have q0 := (pc_cells hb2).1; clear hb2))
  refine (name_any p.name _ (HG.out.below BL2.out)).mono ?_
  rw [HN.out]
  rintro e w3 ⟨rfl, hb⟩
  have BL := Aside0.mk (below_step BL2.out hb)
  obtain ⟨_, q1, q2, q3, q4, q5, q6, _⟩ := pc_cells (blk_below HB2.out hb)
  clear hb HB2 BL2 q0 HG
  go_wp2_with fail
  refine (within_i_is HA.out _).mono ?_
  rintro e w' ⟨rfl, rfl⟩
  rcases hr with r1 | ⟨r1, r3⟩
  all_goals
    go_wp2_with fail
    refine (within_i_is HB.out _).mono ?_
    rintro e w' ⟨rfl, rfl⟩
    go_wp2_with fail
    refine (must_no _).mono ?_
    rintro e w' ⟨rfl, rfl⟩
    exact ⟨rfl, rfl, BL.out⟩

set_option maxRecDepth 100000 in
set_option maxHeartbeats 1000000 in
theorem shape_4 (p : Prod) (A1 : Option Addr) (c1 : Nat) (A2 : Option Addr) (c2 : Nat) (A3 : Option Addr) (c3 : Nat) (w : World) (hg : GV w) (hn : nameOk p.name.data.toList = true) (ha : decide (1 ≤ p.count ∧ p.count ≤ 3) = true) (hr : ((p.round == 1) = true) ∨ ((p.round == 1) = false ∧ (p.round == 3) = true)) (hb : decide (1 ≤ p.kind ∧ p.kind ≤ 3) = true) (e1 : (p.every == 1) = false) (e2 : (p.every == 2) = false) (e3 : (p.every == 3) = false) (e4 : (p.every == 4) = false) (e6 : (p.every == 6) = false) (e12 : (p.every == 12) = false) :
    Calls Tryz.prog 66 #[pv p A1 c1 A2 c2 A3 c3] w fun e w' => e = refusedE ∧ Below w.heap.size w w' := by
  have HG := Aside0.mk hg
  have HN := Aside0.mk hn
  have HA := Aside0.mk ha
  have HB := Aside0.mk hb
  clear hg hn ha hb
  go_enter Tryz.func66, Tryz.ntmps66
  go_wp2_with (first
    | ((with_reducible refine gate_dst (N := 1) rfl ?_); refine box_event ?hg (N := 1) ?hd (cs := pcs p A1 c1 A2 c2 A3 c3) (t := 117) ?hr ?_; (case hd => rfl); (case hg => rfl); (case hr => first | (go_simp; done) | (go_simp; rfl)); intro g1 hg w1 hb1 hbl1; clear hg)
    | ((with_reducible refine gate_dst (N := 4) rfl ?_); refine wpList_load_row rfl 27 (.tmp 3) rfl g1 rfl 117 _ (0, 0) _ hb1 Tryz.underlying27 rfl info_prod ?_)
    | ((with_reducible refine gate_dst (N := 2) rfl ?_); refine copy_event rfl (N := 2) rfl rfl rfl (t := 27) (v := .tmp 4) rfl (cs := pcs p A1 c1 A2 c2 A3 c3) (zs := pzs) ?hr rfl rfl info_prod ?hz (pcs_one _ _ _ _ _ _ _) ?_; (case hr => first | (go_simp; done) | (go_simp; rfl)); (case hz => rfl); intro g2 hg w2 hb2 hbl2; clear hg; have HB2 := Aside0.mk hb2; have BL2 := Aside0.mk (below_step hbl1 hbl2); clear hb1 hbl1 hbl2; have q0 := (pc_cells hb2).1; clear hb2))
  refine (name_any p.name _ (HG.out.below BL2.out)).mono ?_
  rw [HN.out]
  rintro e w3 ⟨rfl, hb⟩
  have BL := Aside0.mk (below_step BL2.out hb)
  obtain ⟨_, q1, q2, q3, q4, q5, q6, _⟩ := pc_cells (blk_below HB2.out hb)
  clear hb HB2 BL2 q0 HG
  go_wp2_with fail
  refine (within_i_is HA.out _).mono ?_
  rintro e w' ⟨rfl, rfl⟩
  rcases hr with r1 | ⟨r1, r3⟩
  all_goals
    go_wp2_with fail
    refine (within_i_is HB.out _).mono ?_
    rintro e w' ⟨rfl, rfl⟩
    go_wp2_with fail
    refine (must_yes _).mono ?_
    rintro e w' ⟨rfl, rfl⟩
    go_wp2_with fail
    refine (must_no _).mono ?_
    rintro e w' ⟨rfl, rfl⟩
    exact ⟨rfl, rfl, BL.out⟩

/-- Every so many months. -/
def Ev (x : Int) : Prop := (x == 1) = true ∨ ((x == 1) = false ∧ (x == 2) = true) ∨ ((x == 1) = false ∧ (x == 2) = false ∧ (x == 3) = true) ∨ ((x == 1) = false ∧ (x == 2) = false ∧ (x == 3) = false ∧ (x == 4) = true) ∨ ((x == 1) = false ∧ (x == 2) = false ∧ (x == 3) = false ∧ (x == 4) = false ∧ (x == 6) = true) ∨ ((x == 1) = false ∧ (x == 2) = false ∧ (x == 3) = false ∧ (x == 4) = false ∧ (x == 6) = false ∧ (x == 12) = true)
theorem ev_of {x : Int} (h : x = 1 ∨ x = 2 ∨ x = 3 ∨ x = 4 ∨ x = 6 ∨ x = 12) : Ev x := by
  unfold Ev
  rcases h with rfl | rfl | rfl | rfl | rfl | rfl <;> decide

set_option maxRecDepth 100000 in
set_option maxHeartbeats 1000000 in
theorem shape_5 (p : Prod) (A1 : Option Addr) (c1 : Nat) (A2 : Option Addr) (c2 : Nat) (A3 : Option Addr) (c3 : Nat) (w : World) (hg : GV w) (hn : nameOk p.name.data.toList = true) (ha : decide (1 ≤ p.count ∧ p.count ≤ 3) = true) (hr : ((p.round == 1) = true) ∨ ((p.round == 1) = false ∧ (p.round == 3) = true)) (hb : decide (1 ≤ p.kind ∧ p.kind ≤ 3) = true) (he : Ev p.every) (hc : decide (1 ≤ p.times ∧ p.times ≤ 600) = false) :
    Calls Tryz.prog 66 #[pv p A1 c1 A2 c2 A3 c3] w fun e w' => e = refusedE ∧ Below w.heap.size w w' := by
  have HG := Aside0.mk hg
  have HN := Aside0.mk hn
  have HA := Aside0.mk ha
  have HB := Aside0.mk hb
  have HC := Aside0.mk hc
  clear hg hn ha hb hc
  go_enter Tryz.func66, Tryz.ntmps66
  go_wp2_with (first
    | ((with_reducible refine gate_dst (N := 1) rfl ?_); refine box_event ?hg (N := 1) ?hd (cs := pcs p A1 c1 A2 c2 A3 c3) (t := 117) ?hr ?_; (case hd => rfl); (case hg => rfl); (case hr => first | (go_simp; done) | (go_simp; rfl)); intro g1 hg w1 hb1 hbl1; clear hg)
    | ((with_reducible refine gate_dst (N := 4) rfl ?_); refine wpList_load_row rfl 27 (.tmp 3) rfl g1 rfl 117 _ (0, 0) _ hb1 Tryz.underlying27 rfl info_prod ?_)
    | ((with_reducible refine gate_dst (N := 2) rfl ?_); refine copy_event rfl (N := 2) rfl rfl rfl (t := 27) (v := .tmp 4) rfl (cs := pcs p A1 c1 A2 c2 A3 c3) (zs := pzs) ?hr rfl rfl info_prod ?hz (pcs_one _ _ _ _ _ _ _) ?_; (case hr => first | (go_simp; done) | (go_simp; rfl)); (case hz => rfl); intro g2 hg w2 hb2 hbl2; clear hg; have HB2 := Aside0.mk hb2; have BL2 := Aside0.mk (below_step hbl1 hbl2); clear hb1 hbl1 hbl2; have q0 := (pc_cells hb2).1; clear hb2))
  refine (name_any p.name _ (HG.out.below BL2.out)).mono ?_
  rw [HN.out]
  rintro e w3 ⟨rfl, hb⟩
  have BL := Aside0.mk (below_step BL2.out hb)
  obtain ⟨_, q1, q2, q3, q4, q5, q6, _⟩ := pc_cells (blk_below HB2.out hb)
  clear hb HB2 BL2 q0 HG
  go_wp2_with fail
  refine (within_i_is HA.out _).mono ?_
  rintro e w' ⟨rfl, rfl⟩
  rcases hr with r1 | ⟨r1, r3⟩
  all_goals
    go_wp2_with fail
    refine (within_i_is HB.out _).mono ?_
    rintro e w' ⟨rfl, rfl⟩
    go_wp2_with fail
    refine (must_yes _).mono ?_
    rintro e w' ⟨rfl, rfl⟩
    rcases he with e1 | ⟨e1, e2⟩ | ⟨e1, e2, e3⟩ | ⟨e1, e2, e3, e4⟩ | ⟨e1, e2, e3, e4, e6⟩ | ⟨e1, e2, e3, e4, e6, e12⟩
    all_goals
      go_wp2_with fail
      refine (must_yes _).mono ?_
      rintro e w' ⟨rfl, rfl⟩
      go_wp2_with fail
      refine (within_i_is HC.out _).mono ?_
      rintro e w' ⟨rfl, rfl⟩
      go_wp2_with fail
      refine (must_no _).mono ?_
      rintro e w' ⟨rfl, rfl⟩
      exact ⟨rfl, rfl, BL.out⟩

set_option maxRecDepth 100000 in
set_option maxHeartbeats 1000000 in
theorem shape_6 (p : Prod) (A1 : Option Addr) (c1 : Nat) (A2 : Option Addr) (c2 : Nat) (A3 : Option Addr) (c3 : Nat) (w : World) (hg : GV w) (hn : nameOk p.name.data.toList = true) (ha : decide (1 ≤ p.count ∧ p.count ≤ 3) = true) (hr : ((p.round == 1) = true) ∨ ((p.round == 1) = false ∧ (p.round == 3) = true)) (hb : decide (1 ≤ p.kind ∧ p.kind ≤ 3) = true) (he : Ev p.every) (hc : decide (1 ≤ p.times ∧ p.times ≤ 600) = true) (t1 : 1 ≤ p.times) (t2 : p.times ≤ 600) (hd : decide (0 ≤ p.grace ∧ p.grace ≤ p.times - 1) = false) :
    Calls Tryz.prog 66 #[pv p A1 c1 A2 c2 A3 c3] w fun e w' => e = refusedE ∧ Below w.heap.size w w' := by
  have HG := Aside0.mk hg
  have HN := Aside0.mk hn
  have HA := Aside0.mk ha
  have HB := Aside0.mk hb
  have HC := Aside0.mk hc
  have HD := Aside0.mk hd
  clear hg hn ha hb hc hd
  go_enter Tryz.func66, Tryz.ntmps66
  go_wp2_with (first
    | ((with_reducible refine gate_dst (N := 1) rfl ?_); refine box_event ?hg (N := 1) ?hd (cs := pcs p A1 c1 A2 c2 A3 c3) (t := 117) ?hr ?_; (case hd => rfl); (case hg => rfl); (case hr => first | (go_simp; done) | (go_simp; rfl)); intro g1 hg w1 hb1 hbl1; clear hg)
    | ((with_reducible refine gate_dst (N := 4) rfl ?_); refine wpList_load_row rfl 27 (.tmp 3) rfl g1 rfl 117 _ (0, 0) _ hb1 Tryz.underlying27 rfl info_prod ?_)
    | ((with_reducible refine gate_dst (N := 2) rfl ?_); refine copy_event rfl (N := 2) rfl rfl rfl (t := 27) (v := .tmp 4) rfl (cs := pcs p A1 c1 A2 c2 A3 c3) (zs := pzs) ?hr rfl rfl info_prod ?hz (pcs_one _ _ _ _ _ _ _) ?_; (case hr => first | (go_simp; done) | (go_simp; rfl)); (case hz => rfl); intro g2 hg w2 hb2 hbl2; clear hg; have HB2 := Aside0.mk hb2; have BL2 := Aside0.mk (below_step hbl1 hbl2); clear hb1 hbl1 hbl2; have q0 := (pc_cells hb2).1; clear hb2))
  refine (name_any p.name _ (HG.out.below BL2.out)).mono ?_
  rw [HN.out]
  rintro e w3 ⟨rfl, hb⟩
  have BL := Aside0.mk (below_step BL2.out hb)
  obtain ⟨_, q1, q2, q3, q4, q5, q6, _⟩ := pc_cells (blk_below HB2.out hb)
  clear hb HB2 BL2 q0 HG
  go_wp2_with fail
  refine (within_i_is HA.out _).mono ?_
  rintro e w' ⟨rfl, rfl⟩
  rcases hr with r1 | ⟨r1, r3⟩
  all_goals
    go_wp2_with fail
    refine (within_i_is HB.out _).mono ?_
    rintro e w' ⟨rfl, rfl⟩
    go_wp2_with fail
    refine (must_yes _).mono ?_
    rintro e w' ⟨rfl, rfl⟩
    rcases he with e1 | ⟨e1, e2⟩ | ⟨e1, e2, e3⟩ | ⟨e1, e2, e3, e4⟩ | ⟨e1, e2, e3, e4, e6⟩ | ⟨e1, e2, e3, e4, e6, e12⟩
    all_goals
      go_wp2_with fail
      refine (must_yes _).mono ?_
      rintro e w' ⟨rfl, rfl⟩
      go_wp2_with fail
      refine (within_i_is HC.out _).mono ?_
      rintro e w' ⟨rfl, rfl⟩
      go_wp2_with fail
      refine (within_i_is HD.out _).mono ?_
      rintro e w' ⟨rfl, rfl⟩
      go_wp2_with fail
      refine (must_no _).mono ?_
      rintro e w' ⟨rfl, rfl⟩
      exact ⟨rfl, rfl, BL.out⟩

set_option maxRecDepth 100000 in
set_option maxHeartbeats 1000000 in
theorem shape_7 (p : Prod) (A1 : Option Addr) (c1 : Nat) (A2 : Option Addr) (c2 : Nat) (A3 : Option Addr) (c3 : Nat) (w : World) (hg : GV w) (hn : nameOk p.name.data.toList = true) (ha : decide (1 ≤ p.count ∧ p.count ≤ 3) = true) (hr : ((p.round == 1) = true) ∨ ((p.round == 1) = false ∧ (p.round == 3) = true)) (hb : decide (1 ≤ p.kind ∧ p.kind ≤ 3) = true) (he : Ev p.every) (hc : decide (1 ≤ p.times ∧ p.times ≤ 600) = true) (t1 : 1 ≤ p.times) (t2 : p.times ≤ 600) (hd : decide (0 ≤ p.grace ∧ p.grace ≤ p.times - 1) = true) (k1 : (p.kind != 3) = false) (g0 : (p.grace == 0) = false) :
    Calls Tryz.prog 66 #[pv p A1 c1 A2 c2 A3 c3] w fun e w' => e = refusedE ∧ Below w.heap.size w w' := by
  have HG := Aside0.mk hg
  have HN := Aside0.mk hn
  have HA := Aside0.mk ha
  have HB := Aside0.mk hb
  have HC := Aside0.mk hc
  have HD := Aside0.mk hd
  clear hg hn ha hb hc hd
  go_enter Tryz.func66, Tryz.ntmps66
  go_wp2_with (first
    | ((with_reducible refine gate_dst (N := 1) rfl ?_); refine box_event ?hg (N := 1) ?hd (cs := pcs p A1 c1 A2 c2 A3 c3) (t := 117) ?hr ?_; (case hd => rfl); (case hg => rfl); (case hr => first | (go_simp; done) | (go_simp; rfl)); intro g1 hg w1 hb1 hbl1; clear hg)
    | ((with_reducible refine gate_dst (N := 4) rfl ?_); refine wpList_load_row rfl 27 (.tmp 3) rfl g1 rfl 117 _ (0, 0) _ hb1 Tryz.underlying27 rfl info_prod ?_)
    | ((with_reducible refine gate_dst (N := 2) rfl ?_); refine copy_event rfl (N := 2) rfl rfl rfl (t := 27) (v := .tmp 4) rfl (cs := pcs p A1 c1 A2 c2 A3 c3) (zs := pzs) ?hr rfl rfl info_prod ?hz (pcs_one _ _ _ _ _ _ _) ?_; (case hr => first | (go_simp; done) | (go_simp; rfl)); (case hz => rfl); intro g2 hg w2 hb2 hbl2; clear hg; have HB2 := Aside0.mk hb2; have BL2 := Aside0.mk (below_step hbl1 hbl2); clear hb1 hbl1 hbl2; have q0 := (pc_cells hb2).1; clear hb2))
  refine (name_any p.name _ (HG.out.below BL2.out)).mono ?_
  rw [HN.out]
  rintro e w3 ⟨rfl, hb⟩
  have BL := Aside0.mk (below_step BL2.out hb)
  obtain ⟨_, q1, q2, q3, q4, q5, q6, _⟩ := pc_cells (blk_below HB2.out hb)
  clear hb HB2 BL2 q0 HG
  go_wp2_with fail
  refine (within_i_is HA.out _).mono ?_
  rintro e w' ⟨rfl, rfl⟩
  rcases hr with r1 | ⟨r1, r3⟩
  all_goals
    go_wp2_with fail
    refine (within_i_is HB.out _).mono ?_
    rintro e w' ⟨rfl, rfl⟩
    go_wp2_with fail
    refine (must_yes _).mono ?_
    rintro e w' ⟨rfl, rfl⟩
    rcases he with e1 | ⟨e1, e2⟩ | ⟨e1, e2, e3⟩ | ⟨e1, e2, e3, e4⟩ | ⟨e1, e2, e3, e4, e6⟩ | ⟨e1, e2, e3, e4, e6, e12⟩
    all_goals
      go_wp2_with fail
      refine (must_yes _).mono ?_
      rintro e w' ⟨rfl, rfl⟩
      go_wp2_with fail
      refine (within_i_is HC.out _).mono ?_
      rintro e w' ⟨rfl, rfl⟩
      go_wp2_with fail
      refine (within_i_is HD.out _).mono ?_
      rintro e w' ⟨rfl, rfl⟩
      go_wp2_with fail
      refine (must_no _).mono ?_
      rintro e w' ⟨rfl, rfl⟩
      exact ⟨rfl, rfl, BL.out⟩

set_option maxRecDepth 100000 in
set_option maxHeartbeats 1000000 in
theorem shape_8 (p : Prod) (A1 : Option Addr) (c1 : Nat) (A2 : Option Addr) (c2 : Nat) (A3 : Option Addr) (c3 : Nat) (w : World) (hg : GV w) (hn : nameOk p.name.data.toList = true) (ha : decide (1 ≤ p.count ∧ p.count ≤ 3) = true) (hr : ((p.round == 1) = true) ∨ ((p.round == 1) = false ∧ (p.round == 3) = true)) (hb : decide (1 ≤ p.kind ∧ p.kind ≤ 3) = true) (he : Ev p.every) (hc : decide (1 ≤ p.times ∧ p.times ≤ 600) = true) (t1 : 1 ≤ p.times) (t2 : p.times ≤ 600) (hd : decide (0 ≤ p.grace ∧ p.grace ≤ p.times - 1) = true) (hk : (p.kind != 3) = true ∨ ((p.kind != 3) = false ∧ (p.grace == 0) = true)) :
    Calls Tryz.prog 66 #[pv p A1 c1 A2 c2 A3 c3] w fun e w' => e = .returned (.tuple #[]) ∧ Below w.heap.size w w' := by
  have HG := Aside0.mk hg
  have HN := Aside0.mk hn
  have HA := Aside0.mk ha
  have HB := Aside0.mk hb
  have HC := Aside0.mk hc
  have HD := Aside0.mk hd
  clear hg hn ha hb hc hd
  go_enter Tryz.func66, Tryz.ntmps66
  go_wp2_with (first
    | ((with_reducible refine gate_dst (N := 1) rfl ?_); refine box_event ?hg (N := 1) ?hd (cs := pcs p A1 c1 A2 c2 A3 c3) (t := 117) ?hr ?_; (case hd => rfl); (case hg => rfl); (case hr => first | (go_simp; done) | (go_simp; rfl)); intro g1 hg w1 hb1 hbl1; clear hg)
    | ((with_reducible refine gate_dst (N := 4) rfl ?_); refine wpList_load_row rfl 27 (.tmp 3) rfl g1 rfl 117 _ (0, 0) _ hb1 Tryz.underlying27 rfl info_prod ?_)
    | ((with_reducible refine gate_dst (N := 2) rfl ?_); refine copy_event rfl (N := 2) rfl rfl rfl (t := 27) (v := .tmp 4) rfl (cs := pcs p A1 c1 A2 c2 A3 c3) (zs := pzs) ?hr rfl rfl info_prod ?hz (pcs_one _ _ _ _ _ _ _) ?_; (case hr => first | (go_simp; done) | (go_simp; rfl)); (case hz => rfl); intro g2 hg w2 hb2 hbl2; clear hg; have HB2 := Aside0.mk hb2; have BL2 := Aside0.mk (below_step hbl1 hbl2); clear hb1 hbl1 hbl2; have q0 := (pc_cells hb2).1; clear hb2))
  refine (name_any p.name _ (HG.out.below BL2.out)).mono ?_
  rw [HN.out]
  rintro e w3 ⟨rfl, hb⟩
  have BL := Aside0.mk (below_step BL2.out hb)
  obtain ⟨_, q1, q2, q3, q4, q5, q6, _⟩ := pc_cells (blk_below HB2.out hb)
  clear hb HB2 BL2 q0 HG
  go_wp2_with fail
  refine (within_i_is HA.out _).mono ?_
  rintro e w' ⟨rfl, rfl⟩
  rcases hr with r1 | ⟨r1, r3⟩
  all_goals
    go_wp2_with fail
    refine (within_i_is HB.out _).mono ?_
    rintro e w' ⟨rfl, rfl⟩
    go_wp2_with fail
    refine (must_yes _).mono ?_
    rintro e w' ⟨rfl, rfl⟩
    rcases he with e1 | ⟨e1, e2⟩ | ⟨e1, e2, e3⟩ | ⟨e1, e2, e3, e4⟩ | ⟨e1, e2, e3, e4, e6⟩ | ⟨e1, e2, e3, e4, e6, e12⟩
    all_goals
      go_wp2_with fail
      refine (must_yes _).mono ?_
      rintro e w' ⟨rfl, rfl⟩
      go_wp2_with fail
      refine (within_i_is HC.out _).mono ?_
      rintro e w' ⟨rfl, rfl⟩
      go_wp2_with fail
      refine (within_i_is HD.out _).mono ?_
      rintro e w' ⟨rfl, rfl⟩
      rcases hk with k1 | ⟨k1, g0⟩
      all_goals
        go_wp2_with fail
        refine (must_yes _).mono ?_
        rintro e w' ⟨rfl, rfl⟩
        go_wp2_with fail
        go_end0
        exact ⟨rfl, BL.out⟩

/-- What a look ends with: nothing, or what is thrown. -/
def LookE (b : Bool) (w : World) (e : Ending) (w' : World) : Prop := (b = true → e = .returned (.tuple #[])) ∧ (b = false → e = refusedE) ∧ Below w.heap.size w w'
theorem LookE.no {w : World} {e : Ending} {w' : World} (h : e = refusedE ∧ Below w.heap.size w w') : LookE false w e w' := ⟨fun h => by (cases h), fun _ => h.1, h.2⟩
theorem LookE.yes {w : World} {e : Ending} {w' : World} (h : e = .returned (.tuple #[]) ∧ Below w.heap.size w w') : LookE true w e w' := ⟨fun _ => h.1, fun h => by (cases h), h.2⟩
theorem beqf {x y : Int} (h : ¬ x = y) : (x == y) = false := by rw [beq_eq_false_iff_ne]; exact h
theorem beqt {x y : Int} (h : x = y) : (x == y) = true := by rw [beq_iff_eq]; exact h
/-- A product's shape is looked at. -/
theorem shape_any (p : Prod) (A1 : Option Addr) (c1 : Nat) (A2 : Option Addr) (c2 : Nat) (A3 : Option Addr) (c3 : Nat) (w : World) (hg : GV w) : Calls Tryz.prog 66 #[pv p A1 c1 A2 c2 A3 c3] w (LookE (shapeOk p) w) := by
  cases hn : nameOk p.name.data.toList with
  | false =>
    rw [show shapeOk p = false by unfold shapeOk; rw [hn]; rfl]
    exact (shape_0 p A1 c1 A2 c2 A3 c3 w hg hn).mono fun e w' h => LookE.no h
  | true =>
    unfold shapeOk
    rw [hn, Bool.true_and]
    by_cases ha : 1 ≤ p.count ∧ p.count ≤ 3
    case neg =>
      rw [decide_eq_false (fun h => ha h.1)]
      exact (shape_1 p A1 c1 A2 c2 A3 c3 w hg hn (decide_eq_false ha)).mono fun e w' h => LookE.no h
    by_cases hr : p.round = 1 ∨ p.round = 3
    case neg =>
      rw [decide_eq_false (fun h => hr h.2.1)]
      exact (shape_2 p A1 c1 A2 c2 A3 c3 w hg hn (decide_eq_true ha) (beqf (fun h => hr (Or.inl h))) (beqf (fun h => hr (Or.inr h)))).mono fun e w' h => LookE.no h
    have hr' : ((p.round == 1) = true) ∨ ((p.round == 1) = false ∧ (p.round == 3) = true) := by
      rcases hr with h | h
      · exact Or.inl (beqt h)
      · exact Or.inr ⟨beqf (by omega), beqt h⟩
    by_cases hb : 1 ≤ p.kind ∧ p.kind ≤ 3
    case neg =>
      rw [decide_eq_false (fun h => hb h.2.2.1)]
      exact (shape_3 p A1 c1 A2 c2 A3 c3 w hg hn (decide_eq_true ha) hr' (decide_eq_false hb)).mono fun e w' h => LookE.no h
    by_cases he : p.every = 1 ∨ p.every = 2 ∨ p.every = 3 ∨ p.every = 4 ∨ p.every = 6 ∨ p.every = 12
    case neg =>
      rw [decide_eq_false (fun h => he h.2.2.2.1)]
      exact (shape_4 p A1 c1 A2 c2 A3 c3 w hg hn (decide_eq_true ha) hr' (decide_eq_true hb) (beqf (by omega)) (beqf (by omega)) (beqf (by omega)) (beqf (by omega)) (beqf (by omega)) (beqf (by omega))).mono fun e w' h => LookE.no h
    by_cases hc : 1 ≤ p.times ∧ p.times ≤ 600
    case neg =>
      rw [decide_eq_false (fun h => hc h.2.2.2.2.1)]
      exact (shape_5 p A1 c1 A2 c2 A3 c3 w hg hn (decide_eq_true ha) hr' (decide_eq_true hb) (ev_of he) (decide_eq_false hc)).mono fun e w' h => LookE.no h
    by_cases hd : 0 ≤ p.grace ∧ p.grace ≤ p.times - 1
    case neg =>
      rw [decide_eq_false (fun h => hd h.2.2.2.2.2.1)]
      exact (shape_6 p A1 c1 A2 c2 A3 c3 w hg hn (decide_eq_true ha) hr' (decide_eq_true hb) (ev_of he) (decide_eq_true hc) hc.1 hc.2 (decide_eq_false hd)).mono fun e w' h => LookE.no h
    by_cases hk : p.kind = 3 → p.grace = 0
    case neg =>
      rw [decide_eq_false (fun h => hk h.2.2.2.2.2.2)]
      exact (shape_7 p A1 c1 A2 c2 A3 c3 w hg hn (decide_eq_true ha) hr' (decide_eq_true hb) (ev_of he) (decide_eq_true hc) hc.1 hc.2 (decide_eq_true hd) (by simp; omega) (beqf (by omega))).mono fun e w' h => LookE.no h
    rw [decide_eq_true (show _ from ⟨ha, hr, hb, he, hc, hd, hk⟩)]
    refine (shape_8 p A1 c1 A2 c2 A3 c3 w hg hn (decide_eq_true ha) hr' (decide_eq_true hb) (ev_of he) (decide_eq_true hc) hc.1 hc.2 (decide_eq_true hd) ?_).mono fun e w' h => LookE.yes h
    by_cases h3 : p.kind = 3
    · exact Or.inr ⟨by simp [h3], beqt (hk h3)⟩
    · exact Or.inl (by simpa using h3)
end Go.Proofs.YtbbbjjfecblhpaaGreat.Pd
