/- Texts of this claim, joined in build order. -/
import Derived.Test.YtfmkdledofbhdaaGreatProg
import Derived.Below
import Derived.Deep.Draws
import Derived.Deep.AppendLies
import Derived.Maps.AppendAt
import Derived.OwnWalk
import Derived.Laws.BytesArg
import Derived.Laws.MakeOwn
import Derived.Laws.OwnMore
import Derived.Tactics
import Derived.Lib.ConvBytes
import Derived.Laws.Slices
import Derived.WalkKit
import Derived.KernelRfl
import Derived.RowKit3
import Derived.Deep.LoopGhost
import Derived.Deep.QuietTactic
import Derived.BigQuiet
import Derived.WideLaws
import Derived.Deep.DeepCutAuto
import Derived.Deep.CutBlock
import Derived.Deep.RegionHeld3
import Derived.Lib.AppendStr
import Derived.ArgAppend
import Derived.Laws.IdiomCopy
import Derived.OrdersHeld
import Derived.Laws.BitsLemmas
import Derived.RowKit
import Derived.Laws.StructEq
import Derived.WalkLawsBesides
import Derived.WalkSpells
import Derived.Lib.IndexMore
import Derived.Deep.Slices
import Derived.Deep.Fields
import Derived.ChangeSame
import Derived.Lib.SmallJoins
import Derived.ProofKit
import Derived.Defers
import Derived.Laws.Tables
import Derived.Deep.WholeRow
import Derived.Recover
import Derived.StillTailTactics
import Derived.IntWalk
import Derived.Shelf.Small.Bits
import Derived.Shelf.Strconv.Itoa0
import Derived.Shelf.Strings.Search1
import Derived.Shelf.Strings.Search2
import Derived.Shelf.Strings.Search3
import Derived.Shelf.LaysM
import Derived.Shelf.Strings.Shaped
import Derived.Shelf.Bits.Mul64
import Derived.Lib.SlBytesConst
import Derived.Deep.RegionWith
import Derived.Lib.Hide
import Derived.BigFrame
import Derived.Lib.BitFns
import Derived.Laws.BitsAllLaws
import Derived.Laws.Externs
import Derived.RegionTactic
import Derived.Deep.MidRow
import Derived.OpenShut
import Derived.ShutString
import Derived.ChangeOld
import Derived.Laws.IdiomArrays
import Derived.SizedLaws
import Derived.HandedShaped
import Derived.Shelf.Vars
import Derived.Test.YtfmkdledofbhdaaGreatJI1
import Derived.Test.YtfmkdledofbhdaaGreatJI2
set_option linter.unusedVariables false
set_option linter.unusedSimpArgs false
namespace Go.Proofs.YtfmkdledofbhdaaGreat.PD
open Go.RowKit Go.Proofs.YtfmkdledofbhdaaGreatW.PrintWords Go.Proofs.YtfmkdledofbhdaaGreatW.PrintLast Go.Proofs.YtfmkdledofbhdaaGreatW.PrintMore Go.Proofs.YtfmkdledofbhdaaGreat.HW Go.Proofs.YtfmkdledofbhdaaGreat.H
attribute [local go_sem] run_makeFunc_ max2_int min2_int max_two min_two max_three min_three max_four min_four   -- for this text's walks alone
set_option linter.unusedVariables false
set_option linter.unusedSimpArgs false
/-! ### quittanceref06_Between: function 25 -/
mutual
def quittanceref06_Between.j0 : Nat → Int → Int → Int → Bool → Option (Int × Int)
 | 0, _, _, _, _ => none
 | k + 1, x0, x1, x2, x15 => if x15 = true then (some (0, 1)) else ((quittanceref03_Is.f x1).bind fun t136 => (if t136 = true then ((quittanceref03_Is.f x2).bind fun t137 => (quittanceref06_Between.j1 k x0 x1 x2 (!t137))) else (quittanceref06_Between.j1 k x0 x1 x2 true)))
def quittanceref06_Between.j1 : Nat → Int → Int → Int → Bool → Option (Int × Int)
 | 0, _, _, _, _ => none
 | k + 1, x0, x1, x2, x23 => if x23 = true then (some (0, 5)) else (if x0 = 1 then ((quittanceref06_thirty.f x2).bind fun t138 => ((quittanceref06_thirty.f x1).bind fun t139 => (some (wrap64 (t138 - t139), 0)))) else (quittanceref06_Between.l0 k x0 x1 x2 0 (mn x1 x2)))
def quittanceref06_Between.l0 : Nat → Int → Int → Int → Int → Int → Option (Int × Int)
 | 0, _, _, _, _, _ => none
 | k + 1, x0, x1, x2, x8, x9 => if x9 < (mx x1 x2) then ((quittanceref06_One.f x0 x9).bind fun t140 => (quittanceref06_Between.l0 k x0 x1 x2 (wrap64 (x8 + t140)) (wrap64 (x9 + 1)))) else (if x2 < x1 then (some (wrap64 (-x8), 0)) else (some (x8, 0)))
end
def quittanceref06_Between.f (k : Nat) (a0 : Int) (a1 : Int) (a2 : Int) : Option (Int × Int) := if a0 < 1 then (quittanceref06_Between.j0 k a0 a1 a2 true) else (quittanceref06_Between.j0 k a0 a1 a2 (decide (a0 > 3)))
theorem quittanceref06_Between.mono_l : ∀ k, (∀ y0 y1 y2 y3, LeO (quittanceref06_Between.j0 k y0 y1 y2 y3) (quittanceref06_Between.j0 (k + 1) y0 y1 y2 y3)) ∧ (∀ y0 y1 y2 y3, LeO (quittanceref06_Between.j1 k y0 y1 y2 y3) (quittanceref06_Between.j1 (k + 1) y0 y1 y2 y3)) ∧ (∀ y0 y1 y2 y3 y4, LeO (quittanceref06_Between.l0 k y0 y1 y2 y3 y4) (quittanceref06_Between.l0 (k + 1) y0 y1 y2 y3 y4))
 | 0 => ⟨fun _ _ _ _ r h => by simp [quittanceref06_Between.j0] at h, fun _ _ _ _ r h => by simp [quittanceref06_Between.j1] at h, fun _ _ _ _ _ r h => by simp [quittanceref06_Between.l0] at h⟩
 | k + 1 => by
  obtain ⟨ih0, ih1, ih2⟩ := quittanceref06_Between.mono_l k
  refine ⟨?_, ?_, ?_⟩
  ·intro y0 y1 y2 y3
   unfold quittanceref06_Between.j0
   repeat' first
   | (with_reducible exact ih0 _ _ _ _)
   | (with_reducible exact ih1 _ _ _ _)
   | (with_reducible exact ih2 _ _ _ _ _)
   | (with_reducible exact LeO.refl _)
   | (with_reducible exact LeO.none _)
   | (with_reducible refine LeO.ite ?_ ?_)
   | (with_reducible refine LeO.bind ?_ (fun _ => ?_))
   | exact ih0 _ _ _ _
   | exact ih1 _ _ _ _
   | exact ih2 _ _ _ _ _
   | exact LeO.none _
   | refine LeO.ite ?_ ?_
   | refine LeO.bind ?_ (fun _ => ?_)
  ·intro y0 y1 y2 y3
   unfold quittanceref06_Between.j1
   repeat' first
   | (with_reducible exact ih0 _ _ _ _)
   | (with_reducible exact ih1 _ _ _ _)
   | (with_reducible exact ih2 _ _ _ _ _)
   | (with_reducible exact LeO.refl _)
   | (with_reducible exact LeO.none _)
   | (with_reducible refine LeO.ite ?_ ?_)
   | (with_reducible refine LeO.bind ?_ (fun _ => ?_))
   | exact ih0 _ _ _ _
   | exact ih1 _ _ _ _
   | exact ih2 _ _ _ _ _
   | exact LeO.none _
   | refine LeO.ite ?_ ?_
   | refine LeO.bind ?_ (fun _ => ?_)
  ·intro y0 y1 y2 y3 y4
   unfold quittanceref06_Between.l0
   repeat' first
   | (with_reducible exact ih0 _ _ _ _)
   | (with_reducible exact ih1 _ _ _ _)
   | (with_reducible exact ih2 _ _ _ _ _)
   | (with_reducible exact LeO.refl _)
   | (with_reducible exact LeO.none _)
   | (with_reducible refine LeO.ite ?_ ?_)
   | (with_reducible refine LeO.bind ?_ (fun _ => ?_))
   | exact ih0 _ _ _ _
   | exact ih1 _ _ _ _
   | exact ih2 _ _ _ _ _
   | exact LeO.none _
   | refine LeO.ite ?_ ?_
   | refine LeO.bind ?_ (fun _ => ?_)
theorem quittanceref06_Between.mono : ∀ a0 a1 a2 k, LeO (quittanceref06_Between.f k a0 a1 a2) (quittanceref06_Between.f (k + 1) a0 a1 a2) := by
 intro a0 a1 a2 k
 obtain ⟨ih0, ih1, ih2⟩ := quittanceref06_Between.mono_l k
 unfold quittanceref06_Between.f
 repeat' first
   | (with_reducible exact ih0 _ _ _ _)
   | (with_reducible exact ih1 _ _ _ _)
   | (with_reducible exact ih2 _ _ _ _ _)
   | (with_reducible exact LeO.refl _)
   | (with_reducible exact LeO.none _)
   | (with_reducible refine LeO.ite ?_ ?_)
   | (with_reducible refine LeO.bind ?_ (fun _ => ?_))
   | exact ih0 _ _ _ _
   | exact ih1 _ _ _ _
   | exact ih2 _ _ _ _ _
   | exact LeO.none _
   | refine LeO.ite ?_ ?_
   | refine LeO.bind ?_ (fun _ => ?_)
set_option maxHeartbeats 8000000 in
set_option maxRecDepth 100000 in
theorem quittanceref06_Between.calls (k : Nat) (a0 : Int) (a1 : Int) (a2 : Int) (r1 : Int) (r2 : Int) (w : World) (h : quittanceref06_Between.f k a0 a1 a2 = some (r1, r2)) :
  Calls Tryz.prog 25 #[.int .i64 a0, .int .i64 a1, .int .i64 a2] w fun e w' => e = .returned (.tuple #[.int .i64 r1, .int .i64 r2]) ∧ Below w.heap.size w w' := by
 have HB := Aside0.mk (Below.refl w.heap.size w)
 have H : (if a0 < 1 then (quittanceref06_Between.j0 k a0 a1 a2 true) else (quittanceref06_Between.j0 k a0 a1 a2 (decide (a0 > 3)))) = some (r1, r2) := h
 clear h
 have HC4 := Aside0.mk H
 clear H
 go_enter Tryz.func25, Tryz.ntmps25
 go_upto_region 1 with (fail)
 go_cut [15] (fun v15 wc => ∃ (kq : Nat) (x15_3 : Bool), v15 = .bool x15_3 ∧ Aside0 (quittanceref06_Between.j0 kq a0 a1 a2 x15_3 = some (r1, r2)) ∧ Aside0 (kq ≤ k) ∧ Aside0 (Below w.heap.size w wc))
 case first =>
  have H := HC4.out
  clear HC4
  by_cases c5 : a0 < 1
  ·rw [if_pos c5] at H
   have c5b0 : decide (a0 < 1) = true := decide_eq_true c5
   clear c5
   (first | rw [c5b0] | (simp only [i64_w, i32_w]; rw [c5b0]) | skip)
   have H' := Aside0.mk H
   clear H
   go_wp2
   go_meet
   case rel => exact ⟨_, (true), (by first | rfl | (simp; done) | (simp [*]; done)), H', ⟨by first | omega | exact Nat.le_refl _⟩, ⟨by repeat (first | (with_reducible first | exact HB.out | apply below_alloc | apply pw_below_drewN | apply below_drew1) | exact HB.out)⟩⟩
  ·rw [if_neg c5] at H
   have c5b0 : decide (a0 < 1) = false := decide_eq_false c5
   clear c5
   (first | rw [c5b0] | (simp only [i64_w, i32_w]; rw [c5b0]) | skip)
   have H' := Aside0.mk H
   clear H
   go_wp2
   go_meet
   case rel => exact ⟨_, (decide (a0 > 3)), (by first | rfl | (simp; done) | (simp [*]; done)), H', ⟨by first | omega | exact Nat.le_refl _⟩, ⟨by repeat (first | (with_reducible first | exact HB.out | apply below_alloc | apply pw_below_drewN | apply below_drew1) | exact HB.out)⟩⟩
 case rest =>
  clear HC4
  obtain ⟨kq, x15_3, rfl, HA, HJ3, HB⟩ := hcut
  cases kq with
  | zero => exact absurd HA.out (by simp [quittanceref06_Between.j0])
  | succ kj3 =>
   have H := HA.out
   clear HA
   simp only [quittanceref06_Between.j0] at H
   by_cases c6 : x15_3 = true
   ·subst c6
    have H1 : (some (0, 1)) = some (r1, r2) := by rw [if_pos rfl] at H; exact H
    clear H
    have H := H1
    clear H1
    simp only [Option.some.injEq, Prod.mk.injEq] at H
    obtain ⟨rfl, rfl⟩ := H
    go_wp2
    go_ret2
    exact ⟨by first | rfl | (simp [errW_none, errW_some] <;> rfl) | (simp [*, errW_none, errW_some] <;> rfl), by repeat (first | (with_reducible first | exact HB.out | apply below_alloc | apply pw_below_drewN | apply below_drew1) | exact HB.out)⟩
   ·replace c6 := Bool.eq_false_iff.mpr c6
    subst c6
    have H1 : ((quittanceref03_Is.f a1).bind fun t136 => (if t136 = true then ((quittanceref03_Is.f a2).bind fun t137 => (quittanceref06_Between.j1 kj3 a0 a1 a2 (!t137))) else (quittanceref06_Between.j1 kj3 a0 a1 a2 true))) = some (r1, r2) := by rw [if_neg (show ¬ (false = true) by decide)] at H; exact H
    clear H
    have H := H1
    clear H1
    have HC7 := Aside0.mk H
    clear H
    go_upto_region 3 with (fail)
    go_cut [23] (fun v23 wc => ∃ (kq : Nat) (x23_6 : Bool), v23 = .bool x23_6 ∧ Aside0 (quittanceref06_Between.j1 kq a0 a1 a2 x23_6 = some (r1, r2)) ∧ Aside0 (kq ≤ kj3) ∧ Aside0 (Below w.heap.size w wc))
    case first =>
     have H := HC7.out
     clear HC7
     replace H := Option.bind_eq_some_iff.mp H
     obtain ⟨t136, A80, H⟩ := H
     replace H : (if t136 = true then ((quittanceref03_Is.f a2).bind fun t137 => (quittanceref06_Between.j1 kj3 a0 a1 a2 (!t137))) else (quittanceref06_Between.j1 kj3 a0 a1 a2 true)) = some (r1, r2) := H
     have A8 := Aside0.mk A80
     clear A80
     by_cases c9 : t136 = true
     ·subst c9
      have H1 : ((quittanceref03_Is.f a2).bind fun t137 => (quittanceref06_Between.j1 kj3 a0 a1 a2 (!t137))) = some (r1, r2) := by rw [if_pos rfl] at H; exact H
      clear H
      have H := H1
      clear H1
      replace H := Option.bind_eq_some_iff.mp H
      obtain ⟨t137, A100, H⟩ := H
      replace H : (quittanceref06_Between.j1 kj3 a0 a1 a2 (!t137)) = some (r1, r2) := H
      have A10 := Aside0.mk A100
      clear A100
      have H' := Aside0.mk H
      clear H
      go_wp2_with (first | ((with_reducible refine gate_callee (f := 53) rfl ?_); refine goesL_ (some 17) rfl rfl Tryz.func53 (by kernel_rfl) rfl #[.int .i64 a1] rfl (by (try simp only [List.map_toArray, List.map_cons, List.map_nil]); first | done | rfl | (simp only [List.length_drop, List.length_take]; rfl)) ?_; (with_reducible refine (quittanceref03_Is.calls a1 true _ A8.out).mono ?_); rintro e w' ⟨rfl, ⟨nd, rfl⟩⟩; refine ⟨_, rfl, ?_⟩) | (go_at_call 53; (with_reducible refine (quittanceref03_Is.calls a2 t137 _ A10.out).mono ?_); rintro e w' ⟨rfl, ⟨nd, rfl⟩⟩))
      go_meet
      case rel => exact ⟨_, (!t137), (by first | rfl | (simp; done) | (simp [*]; done)), H', ⟨by have := HJ3.out; first | omega | exact Nat.le_refl _⟩, ⟨by repeat (first | (with_reducible first | exact HB.out | apply below_alloc | apply pw_below_drewN | apply below_drew1) | exact HB.out)⟩⟩
     ·replace c9 := Bool.eq_false_iff.mpr c9
      subst c9
      have H1 : (quittanceref06_Between.j1 kj3 a0 a1 a2 true) = some (r1, r2) := by rw [if_neg (show ¬ (false = true) by decide)] at H; exact H
      clear H
      have H := H1
      clear H1
      have H' := Aside0.mk H
      clear H
      go_wp2_with (first | ((with_reducible refine gate_callee (f := 53) rfl ?_); refine goesL_ (some 17) rfl rfl Tryz.func53 (by kernel_rfl) rfl #[.int .i64 a1] rfl (by (try simp only [List.map_toArray, List.map_cons, List.map_nil]); first | done | rfl | (simp only [List.length_drop, List.length_take]; rfl)) ?_; (with_reducible refine (quittanceref03_Is.calls a1 false _ A8.out).mono ?_); rintro e w' ⟨rfl, ⟨nd, rfl⟩⟩; refine ⟨_, rfl, ?_⟩))
      go_meet
      case rel => exact ⟨_, (true), (by first | rfl | (simp; done) | (simp [*]; done)), H', ⟨by have := HJ3.out; first | omega | exact Nat.le_refl _⟩, ⟨by repeat (first | (with_reducible first | exact HB.out | apply below_alloc | apply pw_below_drewN | apply below_drew1) | exact HB.out)⟩⟩
    case rest =>
     clear HC7
     obtain ⟨kq, x23_6, rfl, HA, HJ6, HB⟩ := hcut
     cases kq with
     | zero => exact absurd HA.out (by simp [quittanceref06_Between.j1])
     | succ kj6 =>
      have H := HA.out
      clear HA
      simp only [quittanceref06_Between.j1] at H
      by_cases c11 : x23_6 = true
      ·subst c11
       have H1 : (some (0, 5)) = some (r1, r2) := by rw [if_pos rfl] at H; exact H
       clear H
       have H := H1
       clear H1
       simp only [Option.some.injEq, Prod.mk.injEq] at H
       obtain ⟨rfl, rfl⟩ := H
       go_wp2
       go_ret2
       exact ⟨by first | rfl | (simp [errW_none, errW_some] <;> rfl) | (simp [*, errW_none, errW_some] <;> rfl), by repeat (first | (with_reducible first | exact HB.out | apply below_alloc | apply pw_below_drewN | apply below_drew1) | exact HB.out)⟩
      ·replace c11 := Bool.eq_false_iff.mpr c11
       subst c11
       have H1 : (if a0 = 1 then ((quittanceref06_thirty.f a2).bind fun t138 => ((quittanceref06_thirty.f a1).bind fun t139 => (some (wrap64 (t138 - t139), 0)))) else (quittanceref06_Between.l0 kj6 a0 a1 a2 0 (mn a1 a2))) = some (r1, r2) := by rw [if_neg (show ¬ (false = true) by decide)] at H; exact H
       clear H
       have H := H1
       clear H1
       by_cases c12 : a0 = 1
       ·rw [if_pos c12] at H
        have c12b0 : (a0 == 1) = true := beq_iff_eq.mpr c12
        have c12b1 : (a0 != 1) = false := bne_eq_false_iff_eq.mpr c12
        clear c12
        replace H := Option.bind_eq_some_iff.mp H
        obtain ⟨t138, A130, H⟩ := H
        replace H : ((quittanceref06_thirty.f a1).bind fun t139 => (some (wrap64 (t138 - t139), 0))) = some (r1, r2) := H
        have A13 := Aside0.mk A130
        clear A130
        replace H := Option.bind_eq_some_iff.mp H
        obtain ⟨t139, A140, H⟩ := H
        replace H : (some (wrap64 (t138 - t139), 0)) = some (r1, r2) := H
        have A14 := Aside0.mk A140
        clear A140
        simp only [Option.some.injEq, Prod.mk.injEq] at H
        obtain ⟨rfl, rfl⟩ := H
        go_wp2_with (first | ((with_reducible refine gate_callee (f := 54) rfl ?_); refine goesL_ (some 27) rfl rfl Tryz.func54 (by kernel_rfl) rfl #[.int .i64 a2] rfl (by (try simp only [List.map_toArray, List.map_cons, List.map_nil]); first | done | rfl | (simp only [List.length_drop, List.length_take]; rfl)) ?_; (with_reducible refine (quittanceref06_thirty.calls a2 t138 _ A13.out).mono ?_); rintro e w15 ⟨rfl, hb⟩; refine ⟨_, rfl, ?_⟩; have n0_ := Aside0.mk (below_step (by repeat (first | (with_reducible first | exact HB.out | apply below_alloc | apply pw_below_drewN | apply below_drew1) | exact HB.out)) hb); clear HB; have HB := n0_; clear n0_; (try clear hb)) | ((with_reducible refine gate_callee (f := 54) rfl ?_); refine goesL_ (some 29) rfl rfl Tryz.func54 (by kernel_rfl) rfl #[.int .i64 a1] rfl (by (try simp only [List.map_toArray, List.map_cons, List.map_nil]); first | done | rfl | (simp only [List.length_drop, List.length_take]; rfl)) ?_; (with_reducible refine (quittanceref06_thirty.calls a1 t139 _ A14.out).mono ?_); rintro e w16 ⟨rfl, hb⟩; refine ⟨_, rfl, ?_⟩; have n0_ := Aside0.mk (below_step (by repeat (first | (with_reducible first | exact HB.out | apply below_alloc | apply pw_below_drewN | apply below_drew1) | exact HB.out)) hb); clear HB; have HB := n0_; clear n0_; (try clear hb)))
        go_ret2
        exact ⟨by first | rfl | (simp [errW_none, errW_some] <;> rfl) | (simp [*, errW_none, errW_some] <;> rfl), by repeat (first | (with_reducible first | exact HB.out | apply below_alloc | apply pw_below_drewN | apply below_drew1) | exact HB.out)⟩
       ·rw [if_neg c12] at H
        have c12b0 : (a0 == 1) = false := beq_eq_false_iff_ne.mpr c12
        have c12b1 : (a0 != 1) = true := bne_iff_ne.mpr c12
        obtain ⟨ji17, hji17⟩ : ∃ j_ : Int, (mn a1 a2) = j_ := ⟨_, rfl⟩
        replace H : (quittanceref06_Between.l0 kj6 a0 a1 a2 0 ji17) = some (r1, r2) := by first | (rw [hji17] at H; exact H) | (simp only [hji17] at H ⊢; exact H)
        have hji17_ : (if a2 < a1 then a2 else a1) = ji17 := hji17
        have H' := Aside0.mk H
        clear H
        go_wp2
        go_loopg [8, 9] kj6 (fun kq v8 v9 w' => ∃ (x8_3 : Int) (x9_3 : Int), v8 = .int .i64 x8_3 ∧ v9 = .int .i64 x9_3 ∧ Aside0 (quittanceref06_Between.l0 kq a0 a1 a2 x8_3 x9_3 = some (r1, r2)) ∧ Aside0 (kq ≤ kj6) ∧ Aside0 (Below w.heap.size w w'))
        case atStart => exact ⟨(0), (ji17), (by first | rfl | (simp; done) | (simp [*]; done)), (by first | rfl | (simp; done) | (simp only [← hji17] <;> (first | rfl | simp)) | (simp [*]; done)), H', ⟨Nat.le_refl _⟩, ⟨by repeat (first | (with_reducible first | exact HB.out | apply below_alloc | apply pw_below_drewN | apply below_drew1) | exact HB.out)⟩⟩
        case round =>
         clear H'
         try clear c12
         try clear c12b0
         try clear c12b1
         obtain ⟨x8_3, x9_3, rfl, rfl, HA, HK3, HB⟩ := hrel
         cases gk with
         | zero => exact absurd HA.out (by simp [quittanceref06_Between.l0])
         | succ k3 =>
          have H := HA.out
          clear HA
          simp only [quittanceref06_Between.l0] at H
          obtain ⟨ji18, hji18⟩ : ∃ j_ : Int, (mx a1 a2) = j_ := ⟨_, rfl⟩
          replace H : (if x9_3 < (ji18) then ((quittanceref06_One.f a0 x9_3).bind fun t140 => (quittanceref06_Between.l0 k3 a0 a1 a2 (wrap64 (x8_3 + t140)) (wrap64 (x9_3 + 1)))) else (if a2 < a1 then (some (wrap64 (-x8_3), 0)) else (some (x8_3, 0)))) = some (r1, r2) := by first | (rw [hji18] at H; exact H) | (simp only [hji18] at H ⊢; exact H)
          have hji18_ : (if a1 < a2 then a2 else a1) = ji18 := hji18
          by_cases c19 : x9_3 < (ji18)
          ·rw [if_pos c19] at H
           have c19b0 : decide (x9_3 < (ji18)) = true := decide_eq_true c19
           clear c19
           replace H := Option.bind_eq_some_iff.mp H
           obtain ⟨t140, A200, H⟩ := H
           replace H : (quittanceref06_Between.l0 k3 a0 a1 a2 (wrap64 (x8_3 + t140)) (wrap64 (x9_3 + 1))) = some (r1, r2) := H
           have A20 := Aside0.mk A200
           clear A200
           have H' := Aside0.mk H
           clear H
           go_wp2_with (first | ((with_reducible refine gate_callee (f := 55) rfl ?_); refine goesL_ (some 44) rfl rfl Tryz.func55 (by kernel_rfl) rfl #[.int .i64 a0, .int .i64 x9_3] rfl (by (try simp only [List.map_toArray, List.map_cons, List.map_nil]); first | done | rfl | (simp only [List.length_drop, List.length_take]; rfl)) ?_; (with_reducible refine (quittanceref06_One.calls a0 x9_3 t140 _ A20.out).mono ?_); rintro e w21 ⟨rfl, hb⟩; refine ⟨_, rfl, ?_⟩; have n0_ := Aside0.mk (below_step (by repeat (first | (with_reducible first | exact HB.out | apply below_alloc | apply pw_below_drewN | apply below_drew1) | exact HB.out)) hb); clear HB; have HB := n0_; clear n0_; (try clear hb)))
           go_roundg k3
           case measure => have := HJ3.out; have := HJ6.out; have := HK3.out; omega
           case rel => exact ⟨(wrap64 (x8_3 + t140)), (wrap64 (x9_3 + 1)), (by first | rfl | (simp; done) | (simp [*]; done)), (by first | rfl | (simp; done) | (simp [*]; done)), H', ⟨by have := HJ3.out; have := HJ6.out; have := HK3.out; omega⟩, ⟨by repeat (first | (with_reducible first | exact HB.out | apply below_alloc | apply pw_below_drewN | apply below_drew1) | exact HB.out)⟩⟩
          ·rw [if_neg c19] at H
           have c19b0 : decide (x9_3 < (ji18)) = false := decide_eq_false c19
           clear c19
           by_cases c22 : a2 < a1
           ·rw [if_pos c22] at H
            have c22b0 : decide (a2 < a1) = true := decide_eq_true c22
            clear c22
            simp only [Option.some.injEq, Prod.mk.injEq] at H
            obtain ⟨rfl, rfl⟩ := H
            go_wp2
            go_ret2
            exact ⟨by first | rfl | (simp [errW_none, errW_some] <;> rfl) | (simp only [← hji17, ← hji18]; first | rfl | (simp [errW_none, errW_some] <;> rfl)) | (simp [*, errW_none, errW_some] <;> rfl), by repeat (first | (with_reducible first | exact HB.out | apply below_alloc | apply pw_below_drewN | apply below_drew1) | exact HB.out)⟩
           ·rw [if_neg c22] at H
            have c22b0 : decide (a2 < a1) = false := decide_eq_false c22
            clear c22
            simp only [Option.some.injEq, Prod.mk.injEq] at H
            obtain ⟨rfl, rfl⟩ := H
            go_wp2
            go_ret2
            exact ⟨by first | rfl | (simp [errW_none, errW_some] <;> rfl) | (simp only [← hji17, ← hji18]; first | rfl | (simp [errW_none, errW_some] <;> rfl)) | (simp [*, errW_none, errW_some] <;> rfl), by repeat (first | (with_reducible first | exact HB.out | apply below_alloc | apply pw_below_drewN | apply below_drew1) | exact HB.out)⟩
end Go.Proofs.YtfmkdledofbhdaaGreat.PD
/- Plain law: which products may be. -/
namespace Go.Proofs.YtfmkdledofbhdaaGreat.Pm
set_option linter.unusedVariables false
structure Prod where
 name : ByteArray
 count : Int
 round : Int
 kind : Int
 every : Int
 times : Int
 grace : Int
 rate : Int
 resets : List (List Int)
 penalty : Int
 o1 : Int
 o2 : Int
 o3 : Int
 o4 : Int
 over : Int
 late : List (List Int)
 cap : Int
 roll : Int
 hol : List Int
def txt (l : List UInt8) : ByteArray := ⟨l.toArray⟩
def small (c : UInt8) : Bool := decide (97 ≤ (c.toNat : Int)) && decide ((c.toNat : Int) ≤ 122)
def other (c : UInt8) : Bool := (decide (48 ≤ (c.toNat : Int)) && decide ((c.toNat : Int) ≤ 57)) || decide ((c.toNat : Int) = 45)
def letter (c : UInt8) : Bool := small c || other c
def chars : List UInt8 → Bool
 | [] => true
 | c :: l => small c && l.all letter
def wordsL : List (List UInt8) :=
 [[112, 114, 111, 100, 117, 99, 116], [99, 111, 117, 110, 116], [116, 104, 105, 114, 116, 121], [102, 105, 120, 101, 100], [97, 99, 116, 117, 97, 108], [114, 111, 117, 110, 100], [104, 97, 108, 102, 45, 117, 112], [100, 111, 119, 110], [107, 105, 110, 100], [97, 110, 110, 117, 105, 116, 121], [101, 113, 117, 97, 108], [98, 117, 108, 108, 101, 116], [101, 118, 101, 114, 121], [116, 105, 109, 101, 115], [103, 114, 97, 99, 101], [114, 97, 116, 101], [112, 101, 110, 97, 108, 116, 121], [114, 101, 115, 101, 116], [108, 97, 116, 101], [99, 97, 112], [104, 111, 108, 105, 100, 97, 121], [111, 114, 100, 101, 114], [102, 101, 101, 115], [105, 110, 116, 101, 114, 101, 115, 116], [112, 114, 105, 110, 99, 105, 112, 97, 108], [111, 118, 101, 114], [104, 111, 108, 100], [112, 114, 101, 112, 97, 121], [114, 101, 102, 117, 110, 100], [114, 111, 108, 108], [115, 116, 97, 121], [110, 101, 120, 116], [119, 105, 116, 104, 105, 110], [112, 114, 101, 118, 105, 111, 117, 115]]
def isWord (l : List UInt8) : Bool := wordsL.contains l
def nameOk (l : List UInt8) : Bool := chars l && decide (1 ≤ l.length) && decide (l.length ≤ 20) && !isWord l
def shapeOk (p : Prod) : Bool :=
 nameOk p.name.data.toList && decide ((1 ≤ p.count ∧ p.count ≤ 3) ∧ (p.round = 1 ∨ p.round = 3) ∧ (1 ≤ p.kind ∧ p.kind ≤ 3) ∧ (p.every = 1 ∨ p.every = 2 ∨ p.every = 3 ∨ p.every = 4 ∨ p.every = 6 ∨ p.every = 12) ∧ (1 ≤ p.times ∧ p.times ≤ 600) ∧ (0 ≤ p.grace ∧ p.grace ≤ p.times - 1) ∧ (p.kind = 3 → p.grace = 0))
def resetsOk (times : Int) : Int → List (List Int) → Bool
 | _, [] => true
 | prev, r :: l => decide (1 ≤ r.getD 0 0 ∧ r.getD 0 0 ≤ times - 1 ∧ 0 ≤ r.getD 1 0 ∧ r.getD 1 0 ≤ 1000000000 ∧ prev < r.getD 0 0) && resetsOk times (r.getD 0 0) l
def ratesOk (p : Prod) : Bool := decide ((0 ≤ p.rate ∧ p.rate ≤ 1000000000) ∧ (0 ≤ p.penalty ∧ p.penalty ≤ 1000000000) ∧ p.resets.length ≤ 20) && resetsOk p.times 0 p.resets
def orderOk (a b c d : Int) : Bool := decide ((1 ≤ a ∧ a ≤ 4) ∧ (1 ≤ b ∧ b ≤ 4) ∧ (1 ≤ c ∧ c ≤ 4) ∧ (1 ≤ d ∧ d ≤ 4) ∧ a ≠ b ∧ a ≠ c ∧ a ≠ d ∧ b ≠ c ∧ b ≠ d ∧ c ≠ d)
def ordOk (p : Prod) : Bool := orderOk p.o1 p.o2 p.o3 p.o4 && decide (1 ≤ p.over ∧ p.over ≤ 3)
def tiersOk : Int → Int → List (List Int) → Bool
 | _, _, [] => true
 | pd, pf, t :: l => decide (1 ≤ t.getD 0 0 ∧ t.getD 0 0 ≤ 365 ∧ 0 ≤ t.getD 1 0 ∧ t.getD 1 0 ≤ 10000000000000 ∧ pd < t.getD 0 0 ∧ pf ≤ t.getD 1 0) && tiersOk (t.getD 0 0) (t.getD 1 0) l
def lateOk (p : Prod) : Bool := decide (p.late.length ≤ 8 ∧ (0 ≤ p.cap ∧ p.cap ≤ 10000000000000) ∧ (p.late = [] → p.cap = 0)) && tiersOk 0 0 p.late
def holsOk : Int → List Int → Bool
 | _, [] => true
 | p, a :: l => decide (-25567 ≤ a ∧ a ≤ 84370 ∧ p < a) && holsOk a l
def daysOk (p : Prod) : Bool := decide (p.hol.length ≤ 200 ∧ (1 ≤ p.roll ∧ p.roll ≤ 4) ∧ (p.roll = 1 → p.hol = [])) && holsOk (-25568) p.hol
def ok (p : Prod) : Bool := shapeOk p && ratesOk p && ordOk p && lateOk p && daysOk p
def err (p : Prod) : Int := if ok p = true then 0 else 9
def joined : List (List UInt8) → List UInt8
 | [] => [32]
 | w :: ws => 32 :: (w ++ joined ws)
theorem joined_head (ws : List (List UInt8)) : ∃ t, joined ws = 32 :: t := by cases ws <;> exact ⟨_, rfl⟩
theorem pre_word : ∀ (s w L : List UInt8), (32 : UInt8) ∉ s → (32 : UInt8) ∉ w → ((s ++ [32]).isPrefixOf (w ++ 32 :: L) = true ↔ s = w)
 | [], [], L, _, _ => by simp
 | [], b :: w, L, _, hw => by
  have h1 : ((32 : UInt8) == b) = false := by
   rw [beq_eq_false_iff_ne]; intro e; exact hw (by simp [e])
  simp [List.isPrefixOf, h1]
 | a :: s, [], L, hs, _ => by
  have h1 : (a == (32 : UInt8)) = false := by
   rw [beq_eq_false_iff_ne]; intro e; exact hs (by simp [e])
  simp [List.isPrefixOf, h1]
 | a :: s, b :: w, L, hs, hw => by
  have ih := pre_word s w L (fun h => hs (List.mem_cons_of_mem _ h)) (fun h => hw (List.mem_cons_of_mem _ h))
  simp only [List.cons_append, List.isPrefixOf, Bool.and_eq_true, beq_iff_eq, List.cons.injEq]
  rw [ih]
end Go.Proofs.YtfmkdledofbhdaaGreat.Pm
/- Contracts by hand: a calendar made new; of no other text of this seat. -/
namespace Go.Proofs.YtfmkdledofbhdaaGreat.Nw
open Go.RowKit Go.Proofs.YtfmkdledofbhdaaGreatW.PrintWords Go.Proofs.YtfmkdledofbhdaaGreatW.PrintLast Go.Proofs.YtfmkdledofbhdaaGreatW.PrintMore Go.Proofs.YtfmkdledofbhdaaGreat.HW
set_option linter.unusedVariables false
set_option linter.unusedSimpArgs false
def isDay (n : Int) : Prop := -25567 ≤ n ∧ n ≤ 84370
instance (n : Int) : Decidable (isDay n) := by unfold isDay; infer_instance
theorem rd_nat (l : List Int) (k : Nat) (h : k < l.length) : rd l (k : Int) = l[k] := by
 simp [rd, h]
theorem rd_cons (l : List Int) (k : Nat) (h : k < l.length) : l.drop k = rd l (k : Int) :: l.drop (k + 1) := by
 rw [List.drop_eq_getElem_cons h, rd_nat l k h]
def rises : Int → List Int → Bool
 | _, [] => true
 | p, x :: xs => decide (isDay x) && (decide (p < x) && rises x xs)
theorem rises_all (l : List Int) : ∀ p, rises p l = true → ∀ x ∈ l, isDay x ∧ p < x := by
 induction l with
 | nil => intro p _ x hx; simp at hx
 | cons y ys ih =>
  intro p h x hx
  simp only [rises, Bool.and_eq_true, decide_eq_true_eq] at h
  obtain ⟨h1, h2, h3⟩ := h
  rcases List.mem_cons.1 hx with rfl | hx
  ·exact ⟨h1, h2⟩
  ·obtain ⟨h4, h5⟩ := ih y h3 x hx
   exact ⟨h4, by omega⟩
theorem rises_pair (l : List Int) : ∀ p, rises p l = true → l.Pairwise (· < ·) := by
 induction l with
 | nil => intro p _; exact List.Pairwise.nil
 | cons y ys ih =>
  intro p h
  simp only [rises, Bool.and_eq_true, decide_eq_true_eq] at h
  exact List.Pairwise.cons (fun x hx => (rises_all ys y h.2.2 x hx).2) (ih y h.2.2)
theorem rises_pm (l : List Int) : ∀ p, rises p l = Pm.holsOk p l := by
 induction l with
 | nil => intro p; rfl
 | cons a l ih =>
  intro p
  simp only [rises, Pm.holsOk, ih]
  rw [Bool.eq_iff_iff]
  simp only [Bool.and_eq_true, decide_eq_true_eq]
  constructor
  ·rintro ⟨⟨h1, h2⟩, h3, h4⟩; exact ⟨⟨h1, h2, h3⟩, h4⟩
  ·rintro ⟨⟨h1, h2, h3⟩, h4⟩; exact ⟨⟨h1, h2⟩, h3, h4⟩
theorem there_any (n : Int) (w : World) : Calls Tryz.prog 65 #[.int .i64 n] w fun e w' => e = .returned (.bool (decide (isDay n))) ∧ Drawn0 w w' := by
 by_cases h1 : -25567 ≤ n
 ·by_cases h2 : n ≤ 84370
  ·have hd : decide (isDay n) = true := decide_eq_true ⟨h1, h2⟩
   rw [hd]
   clear hd
   go_enter Tryz.func65, Tryz.ntmps65
   go_wp2
   go_ret
   exact ⟨rfl, Drawn0.refl _⟩
  ·have hd : decide (isDay n) = false := decide_eq_false (fun h => h2 h.2)
   rw [hd]
   have q : decide (n ≤ 84370) = false := decide_eq_false h2
   clear hd
   go_enter Tryz.func65, Tryz.ntmps65
   go_wp2
   go_ret
   exact ⟨rfl, Drawn0.refl _⟩
 ·have hd : decide (isDay n) = false := decide_eq_false (fun h => h1 h.1)
  rw [hd]
  have q : decide (-25567 ≤ n) = false := decide_eq_false h1
  clear hd
  go_enter Tryz.func65, Tryz.ntmps65
  go_wp2
  go_ret
  exact ⟨rfl, Drawn0.refl _⟩
theorem info_int : (Tryz.prog.info? 3).map (fun i => (i.zero, i.size, i.bytes)) = some (some (.int .i64 0), 1, 8) := by kernel_rfl
def Cloned (l : List Int) (w : World) (e : Ending) (w' : World) : Prop := ∃ A c, e = .returned (.slice A l.length c) ∧ Kd.C (Kd.int .i64) w' A l.length l ∧ l.length ≤ c ∧ Below w.heap.size w w' ∧ (∀ ad, A = some ad → w.heap.size ≤ ad.block)
theorem clone_nil (w : World) : Calls Tryz.prog 66 #[.slice none 0 0] w (Cloned [] w) := by
 have hnil := fun (w : World) => Lib.run_eql_slice_nil (P := Tryz.prog) w 25 3 none 0 0 0 0 Tryz.underlying25
 go_enter Tryz.func66, Tryz.ntmps66
 go_wp2_with fail
 go_ret
 exact ⟨none, 0, rfl, ⟨rfl, by simp, fun h => absurd h (Nat.lt_irrefl 0)⟩, Nat.le_refl _, Below.refl _ _, fun ad h => by cases h⟩
theorem clone_some (ad : Addr) (c0 : Nat) (l : List Int) (w : World) (hr0 : Kd.C (Kd.int .i64) w (some ad) l.length l) (hc0 : l.length ≤ c0) (hm : l.length ≤ 1000000) : Calls Tryz.prog 66 #[.slice (some ad) l.length c0] w (Cloned l w) := by
 have HN : ∀ j u, (nums .i64 l)[j]? = some u → (w.alloc (.cells #[] 3)).cell? (ad.add j) = some u := by
  intro j u hu
  have hj : j < l.length := by
   rcases Nat.lt_or_ge j l.length with h | h
   ·exact h
   ·rw [List.getElem?_eq_none (by rw [nums_length]; exact h)] at hu; cases hu
  obtain ⟨ad', e, hc⟩ := Kd.at_int (Kd.C_below hr0 ((Below.refl w.heap.size w).alloc (Nat.le_refl _) (.cells #[] 3))) (j : Int) (by omega) (by omega)
  obtain rfl : ad = ad' := Option.some.inj e
  rw [Int.toNat_natCast] at hc
  rw [hc, ← hu, rd_nat l j hj]
  simp [nums, hj]
 have HNN := Aside0.mk HN
 clear hr0 HN
 have hown : (w.alloc (.cells #[] 3)).ownsRow w.heap.size 3 1 (.slice (some ⟨w.heap.size, 0, none⟩) 0 0) 0 [] :=
  ⟨rfl, Or.inr ⟨w.heap.size, 0, #[], rfl, Nat.le_refl _, heap_alloc_new w _, Nat.le_refl _, Nat.zero_le _, rfl, rfl⟩⟩
 have HO := Aside0.mk hown
 clear hown
 obtain ⟨i0, hi, hz0, hz1, hz2⟩ := info_parts info_int
 have hnil := fun (w : World) => Lib.run_eql_slice_nil (P := Tryz.prog) w 25 3 (some ad) l.length c0 0 0 Tryz.underlying25
 go_enter Tryz.func66, Tryz.ntmps66
 go_wp2_with ((at_builtin; refine wpList_append_own _ rfl _ _ 25 rfl w.heap.size 3 i0 (.int .i64 0) 1 8 Tryz.underlying25 hi hz0 hz1 hz2 rfl (by decide) _ 0 [] rfl HO.out ad l.length c0 (nums .i64 l) rfl (by simp [nums]) HNN.out (by intro u hu; simp [nums] at hu; obtain ⟨a, _, rfl⟩ := hu; rfl) (by unfold maxLen; omega) (by omega) (by simp) ?_); intro v' w1 hown1 hgrow _)
 have hown2 : w1.ownsRow w.heap.size 3 1 v' l.length (encs (Value.int .i64) l) := by simpa [nums, encs] using hown1
 obtain ⟨A, c, rfl, hle, hr⟩ := own_reads_of_le (d := (0 : Int)) hown2
 have hb : Below w.heap.size w w1 := ((Below.refl w.heap.size w).alloc (Nat.le_refl _) (.cells #[] 3)).grown hgrow (by simp) (fun k hk => by cases hk; exact Nat.le_refl _)
 have hbs : ∀ ad, A = some ad → w.heap.size ≤ ad.block := fun ad e => own_base hown2 _ (by rw [e]; rfl)
 have HBS := Aside0.mk hbs
 clear hbs
 have HB := Aside0.mk hb
 have HC := Aside0.mk (show Kd.C (Kd.int .i64) w1 A l.length l from Kd.C_of_reads hr)
 clear hown1 hown2 hgrow hr hb
 go_wp2
 go_ret
 exact ⟨A, c, rfl, HC.out, hle, HB.out, HBS.out⟩
theorem clone_any (A0 : Option Addr) (c0 : Nat) (l : List Int) (w : World) (hr0 : Kd.C (Kd.int .i64) w A0 l.length l) (hc0 : l.length ≤ c0) (hn : A0 = none → c0 = 0) (hm : l.length ≤ 1000000) : Calls Tryz.prog 66 #[.slice A0 l.length c0] w (Cloned l w) := by
 cases A0 with
 | some ad => exact clone_some ad c0 l w hr0 hc0 hm
 | none =>
  obtain rfl := hn rfl
  obtain rfl : l = [] := List.eq_nil_of_length_eq_zero (by omega)
  exact clone_nil w
theorem new_many (A0 : Option Addr) (c0 : Nat) (l : List Int) (w : World) (h200 : 200 < l.length) (hm : l.length ≤ 1000000) :
  Calls Tryz.prog 39 #[.slice A0 l.length c0] w fun e w' => e = .returned (.tuple #[.pointer none, .int .i64 1]) ∧ Drawn0 w w' := by
 go_enter Tryz.func39, Tryz.ntmps39
 go_wp2_with fail
 go_ret2
 exact ⟨rfl, Drawn0.refl _⟩
def CalIn (B : Nat) (w : World) (gb : Nat) (l : List Int) : Prop := ∃ A c, w.cell? ⟨gb, 0, none⟩ = some (.slice A l.length c) ∧ Kd.C (Kd.int .i64) w A l.length l ∧ l.length ≤ c ∧ l.length ≤ 200 ∧ l.Pairwise (· < ·) ∧ gb < w.heap.size ∧ (∀ ad, A = some ad → B ≤ ad.block)
def Made2 (l : List Int) (b : Bool) (w : World) (e : Ending) (w' : World) : Prop := Below w.heap.size w w' ∧ (b = false → e = .returned (.tuple #[.pointer none, .int .i64 1])) ∧ (b = true → ∃ gb, w.heap.size ≤ gb ∧ e = .returned (.tuple #[.pointer (some ⟨gb, 0, none⟩), .int .i64 0]) ∧ CalIn w.heap.size w' gb l)
set_option maxHeartbeats 1000000 in
theorem new_few2 (A0 : Option Addr) (c0 : Nat) (l : List Int) (b : Bool) (w : World) (hr0 : Kd.C (Kd.int .i64) w A0 l.length l) (hc0 : l.length ≤ c0) (hn : A0 = none → c0 = 0) (hm : l.length ≤ 200) (hb : rises (-25568) l = b) :
  Calls Tryz.prog 39 #[.slice A0 l.length c0] w (Made2 l b w) := by
 have HR0 := Aside0.mk hr0
 have HB := Aside0.mk hb
 have HN := Aside0.mk hn
 clear hr0 hb hn
 go_enter Tryz.func39, Tryz.ntmps39
 go_wp2_with fail
 go_loopg [11] (l.length + 1) (fun gq i w' => ∃ (k : Nat) (p : Int), k ≤ l.length ∧ i = .int .i64 k ∧ Aside0 (gq = l.length + 1 - k) ∧ Aside0 (k = 0 ∧ p = -25568 ∨ 0 < k ∧ p = rd l ((k : Int) - 1)) ∧ Aside0 (rises p (l.drop k) = b) ∧ Drawn0 w w')
 case atStart => exact ⟨0, -25568, Nat.zero_le _, rfl, ⟨rfl⟩, ⟨Or.inl ⟨rfl, rfl⟩⟩, ⟨by rw [← HB.out]; rfl⟩, Drawn0.refl _⟩
 case round =>
  obtain ⟨k, p, hk, rfl, hg, hp, hq, ⟨m1, rfl⟩⟩ := hrel
  by_cases hlt : k < l.length
  ·obtain ⟨ad, e0, hx0⟩ := Kd.at_int HR0.out (k : Int) (by omega) (by omega)
   subst e0
   rw [Int.toNat_natCast] at hx0
   have hrc := hq.out
   rw [rd_cons l k hlt] at hrc
   simp only [rises] at hrc
   have HX : Aside0 (∀ j : Nat, j < l.length → w.cell? (ad.add j) = some (.int .i64 (rd l (j : Int)))) := ⟨fun j hj => by
    obtain ⟨ad', e', hx'⟩ := Kd.at_int HR0.out (j : Int) (by omega) (by omega)
    obtain rfl : ad = ad' := Option.some.inj e'
    rw [Int.toNat_natCast] at hx'
    exact hx'⟩
   by_cases hd : isDay (rd l (k : Int))
   ·have d1 := decide_eq_true hd
    rw [d1, Bool.true_and] at hrc
    rcases (by omega : k = 0 ∨ 0 < k) with h0 | h0
    ·have hp0 : p = -25568 := by rcases hp.out with h | h <;> omega
     have hlt2 : decide (p < rd l (k : Int)) = true := decide_eq_true (by have := hd.1; omega)
     rw [hlt2, Bool.true_and] at hrc
     have HQ := Aside0.mk hrc
     have g1 : (k : Int) ≤ 0 := by omega
     clear hrc hq hd hlt2 hp0 hp h0
     go_wp2_with fail
     refine (there_any _ _).mono ?_
     rintro e w1 ⟨rfl, ⟨m2, rfl⟩⟩
     go_wp2_with fail
     go_roundg (l.length + 1 - (k + 1))
     case measure => have := hg.out; omega
     case rel => exact ⟨k + 1, rd l (k : Int), by omega, by simp, ⟨rfl⟩, ⟨Or.inr ⟨by omega, by congr 1; omega⟩⟩, HQ, ⟨_, rfl⟩⟩
    ·have hx1 := HX.out (k - 1) (by omega)
     have hp1 : p = rd l (((k - 1 : Nat) : Int)) := by
      rcases hp.out with h | h
      ·omega
      ·rw [h.2]; congr 1; omega
     have g1 : (0 : Int) ≤ (k : Int) - 1 := by omega
     by_cases hlt2 : p < rd l (k : Int)
     ·rw [decide_eq_true hlt2, Bool.true_and] at hrc
      have HQ := Aside0.mk hrc
      have hle2 : decide (rd l (k : Int) ≤ rd l (((k - 1 : Nat) : Int))) = false := decide_eq_false (by omega)
      clear hrc hq hd hlt2 hp1 hp
      go_wp2_with fail
      refine (there_any _ _).mono ?_
      rintro e w1 ⟨rfl, ⟨m2, rfl⟩⟩
      go_wp2_with fail
      go_roundg (l.length + 1 - (k + 1))
      case measure => have := hg.out; omega
      case rel => exact ⟨k + 1, rd l (k : Int), by omega, by simp, ⟨rfl⟩, ⟨Or.inr ⟨by omega, by congr 1; omega⟩⟩, HQ, ⟨_, rfl⟩⟩
     ·rw [decide_eq_false hlt2, Bool.false_and] at hrc
      subst hrc
      have hle2 : decide (rd l (k : Int) ≤ rd l (((k - 1 : Nat) : Int))) = true := decide_eq_true (by omega)
      clear hq hd hlt2 hp1 hp
      go_wp2_with fail
      refine (there_any _ _).mono ?_
      rintro e w1 ⟨rfl, ⟨m2, rfl⟩⟩
      go_wp2_with fail
      go_ret2
      exact ⟨pw_below_drewN (Below.refl _ _) _, fun _ => rfl, fun h => by cases h⟩
   ·have d1 := decide_eq_false hd
    rw [d1, Bool.false_and] at hrc
    subst hrc
    clear hd hq
    go_wp2_with fail
    refine (there_any _ _).mono ?_
    rintro e w1 ⟨rfl, ⟨m2, rfl⟩⟩
    go_wp2_with fail
    go_ret2
    exact ⟨pw_below_drewN (Below.refl _ _) _, fun _ => rfl, fun h => by cases h⟩
  ·have hk2 : k = l.length := by omega
   subst hk2
   have hrc := hq.out
   rw [List.drop_length] at hrc
   obtain rfl : b = true := by rw [← hrc]; rfl
   clear hq
   go_wp2_with fail
   refine (clone_any A0 c0 l _ (Kd.C_drewN HR0.out _) hc0 HN.out (by omega)).mono ?_
   rintro e w1 ⟨A, c, rfl, hc1, hle, hbl, hbs⟩
   have HBS := Aside0.mk hbs
   clear hbs
   have HC1 := Aside0.mk hc1
   have HBL := Aside0.mk hbl
   clear hc1 hbl
   have hBsz := HBL.out.size
   have hgb : (w1.alloc (.cells #[.slice A l.length c] 116)).cell? ⟨w1.heap.size, 0, none⟩ = some (.slice A l.length c) := by simp [go_sem]
   have HCA := Aside0.mk (show CalIn w.heap.size (w1.alloc (.cells #[.slice A l.length c] 116)) w1.heap.size l from ⟨A, c, hgb, Kd.C_below HC1.out ((Below.refl _ _).alloc (Nat.le_refl _) _), hle, hm, rises_pair l _ HB.out, by simp, by have := HBS.out; simpa using this⟩)
   have HBB := Aside0.mk ((pw_below_drewN (Below.refl w.heap.size w) (m1)).trans (HBL.out.mono (by simp)))
   clear hgb
   go_wp2_with fail
   go_ret2
   exact ⟨HBB.out.alloc HBB.out.size _, (fun h => by cases h), fun _ => ⟨w1.heap.size, HBB.out.size, rfl, HCA.out⟩⟩
def New1 (l : List Int) (w : World) (e : Ending) (w' : World) : Prop := Below w.heap.size w w' ∧ ∃ q, (e = .returned (.tuple #[q, .int .i64 (if decide (l.length ≤ 200) && Pm.holsOk (-25568) l then 0 else 1)]))
theorem new_any (A0 : Option Addr) (c0 : Nat) (l : List Int) (w : World) (hr0 : Kd.C (Kd.int .i64) w A0 l.length l) (hc0 : l.length ≤ c0) (hn : A0 = none → c0 = 0) (hm : l.length ≤ 1000000) :
  Calls Tryz.prog 39 #[.slice A0 l.length c0] w (New1 l w) := by
 by_cases h : l.length ≤ 200
 ·refine (new_few2 A0 c0 l _ w hr0 hc0 hn h rfl).mono ?_
  rintro e w1 ⟨hb, h1, h2⟩
  refine ⟨hb, ?_⟩
  rw [decide_eq_true h, Bool.true_and, ← rises_pm]
  cases hr : rises (-25568) l with
  | true =>
   obtain ⟨gb, _, he, _⟩ := h2 hr
   exact ⟨_, by rw [he]; rfl⟩
  | false => exact ⟨_, by rw [h1 hr]; rfl⟩
 ·refine (new_many A0 c0 l w (by omega) hm).mono ?_
  rintro e w1 ⟨rfl, hd⟩
  refine ⟨hd.below, .pointer none, ?_⟩
  rw [decide_eq_false h]; rfl
end Go.Proofs.YtfmkdledofbhdaaGreat.Nw
/- Plain law: a word among the words of grammar. -/
namespace Go.Proofs.YtfmkdledofbhdaaGreat.Pm
open Go
set_option linter.unusedVariables false
theorem index_cons_pos (b : UInt8) (l sub : List UInt8) : 0 ≤ Lib.index (b :: l) sub ↔ sub.isPrefixOf (b :: l) = true ∨ 0 ≤ Lib.index l sub := by
 have hg := Lib.index_ge l sub
 rw [Lib.index]
 by_cases h : sub.isPrefixOf (b :: l) = true
 ·rw [if_pos h]; simp [h]
 ·rw [if_neg h]
  by_cases e : Lib.index l sub = -1
  ·rw [if_pos (by rw [e]; rfl), e]; simp [h]
  ·rw [if_neg (by simpa using e)]
   simp only [h, false_or]
   constructor <;> intro <;> omega
theorem index_nil_neg (a : UInt8) (t : List UInt8) : ¬ 0 ≤ Lib.index [] (a :: t) := by simp [Lib.index]
theorem index_skip (t L : List UInt8) : ∀ w : List UInt8, (32 : UInt8) ∉ w → (0 ≤ Lib.index (w ++ L) (32 :: t) ↔ 0 ≤ Lib.index L (32 :: t))
 | [], _ => by simp
 | b :: w, hw => by
  have h1 : ((32 : UInt8) == b) = false := by
   rw [beq_eq_false_iff_ne]; intro e; exact hw (by simp [e])
  have ih := index_skip t L w (fun h => hw (List.mem_cons_of_mem _ h))
  rw [List.cons_append, index_cons_pos, ih]
  simp [List.isPrefixOf, h1]
theorem index_joined (s : List UInt8) (hs : (32 : UInt8) ∉ s) : ∀ ws : List (List UInt8), (∀ w ∈ ws, (32 : UInt8) ∉ w) → (0 ≤ Lib.index (joined ws) (32 :: (s ++ [32])) ↔ s ∈ ws)
 | [], _ => by
  rw [joined, index_cons_pos]
  have h := index_nil_neg 32 (s ++ [32])
  have h2 : ¬ (s ++ [32]).isPrefixOf ([] : List UInt8) = true := by cases s <;> simp [List.isPrefixOf]
  simp [List.isPrefixOf, h, h2]
 | w :: ws, hw => by
  obtain ⟨t, ht⟩ := joined_head ws
  have ih := index_joined s hs ws (fun v hv => hw v (List.mem_cons_of_mem _ hv))
  have hw0 := hw w (by simp)
  rw [joined, index_cons_pos, index_skip _ _ w hw0, ih]
  have hp := pre_word s w t hs hw0
  simp only [List.isPrefixOf, beq_self_eq_true, Bool.true_and, List.mem_cons]
  rw [ht, hp]
theorem words_no : ∀ w ∈ wordsL, (32 : UInt8) ∉ w := by decide +kernel
theorem contains_word (s : List UInt8) (hs : (32 : UInt8) ∉ s) : Lib.contains (joined wordsL) (32 :: (s ++ [32])) = isWord s := by
 unfold Lib.contains isWord
 rw [Bool.eq_iff_iff, decide_eq_true_iff, List.contains_iff_mem]
 exact index_joined s hs wordsL words_no
theorem letter_no (c : UInt8) (h : letter c = true) : c ≠ 32 := by
 intro e; subst e; revert h; decide
end Go.Proofs.YtfmkdledofbhdaaGreat.Pm
/- Arguments opened: structs of whole numbers, and slices of them. -/
namespace Go.Proofs.YtfmkdledofbhdaaGreat.Op
open Go.ChangeShapes Go.WideShapes Go.Deep Go.RowKit Go.Joins
def IntRows (w : World) (A : Option Addr) (sz : Nat) (rows : List (List Int)) : Prop :=
 (∀ r ∈ rows, r.length = sz ∧ ∀ x ∈ r, (Lit.int .i64 x).wf = true) ∧ ∀ (i : Nat) (r : List Int), rows[i]? = some r → ∃ ad, A = some ad ∧ ∀ (j : Nat) (x : Int), r[j]? = some x → w.cell? (ad.add (i * sz + j)) = some (.int .i64 x)
theorem list_of {α : Type} {P : Nat → α → Prop} (n : Nat) : (∀ i, i < n → ∃ x, P i x) → ∃ l : List α, l.length = n ∧ ∀ (i : Nat) (x : α), l[i]? = some x → P i x := by
 induction n with
 | zero => intro _; exact ⟨[], rfl, fun i x h => by simp at h⟩
 | succ n ih =>
  intro h
  obtain ⟨l, hl, hp⟩ := ih (fun i hi => h i (by omega))
  obtain ⟨x, hx⟩ := h n (by omega)
  refine ⟨l ++ [x], by simp [hl], fun i y hy => ?_⟩
  rcases Nat.lt_or_ge i l.length with h1 | h1
  ·rw [List.getElem?_append_left h1] at hy; exact hp i y hy
  ·rw [List.getElem?_append_right h1] at hy
   have : i - l.length = 0 := by
    rcases Nat.eq_zero_or_pos (i - l.length) with h2 | h2
    ·exact h2
    ·rw [List.getElem?_eq_none (by simp only [List.length_cons, List.length_nil]; omega)] at hy; cases hy
   rw [this] at hy
   simp at hy
   subst hy
   obtain rfl : i = n := by omega
   exact hx
section
variable {H : Type} {enc : TypeId × Value → H} {P : Program} {w : World} {base : Nat} {spare : Nat → Bool} {held : Bool}
theorem hone_of' {P : Program} {fs : Array Field} (h : oneCellFields P fs = true) (j : Nat) (f : Field) (hj : fs[j]? = some f) : f.offset = j ∧ P.cellsOf f.type = 1 := hone_of h j f hj
end
theorem IntRows.below {w w1 : World} {A : Option Addr} {sz : Nat} {rows : List (List Int)} (h : IntRows w A sz rows) (hb : Below w.heap.size w w1) : IntRows w1 A sz rows := by
 refine ⟨h.1, fun i r hi => ?_⟩
 obtain ⟨ad, e, hc⟩ := h.2 i r hi
 refine ⟨ad, e, fun j x hj => ?_⟩
 have hj' := hc j x hj
 have hlt : (ad.add (i * sz + j)).block < w.heap.size := by
  rcases Nat.lt_or_ge (ad.add (i * sz + j)).block w.heap.size with h1 | h1
  ·exact h1
  ·exfalso
   have e : w.heap[(ad.add (i * sz + j)).block]? = none := Array.getElem?_eq_none h1
   simp [World.cell?, e] at hj'
 rw [hb.cell hlt]; exact hj'
end Go.Proofs.YtfmkdledofbhdaaGreat.Op
/- Contracts by hand: a product by value; what is thrown of it. -/
namespace Go.Proofs.YtfmkdledofbhdaaGreat.Pd
open Go.RowKit Go.Proofs.YtfmkdledofbhdaaGreatW.PrintWords Go.Proofs.YtfmkdledofbhdaaGreatW.PrintLast Go.Proofs.YtfmkdledofbhdaaGreatW.PrintMore Go.Proofs.YtfmkdledofbhdaaGreat.HW
open Pm
set_option linter.unusedVariables false
set_option linter.unusedSimpArgs false
abbrev pv (p : Prod) (A1 : Option Addr) (c1 : Nat) (A2 : Option Addr) (c2 : Nat) (A3 : Option Addr) (c3 : Nat) : Value :=
 .agg #[.string p.name, .int .i64 p.count, .int .i64 p.round, .int .i64 p.kind, .int .i64 p.every, .int .i64 p.times, .int .i64 p.grace, .int .i64 p.rate, .slice A1 p.resets.length c1, .int .i64 p.penalty, .int .i64 p.o1, .int .i64 p.o2, .int .i64 p.o3, .int .i64 p.o4, .int .i64 p.over, .slice A2 p.late.length c2, .int .i64 p.cap, .int .i64 p.roll, .slice A3 p.hol.length c3]
structure ProdAt (w : World) (p : Prod) (A1 : Option Addr) (c1 : Nat) (A2 : Option Addr) (c2 : Nat) (A3 : Option Addr) (c3 : Nat) : Prop where
 r1 : Op.IntRows w A1 2 p.resets
 l1 : p.resets.length ≤ c1
 n1 : A1 = none → c1 = 0
 r2 : Op.IntRows w A2 2 p.late
 l2 : p.late.length ≤ c2
 n2 : A2 = none → c2 = 0
 r3 : Kd.C (Kd.int .i64) w A3 p.hol.length p.hol
 l3 : p.hol.length ≤ c3
 n3 : A3 = none → c3 = 0
theorem ProdAt.below {w w1 : World} {p : Prod} {A1 : Option Addr} {c1 : Nat} {A2 : Option Addr} {c2 : Nat} {A3 : Option Addr} {c3 : Nat} (h : ProdAt w p A1 c1 A2 c2 A3 c3) (hb : Below w.heap.size w w1) : ProdAt w1 p A1 c1 A2 c2 A3 c3 :=
 ⟨h.r1.below hb, h.l1, h.n1, h.r2.below hb, h.l2, h.n2, Kd.C_below h.r3 hb, h.l3, h.n3⟩
structure Small (p : Prod) : Prop where
 name : p.name.size ≤ 1000000
 s1 : p.resets.length ≤ 1000000
 s2 : p.late.length ≤ 1000000
 s3 : p.hol.length ≤ 1000000
theorem must_yes (w : World) : Calls Tryz.prog 78 #[.bool true] w fun e w' => e = .returned (.tuple #[]) ∧ w = w' := by
 go_enter Tryz.func78, Tryz.ntmps78
 go_wp2
 go_end0
 exact ⟨rfl, rfl⟩
abbrev refusedE : Ending := .panicked [{ v := .iface 108 (.agg #[]), recovered := false }]
theorem must_no (w : World) : Calls Tryz.prog 78 #[.bool false] w fun e w' => e = refusedE ∧ w = w' := by
 go_enter Tryz.func78, Tryz.ntmps78
 go_wp2
 exact ⟨rfl, rfl, rfl⟩
theorem within_i (v a b : Int) (w : World) : Calls Tryz.prog 80 #[.int .i64 v, .int .i64 a, .int .i64 b] w fun e w' => e = .returned (.bool (decide (a ≤ v ∧ v ≤ b))) ∧ w = w' := by
 by_cases h1 : a ≤ v
 ·by_cases h2 : v ≤ b
  ·have hd : decide (a ≤ v ∧ v ≤ b) = true := decide_eq_true ⟨h1, h2⟩
   rw [hd]
   clear hd
   go_enter Tryz.func80, Tryz.ntmps80
   go_wp2
   go_ret
   exact ⟨rfl, rfl⟩
  ·have hd : decide (a ≤ v ∧ v ≤ b) = false := decide_eq_false (fun h => h2 h.2)
   rw [hd]
   have q : decide (v ≤ b) = false := decide_eq_false h2
   clear hd
   go_enter Tryz.func80, Tryz.ntmps80
   go_wp2
   go_ret
   exact ⟨rfl, rfl⟩
 ·have hd : decide (a ≤ v ∧ v ≤ b) = false := decide_eq_false (fun h => h1 h.1)
  rw [hd]
  have q : decide (a ≤ v) = false := decide_eq_false h1
  clear hd
  go_enter Tryz.func80, Tryz.ntmps80
  go_wp2
  go_ret
  exact ⟨rfl, rfl⟩
theorem within_l (v a b : Int) (w : World) : Calls Tryz.prog 81 #[.int .i64 v, .int .i64 a, .int .i64 b] w fun e w' => e = .returned (.bool (decide (a ≤ v ∧ v ≤ b))) ∧ w = w' := by
 by_cases h1 : a ≤ v
 ·by_cases h2 : v ≤ b
  ·have hd : decide (a ≤ v ∧ v ≤ b) = true := decide_eq_true ⟨h1, h2⟩
   rw [hd]
   clear hd
   go_enter Tryz.func81, Tryz.ntmps81
   go_wp2
   go_ret
   exact ⟨rfl, rfl⟩
  ·have hd : decide (a ≤ v ∧ v ≤ b) = false := decide_eq_false (fun h => h2 h.2)
   rw [hd]
   have q : decide (v ≤ b) = false := decide_eq_false h2
   clear hd
   go_enter Tryz.func81, Tryz.ntmps81
   go_wp2
   go_ret
   exact ⟨rfl, rfl⟩
 ·have hd : decide (a ≤ v ∧ v ≤ b) = false := decide_eq_false (fun h => h1 h.1)
  rw [hd]
  have q : decide (a ≤ v) = false := decide_eq_false h1
  clear hd
  go_enter Tryz.func81, Tryz.ntmps81
  go_wp2
  go_ret
  exact ⟨rfl, rfl⟩
theorem within_i_is {v a b : Int} {r : Bool} (h : decide (a ≤ v ∧ v ≤ b) = r) (w : World) : Calls Tryz.prog 80 #[.int .i64 v, .int .i64 a, .int .i64 b] w fun e w' => e = .returned (.bool r) ∧ w = w' := h ▸ within_i v a b w
theorem within_l_is {v a b : Int} {r : Bool} (h : decide (a ≤ v ∧ v ≤ b) = r) (w : World) : Calls Tryz.prog 81 #[.int .i64 v, .int .i64 a, .int .i64 b] w fun e w' => e = .returned (.bool r) ∧ w = w' := h ▸ within_l v a b w
section
variable {P : Program} {ops : Array Oper} {rest : List Oper} {a : Act} {Q : Exit → Act → World → Prop}
theorem copy_event {W : World} {o1 o2 : Oper} (hg1 : o1.guard = none) {N : Tmp} (hd1 : o1.dst = some N) (hg2 : o2.guard = none) (hd2 : o2.dst = none) {t : TypeId} {v : Operand} (ho2 : o2.op = .store t (.tmp N) v) {cs zs : Array Value}
  (hrun : (execOp a.eval o1).run P W = .ok (.value (.pointer (some ⟨W.heap.size, 0, none⟩))) (W.alloc (.cells zs t (0, 0))))
  (hp : (a.put o1.dst (.pointer (some ⟨W.heap.size, 0, none⟩))).eval (.tmp N) = .pointer (some ⟨W.heap.size, 0, none⟩))
  (hv : (a.put o1.dst (.pointer (some ⟨W.heap.size, 0, none⟩))).eval v = .agg cs)
  (hi : (P.info? t).map (·.size) = some cs.size) (hz : zs.size = cs.size) (h1 : cs.all (·.oneCell') = true)
  (h : ∀ g, g = W.heap.size → ∀ w1, w1.heap[g]? = some (.cells cs t (0, 0)) → Below W.heap.size W w1 → wpList P ops Q rest (a.put o1.dst (.pointer (some ⟨g, 0, none⟩))) w1) : wpList P ops Q (o1 :: o2 :: rest) a W := by
 refine Kd.event_run hg1 hrun ?_
 refine wpList_store_row hg2 t (.tmp N) v ho2 W.heap.size cs hp hv t zs (heap_alloc_new W _) hi hz h1 ?_
 rw [hd2, World.setRow_alloc_new]
 exact h _ rfl _ (blk_new W _) (below_alloc (Below.refl _ _) _)
end
theorem info_prod : (Tryz.prog.info? 27).map (·.size) = some 19 := by kernel_rfl
theorem info_looks : (Tryz.prog.info? 110).map (·.size) = some 19 := by kernel_rfl
abbrev pcs (p : Prod) (A1 : Option Addr) (c1 : Nat) (A2 : Option Addr) (c2 : Nat) (A3 : Option Addr) (c3 : Nat) : Array Value :=
 #[.string p.name, .int .i64 p.count, .int .i64 p.round, .int .i64 p.kind, .int .i64 p.every, .int .i64 p.times, .int .i64 p.grace, .int .i64 p.rate, .slice A1 p.resets.length c1, .int .i64 p.penalty, .int .i64 p.o1, .int .i64 p.o2, .int .i64 p.o3, .int .i64 p.o4, .int .i64 p.over, .slice A2 p.late.length c2, .int .i64 p.cap, .int .i64 p.roll, .slice A3 p.hol.length c3]
theorem pcs_one (p : Prod) (A1 : Option Addr) (c1 : Nat) (A2 : Option Addr) (c2 : Nat) (A3 : Option Addr) (c3 : Nat) : (pcs p A1 c1 A2 c2 A3 c3).all (·.oneCell') = true := by
 simp [Value.oneCell']
abbrev pzs : Array Value :=
 #[.string ⟨#[]⟩, .int .i64 0, .int .i64 0, .int .i64 0, .int .i64 0, .int .i64 0, .int .i64 0, .int .i64 0, .slice none 0 0, .int .i64 0, .int .i64 0, .int .i64 0, .int .i64 0, .int .i64 0, .int .i64 0, .slice none 0 0, .int .i64 0, .int .i64 0, .slice none 0 0]
theorem pc_cells {p : Prod} {A1 : Option Addr} {c1 : Nat} {A2 : Option Addr} {c2 : Nat} {A3 : Option Addr} {c3 : Nat} {w : World} {g : Nat} {t : TypeId} (h : w.heap[g]? = some (.cells (pcs p A1 c1 A2 c2 A3 c3) t (0, 0))) :
  w.cell? ⟨g, 0, none⟩ = some (.string p.name) ∧ w.cell? ⟨g, 1, none⟩ = some (.int .i64 p.count) ∧ w.cell? ⟨g, 2, none⟩ = some (.int .i64 p.round) ∧ w.cell? ⟨g, 3, none⟩ = some (.int .i64 p.kind) ∧ w.cell? ⟨g, 4, none⟩ = some (.int .i64 p.every) ∧ w.cell? ⟨g, 5, none⟩ = some (.int .i64 p.times) ∧ w.cell? ⟨g, 6, none⟩ = some (.int .i64 p.grace) ∧ w.cell? ⟨g, 7, none⟩ = some (.int .i64 p.rate) ∧ w.cell? ⟨g, 8, none⟩ = some (.slice A1 p.resets.length c1) ∧ w.cell? ⟨g, 9, none⟩ = some (.int .i64 p.penalty) ∧ w.cell? ⟨g, 10, none⟩ = some (.int .i64 p.o1) ∧ w.cell? ⟨g, 11, none⟩ = some (.int .i64 p.o2) ∧ w.cell? ⟨g, 12, none⟩ = some (.int .i64 p.o3) ∧ w.cell? ⟨g, 13, none⟩ = some (.int .i64 p.o4) ∧ w.cell? ⟨g, 14, none⟩ = some (.int .i64 p.over) ∧ w.cell? ⟨g, 15, none⟩ = some (.slice A2 p.late.length c2) ∧ w.cell? ⟨g, 16, none⟩ = some (.int .i64 p.cap) ∧ w.cell? ⟨g, 17, none⟩ = some (.int .i64 p.roll) ∧ w.cell? ⟨g, 18, none⟩ = some (.slice A3 p.hol.length c3) :=
 ⟨(blk_cell h 0).trans rfl, (blk_cell h 1).trans rfl, (blk_cell h 2).trans rfl, (blk_cell h 3).trans rfl, (blk_cell h 4).trans rfl, (blk_cell h 5).trans rfl, (blk_cell h 6).trans rfl, (blk_cell h 7).trans rfl, (blk_cell h 8).trans rfl, (blk_cell h 9).trans rfl, (blk_cell h 10).trans rfl, (blk_cell h 11).trans rfl, (blk_cell h 12).trans rfl, (blk_cell h 13).trans rfl, (blk_cell h 14).trans rfl, (blk_cell h 15).trans rfl, (blk_cell h 16).trans rfl, (blk_cell h 17).trans rfl, (blk_cell h 18).trans rfl⟩
theorem blk_below {w w1 : World} {g : Nat} {o : Obj} (h : w.heap[g]? = some o) (hb : Below w.heap.size w w1) : w1.heap[g]? = some o := by rw [hb.block g (blk_lt h)]; exact h
theorem must_yes_of {b : Bool} (h : b = true) (w : World) : Calls Tryz.prog 78 #[.bool b] w fun e w' => e = .returned (.tuple #[]) ∧ w = w' := h ▸ must_yes w
theorem must_no_of {b : Bool} (h : b = false) (w : World) : Calls Tryz.prog 78 #[.bool b] w fun e w' => e = refusedE ∧ w = w' := h ▸ must_no w
end Go.Proofs.YtfmkdledofbhdaaGreat.Pd
/- Months further on, walked by hand. -/
namespace Go.Proofs.YtfmkdledofbhdaaGreat.H
open Go.RowKit Go.Proofs.YtfmkdledofbhdaaGreatW.PrintWords Go.Proofs.YtfmkdledofbhdaaGreatW.PrintLast Go.Proofs.YtfmkdledofbhdaaGreatW.PrintMore
open Go.Proofs.YtfmkdledofbhdaaGreat.Math
set_option linter.unusedVariables false
set_option linter.unusedSimpArgs false
attribute [local go_sem] max2_int min2_int max_two min_two
theorem info_dateA : (Tryz.prog.info? 127).map (·.size) = some 3 := by kernel_rfl
def num3 (r : Int × Int) (w : World) (e : Ending) (w' : World) : Prop := e = .returned (.tuple #[.int .i64 r.1, .int .i64 r.2]) ∧ Below w.heap.size w w'
theorem cell_laterA {w w1 : World} {a : Addr} {v : Value} (hb : Below w.heap.size w w1) (hc : w.cell? a = some v) : w1.cell? a = some v := (hb.cell (World.block_lt_of_cell? w a hc)).trans hc
theorem add_out {n x : Int} (h : x < -3612 ∨ 3612 < x) : add n x = (0, 5) := by unfold add; rw [if_pos h]; split <;> rfl
theorem add_far {n x : Int} (hd : isDay n) (h : 12 * yearOf n + monthOf n - 1 + x < 22800 ∨ 26412 ≤ 12 * yearOf n + monthOf n - 1 + x) : add n x = (0, 5) := by
 unfold add
 rw [if_pos hd]
 split
 ·rfl
 ·unfold addRaw
  exact number_no (by unfold okDate; omega)
theorem add_in {n x : Int} (hd : isDay n) (h1 : -3612 ≤ x) (h2 : x ≤ 3612) : add n x = number ((12 * yearOf n + monthOf n - 1 + x) / 12) ((12 * yearOf n + monthOf n - 1 + x) % 12 + 1) (min (dayOf n) (mlen ((12 * yearOf n + monthOf n - 1 + x) / 12) ((12 * yearOf n + monthOf n - 1 + x) % 12 + 1))) := by
 unfold add
 rw [if_pos hd, if_neg (by omega)]
 rfl
set_option maxRecDepth 100000 in
set_option maxHeartbeats 4000000 in
theorem radd_none (n x y m d c : Int) (w : World) (hc : (c != 0) = true) (hD : ∀ W, Calls Tryz.prog 76 #[.int .i64 n] W fun e w' => e = .returned (.tuple #[.agg #[.int .i64 y, .int .i64 m, .int .i64 d], .int .i64 c]) ∧ Below W.heap.size W w') : Calls Tryz.prog 73 #[.int .i64 n, .int .i64 x] w (num3 (0, c) w) := by
 have DA := Aside0.mk hD
 clear hD
 go_enter Tryz.func73, Tryz.ntmps73
 go_wp2_with (first
  | (go_at_call 76; (with_reducible refine (DA.out _).mono ?_); rintro e w1 ⟨rfl, hb⟩; have HB := Aside0.mk hb; clear hb)
  | ((with_reducible refine gate_dst (N := 6) rfl ?_); refine Pd.copy_event rfl (N := 6) rfl rfl rfl (t := 127) (v := .tmp 14) rfl (cs := #[.int .i64 y, .int .i64 m, .int .i64 d]) (zs := #[.int .i64 0, .int .i64 0, .int .i64 0]) ?hr rfl rfl info_dateA ?hz (by simp [Value.oneCell']) ?_; (case hr => first | (go_simp; done) | (go_simp; rfl)); (case hz => rfl); intro ga hg w2 hb1 hb; clear hg; have GA := Aside0.mk hb1; have HB := Aside0.mk (below_step HB.out hb); clear hb1 hb; have q0 := (show w2.cell? ⟨ga, 0, none⟩ = some (.int .i64 y) from (blk_cell GA.out 0).trans rfl); have q1 := (show w2.cell? ⟨ga, 1, none⟩ = some (.int .i64 m) from (blk_cell GA.out 1).trans rfl); have q2 := (show w2.cell? ⟨ga, 2, none⟩ = some (.int .i64 d) from (blk_cell GA.out 2).trans rfl)))
 go_ret2
 exact ⟨rfl, HB.out⟩
set_option maxRecDepth 100000 in
set_option maxHeartbeats 4000000 in
theorem radd_walk (n x y m d r1 r2 t Y M L D : Int) (w : World) (hD : ∀ W, Calls Tryz.prog 76 #[.int .i64 n] W fun e w' => e = .returned (.tuple #[.agg #[.int .i64 y, .int .i64 m, .int .i64 d], .int .i64 0]) ∧ Below W.heap.size W w')
  (hM : ∀ W, Calls Tryz.prog 93 #[.int .i64 Y, .int .i64 M] W fun e w' => e = .returned (.int .i64 L) ∧ Drawn0 W w') (hN : 22800 ≤ t ∧ t < 26412 → ∀ W, Calls Tryz.prog 92 #[.agg #[.int .i64 Y, .int .i64 M, .int .i64 D]] W fun e w' => e = .returned (.tuple #[.int .i64 r1, .int .i64 r2]) ∧ Below W.heap.size W w')
  (y1 : 1900 ≤ y) (y2 : y ≤ 2200) (m1 : 1 ≤ m) (m2 : m ≤ 12) (ht : 12 * y + m - 1 + x = t) (hY : t / 12 = Y) (hM2 : t % 12 + 1 = M) (hmin : (if L < d then L else d) = D)
  (h : (x < -4000 ∧ r1 = 0 ∧ r2 = 5) ∨ (4000 < x ∧ r1 = 0 ∧ r2 = 5) ∨ -4000 ≤ x ∧ x ≤ 4000 ∧ (t < 22800 ∧ r1 = 0 ∧ r2 = 5 ∨ 26412 ≤ t ∧ r1 = 0 ∧ r2 = 5 ∨ 22800 ≤ t ∧ t < 26412)) : Calls Tryz.prog 73 #[.int .i64 n, .int .i64 x] w (num3 (r1, r2) w) := by
 have DA := Aside0.mk hD
 have MA := Aside0.mk hM
 have hx : x < -4000 ∨ 4000 < x ∨ -4000 ≤ x ∧ x ≤ 4000 := by omega
 have e1 : IntKind.i64.wrap (12 * y) = 12 * y := IntWalk.i64_in _ (by omega)
 have e2 : IntKind.i64.wrap (12 * y + m) = 12 * y + m := IntWalk.i64_in _ (by omega)
 have e3 : IntKind.i64.wrap (12 * y + m - 1) = 12 * y + m - 1 := IntWalk.i64_in _ (by omega)
 clear hD hM
 rcases h with ⟨h, rfl, rfl⟩ | ⟨h, rfl, rfl⟩ | ⟨h1, h2, h⟩
 ·clear e1 e2 e3 ht hY hM2 hmin hx y1 y2 m1 m2 hN
  go_enter Tryz.func73, Tryz.ntmps73
  go_wp2_with (first
   | (go_at_call 76; (with_reducible refine (DA.out _).mono ?_); rintro e w1 ⟨rfl, hb⟩; have HB := Aside0.mk hb; clear hb)
   | ((with_reducible refine gate_dst (N := 6) rfl ?_); refine Pd.copy_event rfl (N := 6) rfl rfl rfl (t := 127) (v := .tmp 14) rfl (cs := #[.int .i64 y, .int .i64 m, .int .i64 d]) (zs := #[.int .i64 0, .int .i64 0, .int .i64 0]) ?hr rfl rfl info_dateA ?hz (by simp [Value.oneCell']) ?_; (case hr => first | (go_simp; done) | (go_simp; rfl)); (case hz => rfl); intro ga hg w2 hb1 hb; clear hg; have GA := Aside0.mk hb1; have HB := Aside0.mk (below_step HB.out hb); clear hb1 hb; have q0 := (show w2.cell? ⟨ga, 0, none⟩ = some (.int .i64 y) from (blk_cell GA.out 0).trans rfl); have q1 := (show w2.cell? ⟨ga, 1, none⟩ = some (.int .i64 m) from (blk_cell GA.out 1).trans rfl); have q2 := (show w2.cell? ⟨ga, 2, none⟩ = some (.int .i64 d) from (blk_cell GA.out 2).trans rfl)))
  go_ret2
  exact ⟨rfl, HB.out⟩
 ·clear e1 e2 e3 ht hY hM2 hmin hx y1 y2 m1 m2 hN
  go_enter Tryz.func73, Tryz.ntmps73
  go_wp2_with (first
   | (go_at_call 76; (with_reducible refine (DA.out _).mono ?_); rintro e w1 ⟨rfl, hb⟩; have HB := Aside0.mk hb; clear hb)
   | ((with_reducible refine gate_dst (N := 6) rfl ?_); refine Pd.copy_event rfl (N := 6) rfl rfl rfl (t := 127) (v := .tmp 14) rfl (cs := #[.int .i64 y, .int .i64 m, .int .i64 d]) (zs := #[.int .i64 0, .int .i64 0, .int .i64 0]) ?hr rfl rfl info_dateA ?hz (by simp [Value.oneCell']) ?_; (case hr => first | (go_simp; done) | (go_simp; rfl)); (case hz => rfl); intro ga hg w2 hb1 hb; clear hg; have GA := Aside0.mk hb1; have HB := Aside0.mk (below_step HB.out hb); clear hb1 hb; have q0 := (show w2.cell? ⟨ga, 0, none⟩ = some (.int .i64 y) from (blk_cell GA.out 0).trans rfl); have q1 := (show w2.cell? ⟨ga, 1, none⟩ = some (.int .i64 m) from (blk_cell GA.out 1).trans rfl); have q2 := (show w2.cell? ⟨ga, 2, none⟩ = some (.int .i64 d) from (blk_cell GA.out 2).trans rfl)))
  go_ret2
  exact ⟨rfl, HB.out⟩
 ·have e4 : IntKind.i64.wrap (12 * y + m - 1 + x) = t := by rw [← ht]; exact IntWalk.i64_in _ (by omega)
  have t0 : 0 ≤ t := by omega
  have t1 : t ≤ 40000 := by omega
  have e5 : IntKind.i64.wrap (Int.tdiv t 12) = Y := by rw [Int.tdiv_eq_ediv_of_nonneg t0, hY]; exact IntWalk.i64_in _ (by omega)
  have e5b : IntKind.i64.wrap (t / 12) = Y := by rw [hY]; exact IntWalk.i64_in _ (by omega)
  have e6 : IntKind.i64.wrap (Int.tmod t 12) = M - 1 := by rw [Int.tmod_eq_emod_of_nonneg t0]; rw [IntWalk.i64_in _ (by omega)]; omega
  have e7 : IntKind.i64.wrap (M - 1 + 1) = M := by rw [IntWalk.i64_in _ (by omega)]; omega
  have e8 : IntKind.i64.wrap (Int.tmod t 12 + 1) = M := by rw [Int.tmod_eq_emod_of_nonneg t0, hM2]; exact IntWalk.i64_in _ (by omega)
  have e9 : IntKind.i64.wrap (t % 12 + 1) = M := by rw [hM2]; exact IntWalk.i64_in _ (by omega)
  have HMIN := Aside0.mk hmin
  clear ht hY hM2 hmin hx y1 y2 m1 m2
  rcases h with ⟨h, rfl, rfl⟩ | ⟨h, rfl, rfl⟩ | ⟨h, h3⟩
  ·clear hN
   go_enter Tryz.func73, Tryz.ntmps73
   go_wp2_with (first
    | (go_at_call 76; (with_reducible refine (DA.out _).mono ?_); rintro e w1 ⟨rfl, hb⟩; have HB := Aside0.mk hb; clear hb)
    | ((with_reducible refine gate_dst (N := 6) rfl ?_); refine Pd.copy_event rfl (N := 6) rfl rfl rfl (t := 127) (v := .tmp 14) rfl (cs := #[.int .i64 y, .int .i64 m, .int .i64 d]) (zs := #[.int .i64 0, .int .i64 0, .int .i64 0]) ?hr rfl rfl info_dateA ?hz (by simp [Value.oneCell']) ?_; (case hr => first | (go_simp; done) | (go_simp; rfl)); (case hz => rfl); intro ga hg w2 hb1 hb; clear hg; have GA := Aside0.mk hb1; have HB := Aside0.mk (below_step HB.out hb); clear hb1 hb; have q0 := (show w2.cell? ⟨ga, 0, none⟩ = some (.int .i64 y) from (blk_cell GA.out 0).trans rfl); have q1 := (show w2.cell? ⟨ga, 1, none⟩ = some (.int .i64 m) from (blk_cell GA.out 1).trans rfl); have q2 := (show w2.cell? ⟨ga, 2, none⟩ = some (.int .i64 d) from (blk_cell GA.out 2).trans rfl)))
   go_ret2
   exact ⟨rfl, HB.out⟩
  ·clear hN
   go_enter Tryz.func73, Tryz.ntmps73
   go_wp2_with (first
    | (go_at_call 76; (with_reducible refine (DA.out _).mono ?_); rintro e w1 ⟨rfl, hb⟩; have HB := Aside0.mk hb; clear hb)
    | ((with_reducible refine gate_dst (N := 6) rfl ?_); refine Pd.copy_event rfl (N := 6) rfl rfl rfl (t := 127) (v := .tmp 14) rfl (cs := #[.int .i64 y, .int .i64 m, .int .i64 d]) (zs := #[.int .i64 0, .int .i64 0, .int .i64 0]) ?hr rfl rfl info_dateA ?hz (by simp [Value.oneCell']) ?_; (case hr => first | (go_simp; done) | (go_simp; rfl)); (case hz => rfl); intro ga hg w2 hb1 hb; clear hg; have GA := Aside0.mk hb1; have HB := Aside0.mk (below_step HB.out hb); clear hb1 hb; have q0 := (show w2.cell? ⟨ga, 0, none⟩ = some (.int .i64 y) from (blk_cell GA.out 0).trans rfl); have q1 := (show w2.cell? ⟨ga, 1, none⟩ = some (.int .i64 m) from (blk_cell GA.out 1).trans rfl); have q2 := (show w2.cell? ⟨ga, 2, none⟩ = some (.int .i64 d) from (blk_cell GA.out 2).trans rfl)))
   go_ret2
   exact ⟨rfl, HB.out⟩
  ·have NA := Aside0.mk (hN ⟨h, h3⟩)
   clear hN
   go_enter Tryz.func73, Tryz.ntmps73
   go_wp2_with (first
    | (go_at_call 76; (with_reducible refine (DA.out _).mono ?_); rintro e w1 ⟨rfl, hb⟩; have HB := Aside0.mk hb; clear hb)
    | ((with_reducible refine gate_dst (N := 6) rfl ?_); refine Pd.copy_event rfl (N := 6) rfl rfl rfl (t := 127) (v := .tmp 14) rfl (cs := #[.int .i64 y, .int .i64 m, .int .i64 d]) (zs := #[.int .i64 0, .int .i64 0, .int .i64 0]) ?hr rfl rfl info_dateA ?hz (by simp [Value.oneCell']) ?_; (case hr => first | (go_simp; done) | (go_simp; rfl)); (case hz => rfl); intro ga hg w2 hb1 hb; clear hg; have GA := Aside0.mk hb1; have HB := Aside0.mk (below_step HB.out hb); clear hb1 hb; have q0 := (show w2.cell? ⟨ga, 0, none⟩ = some (.int .i64 y) from (blk_cell GA.out 0).trans rfl); have q1 := (show w2.cell? ⟨ga, 1, none⟩ = some (.int .i64 m) from (blk_cell GA.out 1).trans rfl); have q2 := (show w2.cell? ⟨ga, 2, none⟩ = some (.int .i64 d) from (blk_cell GA.out 2).trans rfl)))
   have hmin := HMIN.out
   go_region_held3 (fun W => W.cell? ⟨ga, 2, none⟩ = some (.int .i64 d)) (first | exact q2 | go_keep) (first
    | (go_at_call 93; (with_reducible refine (MA.out _).mono ?_); rintro e yy ⟨rfl, hb⟩; have q2 := cell_laterA hb.below q2; have HB := Aside0.mk (below_step (by first | exact Below.drew HB.out | exact pw_below_drewN HB.out _ | exact HB.out) hb.below); clear hb)
    | (go_at_call 92; (with_reducible refine (NA.out _).mono ?_); rintro e yy ⟨rfl, hb⟩; have q2 := cell_laterA hb q2; have HB := Aside0.mk (below_step (by first | exact Below.drew HB.out | exact pw_below_drewN HB.out _ | exact HB.out) hb); clear hb))
   go_wp2_with fail
   go_ret2
   exact ⟨rfl, by first | exact HB.out | exact Below.drew HB.out | exact pw_below_drewN HB.out _⟩
theorem keep_date {w : World} {ga gb : Nat} {t : TypeId} {y m d Y M z : Int} (ha : w.heap[ga]? = some (.cells #[.int .i64 y, .int .i64 m, .int .i64 d] t (0, 0))) (hb : w.heap[gb]? = some (.cells #[.int .i64 Y, .int .i64 M, .int .i64 z] t (0, 0))) (hne : ga ≠ gb) (u : Value) : (w.setCell ⟨gb, 2, none⟩ u).cell? ⟨ga, 2, none⟩ = some (.int .i64 d) ∧ (w.setCell ⟨gb, 2, none⟩ u).cell? ⟨gb, 0, none⟩ = some (.int .i64 Y) ∧ (w.setCell ⟨gb, 2, none⟩ u).cell? ⟨gb, 1, none⟩ = some (.int .i64 M) :=
 ⟨(blk_cell (blk_far ha hne u) 2).trans rfl, (blk_cell (blk_set hb 2 u) 0).trans rfl, (blk_cell (blk_set hb 2 u) 1).trans rfl⟩
theorem built_date (a b : Int) : Tryz.prog.built 127 [(0, .int .i64 a), (1, .int .i64 b)] = some #[.int .i64 a, .int .i64 b, .int .i64 0] := by kernel_rfl
set_option maxRecDepth 100000 in
set_option maxHeartbeats 4000000 in
theorem cadd_none (n x y m d c : Int) (w : World) (hc : (c != 0) = true) (hD : ∀ W, Calls Tryz.prog 86 #[.int .i64 n] W fun e w' => e = .returned (.tuple #[.agg #[.int .i64 y, .int .i64 m, .int .i64 d], .int .i64 c]) ∧ Below W.heap.size W w') : Calls Tryz.prog 82 #[.int .i64 n, .int .i64 x] w (num3 (0, c) w) := by
 have DA := Aside0.mk hD
 clear hD
 go_enter Tryz.func82, Tryz.ntmps82
 go_wp2_with (first
  | (go_at_call 86; (with_reducible refine (DA.out _).mono ?_); rintro e w1 ⟨rfl, hb⟩; have HB := Aside0.mk hb; clear hb)
  | ((with_reducible refine gate_dst (N := 6) rfl ?_); refine Pd.copy_event rfl (N := 6) rfl rfl rfl (t := 127) (v := .tmp 13) rfl (cs := #[.int .i64 y, .int .i64 m, .int .i64 d]) (zs := #[.int .i64 0, .int .i64 0, .int .i64 0]) ?hr rfl rfl info_dateA ?hz (by simp [Value.oneCell']) ?_; (case hr => first | (go_simp; done) | (go_simp; rfl)); (case hz => rfl); intro ga hg w2 hb1 hb; clear hg; have GA := Aside0.mk hb1; have HB := Aside0.mk (below_step HB.out hb); clear hb1 hb; have q0 := (show w2.cell? ⟨ga, 0, none⟩ = some (.int .i64 y) from (blk_cell GA.out 0).trans rfl); have q1 := (show w2.cell? ⟨ga, 1, none⟩ = some (.int .i64 m) from (blk_cell GA.out 1).trans rfl); have q2 := (show w2.cell? ⟨ga, 2, none⟩ = some (.int .i64 d) from (blk_cell GA.out 2).trans rfl)))
 go_ret2
 exact ⟨rfl, HB.out⟩
set_option maxRecDepth 100000 in
set_option maxHeartbeats 4000000 in
theorem cadd_walk (n x y m d r1 r2 t Y M L D : Int) (w : World) (hD : ∀ W, Calls Tryz.prog 86 #[.int .i64 n] W fun e w' => e = .returned (.tuple #[.agg #[.int .i64 y, .int .i64 m, .int .i64 d], .int .i64 0]) ∧ Below W.heap.size W w')
  (hM : ∀ W, Calls Tryz.prog 97 #[.int .i64 Y, .int .i64 M] W fun e w' => e = .returned (.int .i64 L) ∧ Drawn0 W w') (hN : -3612 ≤ x ∧ x ≤ 3612 → ∀ W, Calls Tryz.prog 98 #[.agg #[.int .i64 Y, .int .i64 M, .int .i64 D]] W fun e w' => e = .returned (.tuple #[.int .i64 r1, .int .i64 r2]) ∧ Below W.heap.size W w')
  (y1 : 1900 ≤ y) (y2 : y ≤ 2200) (m1 : 1 ≤ m) (m2 : m ≤ 12) (ht : 12 * y + m - 1 + x = t) (hY : t / 12 = Y) (hM2 : t % 12 + 1 = M) (hmin : (if L < d then L else d) = D)
  (h : (x < -3612 ∧ r1 = 0 ∧ r2 = 5) ∨ (3612 < x ∧ r1 = 0 ∧ r2 = 5) ∨ -3612 ≤ x ∧ x ≤ 3612) : Calls Tryz.prog 82 #[.int .i64 n, .int .i64 x] w (num3 (r1, r2) w) := by
 have DA := Aside0.mk hD
 have MA := Aside0.mk hM
 have e1 : IntKind.i64.wrap (12 * y) = 12 * y := IntWalk.i64_in _ (by omega)
 have e2 : IntKind.i64.wrap (12 * y + m) = 12 * y + m := IntWalk.i64_in _ (by omega)
 have e3 : IntKind.i64.wrap (12 * y + m - 1) = 12 * y + m - 1 := IntWalk.i64_in _ (by omega)
 clear hD hM
 rcases h with ⟨h, rfl, rfl⟩ | ⟨h, rfl, rfl⟩ | ⟨h1, h2⟩
 ·clear e1 e2 e3 ht hY hM2 hmin y1 y2 m1 m2 hN
  go_enter Tryz.func82, Tryz.ntmps82
  go_wp2_with (first
   | (go_at_call 86; (with_reducible refine (DA.out _).mono ?_); rintro e w1 ⟨rfl, hb⟩; have HB := Aside0.mk hb; clear hb)
   | ((with_reducible refine gate_dst (N := 6) rfl ?_); refine Pd.copy_event rfl (N := 6) rfl rfl rfl (t := 127) (v := .tmp 13) rfl (cs := #[.int .i64 y, .int .i64 m, .int .i64 d]) (zs := #[.int .i64 0, .int .i64 0, .int .i64 0]) ?hr rfl rfl info_dateA ?hz (by simp [Value.oneCell']) ?_; (case hr => first | (go_simp; done) | (go_simp; rfl)); (case hz => rfl); intro ga hg w2 hb1 hb; clear hg; have GA := Aside0.mk hb1; have HB := Aside0.mk (below_step HB.out hb); clear hb1 hb; have q0 := (show w2.cell? ⟨ga, 0, none⟩ = some (.int .i64 y) from (blk_cell GA.out 0).trans rfl); have q1 := (show w2.cell? ⟨ga, 1, none⟩ = some (.int .i64 m) from (blk_cell GA.out 1).trans rfl); have q2 := (show w2.cell? ⟨ga, 2, none⟩ = some (.int .i64 d) from (blk_cell GA.out 2).trans rfl)))
  go_ret2
  exact ⟨rfl, HB.out⟩
 ·clear e1 e2 e3 ht hY hM2 hmin y1 y2 m1 m2 hN
  go_enter Tryz.func82, Tryz.ntmps82
  go_wp2_with (first
   | (go_at_call 86; (with_reducible refine (DA.out _).mono ?_); rintro e w1 ⟨rfl, hb⟩; have HB := Aside0.mk hb; clear hb)
   | ((with_reducible refine gate_dst (N := 6) rfl ?_); refine Pd.copy_event rfl (N := 6) rfl rfl rfl (t := 127) (v := .tmp 13) rfl (cs := #[.int .i64 y, .int .i64 m, .int .i64 d]) (zs := #[.int .i64 0, .int .i64 0, .int .i64 0]) ?hr rfl rfl info_dateA ?hz (by simp [Value.oneCell']) ?_; (case hr => first | (go_simp; done) | (go_simp; rfl)); (case hz => rfl); intro ga hg w2 hb1 hb; clear hg; have GA := Aside0.mk hb1; have HB := Aside0.mk (below_step HB.out hb); clear hb1 hb; have q0 := (show w2.cell? ⟨ga, 0, none⟩ = some (.int .i64 y) from (blk_cell GA.out 0).trans rfl); have q1 := (show w2.cell? ⟨ga, 1, none⟩ = some (.int .i64 m) from (blk_cell GA.out 1).trans rfl); have q2 := (show w2.cell? ⟨ga, 2, none⟩ = some (.int .i64 d) from (blk_cell GA.out 2).trans rfl)))
  go_ret2
  exact ⟨rfl, HB.out⟩
 ·have e4 : IntKind.i64.wrap (12 * y + m - 1 + x) = t := by rw [← ht]; exact IntWalk.i64_in _ (by omega)
  have t0 : 0 ≤ t := by omega
  have t1 : t ≤ 40000 := by omega
  have e5 : IntKind.i64.wrap (Int.tdiv t 12) = Y := by rw [Int.tdiv_eq_ediv_of_nonneg t0, hY]; exact IntWalk.i64_in _ (by omega)
  have e5b : IntKind.i64.wrap (t / 12) = Y := by rw [hY]; exact IntWalk.i64_in _ (by omega)
  have e6 : IntKind.i64.wrap (Int.tmod t 12) = M - 1 := by rw [Int.tmod_eq_emod_of_nonneg t0]; rw [IntWalk.i64_in _ (by omega)]; omega
  have e7 : IntKind.i64.wrap (M - 1 + 1) = M := by rw [IntWalk.i64_in _ (by omega)]; omega
  have e8 : IntKind.i64.wrap (Int.tmod t 12 + 1) = M := by rw [Int.tmod_eq_emod_of_nonneg t0, hM2]; exact IntWalk.i64_in _ (by omega)
  have e9 : IntKind.i64.wrap (t % 12 + 1) = M := by rw [hM2]; exact IntWalk.i64_in _ (by omega)
  have HMIN := Aside0.mk hmin
  have NA := Aside0.mk (hN ⟨h1, h2⟩)
  clear ht hY hM2 hmin y1 y2 m1 m2 hN
  go_enter Tryz.func82, Tryz.ntmps82
  go_wp2_with (first
   | (go_at_call 86; (with_reducible refine (DA.out _).mono ?_); rintro e w1 ⟨rfl, hb⟩; have HB := Aside0.mk hb; clear hb)
   | ((with_reducible refine gate_dst (N := 6) rfl ?_); refine Pd.copy_event rfl (N := 6) rfl rfl rfl (t := 127) (v := .tmp 13) rfl (cs := #[.int .i64 y, .int .i64 m, .int .i64 d]) (zs := #[.int .i64 0, .int .i64 0, .int .i64 0]) ?hr rfl rfl info_dateA ?hz (by simp [Value.oneCell']) ?_; (case hr => first | (go_simp; done) | (go_simp; rfl)); (case hz => rfl); intro ga hg w2 hb1 hb; clear hg; have GA := Aside0.mk hb1; have HB := Aside0.mk (below_step HB.out hb); clear hb1 hb; have q0 := (show w2.cell? ⟨ga, 0, none⟩ = some (.int .i64 y) from (blk_cell GA.out 0).trans rfl); have q1 := (show w2.cell? ⟨ga, 1, none⟩ = some (.int .i64 m) from (blk_cell GA.out 1).trans rfl); have q2 := (show w2.cell? ⟨ga, 2, none⟩ = some (.int .i64 d) from (blk_cell GA.out 2).trans rfl))
   | ((with_reducible refine gate_dst (N := 38) rfl ?_); refine Pd.build_event rfl (t := 127) rfl (cs := #[.int .i64 Y, .int .i64 M, .int .i64 0]) ?hb ?_; (case hb => simp only [List.map_toArray, List.map_cons, List.map_nil]; exact built_date Y M))
   | ((with_reducible refine gate_dst (N := 9) rfl ?_); refine Pd.copy_event rfl (N := 9) rfl rfl rfl (t := 127) (v := .tmp 38) rfl (cs := #[.int .i64 Y, .int .i64 M, .int .i64 0]) (zs := #[.int .i64 0, .int .i64 0, .int .i64 0]) ?hr rfl rfl info_dateA ?hz (by simp [Value.oneCell']) ?_; (case hr => first | (go_simp; done) | (go_simp; rfl)); (case hz => rfl); intro gb hg w3 hb1 hb; have gge := (show w.heap.size ≤ gb by rw [hg]; exact HB.out.size); have gne := (show ga ≠ gb by have := blk_lt GA.out; omega); clear hg; have GB := Aside0.mk hb1; have HB := Aside0.mk (below_step HB.out hb); have GA := Aside0.mk (Pd.blk_below GA.out hb); clear hb1 hb q0 q1 q2; have q2 := (show w3.cell? ⟨ga, 2, none⟩ = some (.int .i64 d) from (blk_cell GA.out 2).trans rfl); have p0 := (show w3.cell? ⟨gb, 0, none⟩ = some (.int .i64 Y) from (blk_cell GB.out 0).trans rfl); have p1 := (show w3.cell? ⟨gb, 1, none⟩ = some (.int .i64 M) from (blk_cell GB.out 1).trans rfl); have p2 := (show w3.cell? ⟨gb, 2, none⟩ = some (.int .i64 0) from (blk_cell GB.out 2).trans rfl); have fp2 := frozen_of_row w3 gb 2 _ _ GB.out))
  have hmin := HMIN.out
  go_region_held3 (fun W => W.cell? ⟨ga, 2, none⟩ = some (.int .i64 d) ∧ W.cell? ⟨gb, 0, none⟩ = some (.int .i64 Y) ∧ W.cell? ⟨gb, 1, none⟩ = some (.int .i64 M)) (first | exact ⟨q2, p0, p1⟩ | go_keep | exact keep_date GA.out GB.out gne _) (
   (go_at_call 97; (with_reducible refine (MA.out _).mono ?_); rintro e yy ⟨rfl, hb⟩; have q2 := cell_laterA hb.below q2; have p0 := cell_laterA hb.below p0; have p1 := cell_laterA hb.below p1; have GB := Aside0.mk (Pd.blk_below (by exact GB.out) hb.below); have GA := Aside0.mk (Pd.blk_below (by exact GA.out) hb.below); have p2 := (show yy.cell? ⟨gb, 2, none⟩ = some (.int .i64 0) from (blk_cell GB.out 2).trans rfl); have fp2 := frozen_of_row yy gb 2 _ _ GB.out; have HB := Aside0.mk (below_step (by first | exact Below.drew HB.out | exact pw_below_drewN HB.out _ | exact HB.out) hb.below); clear hb))
  obtain ⟨w5, hw5⟩ : ∃ w5, yy.setCell ⟨gb, 2, none⟩ (.int .i64 D) = w5 := ⟨_, rfl⟩
  have G5 := Aside0.mk (show w5.heap[gb]? = some (.cells #[.int .i64 Y, .int .i64 M, .int .i64 D] 127 (0, 0)) by rw [← hw5]; exact blk_set GB.out 2 _)
  have HB := Aside0.mk (show Below w.heap.size w w5 by rw [← hw5]; exact Below.setCell HB.out gge _)
  rw [hw5]
  clear hw5 q2 p0 p1 p2 fp2
  go_wp2_with (first
   | ((with_reducible refine gate_dst (N := 48) rfl ?_); refine wpList_load_row rfl 127 (.tmp 9) rfl gb rfl 127 _ (0, 0) _ G5.out Tryz.underlying127 rfl info_dateA ?_)
   | (go_at_call 98; (with_reducible refine (NA.out _).mono ?_); rintro e w6 ⟨rfl, hb⟩; have HB := Aside0.mk (below_step HB.out hb); clear hb))
  go_ret2
  exact ⟨rfl, HB.out⟩
end Go.Proofs.YtfmkdledofbhdaaGreat.H
/- What the printed functions on months further on and on parts of a year come to, in plain numbers; and their contracts in these words. -/
namespace Go.Proofs.YtfmkdledofbhdaaGreat.H
open Go.RowKit Go.Proofs.YtfmkdledofbhdaaGreatW.PrintWords Go.Proofs.YtfmkdledofbhdaaGreatW.PrintLast Go.Proofs.YtfmkdledofbhdaaGreatW.PrintMore
open Go.Proofs.YtfmkdledofbhdaaGreat.Math
theorem mn_min (a b : Int) : mn a b = min a b := by unfold mn; omega
theorem mx_max (a b : Int) : mx a b = max a b := by unfold mx; omega
theorem date_bd {n : Int} (h : isDay n) : 1900 ≤ yearOf n ∧ yearOf n ≤ 2200 ∧ 1 ≤ monthOf n ∧ monthOf n ≤ 12 ∧ 1 ≤ dayOf n ∧ dayOf n ≤ 31 := by
 obtain ⟨⟨y1, y2, d1, d2⟩, m1, m2, _⟩ := date_ok h
 have := mlen_bd (yearOf n) (monthOf n)
 exact ⟨y1, y2, m1, m2, d1, by omega⟩
def thirty (n : Int) : Int := if isDay n then 360 * yearOf n + 30 * monthOf n + min (dayOf n) 30 else 0
theorem refThirty (n : Int) : PD.quittanceref06_thirty.f n = some (thirty n) := by
 unfold PD.quittanceref06_thirty.f thirty
 simp only [quittanceref03_Date.f, Option.bind_some]
 by_cases hd : isDay n
 ·rw [date_yes hd, if_pos hd]
  obtain ⟨y1, y2, m1, m2, d1, d2⟩ := date_bd hd
  simp only [mn_min]
  rw [w64 (x := 360 * yearOf n) (by omega) (by omega), w64 (x := 30 * monthOf n) (by omega) (by omega), w64 (x := 360 * yearOf n + 30 * monthOf n) (by omega) (by omega), w64 (by omega) (by omega)]
 ·rw [date_no hd, if_neg hd]; simp [wrap64, mn]
theorem thirty_bd (n : Int) : 0 ≤ thirty n ∧ thirty n ≤ 1000000 := by
 unfold thirty
 split
 ·rename_i h
  obtain ⟨y1, y2, m1, m2, d1, d2⟩ := date_bd h
  omega
 ·omega
def actual (n : Int) : Int := 133590 * yearOf n + (n - opens (yearOf n)) * (366 - leap (yearOf n))
def one (c n : Int) : Int := if c = 2 then 1 else if c = 3 then 366 - leap (date n).1 else thirty (n + 1) - thirty n
theorem refOne (c n : Int) (h1 : -9223372036854775808 ≤ n) (h2 : n < 9223372036854775807) : PD.quittanceref06_One.f c n = some (one c n) := by
 unfold PD.quittanceref06_One.f one
 simp only [quittanceref03_Date.f, quittanceref03_Long.f, Option.bind_some]
 by_cases a : c = 2
 ·rw [if_pos a, if_pos a]
 rw [if_neg a, if_neg a]
 by_cases b : c = 3
 ·rw [if_pos b, if_pos b]
  exact long_bind _ (fun x => if x = true then some 365 else some 366) (fun l => some (366 - l)) rfl rfl
 ·rw [if_neg b, if_neg b]
  rw [w64 (by omega) (by omega), refThirty, refThirty]
  simp only [Option.bind_some]
  have := thirty_bd n
  have := thirty_bd (n + 1)
  rw [w64 (by omega) (by omega)]
theorem busMonth (n : Int) : PD.business_month.f n = some (12 * (date n).1 + (date n).2.1) := by
 unfold PD.business_month.f
 simp only [civil_Date.f, Option.bind_some]
 by_cases hd : isDay n
 ·rw [date_yes hd]
  obtain ⟨y1, y2, m1, m2, d1, d2⟩ := date_bd hd
  simp only []
  rw [w64 (x := 12 * yearOf n) (by omega) (by omega), w64 (by omega) (by omega)]
 ·rw [date_no hd]; simp [wrap64]
/-! ### Parts between two days -/
theorem next_day {n : Int} (h : isDay n) (h' : isDay (n + 1)) : (yearOf (n + 1) = yearOf n ∧ n + 1 < opens (yearOf n + 1)) ∨ (yearOf (n + 1) = yearOf n + 1 ∧ n + 1 = opens (yearOf n + 1)) := by
 obtain ⟨y1, y2, y3, y4⟩ := yearOf_spec h
 obtain ⟨z1, z2, z3, z4⟩ := yearOf_spec h'
 by_cases e : n + 1 < opens (yearOf n + 1)
 ·exact Or.inl ⟨(year_unique h' (by omega) e y1 y2).symm, e⟩
 ·have e' : n + 1 = opens (yearOf n + 1) := by omega
  have ho := opens_succ (yearOf n + 1)
  have hl := leap_01 (yearOf n + 1)
  refine Or.inr ⟨(year_unique h' (by omega) (by omega) (by omega) ?_).symm, e'⟩
  by_cases e2 : yearOf n = 2200
  ·rw [e2] at e'
   have : opens 2201 = 84371 := by decide
   obtain ⟨_, h2⟩ := h'
   rw [show (2200 : Int) + 1 = 2201 from rfl, this] at e'
   omega
  ·omega
theorem actual_succ {n : Int} (h : isDay n) (h' : isDay (n + 1)) : actual (n + 1) = actual n + (366 - leap (yearOf n)) := by
 have hl := leap_01 (yearOf n)
 have ho := opens_succ (yearOf n)
 unfold actual
 rcases next_day h h' with ⟨e, e2⟩ | ⟨e, e2⟩
 ·rw [e]
  rcases (by omega : leap (yearOf n) = 0 ∨ leap (yearOf n) = 1) with l | l <;> rw [l] <;> omega
 ·rw [e, show n + 1 - opens (yearOf n + 1) = 0 by omega]
  rcases (by omega : leap (yearOf n) = 0 ∨ leap (yearOf n) = 1) with l | l <;> rw [l] at ho ⊢ <;> omega
theorem actual_bd {n : Int} (h : isDay n) : 0 ≤ actual n ∧ actual n ≤ 300000000 := by
 obtain ⟨y1, y2, y3, y4⟩ := yearOf_spec h
 have hl := leap_01 (yearOf n)
 have ho := opens_succ (yearOf n)
 unfold actual
 rcases (by omega : leap (yearOf n) = 0 ∨ leap (yearOf n) = 1) with l | l <;> rw [l] at ho ⊢ <;> omega
def place (c n : Int) : Int := if c = 1 then thirty n else if c = 2 then n else actual n
theorem place_succ {c n : Int} (hc : c = 1 ∨ c = 2 ∨ c = 3) (h : isDay n) (h' : isDay (n + 1)) : place c (n + 1) = place c n + one c n := by
 unfold place one
 rcases hc with rfl | rfl | rfl
 ·simp; omega
 ·simp
 ·simp only [show ¬ ((3 : Int) = 1) by decide, show ¬ ((3 : Int) = 2) by decide, if_false, if_true]
  rw [date_yes h]
  exact actual_succ h h'
theorem place_bd {c n : Int} (h : isDay n) : -300000000 ≤ place c n ∧ place c n ≤ 300000000 := by
 have a := thirty_bd n
 have b := actual_bd h
 obtain ⟨h1, h2⟩ := h
 unfold place
 repeat' split
 all_goals omega
def between (c a b : Int) : Int × Int := if c = 1 ∨ c = 2 ∨ c = 3 then (if isDay a ∧ isDay b then (place c b - place c a, 0) else (0, 5)) else (0, 1)
theorem between_loop (d : Nat) : ∀ (k : Nat) (c a b s i : Int), (c = 2 ∨ c = 3) → isDay a → isDay b → min a b ≤ i → max a b - i = d → d < k → s = place c i - place c (min a b) →
  PD.quittanceref06_Between.l0 k c a b s i = some (place c b - place c a, 0) := by
 induction d with
 | zero =>
  intro k c a b s i hc ha hb h1 h2 h3 h4
  obtain ⟨k, rfl⟩ : ∃ m, k = m + 1 := ⟨k - 1, by omega⟩
  obtain rfl : i = max a b := by omega
  have b1 := place_bd (c := c) ha
  have b2 := place_bd (c := c) hb
  simp only [PD.quittanceref06_Between.l0, mx_max]
  rw [if_neg (by omega)]
  by_cases hlt : b < a
  ·rw [if_pos hlt, h4, show max a b = a by omega, show min a b = b by omega, w64 (by omega) (by omega)]
   congr 2; omega
  ·rw [if_neg hlt, h4, show max a b = b by omega, show min a b = a by omega]
 | succ d ih =>
  intro k c a b s i hc ha hb h1 h2 h3 h4
  obtain ⟨k, rfl⟩ : ∃ m, k = m + 1 := ⟨k - 1, by omega⟩
  obtain ⟨a1, a2⟩ := id ha
  obtain ⟨b1, b2⟩ := id hb
  have hi : isDay i := ⟨by omega, by omega⟩
  have hi' : isDay (i + 1) := ⟨by omega, by omega⟩
  have hm : isDay (min a b) := ⟨by omega, by omega⟩
  have p1 := place_bd (c := c) hi
  have p2 := place_bd (c := c) hi'
  have p3 := place_bd (c := c) hm
  have hs := place_succ (c := c) (Or.inr hc) hi hi'
  simp only [PD.quittanceref06_Between.l0, mx_max]
  rw [if_pos (by omega), refOne c i (by omega) (by omega)]
  simp only [Option.bind_some]
  rw [w64 (x := s + one c i) (by omega) (by omega), w64 (x := i + 1) (by omega) (by omega)]
  exact ih k c a b _ _ hc ha hb (by omega) (by omega) (by omega) (by omega)
theorem refBetween (k : Nat) (hk : 120000 ≤ k) (c a b : Int) : PD.quittanceref06_Between.f k c a b = some (between c a b) := by
 obtain ⟨k, rfl⟩ : ∃ m, k = m + 2 := ⟨k - 2, by omega⟩
 unfold PD.quittanceref06_Between.f between
 simp only [PD.quittanceref06_Between.j0, PD.quittanceref06_Between.j1, quittanceref03_Is.f, Option.bind_some]
 by_cases h1 : c < 1
 ·rw [if_pos h1, if_neg (show ¬ (c = 1 ∨ c = 2 ∨ c = 3) by omega)]; simp
 rw [if_neg h1]
 by_cases h2 : c > 3
 ·rw [decide_eq_true h2, if_neg (show ¬ (c = 1 ∨ c = 2 ∨ c = 3) by omega)]; simp
 rw [decide_eq_false h2, if_pos (show c = 1 ∨ c = 2 ∨ c = 3 by omega)]
 simp only [Bool.false_eq_true, if_false]
 by_cases ha : isDay a
 ·rw [decide_eq_true ha]
  simp only [if_true]
  by_cases hb : isDay b
  ·rw [decide_eq_true hb, if_pos (show isDay a ∧ isDay b from ⟨ha, hb⟩)]
   simp only [Bool.not_true, Bool.false_eq_true, if_false]
   by_cases hc : c = 1
   ·subst hc
    rw [if_pos rfl, refThirty, refThirty]
    simp only [Option.bind_some]
    have := thirty_bd a
    have := thirty_bd b
    rw [w64 (by omega) (by omega)]; rfl
   ·rw [if_neg hc, mn_min]
    obtain ⟨a1, a2⟩ := id ha
    obtain ⟨b1, b2⟩ := id hb
    exact between_loop (max a b - min a b).toNat k c a b 0 (min a b) (by omega) ha hb (by omega) (by omega) (by omega) (by omega)
  ·rw [decide_eq_false hb, if_neg (show ¬ (isDay a ∧ isDay b) from fun h => hb h.2)]; simp
 ·rw [decide_eq_false ha, if_neg (show ¬ (isDay a ∧ isDay b) from fun h => ha h.1)]; simp
/-! ### The contracts in these words -/
def monthly_Add.f (n x : Int) : Option (Int × Int) := some (add n x)
theorem monthly_Add.calls (a0 a1 r1 r2 : Int) (w : World) (h : monthly_Add.f a0 a1 = some (r1, r2)) :
  Calls Tryz.prog 82 #[.int .i64 a0, .int .i64 a1] w fun e w' => e = .returned (.tuple #[.int .i64 r1, .int .i64 r2]) ∧ Below w.heap.size w w' :=
 by
  have e : add a0 a1 = (r1, r2) := Option.some.inj h
  by_cases hd : isDay a0
  ·obtain ⟨y1, y2, m1, m2, d1, d2⟩ := date_bd hd
   have hD := fun W => civil_Date.calls a0 (yearOf a0) (monthOf a0) (dayOf a0) 0 W (by unfold civil_Date.f; rw [date_yes hd])
   refine (cadd_walk a0 a1 _ _ _ r1 r2 _ _ _ _ _ w hD (fun W => civil_Month.calls _ _ _ W rfl) (fun hh W => civil_Number.calls _ _ _ r1 r2 W ?_) y1 y2 m1 m2 rfl rfl rfl rfl ?_).mono fun e w' h => h
   ·rw [add_in hd (by omega) (by omega)] at e
    unfold civil_Number.f
    rw [← e]
    congr 2
    omega
   ·rcases (by omega : a1 < -3612 ∨ 3612 < a1 ∨ -3612 ≤ a1 ∧ a1 ≤ 3612) with g | g | g
    ·obtain ⟨rfl, rfl⟩ := Prod.mk.inj ((add_out (.inl g)).symm.trans e); exact .inl ⟨g, rfl, rfl⟩
    ·obtain ⟨rfl, rfl⟩ := Prod.mk.inj ((add_out (.inr g)).symm.trans e); exact .inr (.inl ⟨g, rfl, rfl⟩)
    ·exact .inr (.inr g)
  ·have e2 : add a0 a1 = (0, 5) := by unfold add; rw [if_neg hd]
   obtain ⟨rfl, rfl⟩ := Prod.mk.inj (e2.symm.trans e)
   exact (cadd_none a0 a1 0 0 0 5 w rfl (fun W => civil_Date.calls a0 0 0 0 5 W (by unfold civil_Date.f; rw [date_no hd]))).mono fun e w' h => h
def quittanceref04_Add.f (n x : Int) : Option (Int × Int) := some (add n x)
theorem quittanceref04_Add.calls (a0 a1 r1 r2 : Int) (w : World) (h : quittanceref04_Add.f a0 a1 = some (r1, r2)) :
  Calls Tryz.prog 73 #[.int .i64 a0, .int .i64 a1] w fun e w' => e = .returned (.tuple #[.int .i64 r1, .int .i64 r2]) ∧ Below w.heap.size w w' :=
 by
  have e : add a0 a1 = (r1, r2) := Option.some.inj h
  by_cases hd : isDay a0
  ·obtain ⟨y1, y2, m1, m2, d1, d2⟩ := date_bd hd
   have hD := fun W => quittanceref03_Date.calls a0 (yearOf a0) (monthOf a0) (dayOf a0) 0 W (by unfold quittanceref03_Date.f; rw [date_yes hd])
   refine (radd_walk a0 a1 _ _ _ r1 r2 _ _ _ _ _ w hD (fun W => quittanceref03_Month.calls _ _ _ W rfl) (fun hh W => quittanceref03_Number.calls _ _ _ r1 r2 W ?_) y1 y2 m1 m2 rfl rfl rfl rfl ?_).mono fun e w' h => h
   ·rw [add_in hd (by omega) (by omega)] at e
    unfold quittanceref03_Number.f
    rw [← e]
    congr 2
    omega
   ·rcases (by omega : a1 < -4000 ∨ 4000 < a1 ∨ -4000 ≤ a1 ∧ a1 ≤ 4000) with g | g | g
    ·obtain ⟨rfl, rfl⟩ := Prod.mk.inj ((add_out (.inl (by omega))).symm.trans e); exact .inl ⟨g, rfl, rfl⟩
    ·obtain ⟨rfl, rfl⟩ := Prod.mk.inj ((add_out (.inr (by omega))).symm.trans e); exact .inr (.inl ⟨g, rfl, rfl⟩)
    ·refine .inr (.inr ⟨g.1, g.2, ?_⟩)
     rcases (by omega : 12 * yearOf a0 + monthOf a0 - 1 + a1 < 22800 ∨ 26412 ≤ 12 * yearOf a0 + monthOf a0 - 1 + a1 ∨ 22800 ≤ 12 * yearOf a0 + monthOf a0 - 1 + a1 ∧ 12 * yearOf a0 + monthOf a0 - 1 + a1 < 26412) with g | g | g
     ·obtain ⟨rfl, rfl⟩ := Prod.mk.inj ((add_far hd (.inl g)).symm.trans e); exact .inl ⟨g, rfl, rfl⟩
     ·obtain ⟨rfl, rfl⟩ := Prod.mk.inj ((add_far hd (.inr g)).symm.trans e); exact .inr (.inl ⟨g, rfl, rfl⟩)
     ·exact .inr (.inr g)
  ·have e2 : add a0 a1 = (0, 5) := by unfold add; rw [if_neg hd]
   obtain ⟨rfl, rfl⟩ := Prod.mk.inj (e2.symm.trans e)
   exact (radd_none a0 a1 0 0 0 5 w rfl (fun W => quittanceref03_Date.calls a0 0 0 0 5 W (by unfold quittanceref03_Date.f; rw [date_no hd]))).mono fun e w' h => h
def quittanceref06_thirty.f (n : Int) : Option Int := some (thirty n)
theorem quittanceref06_thirty.calls (a0 r : Int) (w : World) (h : quittanceref06_thirty.f a0 = some r) : Calls Tryz.prog 54 #[.int .i64 a0] w fun e w' => e = .returned (.int .i64 r) ∧ Below w.heap.size w w' :=
 PD.quittanceref06_thirty.calls a0 r w ((refThirty a0).trans h)
def quittanceref06_One.f (c n : Int) : Option Int := if -9223372036854775808 ≤ n ∧ n < 9223372036854775807 then some (one c n) else none
theorem quittanceref06_One.calls (a0 a1 r : Int) (w : World) (h : quittanceref06_One.f a0 a1 = some r) : Calls Tryz.prog 55 #[.int .i64 a0, .int .i64 a1] w fun e w' => e = .returned (.int .i64 r) ∧ Below w.heap.size w w' := by
 unfold quittanceref06_One.f at h
 split at h
 ·rename_i hb; exact PD.quittanceref06_One.calls a0 a1 r w ((refOne a0 a1 hb.1 hb.2).trans h)
 ·cases h
def business_month.f (n : Int) : Option Int := some (12 * (date n).1 + (date n).2.1)
theorem business_month.calls (a0 r : Int) (w : World) (h : business_month.f a0 = some r) : Calls Tryz.prog 85 #[.int .i64 a0] w fun e w' => e = .returned (.int .i64 r) ∧ Below w.heap.size w w' :=
 PD.business_month.calls a0 r w ((busMonth a0).trans h)
def quittanceref06_Between.f (c a b : Int) : Option (Int × Int) := some (between c a b)
theorem quittanceref06_Between.calls (a0 a1 a2 r1 r2 : Int) (w : World) (h : quittanceref06_Between.f a0 a1 a2 = some (r1, r2)) :
  Calls Tryz.prog 25 #[.int .i64 a0, .int .i64 a1, .int .i64 a2] w fun e w' => e = .returned (.tuple #[.int .i64 r1, .int .i64 r2]) ∧ Below w.heap.size w w' :=
 PD.quittanceref06_Between.calls 120000 a0 a1 a2 r1 r2 w ((refBetween 120000 (by omega) a0 a1 a2).trans h)
end Go.Proofs.YtfmkdledofbhdaaGreat.H
namespace Go.Proofs.YtfmkdledofbhdaaGreat.PDA
open Go.RowKit Go.Proofs.YtfmkdledofbhdaaGreatW.PrintWords Go.Proofs.YtfmkdledofbhdaaGreatW.PrintLast Go.Proofs.YtfmkdledofbhdaaGreatW.PrintMore Go.Proofs.YtfmkdledofbhdaaGreat.HW
attribute [local go_sem] run_makeFunc_ max2_int min2_int max_two min_two max_three min_three max_four min_four   -- for this text's walks alone
set_option linter.unusedVariables false
set_option linter.unusedSimpArgs false
def errW : Option Int → Value
 | none => .nilIface
 | some c => .iface 0 (.int .i64 c)
theorem errW_none : errW none = .nilIface := rfl
theorem errW_some (c : Int) : errW (some c) = .iface 0 (.int .i64 c) := rfl
theorem info3 : (Tryz.prog.info? 3).map (fun i => (i.zero, i.size, i.bytes)) = some (some (.int .i64 0), 1, 8) := by kernel_rfl
end Go.Proofs.YtfmkdledofbhdaaGreat.PDA
namespace Go.Proofs.YtfmkdledofbhdaaGreat.PDA
open Go.RowKit Go.Proofs.YtfmkdledofbhdaaGreatW.PrintWords Go.Proofs.YtfmkdledofbhdaaGreatW.PrintLast Go.Proofs.YtfmkdledofbhdaaGreatW.PrintMore Go.Proofs.YtfmkdledofbhdaaGreat.HW Go.Proofs.YtfmkdledofbhdaaGreat.H
attribute [local go_sem] run_makeFunc_ max2_int min2_int max_two min_two max_three min_three max_four min_four   -- for this text's walks alone
set_option linter.unusedVariables false
set_option linter.unusedSimpArgs false
/-! ### monthly_from_add: function 64 -/
def monthly_from_add.f (a0_0 : Int) (a1 : Int) : Option (Int × Int) := (monthly_Add.f a0_0 a1).bind fun bt102 => (some (bt102.1, bt102.2))
set_option maxHeartbeats 8000000 in
set_option maxRecDepth 100000 in
theorem monthly_from_add.calls (a0_0 : Int) (a1 : Int) (r1 : Int) (r2 : Int) (w : World) (h : monthly_from_add.f a0_0 a1 = some (r1, r2)) :
  Calls Tryz.prog 64 #[.agg #[.int .i64 a0_0], .int .i64 a1] w fun e w' => e = .returned (.tuple #[.int .i64 r1, .int .i64 r2]) ∧ Below w.heap.size w w' := by
 have hu113 := Tryz.underlying113
 have HB := Aside0.mk (Below.refl w.heap.size w)
 have H : ((monthly_Add.f a0_0 a1).bind fun bt102 => (some (bt102.1, bt102.2))) = some (r1, r2) := h
 clear h
 replace H := Option.bind_eq_some_iff.mp H
 obtain ⟨⟨t102, t103⟩, A30, H⟩ := H
 replace H : (some (t102, t103)) = some (r1, r2) := H
 have A3 := Aside0.mk A30
 clear A30
 simp only [Option.some.injEq, Prod.mk.injEq] at H
 obtain ⟨rfl, rfl⟩ := H
 go_enter Tryz.func64, Tryz.ntmps64
 go_wp2_with (first | ((with_reducible refine gate_dst (N := 2) rfl ?_); refine box_event ?hg (N := 2) ?hd (cs := #[.int .i64 a0_0]) (t := 113) ?hr ?_; (case hd => rfl); (case hg => rfl); (case hr => first | (go_simp; done) | (go_simp; rfl)); intro gb101 hg w4 hbox hb; have n0_ := Aside0.mk (below_step (by repeat (first | (with_reducible first | exact HB.out | apply below_alloc | apply pw_below_drewN | apply below_drew1) | exact HB.out)) hb); have n1_ := Aside0.mk (hbox); have n2_ := Aside0.mk ((by rw [hg]; exact (below_size (by repeat (first | (with_reducible first | exact HB.out | apply below_alloc | apply pw_below_drewN | apply below_drew1) | exact HB.out))) : w.heap.size ≤ gb101)); have n3_ := Aside0.mk ((by rw [hg]; exact (below_size (by repeat (first | (with_reducible first | exact HB.out | apply below_alloc | apply pw_below_drewN | apply below_drew1) | exact HB.out))) : w.heap.size ≤ gb101)); clear HB; have HB := n0_; have BK101 := n1_; have GW101 := n2_; have GE101 := n3_; clear n0_ n1_ n2_ n3_; clear hb hbox hg; (try have hu101_0 : w4.cell? ⟨gb101, 0, none⟩ = some (.int .i64 a0_0) := (blk_cell BK101.out 0).trans rfl); (try have hv101_0 := blk_frozen BK101.out 0); have hcz5_0 : w4.cell? ⟨gb101, 0, none⟩ = some (.int .i64 a0_0) := (blk_cell BK101.out 0).trans rfl; have hfz5_0 := blk_frozen BK101.out 0) | ((with_reducible refine gate_callee (f := 82) rfl ?_); refine goesL_ (some 9) rfl rfl Tryz.func82 (by kernel_rfl) rfl #[.int .i64 a0_0, .int .i64 a1] rfl (by (try simp only [List.map_toArray, List.map_cons, List.map_nil]); first | done | rfl | (simp only [List.length_drop, List.length_take]; rfl)) ?_; (with_reducible refine (monthly_Add.calls a0_0 a1 t102 t103 _ A3.out).mono ?_); rintro e w6 ⟨rfl, hb⟩; refine ⟨_, rfl, ?_⟩; have n0_ := Aside0.mk (blk_below (g := gb101) (o := .cells #[.int .i64 a0_0] 113 (0, 0)) (by (with_reducible repeat (first | refine blk_drewN ?_ _ | refine blk_drew ?_ | refine blk_alloc ?_ _)); exact BK101.out) hb); have n1_ := Aside0.mk (below_step (by repeat (first | (with_reducible first | exact HB.out | apply below_alloc | apply pw_below_drewN | apply below_drew1 | refine below_set ?_ GE101.out) | exact HB.out)) hb); clear BK101; clear HB; have BK101 := n0_; have HB := n1_; clear n0_ n1_; (try clear hb); (try have hu101_0 : w6.cell? ⟨gb101, 0, none⟩ = some (.int .i64 a0_0) := (blk_cell BK101.out 0).trans rfl); (try have hv101_0 := blk_frozen BK101.out 0)))
 go_ret2
 exact ⟨by first | rfl | (simp [errW_none, errW_some] <;> rfl) | (simp [*, errW_none, errW_some] <;> rfl), by repeat (first | (with_reducible first | exact HB.out | apply below_alloc | apply pw_below_drewN | apply below_drew1 | refine below_set ?_ GE101.out) | exact HB.out)⟩
/-! ### monthly_Dates: function 38 -/
mutual
def monthly_Dates.j0 : Nat → Int → Int → Int → Bool → Option (List Int × Int)
 | 0, _, _, _, _ => none
 | k + 1, x0, x1, x2, x26 => if x26 = true then (some (([] : List Int), 1)) else (monthly_Dates.l0 k x0 x1 ([] : List Int) x2 0)
def monthly_Dates.l0 : Nat → Int → Int → List Int → Int → Int → Option (List Int × Int)
 | 0, _, _, _, _, _ => none
 | k + 1, x0, x1, x9, x30, x31 => if x31 < x30 then ((monthly_from_add.f x0 (wrap64 ((wrap64 (x31 + 1)) * x1))).bind fun bt104 => (if bt104.2 = 0 then (if x9.length < 17592186044416 then (monthly_Dates.l0 k x0 x1 (x9 ++ [bt104.1]) x30 (wrap64 (x31 + 1))) else (none)) else (some (([] : List Int), bt104.2)))) else (some (x9, 0))
end
def monthly_Dates.f (k : Nat) (a0 : Int) (a1 : Int) (a2 : Int) : Option (List Int × Int) := if a1 < 1 then (monthly_Dates.j0 k a0 a1 a2 true) else (if a1 > 12 then (monthly_Dates.j0 k a0 a1 a2 true) else (if a2 < 1 then (monthly_Dates.j0 k a0 a1 a2 true) else (monthly_Dates.j0 k a0 a1 a2 (decide (a2 > 600)))))
theorem monthly_Dates.mono_l : ∀ k, (∀ y0 y1 y2 y3, LeO (monthly_Dates.j0 k y0 y1 y2 y3) (monthly_Dates.j0 (k + 1) y0 y1 y2 y3)) ∧ (∀ y0 y1 y2 y3 y4, LeO (monthly_Dates.l0 k y0 y1 y2 y3 y4) (monthly_Dates.l0 (k + 1) y0 y1 y2 y3 y4))
 | 0 => ⟨fun _ _ _ _ r h => by simp [monthly_Dates.j0] at h, fun _ _ _ _ _ r h => by simp [monthly_Dates.l0] at h⟩
 | k + 1 => by
  obtain ⟨ih0, ih1⟩ := monthly_Dates.mono_l k
  refine ⟨?_, ?_⟩
  ·intro y0 y1 y2 y3
   unfold monthly_Dates.j0
   repeat' first
   | (with_reducible exact ih0 _ _ _ _)
   | (with_reducible exact ih1 _ _ _ _ _)
   | (with_reducible exact LeO.refl _)
   | (with_reducible exact LeO.none _)
   | (with_reducible refine LeO.ite ?_ ?_)
   | (with_reducible refine LeO.bind ?_ (fun _ => ?_))
   | exact ih0 _ _ _ _
   | exact ih1 _ _ _ _ _
   | exact LeO.none _
   | refine LeO.ite ?_ ?_
   | refine LeO.bind ?_ (fun _ => ?_)
  ·intro y0 y1 y2 y3 y4
   unfold monthly_Dates.l0
   repeat' first
   | (with_reducible exact ih0 _ _ _ _)
   | (with_reducible exact ih1 _ _ _ _ _)
   | (with_reducible exact LeO.refl _)
   | (with_reducible exact LeO.none _)
   | (with_reducible refine LeO.ite ?_ ?_)
   | (with_reducible refine LeO.bind ?_ (fun _ => ?_))
   | exact ih0 _ _ _ _
   | exact ih1 _ _ _ _ _
   | exact LeO.none _
   | refine LeO.ite ?_ ?_
   | refine LeO.bind ?_ (fun _ => ?_)
theorem monthly_Dates.mono : ∀ a0 a1 a2 k, LeO (monthly_Dates.f k a0 a1 a2) (monthly_Dates.f (k + 1) a0 a1 a2) := by
 intro a0 a1 a2 k
 obtain ⟨ih0, ih1⟩ := monthly_Dates.mono_l k
 unfold monthly_Dates.f
 repeat' first
   | (with_reducible exact ih0 _ _ _ _)
   | (with_reducible exact ih1 _ _ _ _ _)
   | (with_reducible exact LeO.refl _)
   | (with_reducible exact LeO.none _)
   | (with_reducible refine LeO.ite ?_ ?_)
   | (with_reducible refine LeO.bind ?_ (fun _ => ?_))
   | exact ih0 _ _ _ _
   | exact ih1 _ _ _ _ _
   | exact LeO.none _
   | refine LeO.ite ?_ ?_
   | refine LeO.bind ?_ (fun _ => ?_)
set_option maxHeartbeats 8000000 in
set_option maxRecDepth 100000 in
theorem monthly_Dates.calls (k : Nat) (a0 : Int) (a1 : Int) (a2 : Int) (r1 : List Int) (r2 : Int) (w : World) (h : monthly_Dates.f k a0 a1 a2 = some (r1, r2)) :
  Calls Tryz.prog 38 #[.int .i64 a0, .int .i64 a1, .int .i64 a2] w fun e w' => ∃ v0_ : Value, e = .returned (.tuple #[v0_, .int .i64 r2]) ∧ Kd.R (Kd.int .i64) 3 w' w.heap.size (fun _ => True) v0_ r1 ∧ Below w.heap.size w w' := by
 have hu113 := Tryz.underlying113
 have HB := Aside0.mk (Below.refl w.heap.size w)
 have H : (if a1 < 1 then (monthly_Dates.j0 k a0 a1 a2 true) else (if a1 > 12 then (monthly_Dates.j0 k a0 a1 a2 true) else (if a2 < 1 then (monthly_Dates.j0 k a0 a1 a2 true) else (monthly_Dates.j0 k a0 a1 a2 (decide (a2 > 600)))))) = some (r1, r2) := h
 clear h
 have HC4 := Aside0.mk H
 clear H
 go_enter Tryz.func38, Tryz.ntmps38
 go_upto_region 1 with (fail)
 go_cut [26] (fun v26 wc => ∃ (kq : Nat) (x26_3 : Bool), v26 = .bool x26_3 ∧ Aside0 (monthly_Dates.j0 kq a0 a1 a2 x26_3 = some (r1, r2)) ∧ Aside0 (kq ≤ k) ∧ Aside0 (Below w.heap.size w wc))
 case first =>
  have H := HC4.out
  clear HC4
  by_cases c5 : a1 < 1
  ·rw [if_pos c5] at H
   have c5b0 : decide (a1 < 1) = true := decide_eq_true c5
   clear c5
   (first | rw [c5b0] | (simp only [i64_w, i32_w]; rw [c5b0]) | skip)
   have H' := Aside0.mk H
   clear H
   go_wp2
   go_meet
   case rel => exact ⟨_, (true), (by first | rfl | (simp; done) | (simp [*]; done)), H', ⟨by first | omega | exact Nat.le_refl _⟩, ⟨by repeat (first | (with_reducible first | exact HB.out | apply below_alloc | apply pw_below_drewN | apply below_drew1) | exact HB.out)⟩⟩
  ·rw [if_neg c5] at H
   have c5b0 : decide (a1 < 1) = false := decide_eq_false c5
   clear c5
   (first | rw [c5b0] | (simp only [i64_w, i32_w]; rw [c5b0]) | skip)
   by_cases c6 : a1 > 12
   ·rw [if_pos c6] at H
    have c6b0 : decide (12 < a1) = true := decide_eq_true c6
    clear c6
    have H' := Aside0.mk H
    clear H
    go_wp2
    go_meet
    case rel => exact ⟨_, (true), (by first | rfl | (simp; done) | (simp [*]; done)), H', ⟨by first | omega | exact Nat.le_refl _⟩, ⟨by repeat (first | (with_reducible first | exact HB.out | apply below_alloc | apply pw_below_drewN | apply below_drew1) | exact HB.out)⟩⟩
   ·rw [if_neg c6] at H
    have c6b0 : decide (12 < a1) = false := decide_eq_false c6
    clear c6
    by_cases c7 : a2 < 1
    ·rw [if_pos c7] at H
     have c7b0 : decide (a2 < 1) = true := decide_eq_true c7
     clear c7
     have H' := Aside0.mk H
     clear H
     go_wp2
     go_meet
     case rel => exact ⟨_, (true), (by first | rfl | (simp; done) | (simp [*]; done)), H', ⟨by first | omega | exact Nat.le_refl _⟩, ⟨by repeat (first | (with_reducible first | exact HB.out | apply below_alloc | apply pw_below_drewN | apply below_drew1) | exact HB.out)⟩⟩
    ·rw [if_neg c7] at H
     have c7b0 : decide (a2 < 1) = false := decide_eq_false c7
     clear c7
     have H' := Aside0.mk H
     clear H
     go_wp2
     go_meet
     case rel => exact ⟨_, (decide (a2 > 600)), (by first | rfl | (simp; done) | (simp [*]; done)), H', ⟨by first | omega | exact Nat.le_refl _⟩, ⟨by repeat (first | (with_reducible first | exact HB.out | apply below_alloc | apply pw_below_drewN | apply below_drew1) | exact HB.out)⟩⟩
 case rest =>
  clear HC4
  obtain ⟨kq, x26_3, rfl, HA, HJ3, HB⟩ := hcut
  cases kq with
  | zero => exact absurd HA.out (by simp [monthly_Dates.j0])
  | succ kj3 =>
   have H := HA.out
   clear HA
   simp only [monthly_Dates.j0] at H
   by_cases c8 : x26_3 = true
   ·subst c8
    have H1 : (some (([] : List Int), 1)) = some (r1, r2) := by rw [if_pos rfl] at H; exact H
    clear H
    have H := H1
    clear H1
    simp only [Option.some.injEq, Prod.mk.injEq] at H
    obtain ⟨rfl, rfl⟩ := H
    go_wp2
    go_ret2
    exact ⟨_, by first | rfl | (simp [errW_none, errW_some] <;> rfl) | (simp [*, errW_none, errW_some] <;> rfl), by first | exact Kd.R_nil _ _ _ _ _ | exact Kd.N_nil _ _ _ _ _ | exact Kd.V_nil _ _ _ _ _ | exact Kd.Q_nil _ _ _ _ _ | exact Kd.S_nil _ _ _ _ _, by repeat (first | (with_reducible first | exact HB.out | apply below_alloc | apply pw_below_drewN | apply below_drew1) | exact HB.out)⟩
   ·replace c8 := Bool.eq_false_iff.mpr c8
    subst c8
    have H1 : (monthly_Dates.l0 kj3 a0 a1 ([] : List Int) a2 0) = some (r1, r2) := by rw [if_neg (show ¬ (false = true) by decide)] at H; exact H
    clear H
    have H := H1
    clear H1
    have H' := Aside0.mk H
    clear H
    go_wp2
    go_loopg [9, 31] kj3 (fun kq v9 v31 w' => ∃ (x9_2 : List Int) (x31_2 : Int), v31 = .int .i64 x31_2 ∧ Aside0 (monthly_Dates.l0 kq a0 a1 x9_2 a2 x31_2 = some (r1, r2)) ∧ Aside0 (kq ≤ kj3) ∧ Aside0 (Kd.R (Kd.int .i64) 3 w' w.heap.size (fun _ => True) v9 x9_2) ∧ Aside0 (Below w.heap.size w w'))
    case atStart => exact ⟨(([] : List Int)), (0), (by first | rfl | (simp; done) | (simp [*]; done)), H', ⟨Nat.le_refl _⟩, ⟨by first | exact Kd.R_nil _ _ _ _ _ | exact Kd.N_nil _ _ _ _ _ | exact Kd.V_nil _ _ _ _ _ | exact Kd.Q_nil _ _ _ _ _ | exact Kd.S_nil _ _ _ _ _⟩, ⟨by repeat (first | (with_reducible first | exact HB.out | apply below_alloc | apply pw_below_drewN | apply below_drew1) | exact HB.out)⟩⟩
    case round =>
     clear H'
     obtain ⟨x9_2, x31_2, rfl, HA, HK2, HO_9, HB⟩ := hrel
     cases gk with
     | zero => exact absurd HA.out (by simp [monthly_Dates.l0])
     | succ k2 =>
      have H := HA.out
      clear HA
      simp only [monthly_Dates.l0] at H
      by_cases c9 : x31_2 < a2
      ·rw [if_pos c9] at H
       have c9b0 : decide (x31_2 < a2) = true := decide_eq_true c9
       clear c9
       replace H := Option.bind_eq_some_iff.mp H
       obtain ⟨⟨t104, t105⟩, A100, H⟩ := H
       replace H : (if t105 = 0 then (if x9_2.length < 17592186044416 then (monthly_Dates.l0 k2 a0 a1 (x9_2 ++ [t104]) a2 (wrap64 (x31_2 + 1))) else (none)) else (some (([] : List Int), t105))) = some (r1, r2) := H
       have A10 := Aside0.mk A100
       clear A100
       by_cases c11 : t105 = 0
       ·rw [if_pos c11] at H
        have c11b0 : (t105 == 0) = true := beq_iff_eq.mpr c11
        have c11b1 : (t105 != 0) = false := bne_eq_false_iff_eq.mpr c11
        clear c11
        by_cases c12 : x9_2.length < 17592186044416
        ·rw [if_pos c12] at H
         have LMc12 := Aside0.mk c12
         clear c12
         obtain ⟨y106, hy106⟩ : ∃ y_ : List Int, y_ = (x9_2 ++ [t104]) := ⟨_, rfl⟩
         replace H : (monthly_Dates.l0 k2 a0 a1 y106 a2 (wrap64 (x31_2 + 1))) = some (r1, r2) := by first | (rw [hy106]; with_reducible exact H) | (have H2_ := (Option.bind_some _ _).symm.trans H; rw [hy106]; with_reducible exact H2_) | (have H2_ := (Option.bind_some _ _).symm.trans H; with_reducible exact H2_) | with_reducible exact H | (rw [hy106]; exact H) | exact H
         have Ny106 := Aside0.mk hy106
         clear hy106
         have H' := Aside0.mk H
         clear H
         go_wp2_with (first | ((with_reducible refine gate_calleeV (t := 35) rfl ?_); refine goesV_ 35 #[.agg #[.int .i64 a0]] (by first | rfl | (simp; done)) (some 40) rfl rfl Tryz.func64 (by kernel_rfl) rfl #[.agg #[.int .i64 a0], .int .i64 (wrap64 ((wrap64 (x31_2 + 1)) * a1))] rfl (by (try simp only [List.map_toArray, List.map_cons, List.map_nil]); first | done | rfl | (simp; done) | rfl | (simp only [List.length_drop, List.length_take]; rfl)) ?_; (with_reducible refine (monthly_from_add.calls a0 (wrap64 ((wrap64 (x31_2 + 1)) * a1)) t104 t105 _ A10.out).mono ?_); rintro e w13 ⟨rfl, hb⟩; refine ⟨_, rfl, ?_⟩; have n0_ := Aside0.mk (Kd.R_below (by (with_reducible repeat (first | apply Kd.R_alloc | apply Kd.R_drewN | apply Kd.R_drew)); exact HO_9.out) hb); have n1_ := Aside0.mk (below_step HB.out hb); clear HO_9; clear HB; have HO_9 := n0_; have HB := n1_; clear n0_ n1_; (try clear hb)) | ((with_reducible refine gate_builtin (b := .append) (xs := #[.tmp 46, .tmp 48]) rfl ?_); at_builtin; refine Kd.R_append (Kd.int .i64) (w0 := w) w.heap.size rfl (.tmp 46) (.tmp 48) 25 3 (.int .i64 0) 8 rfl Tryz.underlying25 info3 rfl (by decide) (by omega) u9 x9_2 t104 [.int .i64 t104] (fun _ => True) (fun _ => False) rfl rfl ?aP (fun _ hk => hk.elim) ?aF ?aO ?aB ?aS ?aL ?_; (case aP => exact rfl); (case aB => exact HB.out); (case aF => exact (fun _ _ => trivial)); (case aO => exact (by (with_reducible repeat (first | apply Kd.R_alloc | apply Kd.R_drewN | apply Kd.R_drew)); exact HO_9.out)); (case aS => exact (below_size HB.out)); (case aL => have := LMc12.out; omega); intro v107 w14 ho hb hg hat; rw [← Ny106.out] at ho; have n0_ := Aside0.mk (hb); have n1_ := Aside0.mk (ho); clear HB; clear HO_9; have HB := n0_; have HO108 := n1_; clear n0_ n1_; clear ho hb hg hat))
         go_roundg k2
         case measure => have := HJ3.out; have := HK2.out; omega
         case rel => exact ⟨(y106), (wrap64 (x31_2 + 1)), (by first | rfl | (simp; done) | (simp [*]; done)), H', ⟨by have := HJ3.out; have := HK2.out; omega⟩, ⟨by (with_reducible repeat (first | apply Kd.R_alloc | apply Kd.R_drewN | apply Kd.R_drew)); exact HO108.out⟩, ⟨by repeat (first | (with_reducible first | exact HB.out | apply below_alloc | apply pw_below_drewN | apply below_drew1) | exact HB.out)⟩⟩
        ·rw [if_neg c12] at H
         exact absurd H (by simp)
       ·rw [if_neg c11] at H
        have c11b0 : (t105 == 0) = false := beq_eq_false_iff_ne.mpr c11
        have c11b1 : (t105 != 0) = true := bne_iff_ne.mpr c11
        simp only [Option.some.injEq, Prod.mk.injEq] at H
        obtain ⟨rfl, rfl⟩ := H
        go_wp2_with (first | ((with_reducible refine gate_calleeV (t := 35) rfl ?_); refine goesV_ 35 #[.agg #[.int .i64 a0]] (by first | rfl | (simp; done)) (some 40) rfl rfl Tryz.func64 (by kernel_rfl) rfl #[.agg #[.int .i64 a0], .int .i64 (wrap64 ((wrap64 (x31_2 + 1)) * a1))] rfl (by (try simp only [List.map_toArray, List.map_cons, List.map_nil]); first | done | rfl | (simp; done) | rfl | (simp only [List.length_drop, List.length_take]; rfl)) ?_; (with_reducible refine (monthly_from_add.calls a0 (wrap64 ((wrap64 (x31_2 + 1)) * a1)) t104 t105 _ A10.out).mono ?_); rintro e w15 ⟨rfl, hb⟩; refine ⟨_, rfl, ?_⟩; have n0_ := Aside0.mk (Kd.R_below (by (with_reducible repeat (first | apply Kd.R_alloc | apply Kd.R_drewN | apply Kd.R_drew)); exact HO_9.out) hb); have n1_ := Aside0.mk (below_step HB.out hb); clear HO_9; clear HB; have HO_9 := n0_; have HB := n1_; clear n0_ n1_; (try clear hb)))
        go_ret2
        exact ⟨_, by first | rfl | (simp [errW_none, errW_some] <;> rfl) | (simp [*, errW_none, errW_some] <;> rfl), by first | exact Kd.R_nil _ _ _ _ _ | exact Kd.N_nil _ _ _ _ _ | exact Kd.V_nil _ _ _ _ _ | exact Kd.Q_nil _ _ _ _ _ | exact Kd.S_nil _ _ _ _ _, by repeat (first | (with_reducible first | exact HB.out | apply below_alloc | apply pw_below_drewN | apply below_drew1) | exact HB.out)⟩
      ·rw [if_neg c9] at H
       have c9b0 : decide (x31_2 < a2) = false := decide_eq_false c9
       clear c9
       simp only [Option.some.injEq, Prod.mk.injEq] at H
       obtain ⟨rfl, rfl⟩ := H
       go_wp2
       go_ret2
       exact ⟨_, by first | rfl | (simp [errW_none, errW_some] <;> rfl) | (simp [*, errW_none, errW_some] <;> rfl), by (with_reducible repeat (first | apply Kd.R_alloc | apply Kd.R_drewN | apply Kd.R_drew)); exact HO_9.out, by repeat (first | (with_reducible first | exact HB.out | apply below_alloc | apply pw_below_drewN | apply below_drew1) | exact HB.out)⟩
/-! ### quittanceref04_Dates: function 49 -/
mutual
def quittanceref04_Dates.j0 : Nat → Int → Int → Int → Bool → Option (List Int × Int)
 | 0, _, _, _, _ => none
 | k + 1, x0, x1, x2, x25 => if x25 = true then (some (([] : List Int), 1)) else (quittanceref04_Dates.l0 k x0 x1 x2 ([] : List Int) 1)
def quittanceref04_Dates.l0 : Nat → Int → Int → Int → List Int → Int → Option (List Int × Int)
 | 0, _, _, _, _, _ => none
 | k + 1, x0, x1, x2, x8, x9 => if x9 ≤ x2 then ((quittanceref04_Add.f x0 (wrap64 (x9 * x1))).bind fun bt109 => (if bt109.2 = 0 then (if x8.length < 17592186044416 then (quittanceref04_Dates.l0 k x0 x1 x2 (x8 ++ [bt109.1]) (wrap64 (x9 + 1))) else (none)) else (some (([] : List Int), bt109.2)))) else (some (x8, 0))
end
def quittanceref04_Dates.f (k : Nat) (a0 : Int) (a1 : Int) (a2 : Int) : Option (List Int × Int) := if a1 < 1 then (quittanceref04_Dates.j0 k a0 a1 a2 true) else (if a1 > 12 then (quittanceref04_Dates.j0 k a0 a1 a2 true) else (if a2 < 1 then (quittanceref04_Dates.j0 k a0 a1 a2 true) else (quittanceref04_Dates.j0 k a0 a1 a2 (decide (a2 > 600)))))
theorem quittanceref04_Dates.mono_l : ∀ k, (∀ y0 y1 y2 y3, LeO (quittanceref04_Dates.j0 k y0 y1 y2 y3) (quittanceref04_Dates.j0 (k + 1) y0 y1 y2 y3)) ∧ (∀ y0 y1 y2 y3 y4, LeO (quittanceref04_Dates.l0 k y0 y1 y2 y3 y4) (quittanceref04_Dates.l0 (k + 1) y0 y1 y2 y3 y4))
 | 0 => ⟨fun _ _ _ _ r h => by simp [quittanceref04_Dates.j0] at h, fun _ _ _ _ _ r h => by simp [quittanceref04_Dates.l0] at h⟩
 | k + 1 => by
  obtain ⟨ih0, ih1⟩ := quittanceref04_Dates.mono_l k
  refine ⟨?_, ?_⟩
  ·intro y0 y1 y2 y3
   unfold quittanceref04_Dates.j0
   repeat' first
   | (with_reducible exact ih0 _ _ _ _)
   | (with_reducible exact ih1 _ _ _ _ _)
   | (with_reducible exact LeO.refl _)
   | (with_reducible exact LeO.none _)
   | (with_reducible refine LeO.ite ?_ ?_)
   | (with_reducible refine LeO.bind ?_ (fun _ => ?_))
   | exact ih0 _ _ _ _
   | exact ih1 _ _ _ _ _
   | exact LeO.none _
   | refine LeO.ite ?_ ?_
   | refine LeO.bind ?_ (fun _ => ?_)
  ·intro y0 y1 y2 y3 y4
   unfold quittanceref04_Dates.l0
   repeat' first
   | (with_reducible exact ih0 _ _ _ _)
   | (with_reducible exact ih1 _ _ _ _ _)
   | (with_reducible exact LeO.refl _)
   | (with_reducible exact LeO.none _)
   | (with_reducible refine LeO.ite ?_ ?_)
   | (with_reducible refine LeO.bind ?_ (fun _ => ?_))
   | exact ih0 _ _ _ _
   | exact ih1 _ _ _ _ _
   | exact LeO.none _
   | refine LeO.ite ?_ ?_
   | refine LeO.bind ?_ (fun _ => ?_)
theorem quittanceref04_Dates.mono : ∀ a0 a1 a2 k, LeO (quittanceref04_Dates.f k a0 a1 a2) (quittanceref04_Dates.f (k + 1) a0 a1 a2) := by
 intro a0 a1 a2 k
 obtain ⟨ih0, ih1⟩ := quittanceref04_Dates.mono_l k
 unfold quittanceref04_Dates.f
 repeat' first
   | (with_reducible exact ih0 _ _ _ _)
   | (with_reducible exact ih1 _ _ _ _ _)
   | (with_reducible exact LeO.refl _)
   | (with_reducible exact LeO.none _)
   | (with_reducible refine LeO.ite ?_ ?_)
   | (with_reducible refine LeO.bind ?_ (fun _ => ?_))
   | exact ih0 _ _ _ _
   | exact ih1 _ _ _ _ _
   | exact LeO.none _
   | refine LeO.ite ?_ ?_
   | refine LeO.bind ?_ (fun _ => ?_)
set_option maxHeartbeats 8000000 in
set_option maxRecDepth 100000 in
theorem quittanceref04_Dates.calls (k : Nat) (a0 : Int) (a1 : Int) (a2 : Int) (r1 : List Int) (r2 : Int) (w : World) (h : quittanceref04_Dates.f k a0 a1 a2 = some (r1, r2)) :
  Calls Tryz.prog 49 #[.int .i64 a0, .int .i64 a1, .int .i64 a2] w fun e w' => ∃ v0_ : Value, e = .returned (.tuple #[v0_, .int .i64 r2]) ∧ Kd.R (Kd.int .i64) 3 w' w.heap.size (fun _ => True) v0_ r1 ∧ Below w.heap.size w w' := by
 have HB := Aside0.mk (Below.refl w.heap.size w)
 have H : (if a1 < 1 then (quittanceref04_Dates.j0 k a0 a1 a2 true) else (if a1 > 12 then (quittanceref04_Dates.j0 k a0 a1 a2 true) else (if a2 < 1 then (quittanceref04_Dates.j0 k a0 a1 a2 true) else (quittanceref04_Dates.j0 k a0 a1 a2 (decide (a2 > 600)))))) = some (r1, r2) := h
 clear h
 have HC4 := Aside0.mk H
 clear H
 go_enter Tryz.func49, Tryz.ntmps49
 go_upto_region 1 with (fail)
 go_cut [25] (fun v25 wc => ∃ (kq : Nat) (x25_3 : Bool), v25 = .bool x25_3 ∧ Aside0 (quittanceref04_Dates.j0 kq a0 a1 a2 x25_3 = some (r1, r2)) ∧ Aside0 (kq ≤ k) ∧ Aside0 (Below w.heap.size w wc))
 case first =>
  have H := HC4.out
  clear HC4
  by_cases c5 : a1 < 1
  ·rw [if_pos c5] at H
   have c5b0 : decide (a1 < 1) = true := decide_eq_true c5
   clear c5
   (first | rw [c5b0] | (simp only [i64_w, i32_w]; rw [c5b0]) | skip)
   have H' := Aside0.mk H
   clear H
   go_wp2
   go_meet
   case rel => exact ⟨_, (true), (by first | rfl | (simp; done) | (simp [*]; done)), H', ⟨by first | omega | exact Nat.le_refl _⟩, ⟨by repeat (first | (with_reducible first | exact HB.out | apply below_alloc | apply pw_below_drewN | apply below_drew1) | exact HB.out)⟩⟩
  ·rw [if_neg c5] at H
   have c5b0 : decide (a1 < 1) = false := decide_eq_false c5
   clear c5
   (first | rw [c5b0] | (simp only [i64_w, i32_w]; rw [c5b0]) | skip)
   by_cases c6 : a1 > 12
   ·rw [if_pos c6] at H
    have c6b0 : decide (12 < a1) = true := decide_eq_true c6
    clear c6
    have H' := Aside0.mk H
    clear H
    go_wp2
    go_meet
    case rel => exact ⟨_, (true), (by first | rfl | (simp; done) | (simp [*]; done)), H', ⟨by first | omega | exact Nat.le_refl _⟩, ⟨by repeat (first | (with_reducible first | exact HB.out | apply below_alloc | apply pw_below_drewN | apply below_drew1) | exact HB.out)⟩⟩
   ·rw [if_neg c6] at H
    have c6b0 : decide (12 < a1) = false := decide_eq_false c6
    clear c6
    by_cases c7 : a2 < 1
    ·rw [if_pos c7] at H
     have c7b0 : decide (a2 < 1) = true := decide_eq_true c7
     clear c7
     have H' := Aside0.mk H
     clear H
     go_wp2
     go_meet
     case rel => exact ⟨_, (true), (by first | rfl | (simp; done) | (simp [*]; done)), H', ⟨by first | omega | exact Nat.le_refl _⟩, ⟨by repeat (first | (with_reducible first | exact HB.out | apply below_alloc | apply pw_below_drewN | apply below_drew1) | exact HB.out)⟩⟩
    ·rw [if_neg c7] at H
     have c7b0 : decide (a2 < 1) = false := decide_eq_false c7
     clear c7
     have H' := Aside0.mk H
     clear H
     go_wp2
     go_meet
     case rel => exact ⟨_, (decide (a2 > 600)), (by first | rfl | (simp; done) | (simp [*]; done)), H', ⟨by first | omega | exact Nat.le_refl _⟩, ⟨by repeat (first | (with_reducible first | exact HB.out | apply below_alloc | apply pw_below_drewN | apply below_drew1) | exact HB.out)⟩⟩
 case rest =>
  clear HC4
  obtain ⟨kq, x25_3, rfl, HA, HJ3, HB⟩ := hcut
  cases kq with
  | zero => exact absurd HA.out (by simp [quittanceref04_Dates.j0])
  | succ kj3 =>
   have H := HA.out
   clear HA
   simp only [quittanceref04_Dates.j0] at H
   by_cases c8 : x25_3 = true
   ·subst c8
    have H1 : (some (([] : List Int), 1)) = some (r1, r2) := by rw [if_pos rfl] at H; exact H
    clear H
    have H := H1
    clear H1
    simp only [Option.some.injEq, Prod.mk.injEq] at H
    obtain ⟨rfl, rfl⟩ := H
    go_wp2
    go_ret2
    exact ⟨_, by first | rfl | (simp [errW_none, errW_some] <;> rfl) | (simp [*, errW_none, errW_some] <;> rfl), by first | exact Kd.R_nil _ _ _ _ _ | exact Kd.N_nil _ _ _ _ _ | exact Kd.V_nil _ _ _ _ _ | exact Kd.Q_nil _ _ _ _ _ | exact Kd.S_nil _ _ _ _ _, by repeat (first | (with_reducible first | exact HB.out | apply below_alloc | apply pw_below_drewN | apply below_drew1) | exact HB.out)⟩
   ·replace c8 := Bool.eq_false_iff.mpr c8
    subst c8
    have H1 : (quittanceref04_Dates.l0 kj3 a0 a1 a2 ([] : List Int) 1) = some (r1, r2) := by rw [if_neg (show ¬ (false = true) by decide)] at H; exact H
    clear H
    have H := H1
    clear H1
    have H' := Aside0.mk H
    clear H
    go_wp2
    go_loopg [8, 9] kj3 (fun kq v8 v9 w' => ∃ (x8_2 : List Int) (x9_2 : Int), v9 = .int .i64 x9_2 ∧ Aside0 (quittanceref04_Dates.l0 kq a0 a1 a2 x8_2 x9_2 = some (r1, r2)) ∧ Aside0 (kq ≤ kj3) ∧ Aside0 (Kd.R (Kd.int .i64) 3 w' w.heap.size (fun _ => True) v8 x8_2) ∧ Aside0 (Below w.heap.size w w'))
    case atStart => exact ⟨(([] : List Int)), (1), (by first | rfl | (simp; done) | (simp [*]; done)), H', ⟨Nat.le_refl _⟩, ⟨by first | exact Kd.R_nil _ _ _ _ _ | exact Kd.N_nil _ _ _ _ _ | exact Kd.V_nil _ _ _ _ _ | exact Kd.Q_nil _ _ _ _ _ | exact Kd.S_nil _ _ _ _ _⟩, ⟨by repeat (first | (with_reducible first | exact HB.out | apply below_alloc | apply pw_below_drewN | apply below_drew1) | exact HB.out)⟩⟩
    case round =>
     clear H'
     obtain ⟨x8_2, x9_2, rfl, HA, HK2, HO_8, HB⟩ := hrel
     cases gk with
     | zero => exact absurd HA.out (by simp [quittanceref04_Dates.l0])
     | succ k2 =>
      have H := HA.out
      clear HA
      simp only [quittanceref04_Dates.l0] at H
      by_cases c9 : x9_2 ≤ a2
      ·rw [if_pos c9] at H
       have c9b0 : decide (x9_2 ≤ a2) = true := decide_eq_true c9
       clear c9
       replace H := Option.bind_eq_some_iff.mp H
       obtain ⟨⟨t109, t110⟩, A100, H⟩ := H
       replace H : (if t110 = 0 then (if x8_2.length < 17592186044416 then (quittanceref04_Dates.l0 k2 a0 a1 a2 (x8_2 ++ [t109]) (wrap64 (x9_2 + 1))) else (none)) else (some (([] : List Int), t110))) = some (r1, r2) := H
       have A10 := Aside0.mk A100
       clear A100
       by_cases c11 : t110 = 0
       ·rw [if_pos c11] at H
        have c11b0 : (t110 == 0) = true := beq_iff_eq.mpr c11
        have c11b1 : (t110 != 0) = false := bne_eq_false_iff_eq.mpr c11
        clear c11
        by_cases c12 : x8_2.length < 17592186044416
        ·rw [if_pos c12] at H
         have LMc12 := Aside0.mk c12
         clear c12
         obtain ⟨y111, hy111⟩ : ∃ y_ : List Int, y_ = (x8_2 ++ [t109]) := ⟨_, rfl⟩
         replace H : (quittanceref04_Dates.l0 k2 a0 a1 a2 y111 (wrap64 (x9_2 + 1))) = some (r1, r2) := by first | (rw [hy111]; with_reducible exact H) | (have H2_ := (Option.bind_some _ _).symm.trans H; rw [hy111]; with_reducible exact H2_) | (have H2_ := (Option.bind_some _ _).symm.trans H; with_reducible exact H2_) | with_reducible exact H | (rw [hy111]; exact H) | exact H
         have Ny111 := Aside0.mk hy111
         clear hy111
         have H' := Aside0.mk H
         clear H
         go_wp2_with (first | ((with_reducible refine gate_callee (f := 73) rfl ?_); refine goesL_ (some 36) rfl rfl Tryz.func73 (by kernel_rfl) rfl #[.int .i64 a0, .int .i64 (wrap64 (x9_2 * a1))] rfl (by (try simp only [List.map_toArray, List.map_cons, List.map_nil]); first | done | rfl | (simp only [List.length_drop, List.length_take]; rfl)) ?_; (with_reducible refine (quittanceref04_Add.calls a0 (wrap64 (x9_2 * a1)) t109 t110 _ A10.out).mono ?_); rintro e w13 ⟨rfl, hb⟩; refine ⟨_, rfl, ?_⟩; have n0_ := Aside0.mk (Kd.R_below (by (with_reducible repeat (first | apply Kd.R_alloc | apply Kd.R_drewN | apply Kd.R_drew)); exact HO_8.out) hb); have n1_ := Aside0.mk (below_step (by repeat (first | (with_reducible first | exact HB.out | apply below_alloc | apply pw_below_drewN | apply below_drew1) | exact HB.out)) hb); clear HO_8; clear HB; have HO_8 := n0_; have HB := n1_; clear n0_ n1_; (try clear hb)) | ((with_reducible refine gate_builtin (b := .append) (xs := #[.tmp 42, .tmp 44]) rfl ?_); at_builtin; refine Kd.R_append (Kd.int .i64) (w0 := w) w.heap.size rfl (.tmp 42) (.tmp 44) 25 3 (.int .i64 0) 8 rfl Tryz.underlying25 info3 rfl (by decide) (by omega) u8 x8_2 t109 [.int .i64 t109] (fun _ => True) (fun _ => False) rfl rfl ?aP (fun _ hk => hk.elim) ?aF ?aO ?aB ?aS ?aL ?_; (case aP => exact rfl); (case aB => exact (by repeat (first | (with_reducible first | exact HB.out | apply below_alloc | apply pw_below_drewN | apply below_drew1) | exact HB.out))); (case aF => exact (fun _ _ => trivial)); (case aO => exact (by (with_reducible repeat (first | apply Kd.R_alloc | apply Kd.R_drewN | apply Kd.R_drew)); exact HO_8.out)); (case aS => exact (below_size (by repeat (first | (with_reducible first | exact HB.out | apply below_alloc | apply pw_below_drewN | apply below_drew1) | exact HB.out)))); (case aL => have := LMc12.out; omega); intro v112 w14 ho hb hg hat; rw [← Ny111.out] at ho; have n0_ := Aside0.mk (hb); have n1_ := Aside0.mk (ho); clear HB; clear HO_8; have HB := n0_; have HO113 := n1_; clear n0_ n1_; clear ho hb hg hat))
         go_roundg k2
         case measure => have := HJ3.out; have := HK2.out; omega
         case rel => exact ⟨(y111), (wrap64 (x9_2 + 1)), (by first | rfl | (simp; done) | (simp [*]; done)), H', ⟨by have := HJ3.out; have := HK2.out; omega⟩, ⟨by (with_reducible repeat (first | apply Kd.R_alloc | apply Kd.R_drewN | apply Kd.R_drew)); exact HO113.out⟩, ⟨by repeat (first | (with_reducible first | exact HB.out | apply below_alloc | apply pw_below_drewN | apply below_drew1) | exact HB.out)⟩⟩
        ·rw [if_neg c12] at H
         exact absurd H (by simp)
       ·rw [if_neg c11] at H
        have c11b0 : (t110 == 0) = false := beq_eq_false_iff_ne.mpr c11
        have c11b1 : (t110 != 0) = true := bne_iff_ne.mpr c11
        simp only [Option.some.injEq, Prod.mk.injEq] at H
        obtain ⟨rfl, rfl⟩ := H
        go_wp2_with (first | ((with_reducible refine gate_callee (f := 73) rfl ?_); refine goesL_ (some 36) rfl rfl Tryz.func73 (by kernel_rfl) rfl #[.int .i64 a0, .int .i64 (wrap64 (x9_2 * a1))] rfl (by (try simp only [List.map_toArray, List.map_cons, List.map_nil]); first | done | rfl | (simp only [List.length_drop, List.length_take]; rfl)) ?_; (with_reducible refine (quittanceref04_Add.calls a0 (wrap64 (x9_2 * a1)) t109 t110 _ A10.out).mono ?_); rintro e w15 ⟨rfl, hb⟩; refine ⟨_, rfl, ?_⟩; have n0_ := Aside0.mk (Kd.R_below (by (with_reducible repeat (first | apply Kd.R_alloc | apply Kd.R_drewN | apply Kd.R_drew)); exact HO_8.out) hb); have n1_ := Aside0.mk (below_step (by repeat (first | (with_reducible first | exact HB.out | apply below_alloc | apply pw_below_drewN | apply below_drew1) | exact HB.out)) hb); clear HO_8; clear HB; have HO_8 := n0_; have HB := n1_; clear n0_ n1_; (try clear hb)))
        go_ret2
        exact ⟨_, by first | rfl | (simp [errW_none, errW_some] <;> rfl) | (simp [*, errW_none, errW_some] <;> rfl), by first | exact Kd.R_nil _ _ _ _ _ | exact Kd.N_nil _ _ _ _ _ | exact Kd.V_nil _ _ _ _ _ | exact Kd.Q_nil _ _ _ _ _ | exact Kd.S_nil _ _ _ _ _, by repeat (first | (with_reducible first | exact HB.out | apply below_alloc | apply pw_below_drewN | apply below_drew1) | exact HB.out)⟩
      ·rw [if_neg c9] at H
       have c9b0 : decide (x9_2 ≤ a2) = false := decide_eq_false c9
       clear c9
       simp only [Option.some.injEq, Prod.mk.injEq] at H
       obtain ⟨rfl, rfl⟩ := H
       go_wp2
       go_ret2
       exact ⟨_, by first | rfl | (simp [errW_none, errW_some] <;> rfl) | (simp [*, errW_none, errW_some] <;> rfl), by (with_reducible repeat (first | apply Kd.R_alloc | apply Kd.R_drewN | apply Kd.R_drew)); exact HO_8.out, by repeat (first | (with_reducible first | exact HB.out | apply below_alloc | apply pw_below_drewN | apply below_drew1) | exact HB.out)⟩
end Go.Proofs.YtfmkdledofbhdaaGreat.PDA
/- Plain: the days so many months apart; both printed walks give them. -/
namespace Go.Proofs.YtfmkdledofbhdaaGreat.Du
open Go.RowKit Go.Proofs.YtfmkdledofbhdaaGreat.PDA Go.Proofs.YtfmkdledofbhdaaGreatW.PrintWords Go.Proofs.YtfmkdledofbhdaaGreatW.PrintLast Go.Proofs.YtfmkdledofbhdaaGreatW.PrintMore
open Go.Proofs.YtfmkdledofbhdaaGreat.Math Go.Proofs.YtfmkdledofbhdaaGreat.H
set_option linter.unusedVariables false
set_option linter.unusedSimpArgs false
def dates : Nat → Int → Int → Int → List Int → List Int × Int
 | 0, _, _, _, l => (l, 0)
 | m + 1, n, e, i, l => if (add n ((i + 1) * e)).2 = 0 then dates m n e (i + 1) (l ++ [(add n ((i + 1) * e)).1]) else ([], (add n ((i + 1) * e)).2)
theorem dates_len : ∀ (m : Nat) (n e i : Int) (l : List Int), (dates m n e i l).1.length ≤ l.length + m
 | 0, n, e, i, l => by simp [dates]
 | m + 1, n, e, i, l => by
  unfold dates
  split
  ·have := dates_len m n e (i + 1) (l ++ [(add n ((i + 1) * e)).1])
   simp at this ⊢
   omega
  ·simp
theorem mul_small {i e : Int} (h1 : 0 ≤ i) (h2 : i ≤ 700) (e1 : 1 ≤ e) (e2 : e ≤ 12) : 0 ≤ i * e ∧ i * e ≤ 8400 := by
 have a := Int.mul_le_mul_of_nonneg_right h2 (show 0 ≤ e by omega)
 have b := Int.mul_nonneg h1 (show 0 ≤ e by omega)
 omega
theorem civ_loop : ∀ (m : Nat) {n e t i : Int} (l : List Int), 1 ≤ e → e ≤ 12 → 0 ≤ i → t ≤ 600 → i + m = t → l.length ≤ 100000 - m → m ≤ 600 →
  monthly_Dates.l0 (m + 1) n e l t i = some (dates m n e i l)
 | 0, n, e, t, i, l, e1, e2, i0, t0, h, hl, hm => by
  simp only [monthly_Dates.l0]
  rw [if_neg (by omega)]
  rfl
 | m + 1, n, e, t, i, l, e1, e2, i0, t0, h, hl, hm => by
  rw [monthly_Dates.l0]
  obtain ⟨p1, p2⟩ := mul_small (i := i + 1) (by omega) (by omega) e1 e2
  rw [if_pos (by omega), w64 (x := i + 1) (by omega) (by omega), w64 (x := (i + 1) * e) (by omega) (by omega)]
  simp only [monthly_from_add.f, monthly_Add.f, Option.bind_some]
  rw [dates]
  by_cases hz : (add n ((i + 1) * e)).2 = 0
  ·rw [if_pos hz, if_pos hz, if_pos (by omega)]
   exact civ_loop m _ e1 e2 (by omega) t0 (by omega) (by simp; omega) (by omega)
  ·rw [if_neg hz, if_neg hz]
theorem ref_loop : ∀ (m : Nat) {n e t i : Int} (l : List Int), 1 ≤ e → e ≤ 12 → 0 ≤ i → t ≤ 600 → i + m = t → l.length ≤ 100000 - m → m ≤ 600 →
  quittanceref04_Dates.l0 (m + 1) n e t l (i + 1) = some (dates m n e i l)
 | 0, n, e, t, i, l, e1, e2, i0, t0, h, hl, hm => by
  simp only [quittanceref04_Dates.l0]
  rw [if_neg (by omega)]
  rfl
 | m + 1, n, e, t, i, l, e1, e2, i0, t0, h, hl, hm => by
  rw [quittanceref04_Dates.l0]
  obtain ⟨p1, p2⟩ := mul_small (i := i + 1) (by omega) (by omega) e1 e2
  rw [if_pos (by omega), w64 (x := (i + 1) * e) (by omega) (by omega), w64 (x := i + 1 + 1) (by omega) (by omega)]
  simp only [quittanceref04_Add.f, Option.bind_some]
  rw [dates]
  by_cases hz : (add n ((i + 1) * e)).2 = 0
  ·rw [if_pos hz, if_pos hz, if_pos (by omega)]
   exact ref_loop m _ e1 e2 (by omega) t0 (by omega) (by simp; omega) (by omega)
  ·rw [if_neg hz, if_neg hz]
def datesP (n e t : Int) : List Int × Int := if 1 ≤ e ∧ e ≤ 12 ∧ 1 ≤ t ∧ t ≤ 600 then dates t.toNat n e 0 [] else ([], 1)
theorem civ_dates {n e t : Int} : (datesP n e t).1.length ≤ 600 ∧ monthly_Dates.f (t.toNat + 2) n e t = some (datesP n e t) ∧ quittanceref04_Dates.f (t.toNat + 2) n e t = some (datesP n e t) := by
 unfold datesP
 by_cases h : 1 ≤ e ∧ e ≤ 12 ∧ 1 ≤ t ∧ t ≤ 600
 ·rw [if_pos h]
  obtain ⟨e1, e2, t1, t2⟩ := h
  refine ⟨?_, ?_, ?_⟩
  ·have := dates_len t.toNat n e 0 []
   simp at this
   omega
  ·unfold monthly_Dates.f
   rw [if_neg (by omega), if_neg (by omega), if_neg (by omega), decide_eq_false (by omega)]
   simp only [monthly_Dates.j0, Bool.false_eq_true, if_false]
   exact civ_loop t.toNat [] e1 e2 (by omega) t2 (by omega) (by first | (simp; done) | (simp; omega)) (by omega)
  ·unfold quittanceref04_Dates.f
   rw [if_neg (by omega), if_neg (by omega), if_neg (by omega), decide_eq_false (by omega)]
   simp only [quittanceref04_Dates.j0, Bool.false_eq_true, if_false]
   exact ref_loop t.toNat (i := 0) [] e1 e2 (by omega) t2 (by omega) (by first | (simp; done) | (simp; omega)) (by omega)
 ·rw [if_neg h]
  refine ⟨by simp, ?_, ?_⟩
  ·unfold monthly_Dates.f
   repeat' split
   all_goals first | rfl | (rw [decide_eq_true (by omega)]; done) | (rw [decide_eq_true (by omega)]; rfl)
  ·unfold quittanceref04_Dates.f
   repeat' split
   all_goals first | rfl | (rw [decide_eq_true (by omega)]; done) | (rw [decide_eq_true (by omega)]; rfl)
end Go.Proofs.YtfmkdledofbhdaaGreat.Du
/- Lists of days: which may be holidays, and whether a day is among them. -/
namespace Go.Proofs.YtfmkdledofbhdaaGreat.H
open Go.RowKit Go.Proofs.YtfmkdledofbhdaaGreatW.PrintWords Go.Proofs.YtfmkdledofbhdaaGreatW.PrintLast Go.Proofs.YtfmkdledofbhdaaGreatW.PrintMore
open Go.Proofs.YtfmkdledofbhdaaGreat.Math
set_option linter.unusedVariables false
set_option linter.unusedSimpArgs false
theorem rd_nat (l : List Int) (k : Nat) (h : k < l.length) : rd l (k : Int) = l[k] := by
 simp [rd, h]
theorem rd_cons (l : List Int) (k : Nat) (h : k < l.length) : l.drop k = rd l (k : Int) :: l.drop (k + 1) := by
 rw [List.drop_eq_getElem_cons h, rd_nat l k h]
def rises : Int → List Int → Bool
 | _, [] => true
 | p, x :: xs => decide (isDay x) && (decide (p < x) && rises x xs)
def rightB (l : List Int) : Bool := rises (-25568) l && decide (l.length ≤ 200)
theorem rises_all (l : List Int) : ∀ p, rises p l = true → ∀ x ∈ l, isDay x ∧ p < x := by
 induction l with
 | nil => intro p _ x hx; simp at hx
 | cons y ys ih =>
  intro p h x hx
  simp only [rises, Bool.and_eq_true, decide_eq_true_eq] at h
  obtain ⟨h1, h2, h3⟩ := h
  rcases List.mem_cons.1 hx with rfl | hx
  ·exact ⟨h1, h2⟩
  ·obtain ⟨h4, h5⟩ := ih y h3 x hx
   exact ⟨h4, by omega⟩
theorem rises_pair (l : List Int) : ∀ p, rises p l = true → l.Pairwise (· < ·) := by
 induction l with
 | nil => intro p _; exact List.Pairwise.nil
 | cons y ys ih =>
  intro p h
  simp only [rises, Bool.and_eq_true, decide_eq_true_eq] at h
  exact List.Pairwise.cons (fun x hx => (rises_all ys y h.2.2 x hx).2) (ih y h.2.2)
theorem rises_lt {l : List Int} (h : l.Pairwise (· < ·)) {i j : Nat} (hij : i < j) (hj : j < l.length) : rd l (i : Int) < rd l (j : Int) := by
 rw [rd_nat l i (by omega), rd_nat l j hj]
 exact List.pairwise_iff_getElem.1 h i j (by omega) hj hij
theorem rises_of {l : List Int} : ∀ (p : Int), (∀ x ∈ l, isDay x ∧ p < x) → l.Pairwise (· < ·) → rises p l = true := by
 induction l with
 | nil => intro p _ _; rfl
 | cons y ys ih =>
  intro p h hp
  obtain ⟨h1, h2⟩ := h y (List.mem_cons_self)
  cases hp with
  | cons h3 h4 =>
   simp only [rises, Bool.and_eq_true, decide_eq_true_eq]
   exact ⟨h1, h2, ih y (fun x hx => ⟨(h x (List.mem_cons_of_mem _ hx)).1, h3 x hx⟩) h4⟩
theorem in_loop (l : List Int) (x : Int) (hm : l.length ≤ 1000000000) (d : Nat) : ∀ (k i : Nat), i ≤ l.length → l.length - i = d → d < k → PA.quittancehelp_In_int.l0 k l x (i : Int) = some ((l.drop i).contains x) := by
 induction d with
 | zero =>
  intro k i h1 h2 h3
  obtain ⟨k, rfl⟩ : ∃ m, k = m + 1 := ⟨k - 1, by omega⟩
  simp only [PA.quittancehelp_In_int.l0]
  rw [if_neg (by omega), List.drop_eq_nil_of_le (by omega)]; rfl
 | succ d ih =>
  intro k i h1 h2 h3
  obtain ⟨k, rfl⟩ : ∃ m, k = m + 1 := ⟨k - 1, by omega⟩
  simp only [PA.quittancehelp_In_int.l0]
  rw [if_pos (by omega), if_pos (by omega), rd_cons l i (by omega), List.contains_cons]
  by_cases e : rd l (i : Int) = x
  ·rw [if_pos e]; simp [e]
  ·have e' : (x == rd l (i : Int)) = false := by simpa using fun h => e h.symm
   rw [if_neg e, w64 (by omega) (by omega), show (i : Int) + 1 = ((i + 1 : Nat) : Int) by omega, ih k (i + 1) (by omega) (by omega) (by omega), e', Bool.false_or]
theorem in_is (l : List Int) (x : Int) (hm : l.length ≤ 1000000000) : PA.quittancehelp_In_int.f 1000000001 l x = some (l.contains x) := in_loop l x hm l.length 1000000001 0 (by omega) (by omega) (by omega)
theorem right_loop (l : List Int) (hm : l.length ≤ 1000000000) (d : Nat) : ∀ (k i : Nat) (p : Int), i ≤ l.length → l.length - i = d → d < k → (i = 0 ∧ p = -25568 ∨ 0 < i ∧ p = rd l ((i : Int) - 1)) →
  PA.quittanceref05_Right.l0 k l (i : Int) = some (rises p (l.drop i) && decide (l.length ≤ 200)) := by
 induction d with
 | zero =>
  intro k i p h1 h2 h3 hp
  obtain ⟨k, rfl⟩ : ∃ m, k = m + 1 := ⟨k - 1, by omega⟩
  simp only [PA.quittanceref05_Right.l0]
  rw [if_neg (by omega), List.drop_eq_nil_of_le (by omega)]
  simp only [rises, Bool.true_and]
  congr 1
  rw [decide_eq_decide]; omega
 | succ d ih =>
  intro k i p h1 h2 h3 hp
  obtain ⟨k, rfl⟩ : ∃ m, k = m + 1 := ⟨k - 1, by omega⟩
  simp only [PA.quittanceref05_Right.l0]
  rw [if_pos (by omega), if_pos (by omega), refIs, rd_cons l i (by omega)]
  simp only [Option.bind_some, rises]
  have hstep := ih k (i + 1) (rd l (i : Int)) (by omega) (by omega) (by omega) (Or.inr ⟨by omega, by rw [show (((i + 1 : Nat) : Int) - 1) = (i : Int) by omega]⟩)
  by_cases hd : isDay (rd l (i : Int))
  ·rw [decide_eq_true hd, if_pos rfl, Bool.true_and]
   rcases hp with ⟨rfl, rfl⟩ | ⟨h0, rfl⟩
   ·rw [if_neg (by omega), w64 (by omega) (by omega), show ((0 : Nat) : Int) + 1 = ((0 + 1 : Nat) : Int) by omega, hstep]
    have : decide (-25568 < rd l ((0 : Nat) : Int)) = true := decide_eq_true (by have := hd.1; omega)
    rw [this, Bool.true_and]
   ·rw [if_pos (by omega), w64 (x := (i : Int) - 1) (by omega) (by omega), if_pos (by omega), if_pos (by omega)]
    by_cases hle : rd l (i : Int) ≤ rd l ((i : Int) - 1)
    ·rw [if_pos hle, decide_eq_false (show ¬ rd l ((i : Int) - 1) < rd l (i : Int) by omega)]; rfl
    ·rw [if_neg hle, w64 (by omega) (by omega), show (i : Int) + 1 = ((i + 1 : Nat) : Int) by omega, hstep, decide_eq_true (show rd l ((i : Int) - 1) < rd l (i : Int) by omega), Bool.true_and]
  ·rw [decide_eq_false hd, if_neg (by decide)]; rfl
theorem right_is (l : List Int) (hm : l.length ≤ 1000000000) : PA.quittanceref05_Right.f 1000000001 l = some (rightB l) := right_loop l hm l.length 1000000001 0 (-25568) (by omega) (by omega) (by omega) (Or.inl ⟨rfl, rfl⟩)
theorem less_is (a b : Int) : PA.cmp_Less_int.f a b = some (decide (a < b)) := by simp [PA.cmp_Less_int.f, PA.cmp_isNaN_int.f]
theorem mid_is {x y : Int} (h0 : 0 ≤ x) (h1 : x < y) (h2 : y ≤ 1000000000) : wrap64 (IntKind.u64.wrap (wrap64 (x + y)) / 2) = (x + y) / 2 := by
 rw [w64 (x := x + y) (by omega) (by omega), show IntKind.u64.wrap (x + y) = x + y from IntWalk.u64_in _ (by omega), w64 (by omega) (by omega)]
theorem bs_loop (l : List Int) (x : Int) (hm : l.length ≤ 1000000000) (hs : l.Pairwise (· < ·)) (d : Nat) : ∀ (k lo hi : Nat), lo ≤ hi → hi ≤ l.length → hi - lo ≤ d → d < k →
  (∀ j : Nat, j < lo → rd l (j : Int) < x) → (∀ j : Nat, hi ≤ j → j < l.length → x ≤ rd l (j : Int)) → ∃ i, PA.slices_BinarySearch_int_int.l0 k l x (l.length : Int) (lo : Int) (hi : Int) = some (i, l.contains x) := by
 induction d with
 | zero =>
  intro k lo hi h1 h2 h3 h4 hL hH
  obtain ⟨k, rfl⟩ : ∃ m, k = m + 1 := ⟨k - 1, by omega⟩
  obtain rfl : hi = lo := by omega
  refine ⟨(hi : Int), ?_⟩
  have hc : l.contains x = true ↔ hi < l.length ∧ rd l (hi : Int) = x := by
   constructor
   ·intro h
    obtain ⟨j, hj, e⟩ := List.getElem_of_mem (List.contains_iff_mem.1 h)
    rw [← rd_nat l j hj] at e
    have a : ¬ j < hi := fun h => by have := hL j h; omega
    have b : hi < l.length := by omega
    refine ⟨b, ?_⟩
    by_cases c : j = hi
    ·rw [← c]; exact e
    ·have := rises_lt hs (show hi < j by omega) hj
     have := hH hi (Nat.le_refl _) b
     omega
   ·rintro ⟨h, e⟩
    rw [List.contains_iff_mem, ← e, rd_nat l hi h]
    exact List.getElem_mem _
  simp only [PA.slices_BinarySearch_int_int.l0]
  rw [if_neg (by omega)]
  by_cases hl : hi < l.length
  ·rw [if_pos (by omega), if_pos (by omega), if_pos (by omega)]
   by_cases e : rd l (hi : Int) = x
   ·rw [if_pos e, hc.2 ⟨hl, e⟩]
   ·rw [if_neg e]
    have : l.contains x = false := by rw [Bool.eq_false_iff]; exact fun h => e (hc.1 h).2
    rw [this]
    simp [PA.slices_isNaN_int.f]
  ·rw [if_neg (by omega)]
   have : l.contains x = false := by rw [Bool.eq_false_iff]; exact fun h => hl (hc.1 h).1
   rw [this]
 | succ d ih =>
  intro k lo hi h1 h2 h3 h4 hL hH
  by_cases hlt : lo < hi
  ·obtain ⟨k, rfl⟩ : ∃ m, k = m + 1 := ⟨k - 1, by omega⟩
   simp only [PA.slices_BinarySearch_int_int.l0]
   rw [if_pos (by omega), mid_is (by omega) (by omega) (by omega), if_pos (by omega), if_pos (by omega), less_is]
   simp only [Option.bind_some, decide_eq_true_eq]
   have em : ((lo : Int) + (hi : Int)) / 2 = (((lo + hi) / 2 : Nat) : Int) := by omega
   rw [em]
   by_cases hlx : rd l (((lo + hi) / 2 : Nat) : Int) < x
   ·rw [if_pos hlx, w64 (by omega) (by omega), show ((((lo + hi) / 2 : Nat) : Int) + 1) = (((lo + hi) / 2 + 1 : Nat) : Int) by omega]
    refine ih k _ hi (by omega) h2 (by omega) (by omega) (fun j hj => ?_) hH
    rcases (by omega : j < (lo + hi) / 2 ∨ j = (lo + hi) / 2) with h | rfl
    ·have := rises_lt hs h (by omega)
     omega
    ·exact hlx
   ·rw [if_neg hlx]
    refine ih k lo _ (by omega) (by omega) (by omega) (by omega) hL (fun j hj hj2 => ?_)
    rcases (by omega : (lo + hi) / 2 < j ∨ j = (lo + hi) / 2) with h | rfl
    ·have := rises_lt hs h hj2
     omega
    ·omega
  ·exact Nat.lt_irrefl 0 |> fun _ => by
    obtain ⟨i, h⟩ := ih k lo hi h1 h2 (by omega) (by omega) hL hH
    exact ⟨i, h⟩
theorem bs_is (l : List Int) (x : Int) (hm : l.length ≤ 1000000000) (hs : l.Pairwise (· < ·)) : ∃ i, PA.slices_BinarySearch_int_int.f 1000000001 l x = some (i, l.contains x) :=
 bs_loop l x hm hs l.length 1000000001 0 l.length (by omega) (by omega) (by omega) (by omega) (fun j hj => by omega) (fun j h1 h2 => by omega)
/-! ### Contracts, restated -/
def help_In_int.f (l : List Int) (x : Int) : Option Bool := if l.length ≤ 1000000000 then some (l.contains x) else none
theorem help_In_int.calls (A0 : Option Addr) (c0 : Nat) (l0 : List Int) (a1 : Int) (r : Bool) (w : World) (hr0 : Kd.C (Kd.int .i64) w A0 l0.length l0) (hc0 : l0.length ≤ c0) (h : help_In_int.f l0 a1 = some r) :
  Calls Tryz.prog 32 #[.slice A0 l0.length c0, .int .i64 a1] w fun e w' => e = .returned (.bool r) ∧ Drawn0 w w' := by
 unfold help_In_int.f at h
 split at h
 ·rename_i hm
  exact PA.quittancehelp_In_int.calls 1000000001 A0 c0 l0 a1 r w hr0 hc0 ((in_is l0 a1 hm).trans h)
 ·cases h
def ref05_Right.f (l : List Int) : Option Bool := if l.length ≤ 1000000000 then some (rightB l) else none
theorem ref05_Right.calls (A0 : Option Addr) (c0 : Nat) (l0 : List Int) (r : Bool) (w : World) (hr0 : Kd.C (Kd.int .i64) w A0 l0.length l0) (hc0 : l0.length ≤ c0) (h : ref05_Right.f l0 = some r) :
  Calls Tryz.prog 36 #[.slice A0 l0.length c0] w fun e w' => e = .returned (.bool r) ∧ Drawn0 w w' := by
 unfold ref05_Right.f at h
 split at h
 ·rename_i hm
  exact PA.quittanceref05_Right.calls 1000000001 A0 c0 l0 r w hr0 hc0 ((right_is l0 hm).trans h)
 ·cases h
theorem search_any (A0 : Option Addr) (c0 : Nat) (l0 : List Int) (a1 : Int) (w : World) (hr0 : Kd.C (Kd.int .i64) w A0 l0.length l0) (hc0 : l0.length ≤ c0) (hm : l0.length ≤ 1000000000) (hs : l0.Pairwise (· < ·)) :
  Calls Tryz.prog 100 #[.slice A0 l0.length c0, .int .i64 a1] w fun e w' => (∃ i : Int, e = .returned (.tuple #[.int .i64 i, .bool (l0.contains a1)])) ∧ Drawn0 w w' := by
 obtain ⟨i, h⟩ := bs_is l0 a1 hm hs
 exact (PA.slices_BinarySearch_int_int.calls 1000000001 A0 c0 l0 a1 _ _ w hr0 hc0 h).mono fun e w' ⟨h1, h2⟩ => ⟨⟨i, h1⟩, h2⟩
end Go.Proofs.YtfmkdledofbhdaaGreat.H
/- Contracts by hand: a calendar: which days are open. -/
namespace Go.Proofs.YtfmkdledofbhdaaGreat.H
open Go.RowKit Go.Proofs.YtfmkdledofbhdaaGreatW.PrintWords Go.Proofs.YtfmkdledofbhdaaGreatW.PrintLast Go.Proofs.YtfmkdledofbhdaaGreatW.PrintMore Go.Proofs.YtfmkdledofbhdaaGreat.HW
open Go.Proofs.YtfmkdledofbhdaaGreat.Math
set_option linter.unusedVariables false
set_option linter.unusedSimpArgs false
def CalAt (w : World) (gb : Nat) (l : List Int) : Prop := ∃ A c, w.cell? ⟨gb, 0, none⟩ = some (.slice A l.length c) ∧ Kd.C (Kd.int .i64) w A l.length l ∧ l.length ≤ c ∧ l.length ≤ 200 ∧ l.Pairwise (· < ·) ∧ gb < w.heap.size
theorem CalAt.below {w w1 : World} {gb : Nat} {l : List Int} (h : CalAt w gb l) (hb : Below w.heap.size w w1) : CalAt w1 gb l := by
 obtain ⟨A, c, h1, h2, h3, h4, h5, h6⟩ := h
 exact ⟨A, c, by rw [hb.cell (by exact h6)]; exact h1, Kd.C_below h2 hb, h3, h4, h5, Nat.lt_of_lt_of_le h6 hb.size⟩
theorem CalAt.drawn {w w1 : World} {gb : Nat} {l : List Int} (h : CalAt w gb l) (hb : Drawn0 w w1) : CalAt w1 gb l := h.below hb.below
def openB (l : List Int) (day : Int) : Bool := decide (isDay day) && (decide (weekday day < 5) && !(l.contains day))
theorem openB_day {l : List Int} {day : Int} (h : openB l day = true) : isDay day := by
 unfold openB at h
 simp only [Bool.and_eq_true, decide_eq_true_eq] at h
 exact h.1
theorem there_any (n : Int) (w : World) : Calls Tryz.prog 65 #[.int .i64 n] w fun e w' => e = .returned (.bool (decide (isDay n))) ∧ Drawn0 w w' := business_there.calls n _ w rfl
theorem wk_any (n : Int) (w : World) : Calls Tryz.prog 99 #[.int .i64 n] w fun e w' => e = .returned (.int .i64 (weekday n)) ∧ Drawn0 w w' := civil_Weekday.calls n _ w rfl
theorem open_any {gb : Nat} {l : List Int} {day : Int} {r : Bool} {w : World} (h : CalAt w gb l) (hr : openB l day = r) : Calls Tryz.prog 84 #[.pointer (some ⟨gb, 0, none⟩), .int .i64 day] w fun e w' => e = .returned (.bool r) ∧ Drawn0 w w' := by
 have HA := Aside0.mk h
 have HR := Aside0.mk hr
 clear h hr
 by_cases hd : isDay day
 ·by_cases hw : weekday day < 5
  ·have hd1 := decide_eq_true hd
   have hw1 : decide (5 ≤ weekday day) = false := decide_eq_false (by omega)
   have HO := Aside0.mk (show (!(l.contains day)) = r by rw [← HR.out]; unfold openB; rw [hd1, decide_eq_true hw]; rfl)
   clear hd hw HR
   obtain ⟨A, c, c1, c2, c3, c4, c5, c6⟩ := HA.out
   have C2 := Aside0.mk c2
   have C5 := Aside0.mk c5
   have C3 := Aside0.mk c3
   clear c2 c5 c3
   go_enter Tryz.func84, Tryz.ntmps84
   go_wp2_with fail
   refine (there_any day _).mono ?_
   rintro e w1 ⟨rfl, ⟨m1, rfl⟩⟩
   go_wp2_with fail
   refine (wk_any day _).mono ?_
   rintro e w2 ⟨rfl, ⟨m2, rfl⟩⟩
   go_wp2_with fail
   refine (search_any A c l day _ (Kd.C_drewN C2.out _) C3.out (by omega) C5.out).mono ?_
   rintro e w3 ⟨⟨i, rfl⟩, ⟨m3, rfl⟩⟩
   go_wp2_with fail
   go_ret
   exact ⟨by rw [← HO.out]; simp, ⟨_, rfl⟩⟩
  ·have hd1 := decide_eq_true hd
   have hw1 : decide (5 ≤ weekday day) = true := decide_eq_true (by omega)
   obtain rfl : r = false := by rw [← HR.out]; unfold openB; rw [hd1, decide_eq_false hw]; rfl
   clear hd hw HR HA
   go_enter Tryz.func84, Tryz.ntmps84
   go_wp2_with fail
   refine (there_any day _).mono ?_
   rintro e w1 ⟨rfl, ⟨m1, rfl⟩⟩
   go_wp2_with fail
   refine (wk_any day _).mono ?_
   rintro e w2 ⟨rfl, ⟨m2, rfl⟩⟩
   go_wp2_with fail
   go_ret
   exact ⟨rfl, ⟨_, rfl⟩⟩
 ·have hd1 := decide_eq_false hd
  obtain rfl : r = false := by rw [← HR.out]; unfold openB; rw [hd1]; rfl
  clear hd HR HA
  go_enter Tryz.func84, Tryz.ntmps84
  go_wp2_with fail
  refine (there_any day _).mono ?_
  rintro e w1 ⟨rfl, ⟨m1, rfl⟩⟩
  go_wp2_with fail
  go_ret
  exact ⟨rfl, ⟨_, rfl⟩⟩
def seekS (l : List Int) (step : Int) : Nat → Int → Int × Int
 | 0, _ => (0, 5)
 | k + 1, day => if isDay day then (if openB l day = true then (day, 0) else seekS l step k (day + step)) else (0, 5)
set_option maxHeartbeats 1000000 in
theorem seek_any {gb : Nat} {l : List Int} {day step : Int} {r1 r2 : Int} {w : World} (h : CalAt w gb l) (hs : step = 1 ∨ step = -1) (k0 : Nat) (hk : (if step = 1 then 84371 - day else day + 25568) < (k0 : Int)) (b1 : -1000000 ≤ day) (b2 : day ≤ 1000000) (hr : seekS l step k0 day = (r1, r2)) :
  Calls Tryz.prog 83 #[.func (.func 84) #[.pointer (some ⟨gb, 0, none⟩)] #[], .int .i64 day, .int .i64 step] w fun e w' => e = .returned (.tuple #[.int .i64 r1, .int .i64 r2]) ∧ Drawn0 w w' := by
 have HA := Aside0.mk h
 have HR := Aside0.mk hr
 have HS := Aside0.mk hs
 have HK := Aside0.mk hk
 have hsb : -1 ≤ step ∧ step ≤ 1 := by omega
 clear h hr hs hk
 go_enter Tryz.func83, Tryz.ntmps83
 go_wp2
 go_loopg [1] k0 (fun gq i w' => ∃ (x : Int), -1000000 ≤ x ∧ x ≤ 1000000 ∧ i = .int .i64 x ∧ Aside0 (seekS l step gq x = (r1, r2)) ∧ Aside0 ((if step = 1 then 84371 - x else x + 25568) < (gq : Int)) ∧ Drawn0 w w')
 case atStart => exact ⟨day, b1, b2, rfl, HR, HK, Drawn0.refl _⟩
 case round =>
  obtain ⟨x, x1, x2, rfl, hq, hm, ⟨m1, rfl⟩⟩ := hrel
  by_cases hd : isDay x
  ·have hd1 := decide_eq_true hd
   have hp : 0 < gk := by have := hm.out; unfold isDay at hd; split at this <;> omega
   obtain ⟨k, rfl⟩ : ∃ m, gk = m + 1 := ⟨gk - 1, by omega⟩
   have hx1 : -25567 ≤ x := hd.1
   have hx2 : x ≤ 84370 := hd.2
   cases ho : openB l x with
   | true =>
    have HO := Aside0.mk ho
    clear ho
    have e := hq.out
    simp only [seekS] at e
    rw [if_pos hd, if_pos HO.out] at e
    obtain ⟨rfl, rfl⟩ := Prod.mk.inj e
    clear hq hd e
    go_wp2_with fail
    refine (there_any x _).mono ?_
    rintro e w1 ⟨rfl, ⟨m2, rfl⟩⟩
    go_wp2_with fail
    refine (open_any (HA.out.drawn ⟨_, rfl⟩) HO.out).mono ?_
    rintro e w2 ⟨rfl, ⟨m3, rfl⟩⟩
    go_wp2_with fail
    refine (there_any x _).mono ?_
    rintro e w1 ⟨rfl, ⟨m4, rfl⟩⟩
    go_wp2_with fail
    go_ret2
    exact ⟨rfl, ⟨_, rfl⟩⟩
   | false =>
    have HO := Aside0.mk ho
    clear ho
    have HQ := Aside0.mk (show seekS l step k (x + step) = (r1, r2) by have := hq.out; simp only [seekS] at this; rw [if_pos hd, if_neg (by rw [HO.out]; decide)] at this; exact this)
    clear hq hd
    go_wp2_with fail
    refine (there_any x _).mono ?_
    rintro e w1 ⟨rfl, ⟨m2, rfl⟩⟩
    go_wp2_with fail
    refine (open_any (HA.out.drawn ⟨_, rfl⟩) HO.out).mono ?_
    rintro e w2 ⟨rfl, ⟨m3, rfl⟩⟩
    go_wp2_with fail
    go_roundg k
    case measure => omega
    case rel => exact ⟨x + step, by omega, by omega, rfl, HQ, ⟨by have h1 := hm.out; have h2 := HS.out; split at h1 <;> rename_i h3 <;> (first | rw [if_pos h3] | rw [if_neg h3]) <;> omega⟩, ⟨_, rfl⟩⟩
  ·have hd1 := decide_eq_false hd
   have e : ((0 : Int), (5 : Int)) = (r1, r2) := by
    rw [← hq.out]
    cases gk with
    | zero => rfl
    | succ k => simp only [seekS]; rw [if_neg hd]
   obtain ⟨rfl, rfl⟩ := Prod.mk.inj e
   clear hq hd e
   go_wp2_with fail
   refine (there_any x _).mono ?_
   rintro e w1 ⟨rfl, ⟨m2, rfl⟩⟩
   go_wp2_with fail
   refine (there_any x _).mono ?_
   rintro e w1 ⟨rfl, ⟨m4, rfl⟩⟩
   go_wp2_with fail
   go_ret2
   exact ⟨rfl, ⟨_, rfl⟩⟩
end Go.Proofs.YtfmkdledofbhdaaGreat.H
/- Contracts by hand: a day rolled. -/
namespace Go.Proofs.YtfmkdledofbhdaaGreat.H
open Go.RowKit Go.Proofs.YtfmkdledofbhdaaGreatW.PrintWords Go.Proofs.YtfmkdledofbhdaaGreatW.PrintLast Go.Proofs.YtfmkdledofbhdaaGreatW.PrintMore Go.Proofs.YtfmkdledofbhdaaGreat.HW
open Go.Proofs.YtfmkdledofbhdaaGreat.Math
set_option linter.unusedVariables false
set_option linter.unusedSimpArgs false
def mon (n : Int) : Int := 12 * (date n).1 + (date n).2.1
theorem month_any (n : Int) (w : World) : Calls Tryz.prog 85 #[.int .i64 n] w fun e w' => e = .returned (.int .i64 (mon n)) ∧ Below w.heap.size w w' := business_month.calls n _ w rfl
def rollS (l : List Int) (day how : Int) : Int × Int :=
 if ¬ isDay day then (0, 5) else if how < 1 ∨ 4 < how then (0, 1) else if how = 1 then (day, 0) else if how = 4 then seekS l (-1) 200000 day else
  if how = 3 ∧ ((seekS l 1 200000 day).2 ≠ 0 ∨ mon (seekS l 1 200000 day).1 ≠ mon day) then seekS l (-1) 200000 day else seekS l 1 200000 day
theorem seek_up {gb : Nat} {l : List Int} {day : Int} {r1 r2 : Int} {w : World} (h : CalAt w gb l) (hd : isDay day) (hr : seekS l 1 200000 day = (r1, r2)) :
  Calls Tryz.prog 83 #[.func (.func 84) #[.pointer (some ⟨gb, 0, none⟩)] #[], .int .i64 day, .int .i64 1] w fun e w' => e = .returned (.tuple #[.int .i64 r1, .int .i64 r2]) ∧ Drawn0 w w' := by
 obtain ⟨h1, h2⟩ := hd
 exact seek_any h (Or.inl rfl) 200000 (by rw [if_pos rfl]; omega) (by omega) (by omega) hr
theorem seek_down {gb : Nat} {l : List Int} {day : Int} {r1 r2 : Int} {w : World} (h : CalAt w gb l) (hd : isDay day) (hr : seekS l (-1) 200000 day = (r1, r2)) :
  Calls Tryz.prog 83 #[.func (.func 84) #[.pointer (some ⟨gb, 0, none⟩)] #[], .int .i64 day, .int .i64 (-1)] w fun e w' => e = .returned (.tuple #[.int .i64 r1, .int .i64 r2]) ∧ Drawn0 w w' := by
 obtain ⟨h1, h2⟩ := hd
 exact seek_any h (Or.inr rfl) 200000 (by rw [if_neg (by decide)]; omega) (by omega) (by omega) hr
set_option maxHeartbeats 1000000 in
theorem roll_any {gb : Nat} {l : List Int} {day how r1 r2 : Int} {w : World} (h : CalAt w gb l) (hr : rollS l day how = (r1, r2)) :
  Calls Tryz.prog 67 #[.pointer (some ⟨gb, 0, none⟩), .int .i64 day, .int .i64 how] w fun e w' => e = .returned (.tuple #[.int .i64 r1, .int .i64 r2]) ∧ Below w.heap.size w w' := by
 have HA := Aside0.mk h
 have HR := Aside0.mk hr
 clear h hr
 by_cases hd : isDay day
 ·have d1 := decide_eq_true hd
  have HD := Aside0.mk hd
  have e1 := HR.out
  unfold rollS at e1
  rw [if_neg (fun h => h hd)] at e1
  clear hd HR
  by_cases h1 : how < 1 ∨ 4 < how
  ·rw [if_pos h1] at e1
   obtain ⟨rfl, rfl⟩ := Prod.mk.inj e1
   clear e1
   by_cases h2 : how < 1
   ·clear h1
    go_enter Tryz.func67, Tryz.ntmps67
    go_wp2_with fail
    refine (there_any day _).mono ?_
    rintro e w1 ⟨rfl, ⟨m2, rfl⟩⟩
    go_wp2_with fail
    go_ret2
    exact ⟨rfl, pw_below_drewN (Below.refl _ _) _⟩
   ·have h3 : 4 < how := by omega
    clear h1
    go_enter Tryz.func67, Tryz.ntmps67
    go_wp2_with fail
    refine (there_any day _).mono ?_
    rintro e w1 ⟨rfl, ⟨m2, rfl⟩⟩
    go_wp2_with fail
    go_ret2
    exact ⟨rfl, pw_below_drewN (Below.refl _ _) _⟩
  ·rw [if_neg h1] at e1
   have q1 : 1 ≤ how := by omega
   have q2 : how ≤ 4 := by omega
   clear h1
   by_cases h2 : how = 1
   ·subst h2
    rw [if_pos rfl] at e1
    obtain ⟨rfl, rfl⟩ := Prod.mk.inj e1
    clear e1
    go_enter Tryz.func67, Tryz.ntmps67
    go_wp2_with fail
    refine (there_any day _).mono ?_
    rintro e w1 ⟨rfl, ⟨m2, rfl⟩⟩
    go_wp2_with fail
    go_ret2
    exact ⟨rfl, pw_below_drewN (Below.refl _ _) _⟩
   ·rw [if_neg h2] at e1
    by_cases h3 : how = 4
    ·subst h3
     rw [if_pos rfl] at e1
     have E1 := Aside0.mk e1
     clear e1 h2
     go_enter Tryz.func67, Tryz.ntmps67
     go_wp2_with fail
     refine (there_any day _).mono ?_
     rintro e w1 ⟨rfl, ⟨m2, rfl⟩⟩
     go_wp2_with fail
     refine (seek_down (HA.out.drawn ⟨_, rfl⟩) HD.out E1.out).mono ?_
     rintro e w1 ⟨rfl, ⟨m3, rfl⟩⟩
     go_wp2_with fail
     go_ret2
     exact ⟨rfl, pw_below_drewN (Below.refl _ _) _⟩
    ·rw [if_neg h3] at e1
     obtain ⟨n1, n2, hn⟩ : ∃ n1 n2, seekS l 1 200000 day = (n1, n2) := ⟨_, _, rfl⟩
     rw [hn] at e1
     have HN := Aside0.mk hn
     clear hn
     by_cases h4 : how = 3
     ·subst h4
      by_cases h5 : n2 = 0
      ·subst h5
       obtain ⟨ma, hma⟩ : ∃ x, mon n1 = x := ⟨_, rfl⟩
       obtain ⟨mb, hmb⟩ : ∃ x, mon day = x := ⟨_, rfl⟩
       rw [hma, hmb] at e1
       have MA := Aside0.mk hma
       have MB := Aside0.mk hmb
       clear hma hmb h2 h3
       by_cases h6 : ma = mb
       ·rw [if_neg (by intro h; rcases h.2 with h | h; exact h rfl; exact h h6)] at e1
        obtain ⟨rfl, rfl⟩ := Prod.mk.inj e1
        subst h6
        clear e1
        go_enter Tryz.func67, Tryz.ntmps67
        go_wp2_with fail
        refine (there_any day _).mono ?_
        rintro e w1 ⟨rfl, ⟨m2, rfl⟩⟩
        go_wp2_with fail
        refine (seek_up (HA.out.drawn ⟨_, rfl⟩) HD.out HN.out).mono ?_
        rintro e w1 ⟨rfl, ⟨m3, rfl⟩⟩
        go_wp2_with fail
        refine (month_any n1 _).mono ?_
        rw [MA.out]
        rintro e w1 ⟨rfl, hb1⟩
        have B1 := Aside0.mk (below_step (pw_below_drewN (Below.refl w.heap.size w) _) hb1)
        clear hb1
        go_wp2_with fail
        refine (month_any day _).mono ?_
        rw [MB.out]
        rintro e w2 ⟨rfl, hb2⟩
        have B2 := Aside0.mk (below_step B1.out hb2)
        clear hb2
        go_wp2_with fail
        go_ret2
        exact ⟨rfl, B2.out⟩
       ·rw [if_pos ⟨rfl, Or.inr h6⟩] at e1
        have E1 := Aside0.mk e1
        clear e1
        go_enter Tryz.func67, Tryz.ntmps67
        go_wp2_with fail
        refine (there_any day _).mono ?_
        rintro e w1 ⟨rfl, ⟨m2, rfl⟩⟩
        go_wp2_with fail
        refine (seek_up (HA.out.drawn ⟨_, rfl⟩) HD.out HN.out).mono ?_
        rintro e w1 ⟨rfl, ⟨m3, rfl⟩⟩
        go_wp2_with fail
        refine (month_any n1 _).mono ?_
        rw [MA.out]
        rintro e w1 ⟨rfl, hb1⟩
        have B1 := Aside0.mk (below_step (pw_below_drewN (Below.refl w.heap.size w) _) hb1)
        clear hb1
        go_wp2_with fail
        refine (month_any day _).mono ?_
        rw [MB.out]
        rintro e w2 ⟨rfl, hb2⟩
        have B2 := Aside0.mk (below_step B1.out hb2)
        clear hb2
        go_wp2_with fail
        refine (seek_down (HA.out.below B2.out) HD.out E1.out).mono ?_
        rintro e w3 ⟨rfl, ⟨m4, rfl⟩⟩
        go_wp2_with fail
        go_ret2
        exact ⟨rfl, pw_below_drewN B2.out _⟩
      ·rw [if_pos ⟨rfl, Or.inl h5⟩] at e1
       have E1 := Aside0.mk e1
       have h5b : (n2 != 0) = true := by simpa using h5
       clear e1 h2 h3 h5
       go_enter Tryz.func67, Tryz.ntmps67
       go_wp2_with fail
       refine (there_any day _).mono ?_
       rintro e w1 ⟨rfl, ⟨m2, rfl⟩⟩
       go_wp2_with fail
       refine (seek_up (HA.out.drawn ⟨_, rfl⟩) HD.out HN.out).mono ?_
       rintro e w1 ⟨rfl, ⟨m3, rfl⟩⟩
       go_wp2_with fail
       refine (seek_down (HA.out.drawn ⟨_, rfl⟩) HD.out E1.out).mono ?_
       rintro e w3 ⟨rfl, ⟨m4, rfl⟩⟩
       go_wp2_with fail
       go_ret2
       exact ⟨rfl, pw_below_drewN (Below.refl _ _) _⟩
     ·rw [if_neg (fun h => h4 h.1)] at e1
      obtain ⟨rfl, rfl⟩ := Prod.mk.inj e1
      obtain rfl : how = 2 := by omega
      clear e1 h2 h3 h4
      go_enter Tryz.func67, Tryz.ntmps67
      go_wp2_with fail
      refine (there_any day _).mono ?_
      rintro e w1 ⟨rfl, ⟨m2, rfl⟩⟩
      go_wp2_with fail
      refine (seek_up (HA.out.drawn ⟨_, rfl⟩) HD.out HN.out).mono ?_
      rintro e w1 ⟨rfl, ⟨m3, rfl⟩⟩
      go_wp2_with fail
      go_ret2
      exact ⟨rfl, pw_below_drewN (Below.refl _ _) _⟩
 ·have d1 := decide_eq_false hd
  have e1 := HR.out
  unfold rollS at e1
  rw [if_pos hd] at e1
  obtain ⟨rfl, rfl⟩ := Prod.mk.inj e1
  clear hd HR e1
  go_enter Tryz.func67, Tryz.ntmps67
  go_wp2_with fail
  refine (there_any day _).mono ?_
  rintro e w1 ⟨rfl, ⟨m2, rfl⟩⟩
  go_wp2_with fail
  go_ret2
  exact ⟨rfl, pw_below_drewN (Below.refl _ _) _⟩
end Go.Proofs.YtfmkdledofbhdaaGreat.H
/- Contracts by hand: a list of numbers cloned; a calendar made. -/
namespace Go.Proofs.YtfmkdledofbhdaaGreat.H
open Go.RowKit Go.Proofs.YtfmkdledofbhdaaGreatW.PrintWords Go.Proofs.YtfmkdledofbhdaaGreatW.PrintLast Go.Proofs.YtfmkdledofbhdaaGreatW.PrintMore Go.Proofs.YtfmkdledofbhdaaGreat.HW
open Go.Proofs.YtfmkdledofbhdaaGreat.Math
set_option linter.unusedVariables false
set_option linter.unusedSimpArgs false
theorem info_int : (Tryz.prog.info? 3).map (fun i => (i.zero, i.size, i.bytes)) = some (some (.int .i64 0), 1, 8) := by kernel_rfl
def Cloned (l : List Int) (w : World) (e : Ending) (w' : World) : Prop := ∃ A c, e = .returned (.slice A l.length c) ∧ Kd.C (Kd.int .i64) w' A l.length l ∧ l.length ≤ c ∧ Below w.heap.size w w' ∧ (∀ ad, A = some ad → w.heap.size ≤ ad.block)
theorem clone_nil (w : World) : Calls Tryz.prog 66 #[.slice none 0 0] w (Cloned [] w) := by
 have hnil := fun (w : World) => Lib.run_eql_slice_nil (P := Tryz.prog) w 25 3 none 0 0 0 0 Tryz.underlying25
 go_enter Tryz.func66, Tryz.ntmps66
 go_wp2_with fail
 go_ret
 exact ⟨none, 0, rfl, ⟨rfl, by simp, fun h => absurd h (Nat.lt_irrefl 0)⟩, Nat.le_refl _, Below.refl _ _, fun ad h => by cases h⟩
theorem clone_some (ad : Addr) (c0 : Nat) (l : List Int) (w : World) (hr0 : Kd.C (Kd.int .i64) w (some ad) l.length l) (hc0 : l.length ≤ c0) (hm : l.length ≤ 1000000) : Calls Tryz.prog 66 #[.slice (some ad) l.length c0] w (Cloned l w) := by
 have HN : ∀ j u, (nums .i64 l)[j]? = some u → (w.alloc (.cells #[] 3)).cell? (ad.add j) = some u := by
  intro j u hu
  have hj : j < l.length := by
   rcases Nat.lt_or_ge j l.length with h | h
   ·exact h
   ·rw [List.getElem?_eq_none (by rw [nums_length]; exact h)] at hu; cases hu
  obtain ⟨ad', e, hc⟩ := Kd.at_int (Kd.C_below hr0 ((Below.refl w.heap.size w).alloc (Nat.le_refl _) (.cells #[] 3))) (j : Int) (by omega) (by omega)
  obtain rfl : ad = ad' := Option.some.inj e
  rw [Int.toNat_natCast] at hc
  rw [hc, ← hu, rd_nat l j hj]
  simp [nums, hj]
 have HNN := Aside0.mk HN
 clear hr0 HN
 have hown : (w.alloc (.cells #[] 3)).ownsRow w.heap.size 3 1 (.slice (some ⟨w.heap.size, 0, none⟩) 0 0) 0 [] :=
  ⟨rfl, Or.inr ⟨w.heap.size, 0, #[], rfl, Nat.le_refl _, heap_alloc_new w _, Nat.le_refl _, Nat.zero_le _, rfl, rfl⟩⟩
 have HO := Aside0.mk hown
 clear hown
 obtain ⟨i0, hi, hz0, hz1, hz2⟩ := info_parts info_int
 have hnil := fun (w : World) => Lib.run_eql_slice_nil (P := Tryz.prog) w 25 3 (some ad) l.length c0 0 0 Tryz.underlying25
 go_enter Tryz.func66, Tryz.ntmps66
 go_wp2_with ((at_builtin; refine wpList_append_own _ rfl _ _ 25 rfl w.heap.size 3 i0 (.int .i64 0) 1 8 Tryz.underlying25 hi hz0 hz1 hz2 rfl (by decide) _ 0 [] rfl HO.out ad l.length c0 (nums .i64 l) rfl (by simp [nums]) HNN.out (by intro u hu; simp [nums] at hu; obtain ⟨a, _, rfl⟩ := hu; rfl) (by unfold maxLen; omega) (by omega) (by simp) ?_); intro v' w1 hown1 hgrow _)
 have hown2 : w1.ownsRow w.heap.size 3 1 v' l.length (encs (Value.int .i64) l) := by simpa [nums, encs] using hown1
 obtain ⟨A, c, rfl, hle, hr⟩ := own_reads_of_le (d := (0 : Int)) hown2
 have hb : Below w.heap.size w w1 := ((Below.refl w.heap.size w).alloc (Nat.le_refl _) (.cells #[] 3)).grown hgrow (by simp) (fun k hk => by cases hk; exact Nat.le_refl _)
 have hbs : ∀ ad, A = some ad → w.heap.size ≤ ad.block := fun ad e => own_base hown2 _ (by rw [e]; rfl)
 have HBS := Aside0.mk hbs
 clear hbs
 have HB := Aside0.mk hb
 have HC := Aside0.mk (show Kd.C (Kd.int .i64) w1 A l.length l from Kd.C_of_reads hr)
 clear hown1 hown2 hgrow hr hb
 go_wp2
 go_ret
 exact ⟨A, c, rfl, HC.out, hle, HB.out, HBS.out⟩
theorem clone_any (A0 : Option Addr) (c0 : Nat) (l : List Int) (w : World) (hr0 : Kd.C (Kd.int .i64) w A0 l.length l) (hc0 : l.length ≤ c0) (hn : A0 = none → c0 = 0) (hm : l.length ≤ 1000000) : Calls Tryz.prog 66 #[.slice A0 l.length c0] w (Cloned l w) := by
 cases A0 with
 | some ad => exact clone_some ad c0 l w hr0 hc0 hm
 | none =>
  obtain rfl := hn rfl
  obtain rfl : l = [] := List.eq_nil_of_length_eq_zero (by omega)
  exact clone_nil w
theorem new_many (A0 : Option Addr) (c0 : Nat) (l : List Int) (w : World) (h200 : 200 < l.length) (hm : l.length ≤ 1000000) :
  Calls Tryz.prog 39 #[.slice A0 l.length c0] w fun e w' => e = .returned (.tuple #[.pointer none, .int .i64 1]) ∧ Drawn0 w w' := by
 go_enter Tryz.func39, Tryz.ntmps39
 go_wp2_with fail
 go_ret2
 exact ⟨rfl, Drawn0.refl _⟩
def CalIn (B : Nat) (w : World) (gb : Nat) (l : List Int) : Prop := ∃ A c, w.cell? ⟨gb, 0, none⟩ = some (.slice A l.length c) ∧ Kd.C (Kd.int .i64) w A l.length l ∧ l.length ≤ c ∧ l.length ≤ 200 ∧ l.Pairwise (· < ·) ∧ gb < w.heap.size ∧ (∀ ad, A = some ad → B ≤ ad.block)
theorem CalIn.at {B : Nat} {w : World} {gb : Nat} {l : List Int} (h : CalIn B w gb l) : CalAt w gb l := by
 obtain ⟨A, c, h1, h2, h3, h4, h5, h6, _⟩ := h
 exact ⟨A, c, h1, h2, h3, h4, h5, h6⟩
def Made2 (l : List Int) (b : Bool) (w : World) (e : Ending) (w' : World) : Prop := Below w.heap.size w w' ∧ (b = false → e = .returned (.tuple #[.pointer none, .int .i64 1])) ∧ (b = true → ∃ gb, w.heap.size ≤ gb ∧ e = .returned (.tuple #[.pointer (some ⟨gb, 0, none⟩), .int .i64 0]) ∧ CalIn w.heap.size w' gb l)
set_option maxHeartbeats 1000000 in
theorem new_few2 (A0 : Option Addr) (c0 : Nat) (l : List Int) (b : Bool) (w : World) (hr0 : Kd.C (Kd.int .i64) w A0 l.length l) (hc0 : l.length ≤ c0) (hn : A0 = none → c0 = 0) (hm : l.length ≤ 200) (hb : rises (-25568) l = b) :
  Calls Tryz.prog 39 #[.slice A0 l.length c0] w (Made2 l b w) := by
 have HR0 := Aside0.mk hr0
 have HB := Aside0.mk hb
 have HN := Aside0.mk hn
 clear hr0 hb hn
 go_enter Tryz.func39, Tryz.ntmps39
 go_wp2_with fail
 go_loopg [11] (l.length + 1) (fun gq i w' => ∃ (k : Nat) (p : Int), k ≤ l.length ∧ i = .int .i64 k ∧ Aside0 (gq = l.length + 1 - k) ∧ Aside0 (k = 0 ∧ p = -25568 ∨ 0 < k ∧ p = rd l ((k : Int) - 1)) ∧ Aside0 (rises p (l.drop k) = b) ∧ Drawn0 w w')
 case atStart => exact ⟨0, -25568, Nat.zero_le _, rfl, ⟨rfl⟩, ⟨Or.inl ⟨rfl, rfl⟩⟩, ⟨by rw [← HB.out]; rfl⟩, Drawn0.refl _⟩
 case round =>
  obtain ⟨k, p, hk, rfl, hg, hp, hq, ⟨m1, rfl⟩⟩ := hrel
  by_cases hlt : k < l.length
  ·obtain ⟨ad, e0, hx0⟩ := Kd.at_int HR0.out (k : Int) (by omega) (by omega)
   subst e0
   rw [Int.toNat_natCast] at hx0
   have hrc := hq.out
   rw [rd_cons l k hlt] at hrc
   simp only [rises] at hrc
   have HX : Aside0 (∀ j : Nat, j < l.length → w.cell? (ad.add j) = some (.int .i64 (rd l (j : Int)))) := ⟨fun j hj => by
    obtain ⟨ad', e', hx'⟩ := Kd.at_int HR0.out (j : Int) (by omega) (by omega)
    obtain rfl : ad = ad' := Option.some.inj e'
    rw [Int.toNat_natCast] at hx'
    exact hx'⟩
   by_cases hd : isDay (rd l (k : Int))
   ·have d1 := decide_eq_true hd
    rw [d1, Bool.true_and] at hrc
    rcases (by omega : k = 0 ∨ 0 < k) with h0 | h0
    ·have hp0 : p = -25568 := by rcases hp.out with h | h <;> omega
     have hlt2 : decide (p < rd l (k : Int)) = true := decide_eq_true (by have := hd.1; omega)
     rw [hlt2, Bool.true_and] at hrc
     have HQ := Aside0.mk hrc
     have g1 : (k : Int) ≤ 0 := by omega
     clear hrc hq hd hlt2 hp0 hp h0
     go_wp2_with fail
     refine (there_any _ _).mono ?_
     rintro e w1 ⟨rfl, ⟨m2, rfl⟩⟩
     go_wp2_with fail
     go_roundg (l.length + 1 - (k + 1))
     case measure => have := hg.out; omega
     case rel => exact ⟨k + 1, rd l (k : Int), by omega, by simp, ⟨rfl⟩, ⟨Or.inr ⟨by omega, by congr 1; omega⟩⟩, HQ, ⟨_, rfl⟩⟩
    ·have hx1 := HX.out (k - 1) (by omega)
     have hp1 : p = rd l (((k - 1 : Nat) : Int)) := by
      rcases hp.out with h | h
      ·omega
      ·rw [h.2]; congr 1; omega
     have g1 : (0 : Int) ≤ (k : Int) - 1 := by omega
     by_cases hlt2 : p < rd l (k : Int)
     ·rw [decide_eq_true hlt2, Bool.true_and] at hrc
      have HQ := Aside0.mk hrc
      have hle2 : decide (rd l (k : Int) ≤ rd l (((k - 1 : Nat) : Int))) = false := decide_eq_false (by omega)
      clear hrc hq hd hlt2 hp1 hp
      go_wp2_with fail
      refine (there_any _ _).mono ?_
      rintro e w1 ⟨rfl, ⟨m2, rfl⟩⟩
      go_wp2_with fail
      go_roundg (l.length + 1 - (k + 1))
      case measure => have := hg.out; omega
      case rel => exact ⟨k + 1, rd l (k : Int), by omega, by simp, ⟨rfl⟩, ⟨Or.inr ⟨by omega, by congr 1; omega⟩⟩, HQ, ⟨_, rfl⟩⟩
     ·rw [decide_eq_false hlt2, Bool.false_and] at hrc
      subst hrc
      have hle2 : decide (rd l (k : Int) ≤ rd l (((k - 1 : Nat) : Int))) = true := decide_eq_true (by omega)
      clear hq hd hlt2 hp1 hp
      go_wp2_with fail
      refine (there_any _ _).mono ?_
      rintro e w1 ⟨rfl, ⟨m2, rfl⟩⟩
      go_wp2_with fail
      go_ret2
      exact ⟨pw_below_drewN (Below.refl _ _) _, fun _ => rfl, fun h => by cases h⟩
   ·have d1 := decide_eq_false hd
    rw [d1, Bool.false_and] at hrc
    subst hrc
    clear hd hq
    go_wp2_with fail
    refine (there_any _ _).mono ?_
    rintro e w1 ⟨rfl, ⟨m2, rfl⟩⟩
    go_wp2_with fail
    go_ret2
    exact ⟨pw_below_drewN (Below.refl _ _) _, fun _ => rfl, fun h => by cases h⟩
  ·have hk2 : k = l.length := by omega
   subst hk2
   have hrc := hq.out
   rw [List.drop_length] at hrc
   obtain rfl : b = true := by rw [← hrc]; rfl
   clear hq
   go_wp2_with fail
   refine (clone_any A0 c0 l _ (Kd.C_drewN HR0.out _) hc0 HN.out (by omega)).mono ?_
   rintro e w1 ⟨A, c, rfl, hc1, hle, hbl, hbs⟩
   have HBS := Aside0.mk hbs
   clear hbs
   have HC1 := Aside0.mk hc1
   have HBL := Aside0.mk hbl
   clear hc1 hbl
   have hBsz := HBL.out.size
   have hgb : (w1.alloc (.cells #[.slice A l.length c] 116)).cell? ⟨w1.heap.size, 0, none⟩ = some (.slice A l.length c) := by simp [go_sem]
   have HCA := Aside0.mk (show CalIn w.heap.size (w1.alloc (.cells #[.slice A l.length c] 116)) w1.heap.size l from ⟨A, c, hgb, Kd.C_below HC1.out ((Below.refl _ _).alloc (Nat.le_refl _) _), hle, hm, rises_pair l _ HB.out, by simp, by have := HBS.out; simpa using this⟩)
   have HBB := Aside0.mk ((pw_below_drewN (Below.refl w.heap.size w) (m1)).trans (HBL.out.mono (by simp)))
   clear hgb
   go_wp2_with fail
   go_ret2
   exact ⟨HBB.out.alloc HBB.out.size _, (fun h => by cases h), fun _ => ⟨w1.heap.size, HBB.out.size, rfl, HCA.out⟩⟩
end Go.Proofs.YtfmkdledofbhdaaGreat.H
/- Plain law: which day is found, a step at a time. -/
namespace Go.Proofs.YtfmkdledofbhdaaGreat.H
open Go.RowKit Go.Proofs.YtfmkdledofbhdaaGreatW.PrintWords Go.Proofs.YtfmkdledofbhdaaGreatW.PrintLast Go.Proofs.YtfmkdledofbhdaaGreatW.PrintMore Go.Proofs.YtfmkdledofbhdaaGreat.HW
open Go.Proofs.YtfmkdledofbhdaaGreat.Math
set_option linter.unusedVariables false
set_option linter.unusedSimpArgs false
theorem seekS_succ (l : List Int) (step : Int) (k : Nat) (day : Int) : seekS l step (k + 1) day = if isDay day then (if openB l day = true then (day, 0) else seekS l step k (day + step)) else (0, 5) := rfl
theorem seek_self {l : List Int} {x step : Int} (h : openB l x = true) : seekS l step 200000 x = (x, 0) := by
 rw [show (200000 : Nat) = 199999 + 1 from rfl, seekS_succ, if_pos (openB_day h), if_pos h]
/-! ### Some days, that rise -/
def Some (lo hi : Int) (s : List Int) : Prop := s.Pairwise (· < ·) ∧ ∀ x ∈ s, lo ≤ x ∧ x ≤ hi
theorem Some.nil (lo hi : Int) : Some lo hi [] := ⟨List.Pairwise.nil, by simp⟩
theorem Some.snoc {lo hi x : Int} {s : List Int} (h : Some lo hi s) (h1 : lo ≤ x) (h2 : x ≤ hi) (h3 : s = [] ∨ rd s ((s.length : Int) - 1) < x) : Some lo hi (s ++ [x]) := by
 obtain ⟨p, a⟩ := h
 refine ⟨List.pairwise_append.2 ⟨p, List.pairwise_singleton _ _, fun y hy z hz => ?_⟩, fun y hy => ?_⟩
 ·obtain rfl : z = x := by simpa using hz
  rcases h3 with rfl | h3
  ·simp at hy
  ·obtain ⟨j, hj, e⟩ := List.getElem_of_mem hy
   rw [← rd_nat s j hj] at e
   have hl : ((s.length : Int) - 1) = ((s.length - 1 : Nat) : Int) := by omega
   rw [hl] at h3
   rcases (by omega : j < s.length - 1 ∨ j = s.length - 1) with h | h
   ·have := rises_lt p h (by omega)
    omega
   ·rw [h] at e; omega
 ·rcases List.mem_append.1 hy with h | h
  ·exact a y h
  ·obtain rfl : y = x := by simpa using h
   exact ⟨h1, h2⟩
theorem Some.right {lo hi : Int} {s : List Int} (h : Some lo hi s) (h1 : isDay lo) (h2 : isDay hi) (hl : s.length ≤ 200) : rightB s = true := by
 unfold rightB
 rw [decide_eq_true hl, Bool.and_true]
 exact rises_of _ (fun x hx => by obtain ⟨a, b⟩ := h.2 x hx; have := h1.1; have := h2.2; exact ⟨⟨by omega, by omega⟩, by omega⟩) h.1
end Go.Proofs.YtfmkdledofbhdaaGreat.H
namespace Go.Proofs.YtfmkdledofbhdaaGreat.PBU
open Go.RowKit Go.Proofs.YtfmkdledofbhdaaGreatW.PrintWords Go.Proofs.YtfmkdledofbhdaaGreatW.PrintLast Go.Proofs.YtfmkdledofbhdaaGreatW.PrintMore Go.Proofs.YtfmkdledofbhdaaGreat.HW
attribute [local go_sem] run_makeFunc_ max2_int min2_int max_two min_two max_three min_three max_four min_four   -- for this text's walks alone
set_option linter.unusedVariables false
set_option linter.unusedSimpArgs false
def errW : Option Int → Value
 | none => .nilIface
 | some c => .iface 0 (.int .i64 c)
theorem errW_none : errW none = .nilIface := rfl
theorem errW_some (c : Int) : errW (some c) = .iface 0 (.int .i64 c) := rfl
end Go.Proofs.YtfmkdledofbhdaaGreat.PBU
