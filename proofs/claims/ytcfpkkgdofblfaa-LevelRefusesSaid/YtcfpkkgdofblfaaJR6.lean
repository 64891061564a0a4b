/- Texts of this claim, joined in build order. -/
import Derived.RowKit
import Derived.Below
import Derived.Deep.Draws
import Derived.Deep.AppendLies
import Derived.Maps.AppendAt
import Derived.OwnWalk
import Derived.Laws.BytesArg
import Derived.Laws.MakeOwn
import Derived.Laws.OwnMore
import Derived.Tactics
import Derived.Lib.ConvBytes
import Derived.Laws.Slices
import Derived.WalkKit
import Derived.KernelRfl
import Derived.RowKit3
import Derived.Deep.LoopGhost
import Derived.Deep.QuietTactic
import Derived.BigQuiet
import Derived.WideLaws
import Derived.Deep.DeepCutAuto
import Derived.Deep.CutBlock
import Derived.Deep.RegionHeld3
import Derived.Lib.AppendStr
import Derived.ArgAppend
import Derived.Laws.IdiomCopy
import Derived.OrdersHeld
import Derived.Laws.BitsLemmas
import Derived.Test.YtcfpkkgdofblfaaProg
import Derived.WalkLawsBesides
import Derived.WalkSpells
import Derived.Lib.IndexMore
import Derived.Deep.Slices
import Derived.Deep.Fields
import Derived.ChangeSame
import Derived.Lib.SmallJoins
import Derived.ProofKit
import Derived.Defers
import Derived.Laws.Tables
import Derived.Deep.WholeRow
import Derived.Recover
import Derived.StillTailTactics
import Derived.Shelf.Small.Bits
import Derived.Shelf.Strconv.Itoa0
import Derived.Shelf.Strings.Search1
import Derived.Shelf.Strings.Search2
import Derived.Shelf.Strings.Search3
import Derived.Shelf.LaysM
import Derived.Shelf.Strings.Shaped
import Derived.Shelf.Bits.Mul64
import Derived.Lib.SlBytesConst
import Derived.Deep.RegionWith
import Derived.IntWalk
import Derived.Lib.Hide
import Derived.BigFrame
import Derived.Laws.StructEq
import Derived.Lib.BitFns
import Derived.Laws.BitsAllLaws
import Derived.Laws.Externs
import Derived.RegionTactic
import Derived.Deep.MidRow
import Derived.OpenShut
import Derived.ShutString
import Derived.ChangeOld
import Derived.SizedLaws
import Derived.HandedShaped
import Derived.Shelf.Vars
import Derived.Test.YtcfpkkgdofblfaaJR1
import Derived.Test.YtcfpkkgdofblfaaJR2
import Derived.Test.YtcfpkkgdofblfaaJR3
import Derived.Test.YtcfpkkgdofblfaaJR4
import Derived.Test.YtcfpkkgdofblfaaJR5
set_option linter.unusedVariables false
set_option linter.unusedSimpArgs false
-- Written by a program of this session (wip/tools/myprint.py) with the help of the printer of the kit; Lean checks it.
namespace Go.Proofs.Ytcfpkkgdofblfaa.PBU
open Go.RowKit Go.Proofs.YtcfpkkgdofblfaaW.PrintWords Go.Proofs.YtcfpkkgdofblfaaW.PrintLast Go.Proofs.YtcfpkkgdofblfaaW.PrintMore Go.Proofs.Ytcfpkkgdofblfaa.HW
attribute [local go_sem] run_makeFunc_ max2_int min2_int max_two min_two max_three min_three max_four min_four   -- for this text's walks alone
set_option linter.unusedVariables false
set_option linter.unusedSimpArgs false

/-! ### quittanceref05_Open: function 20 -/
def quittanceref05_Open.f (l0 : List Int) (a1 : Int) : Option (Bool) := (Go.Proofs.Ytcfpkkgdofblfaa.H.quittanceref03_Is.f a1).bind fun t101 => (if t101 = true then ((Go.Proofs.Ytcfpkkgdofblfaa.H.quittanceref03_Weekday.f a1).bind fun t102 => (if t102 < 5 then ((Go.Proofs.Ytcfpkkgdofblfaa.H.help_In_int.f l0 a1).bind fun t103 => (some (!t103))) else (some false))) else (some false))
set_option maxHeartbeats 8000000 in
set_option maxRecDepth 100000 in
theorem quittanceref05_Open.calls (A0 : Option Addr) (c0 : Nat) (l0 : List Int) (a1 : Int) (r : Bool) (w : World) (hr0 : Kd.C (Kd.int .i64) w A0 l0.length l0) (hc0 : l0.length ≤ c0) (h : quittanceref05_Open.f l0 a1 = some r) :
    Calls Try.prog 20 #[.slice A0 l0.length c0, .int .i64 a1] w fun e w' => e = .returned (.bool r) ∧ Drawn0 w w' := by
  have HR0 := Aside0.mk hr0
  have HC0 := Aside0.mk hc0
  clear hr0 hc0
  have H : ((Go.Proofs.Ytcfpkkgdofblfaa.H.quittanceref03_Is.f a1).bind fun t101 => (if t101 = true then ((Go.Proofs.Ytcfpkkgdofblfaa.H.quittanceref03_Weekday.f a1).bind fun t102 => (if t102 < 5 then ((Go.Proofs.Ytcfpkkgdofblfaa.H.help_In_int.f l0 a1).bind fun t103 => (some (!t103))) else (some false))) else (some false))) = some r := h
  clear h
  replace H := Option.bind_eq_some_iff.mp H
  obtain ⟨t101, A30, H⟩ := H
  replace H : (if t101 = true then ((Go.Proofs.Ytcfpkkgdofblfaa.H.quittanceref03_Weekday.f a1).bind fun t102 => (if t102 < 5 then ((Go.Proofs.Ytcfpkkgdofblfaa.H.help_In_int.f l0 a1).bind fun t103 => (some (!t103))) else (some false))) else (some false)) = some r := H
  have A3 := Aside0.mk A30
  clear A30
  by_cases c4 : t101 = true
  · subst c4
    have H1 : ((Go.Proofs.Ytcfpkkgdofblfaa.H.quittanceref03_Weekday.f a1).bind fun t102 => (if t102 < 5 then ((Go.Proofs.Ytcfpkkgdofblfaa.H.help_In_int.f l0 a1).bind fun t103 => (some (!t103))) else (some false))) = some r := by rw [if_pos rfl] at H; exact H
    clear H
    have H := H1
    clear H1
    replace H := Option.bind_eq_some_iff.mp H
    obtain ⟨t102, A50, H⟩ := H
    replace H : (if t102 < 5 then ((Go.Proofs.Ytcfpkkgdofblfaa.H.help_In_int.f l0 a1).bind fun t103 => (some (!t103))) else (some false)) = some r := H
    have A5 := Aside0.mk A50
    clear A50
    by_cases c6 : t102 < 5
    · rw [if_pos c6] at H
      have c6b0 : decide (t102 < 5) = true := decide_eq_true c6
      clear c6
      replace H := Option.bind_eq_some_iff.mp H
      obtain ⟨t103, A70, H⟩ := H
      replace H : (some (!t103)) = some r := H
      have A7 := Aside0.mk A70
      clear A70
      obtain rfl := Option.some.inj H
      go_enter Try.func20, Try.ntmps20
      go_wp2_with (first | ((with_reducible refine gate_callee (f := 31) rfl ?_); refine goesL_ (some 6) rfl rfl Try.func31 (by kernel_rfl) rfl #[.int .i64 a1] rfl (by (try simp only [List.map_toArray, List.map_cons, List.map_nil]); first | done | rfl | (simp only [List.length_drop, List.length_take]; rfl)) ?_; (with_reducible refine (Go.Proofs.Ytcfpkkgdofblfaa.H.quittanceref03_Is.calls a1 true _ A3.out).mono ?_); rintro e w' ⟨rfl, ⟨nd, rfl⟩⟩; refine ⟨_, rfl, ?_⟩) | (go_at_call 43; (with_reducible refine (Go.Proofs.Ytcfpkkgdofblfaa.H.quittanceref03_Weekday.calls a1 t102 _ A5.out).mono ?_); rintro e w' ⟨rfl, ⟨nd, rfl⟩⟩) | (go_at_call 44; (with_reducible refine (Go.Proofs.Ytcfpkkgdofblfaa.H.help_In_int.calls _ _ l0 a1 t103 _ ?side1 ?side2 A7.out).mono ?_); (case side1 => repeat (first | exact HR0.out | (with_reducible refine Kd.C_alloc ?_ _) | (with_reducible refine Kd.C_drewN ?_ _) | (with_reducible refine Kd.C_drew ?_))); (case side2 => exact HC0.out); rintro e w' ⟨rfl, ⟨nd, rfl⟩⟩))
      go_ret
      exact ⟨by first | rfl | (simp; done) | (simp [*]; done), by repeat (first | exact Drawn0.refl _ | apply Drawn0.step)⟩
    · rw [if_neg c6] at H
      have c6b0 : decide (t102 < 5) = false := decide_eq_false c6
      clear c6
      obtain rfl := Option.some.inj H
      go_enter Try.func20, Try.ntmps20
      go_wp2_with (first | ((with_reducible refine gate_callee (f := 31) rfl ?_); refine goesL_ (some 6) rfl rfl Try.func31 (by kernel_rfl) rfl #[.int .i64 a1] rfl (by (try simp only [List.map_toArray, List.map_cons, List.map_nil]); first | done | rfl | (simp only [List.length_drop, List.length_take]; rfl)) ?_; (with_reducible refine (Go.Proofs.Ytcfpkkgdofblfaa.H.quittanceref03_Is.calls a1 true _ A3.out).mono ?_); rintro e w' ⟨rfl, ⟨nd, rfl⟩⟩; refine ⟨_, rfl, ?_⟩) | (go_at_call 43; (with_reducible refine (Go.Proofs.Ytcfpkkgdofblfaa.H.quittanceref03_Weekday.calls a1 t102 _ A5.out).mono ?_); rintro e w' ⟨rfl, ⟨nd, rfl⟩⟩))
      go_ret
      exact ⟨by first | rfl | (simp; done) | (simp [*]; done), by repeat (first | exact Drawn0.refl _ | apply Drawn0.step)⟩
  · replace c4 := Bool.eq_false_iff.mpr c4
    subst c4
    have H1 : (some false) = some r := by rw [if_neg (show ¬ (false = true) by decide)] at H; exact H
    clear H
    have H := H1
    clear H1
    obtain rfl := Option.some.inj H
    go_enter Try.func20, Try.ntmps20
    go_wp2_with (first | ((with_reducible refine gate_callee (f := 31) rfl ?_); refine goesL_ (some 6) rfl rfl Try.func31 (by kernel_rfl) rfl #[.int .i64 a1] rfl (by (try simp only [List.map_toArray, List.map_cons, List.map_nil]); first | done | rfl | (simp only [List.length_drop, List.length_take]; rfl)) ?_; (with_reducible refine (Go.Proofs.Ytcfpkkgdofblfaa.H.quittanceref03_Is.calls a1 false _ A3.out).mono ?_); rintro e w' ⟨rfl, ⟨nd, rfl⟩⟩; refine ⟨_, rfl, ?_⟩))
    go_ret
    exact ⟨by first | rfl | (simp; done) | (simp [*]; done), by repeat (first | exact Drawn0.refl _ | apply Drawn0.step)⟩

/-! ### quittanceref05_seek: function 69 -/
def quittanceref05_seek.l0 : Nat → List Int → Int → Int → Option (Int × Bool)
  | 0, _, _, _ => none
  | k + 1, x0, x2, x8 => (Go.Proofs.Ytcfpkkgdofblfaa.H.quittanceref03_Is.f x8).bind fun t104 => (if t104 = true then ((quittanceref05_Open.f x0 x8).bind fun t105 => (if t105 = true then (some (x8, true)) else (quittanceref05_seek.l0 k x0 x2 (wrap64 (x8 + x2))))) else (some (0, false)))
def quittanceref05_seek.f (k : Nat) (l0 : List Int) (a1 : Int) (a2 : Int) : Option (Int × Bool) := quittanceref05_seek.l0 k l0 a2 a1
theorem quittanceref05_seek.mono_l : ∀ k, (∀ y0 y1 y2, LeO (quittanceref05_seek.l0 k y0 y1 y2) (quittanceref05_seek.l0 (k + 1) y0 y1 y2))
  | 0 => fun _ _ _ r h => by simp [quittanceref05_seek.l0] at h
  | k + 1 => by
    have ih0 := quittanceref05_seek.mono_l k
    · intro y0 y1 y2
      unfold quittanceref05_seek.l0
      repeat' first
      | (with_reducible exact ih0 _ _ _)
      | (with_reducible exact LeO.refl _)
      | (with_reducible exact LeO.none _)
      | (with_reducible refine LeO.ite ?_ ?_)
      | (with_reducible refine LeO.bind ?_ (fun _ => ?_))
      | exact ih0 _ _ _
      | exact LeO.none _
      | refine LeO.ite ?_ ?_
      | refine LeO.bind ?_ (fun _ => ?_)
theorem quittanceref05_seek.mono : ∀ a0 a1 a2 k, LeO (quittanceref05_seek.f k a0 a1 a2) (quittanceref05_seek.f (k + 1) a0 a1 a2) := by
  intro a0 a1 a2 k
  have ih0 := quittanceref05_seek.mono_l k
  unfold quittanceref05_seek.f
  repeat' first
      | (with_reducible exact ih0 _ _ _)
      | (with_reducible exact LeO.refl _)
      | (with_reducible exact LeO.none _)
      | (with_reducible refine LeO.ite ?_ ?_)
      | (with_reducible refine LeO.bind ?_ (fun _ => ?_))
      | exact ih0 _ _ _
      | exact LeO.none _
      | refine LeO.ite ?_ ?_
      | refine LeO.bind ?_ (fun _ => ?_)
set_option maxHeartbeats 8000000 in
set_option maxRecDepth 100000 in
theorem quittanceref05_seek.calls (k : Nat) (A0 : Option Addr) (c0 : Nat) (l0 : List Int) (a1 : Int) (a2 : Int) (r1 : Int) (r2 : Bool) (w : World) (hr0 : Kd.C (Kd.int .i64) w A0 l0.length l0) (hc0 : l0.length ≤ c0) (h : quittanceref05_seek.f k l0 a1 a2 = some (r1, r2)) :
    Calls Try.prog 69 #[.slice A0 l0.length c0, .int .i64 a1, .int .i64 a2] w fun e w' => e = .returned (.tuple #[.int .i64 r1, .bool r2]) ∧ Drawn0 w w' := by
  have HR0 := Aside0.mk hr0
  have HC0 := Aside0.mk hc0
  clear hr0 hc0
  have H : (quittanceref05_seek.l0 k l0 a2 a1) = some (r1, r2) := h
  clear h
  have H' := Aside0.mk H
  clear H
  go_enter Try.func69, Try.ntmps69
  go_wp2
  go_loopg [8] k (fun kq v8 w' => ∃ (x8_1 : Int), v8 = .int .i64 x8_1 ∧ Aside0 (quittanceref05_seek.l0 kq l0 a2 x8_1 = some (r1, r2)) ∧ Aside0 (kq ≤ k) ∧ Drawn0 w w')
  case atStart => exact ⟨(a1), (by first | rfl | (simp; done) | (simp [*]; done)), H', ⟨Nat.le_refl _⟩, by repeat (first | exact Drawn0.refl _ | apply Drawn0.step)⟩
  case round =>
    clear H'
    try clear p2
    obtain ⟨x8_1, rfl, HA, HK1, ⟨m1, rfl⟩⟩ := hrel
    cases gk with
    | zero => exact absurd HA.out (by simp [quittanceref05_seek.l0])
    | succ k1 =>
      have H := HA.out
      clear HA
      simp only [quittanceref05_seek.l0] at H
      replace H := Option.bind_eq_some_iff.mp H
      obtain ⟨t104, A40, H⟩ := H
      replace H : (if t104 = true then ((quittanceref05_Open.f l0 x8_1).bind fun t105 => (if t105 = true then (some (x8_1, true)) else (quittanceref05_seek.l0 k1 l0 a2 (wrap64 (x8_1 + a2))))) else (some (0, false))) = some (r1, r2) := H
      have A4 := Aside0.mk A40
      clear A40
      by_cases c5 : t104 = true
      · subst c5
        have H1 : ((quittanceref05_Open.f l0 x8_1).bind fun t105 => (if t105 = true then (some (x8_1, true)) else (quittanceref05_seek.l0 k1 l0 a2 (wrap64 (x8_1 + a2))))) = some (r1, r2) := by rw [if_pos rfl] at H; exact H
        clear H
        have H := H1
        clear H1
        replace H := Option.bind_eq_some_iff.mp H
        obtain ⟨t105, A60, H⟩ := H
        replace H : (if t105 = true then (some (x8_1, true)) else (quittanceref05_seek.l0 k1 l0 a2 (wrap64 (x8_1 + a2)))) = some (r1, r2) := H
        have A6 := Aside0.mk A60
        clear A60
        by_cases c7 : t105 = true
        · subst c7
          have H1 : (some (x8_1, true)) = some (r1, r2) := by rw [if_pos rfl] at H; exact H
          clear H
          have H := H1
          clear H1
          simp only [Option.some.injEq, Prod.mk.injEq] at H
          obtain ⟨rfl, rfl⟩ := H
          go_wp2_with (first | ((with_reducible refine gate_callee (f := 31) rfl ?_); refine goesL_ (some 11) rfl rfl Try.func31 (by kernel_rfl) rfl #[.int .i64 x8_1] rfl (by (try simp only [List.map_toArray, List.map_cons, List.map_nil]); first | done | rfl | (simp only [List.length_drop, List.length_take]; rfl)) ?_; (with_reducible refine (Go.Proofs.Ytcfpkkgdofblfaa.H.quittanceref03_Is.calls x8_1 true _ A4.out).mono ?_); rintro e w' ⟨rfl, ⟨nd, rfl⟩⟩; refine ⟨_, rfl, ?_⟩) | ((with_reducible refine gate_callee (f := 20) rfl ?_); refine goesL_ (some 17) rfl rfl Try.func20 (by kernel_rfl) rfl #[.slice A0 l0.length c0, .int .i64 x8_1] rfl (by (try simp only [List.map_toArray, List.map_cons, List.map_nil]); first | done | rfl | (simp only [List.length_drop, List.length_take]; rfl)) ?_; (with_reducible refine (quittanceref05_Open.calls _ _ l0 x8_1 true _ ?side1 ?side2 A6.out).mono ?_); (case side1 => repeat (first | exact HR0.out | (with_reducible refine Kd.C_alloc ?_ _) | (with_reducible refine Kd.C_drewN ?_ _) | (with_reducible refine Kd.C_drew ?_))); (case side2 => exact HC0.out); rintro e w' ⟨rfl, ⟨nd, rfl⟩⟩; refine ⟨_, rfl, ?_⟩))
          go_ret2
          exact ⟨by first | rfl | (simp; done) | (simp [*]; done), by repeat (first | exact Drawn0.refl _ | apply Drawn0.step)⟩
        · replace c7 := Bool.eq_false_iff.mpr c7
          subst c7
          have H1 : (quittanceref05_seek.l0 k1 l0 a2 (wrap64 (x8_1 + a2))) = some (r1, r2) := by rw [if_neg (show ¬ (false = true) by decide)] at H; exact H
          clear H
          have H := H1
          clear H1
          have H' := Aside0.mk H
          clear H
          go_wp2_with (first | ((with_reducible refine gate_callee (f := 31) rfl ?_); refine goesL_ (some 11) rfl rfl Try.func31 (by kernel_rfl) rfl #[.int .i64 x8_1] rfl (by (try simp only [List.map_toArray, List.map_cons, List.map_nil]); first | done | rfl | (simp only [List.length_drop, List.length_take]; rfl)) ?_; (with_reducible refine (Go.Proofs.Ytcfpkkgdofblfaa.H.quittanceref03_Is.calls x8_1 true _ A4.out).mono ?_); rintro e w' ⟨rfl, ⟨nd, rfl⟩⟩; refine ⟨_, rfl, ?_⟩) | ((with_reducible refine gate_callee (f := 20) rfl ?_); refine goesL_ (some 17) rfl rfl Try.func20 (by kernel_rfl) rfl #[.slice A0 l0.length c0, .int .i64 x8_1] rfl (by (try simp only [List.map_toArray, List.map_cons, List.map_nil]); first | done | rfl | (simp only [List.length_drop, List.length_take]; rfl)) ?_; (with_reducible refine (quittanceref05_Open.calls _ _ l0 x8_1 false _ ?side1 ?side2 A6.out).mono ?_); (case side1 => repeat (first | exact HR0.out | (with_reducible refine Kd.C_alloc ?_ _) | (with_reducible refine Kd.C_drewN ?_ _) | (with_reducible refine Kd.C_drew ?_))); (case side2 => exact HC0.out); rintro e w' ⟨rfl, ⟨nd, rfl⟩⟩; refine ⟨_, rfl, ?_⟩))
          go_roundg k1
          case measure => have := HK1.out; omega
          case rel => exact ⟨(wrap64 (x8_1 + a2)), (by first | rfl | (simp; done) | (simp [*]; done)), H', ⟨by have := HK1.out; omega⟩, by repeat (first | exact Drawn0.refl _ | apply Drawn0.step)⟩
      · replace c5 := Bool.eq_false_iff.mpr c5
        subst c5
        have H1 : (some (0, false)) = some (r1, r2) := by rw [if_neg (show ¬ (false = true) by decide)] at H; exact H
        clear H
        have H := H1
        clear H1
        simp only [Option.some.injEq, Prod.mk.injEq] at H
        obtain ⟨rfl, rfl⟩ := H
        go_wp2_with (first | ((with_reducible refine gate_callee (f := 31) rfl ?_); refine goesL_ (some 11) rfl rfl Try.func31 (by kernel_rfl) rfl #[.int .i64 x8_1] rfl (by (try simp only [List.map_toArray, List.map_cons, List.map_nil]); first | done | rfl | (simp only [List.length_drop, List.length_take]; rfl)) ?_; (with_reducible refine (Go.Proofs.Ytcfpkkgdofblfaa.H.quittanceref03_Is.calls x8_1 false _ A4.out).mono ?_); rintro e w' ⟨rfl, ⟨nd, rfl⟩⟩; refine ⟨_, rfl, ?_⟩))
        go_ret2
        exact ⟨by first | rfl | (simp; done) | (simp [*]; done), by repeat (first | exact Drawn0.refl _ | apply Drawn0.step)⟩

/-! ### quittanceref05_Roll: function 37 -/
mutual
def quittanceref05_Roll.j0 : Nat → List Int → Int → Int → Bool → Option (Int × Int)
  | 0, _, _, _, _ => none
  | k + 1, x0, x1, x2, x24 => if x24 = true then (some (0, 1)) else (if x2 = 1 then (quittanceref05_Roll.j1 k x0 x1 x2 true) else ((quittanceref05_Open.f x0 x1).bind fun t107 => (quittanceref05_Roll.j1 k x0 x1 x2 t107)))
def quittanceref05_Roll.j1 : Nat → List Int → Int → Int → Bool → Option (Int × Int)
  | 0, _, _, _, _ => none
  | k + 1, x0, x1, x2, x31 => if x31 = true then (some (x1, 0)) else ((quittanceref05_seek.f k x0 x1 1).bind fun bt108 => ((quittanceref05_seek.f k x0 x1 (-1)).bind fun bt110 => (if x2 = 3 then ((Go.Proofs.Ytcfpkkgdofblfaa.H.quittanceref03_Date.f x1).bind fun bt112 => ((Go.Proofs.Ytcfpkkgdofblfaa.H.quittanceref03_Date.f bt108.1).bind fun bt117 => (if bt108.2 = true then (if bt112.2.1 = bt117.2.1 then (if bt112.1 = bt117.1 then (quittanceref05_Roll.j2 k x2 bt108.1 bt108.2 bt110.1 bt110.2) else (quittanceref05_Roll.j2 k 4 bt108.1 bt108.2 bt110.1 bt110.2)) else (quittanceref05_Roll.j2 k 4 bt108.1 bt108.2 bt110.1 bt110.2)) else (quittanceref05_Roll.j2 k 4 bt108.1 bt108.2 bt110.1 bt110.2)))) else (quittanceref05_Roll.j2 k x2 bt108.1 bt108.2 bt110.1 bt110.2))))
def quittanceref05_Roll.j2 : Nat → Int → Int → Bool → Int → Bool → Option (Int × Int)
  | 0, _, _, _, _, _ => none
  | k + 1, x2, x8, x9, x10, x11 => if x2 = 4 then (if x11 = true then (some (x10, 0)) else (some (0, 5))) else (if x9 = true then (some (x8, 0)) else (some (0, 5)))
end
def quittanceref05_Roll.f (k : Nat) (l0 : List Int) (a1 : Int) (a2 : Int) : Option (Int × Int) := (Go.Proofs.Ytcfpkkgdofblfaa.H.quittanceref03_Is.f a1).bind fun t106 => (if t106 = true then (if a2 < 1 then (quittanceref05_Roll.j0 k l0 a1 a2 true) else (quittanceref05_Roll.j0 k l0 a1 a2 (decide (a2 > 4)))) else (some (0, 5)))
theorem quittanceref05_Roll.mono_l : ∀ k, (∀ y0 y1 y2 y3, LeO (quittanceref05_Roll.j0 k y0 y1 y2 y3) (quittanceref05_Roll.j0 (k + 1) y0 y1 y2 y3)) ∧ (∀ y0 y1 y2 y3, LeO (quittanceref05_Roll.j1 k y0 y1 y2 y3) (quittanceref05_Roll.j1 (k + 1) y0 y1 y2 y3)) ∧ (∀ y0 y1 y2 y3 y4, LeO (quittanceref05_Roll.j2 k y0 y1 y2 y3 y4) (quittanceref05_Roll.j2 (k + 1) y0 y1 y2 y3 y4))
  | 0 => ⟨fun _ _ _ _ r h => by simp [quittanceref05_Roll.j0] at h, fun _ _ _ _ r h => by simp [quittanceref05_Roll.j1] at h, fun _ _ _ _ _ r h => by simp [quittanceref05_Roll.j2] at h⟩
  | k + 1 => by
    obtain ⟨ih0, ih1, ih2⟩ := quittanceref05_Roll.mono_l k
    refine ⟨?_, ?_, ?_⟩
    · intro y0 y1 y2 y3
      unfold quittanceref05_Roll.j0
      repeat' first
      | (with_reducible exact ih0 _ _ _ _)
      | (with_reducible exact ih1 _ _ _ _)
      | (with_reducible exact ih2 _ _ _ _ _)
      | (with_reducible exact quittanceref05_seek.mono _ _ _ _)
      | (with_reducible exact LeO.refl _)
      | (with_reducible exact LeO.none _)
      | (with_reducible refine LeO.ite ?_ ?_)
      | (with_reducible refine LeO.bind ?_ (fun _ => ?_))
      | exact ih0 _ _ _ _
      | exact ih1 _ _ _ _
      | exact ih2 _ _ _ _ _
      | exact quittanceref05_seek.mono _ _ _ _
      | exact LeO.none _
      | refine LeO.ite ?_ ?_
      | refine LeO.bind ?_ (fun _ => ?_)
    · intro y0 y1 y2 y3
      unfold quittanceref05_Roll.j1
      repeat' first
      | (with_reducible exact ih0 _ _ _ _)
      | (with_reducible exact ih1 _ _ _ _)
      | (with_reducible exact ih2 _ _ _ _ _)
      | (with_reducible exact quittanceref05_seek.mono _ _ _ _)
      | (with_reducible exact LeO.refl _)
      | (with_reducible exact LeO.none _)
      | (with_reducible refine LeO.ite ?_ ?_)
      | (with_reducible refine LeO.bind ?_ (fun _ => ?_))
      | exact ih0 _ _ _ _
      | exact ih1 _ _ _ _
      | exact ih2 _ _ _ _ _
      | exact quittanceref05_seek.mono _ _ _ _
      | exact LeO.none _
      | refine LeO.ite ?_ ?_
      | refine LeO.bind ?_ (fun _ => ?_)
    · intro y0 y1 y2 y3 y4
      unfold quittanceref05_Roll.j2
      repeat' first
      | (with_reducible exact ih0 _ _ _ _)
      | (with_reducible exact ih1 _ _ _ _)
      | (with_reducible exact ih2 _ _ _ _ _)
      | (with_reducible exact quittanceref05_seek.mono _ _ _ _)
      | (with_reducible exact LeO.refl _)
      | (with_reducible exact LeO.none _)
      | (with_reducible refine LeO.ite ?_ ?_)
      | (with_reducible refine LeO.bind ?_ (fun _ => ?_))
      | exact ih0 _ _ _ _
      | exact ih1 _ _ _ _
      | exact ih2 _ _ _ _ _
      | exact quittanceref05_seek.mono _ _ _ _
      | exact LeO.none _
      | refine LeO.ite ?_ ?_
      | refine LeO.bind ?_ (fun _ => ?_)
theorem quittanceref05_Roll.mono : ∀ a0 a1 a2 k, LeO (quittanceref05_Roll.f k a0 a1 a2) (quittanceref05_Roll.f (k + 1) a0 a1 a2) := by
  intro a0 a1 a2 k
  obtain ⟨ih0, ih1, ih2⟩ := quittanceref05_Roll.mono_l k
  unfold quittanceref05_Roll.f
  repeat' first
      | (with_reducible exact ih0 _ _ _ _)
      | (with_reducible exact ih1 _ _ _ _)
      | (with_reducible exact ih2 _ _ _ _ _)
      | (with_reducible exact quittanceref05_seek.mono _ _ _ _)
      | (with_reducible exact LeO.refl _)
      | (with_reducible exact LeO.none _)
      | (with_reducible refine LeO.ite ?_ ?_)
      | (with_reducible refine LeO.bind ?_ (fun _ => ?_))
      | exact ih0 _ _ _ _
      | exact ih1 _ _ _ _
      | exact ih2 _ _ _ _ _
      | exact quittanceref05_seek.mono _ _ _ _
      | exact LeO.none _
      | refine LeO.ite ?_ ?_
      | refine LeO.bind ?_ (fun _ => ?_)
set_option maxHeartbeats 8000000 in
set_option maxRecDepth 100000 in
theorem quittanceref05_Roll.calls (k : Nat) (A0 : Option Addr) (c0 : Nat) (l0 : List Int) (a1 : Int) (a2 : Int) (r1 : Int) (r2 : Int) (w : World) (hr0 : Kd.C (Kd.int .i64) w A0 l0.length l0) (hc0 : l0.length ≤ c0) (h : quittanceref05_Roll.f k l0 a1 a2 = some (r1, r2)) :
    Calls Try.prog 37 #[.slice A0 l0.length c0, .int .i64 a1, .int .i64 a2] w fun e w' => e = .returned (.tuple #[.int .i64 r1, .int .i64 r2]) ∧ Below w.heap.size w w' := by
  have hu99 := Try.underlying99
  have HR0 := Aside0.mk hr0
  have HC0 := Aside0.mk hc0
  clear hr0 hc0
  have HB := Aside0.mk (Below.refl w.heap.size w)
  have H : ((Go.Proofs.Ytcfpkkgdofblfaa.H.quittanceref03_Is.f a1).bind fun t106 => (if t106 = true then (if a2 < 1 then (quittanceref05_Roll.j0 k l0 a1 a2 true) else (quittanceref05_Roll.j0 k l0 a1 a2 (decide (a2 > 4)))) else (some (0, 5)))) = some (r1, r2) := h
  clear h
  replace H := Option.bind_eq_some_iff.mp H
  obtain ⟨t106, A40, H⟩ := H
  replace H : (if t106 = true then (if a2 < 1 then (quittanceref05_Roll.j0 k l0 a1 a2 true) else (quittanceref05_Roll.j0 k l0 a1 a2 (decide (a2 > 4)))) else (some (0, 5))) = some (r1, r2) := H
  have A4 := Aside0.mk A40
  clear A40
  by_cases c5 : t106 = true
  · subst c5
    have H1 : (if a2 < 1 then (quittanceref05_Roll.j0 k l0 a1 a2 true) else (quittanceref05_Roll.j0 k l0 a1 a2 (decide (a2 > 4)))) = some (r1, r2) := by rw [if_pos rfl] at H; exact H
    clear H
    have H := H1
    clear H1
    have HC6 := Aside0.mk H
    clear H
    go_enter Try.func37, Try.ntmps37
    go_upto_region 3 with (first | ((with_reducible refine gate_callee (f := 31) rfl ?_); refine goesL_ (some 17) rfl rfl Try.func31 (by kernel_rfl) rfl #[.int .i64 a1] rfl (by (try simp only [List.map_toArray, List.map_cons, List.map_nil]); first | done | rfl | (simp only [List.length_drop, List.length_take]; rfl)) ?_; (with_reducible refine (Go.Proofs.Ytcfpkkgdofblfaa.H.quittanceref03_Is.calls a1 true _ A4.out).mono ?_); rintro e w' ⟨rfl, ⟨nd, rfl⟩⟩; refine ⟨_, rfl, ?_⟩))
    (try simp only [Act.put, List.setIfInBounds_toArray, List.set_cons_zero, List.set_cons_succ])
    go_cut [24] (fun v24 wc => ∃ (kq : Nat) (x24_5 : Bool), v24 = .bool x24_5 ∧ Aside0 (quittanceref05_Roll.j0 kq l0 a1 a2 x24_5 = some (r1, r2)) ∧ Aside0 (kq ≤ k) ∧ Aside0 (Below w.heap.size w wc))
    case first =>
      have H := HC6.out
      clear HC6
      by_cases c7 : a2 < 1
      · rw [if_pos c7] at H
        have c7b0 : decide (a2 < 1) = true := decide_eq_true c7
        clear c7
        (first | rw [c7b0] | (simp only [i64_w, i32_w]; rw [c7b0]) | skip)
        have H' := Aside0.mk H
        clear H
        go_wp2
        go_meet
        case rel => exact ⟨_, (true), (by first | rfl | (simp; done) | (simp [*]; done)), H', ⟨by first | omega | exact Nat.le_refl _⟩, ⟨by repeat (first | (with_reducible first | exact HB.out | apply below_alloc | apply pw_below_drewN | apply below_drew1) | exact HB.out)⟩⟩
      · rw [if_neg c7] at H
        have c7b0 : decide (a2 < 1) = false := decide_eq_false c7
        clear c7
        (first | rw [c7b0] | (simp only [i64_w, i32_w]; rw [c7b0]) | skip)
        have H' := Aside0.mk H
        clear H
        go_wp2
        go_meet
        case rel => exact ⟨_, (decide (a2 > 4)), (by first | rfl | (simp; done) | (simp [*]; done)), H', ⟨by first | omega | exact Nat.le_refl _⟩, ⟨by repeat (first | (with_reducible first | exact HB.out | apply below_alloc | apply pw_below_drewN | apply below_drew1) | exact HB.out)⟩⟩
    case rest =>
      clear HC6
      try clear p2
      try clear c3
      try clear c5
      try clear c7
      try clear c7b0
      obtain ⟨kq, x24_5, rfl, HA, HJ5, HB⟩ := hcut
      cases kq with
      | zero => exact absurd HA.out (by simp [quittanceref05_Roll.j0])
      | succ kj5 =>
        have H := HA.out
        clear HA
        simp only [quittanceref05_Roll.j0] at H
        by_cases c8 : x24_5 = true
        · subst c8
          have H1 : (some (0, 1)) = some (r1, r2) := by rw [if_pos rfl] at H; exact H
          clear H
          have H := H1
          clear H1
          simp only [Option.some.injEq, Prod.mk.injEq] at H
          obtain ⟨rfl, rfl⟩ := H
          go_wp2
          go_ret2
          exact ⟨by first | rfl | (simp [errW_none, errW_some] <;> rfl) | (simp [*, errW_none, errW_some] <;> rfl), by repeat (first | (with_reducible first | exact HB.out | apply below_alloc | apply pw_below_drewN | apply below_drew1) | exact HB.out)⟩
        · replace c8 := Bool.eq_false_iff.mpr c8
          subst c8
          have H1 : (if a2 = 1 then (quittanceref05_Roll.j1 kj5 l0 a1 a2 true) else ((quittanceref05_Open.f l0 a1).bind fun t107 => (quittanceref05_Roll.j1 kj5 l0 a1 a2 t107))) = some (r1, r2) := by rw [if_neg (show ¬ (false = true) by decide)] at H; exact H
          clear H
          have H := H1
          clear H1
          have HC9 := Aside0.mk H
          clear H
          go_upto_region 5 with (fail)
          go_cut [31] (fun v31 wc => ∃ (kq : Nat) (x31_8 : Bool), v31 = .bool x31_8 ∧ Aside0 (quittanceref05_Roll.j1 kq l0 a1 a2 x31_8 = some (r1, r2)) ∧ Aside0 (kq ≤ kj5) ∧ Aside0 (Below w.heap.size w wc))
          case first =>
            have H := HC9.out
            clear HC9
            by_cases c10 : a2 = 1
            · rw [if_pos c10] at H
              have c10b0 : (a2 == 1) = true := beq_iff_eq.mpr c10
              have c10b1 : (a2 != 1) = false := bne_eq_false_iff_eq.mpr c10
              clear c10
              (first | rw [c10b0] | (simp only [i64_w, i32_w]; rw [c10b0]) | skip)
              have H' := Aside0.mk H
              clear H
              go_wp2
              go_meet
              case rel => exact ⟨_, (true), (by first | rfl | (simp; done) | (simp [*]; done)), H', ⟨by have := HJ5.out; first | omega | exact Nat.le_refl _⟩, ⟨by repeat (first | (with_reducible first | exact HB.out | apply below_alloc | apply pw_below_drewN | apply below_drew1) | exact HB.out)⟩⟩
            · rw [if_neg c10] at H
              have c10b0 : (a2 == 1) = false := beq_eq_false_iff_ne.mpr c10
              have c10b1 : (a2 != 1) = true := bne_iff_ne.mpr c10
              (first | rw [c10b0] | (simp only [i64_w, i32_w]; rw [c10b0]) | skip)
              replace H := Option.bind_eq_some_iff.mp H
              obtain ⟨t107, A110, H⟩ := H
              replace H : (quittanceref05_Roll.j1 kj5 l0 a1 a2 t107) = some (r1, r2) := H
              have A11 := Aside0.mk A110
              clear A110
              have H' := Aside0.mk H
              clear H
              go_wp2_with (first | (go_at_call 20; (with_reducible refine (quittanceref05_Open.calls _ _ l0 a1 t107 _ ?side1 ?side2 A11.out).mono ?_); (case side1 => repeat (first | exact (Kd.C_below HR0.out HB.out) | (with_reducible refine Kd.C_alloc ?_ _) | (with_reducible refine Kd.C_drewN ?_ _) | (with_reducible refine Kd.C_drew ?_))); (case side2 => exact HC0.out); rintro e w' ⟨rfl, ⟨nd, rfl⟩⟩))
              go_meet
              case rel => exact ⟨_, (t107), (by first | rfl | (simp; done) | (simp [*]; done)), H', ⟨by have := HJ5.out; first | omega | exact Nat.le_refl _⟩, ⟨by repeat (first | (with_reducible first | exact HB.out | apply below_alloc | apply pw_below_drewN | apply below_drew1) | exact HB.out)⟩⟩
          case rest =>
            clear HC9
            try clear c1
            try clear p2
            try clear c3
            try clear c5
            try clear c7
            try clear c7b0
            try clear c8
            try clear c10
            try clear c10b0
            try clear c10b1
            try clear p2
            obtain ⟨kq, x31_8, rfl, HA, HJ8, HB⟩ := hcut
            cases kq with
            | zero => exact absurd HA.out (by simp [quittanceref05_Roll.j1])
            | succ kj8 =>
              have H := HA.out
              clear HA
              simp only [quittanceref05_Roll.j1] at H
              by_cases c12 : x31_8 = true
              · subst c12
                have H1 : (some (a1, 0)) = some (r1, r2) := by rw [if_pos rfl] at H; exact H
                clear H
                have H := H1
                clear H1
                simp only [Option.some.injEq, Prod.mk.injEq] at H
                obtain ⟨rfl, rfl⟩ := H
                go_wp2
                go_ret2
                exact ⟨by first | rfl | (simp [errW_none, errW_some] <;> rfl) | (simp [*, errW_none, errW_some] <;> rfl), by repeat (first | (with_reducible first | exact HB.out | apply below_alloc | apply pw_below_drewN | apply below_drew1) | exact HB.out)⟩
              · replace c12 := Bool.eq_false_iff.mpr c12
                subst c12
                have H1 : ((quittanceref05_seek.f kj8 l0 a1 1).bind fun bt108 => ((quittanceref05_seek.f kj8 l0 a1 (-1)).bind fun bt110 => (if a2 = 3 then ((Go.Proofs.Ytcfpkkgdofblfaa.H.quittanceref03_Date.f a1).bind fun bt112 => ((Go.Proofs.Ytcfpkkgdofblfaa.H.quittanceref03_Date.f bt108.1).bind fun bt117 => (if bt108.2 = true then (if bt112.2.1 = bt117.2.1 then (if bt112.1 = bt117.1 then (quittanceref05_Roll.j2 kj8 a2 bt108.1 bt108.2 bt110.1 bt110.2) else (quittanceref05_Roll.j2 kj8 4 bt108.1 bt108.2 bt110.1 bt110.2)) else (quittanceref05_Roll.j2 kj8 4 bt108.1 bt108.2 bt110.1 bt110.2)) else (quittanceref05_Roll.j2 kj8 4 bt108.1 bt108.2 bt110.1 bt110.2)))) else (quittanceref05_Roll.j2 kj8 a2 bt108.1 bt108.2 bt110.1 bt110.2)))) = some (r1, r2) := by rw [if_neg (show ¬ (false = true) by decide)] at H; exact H
                clear H
                have H := H1
                clear H1
                replace H := Option.bind_eq_some_iff.mp H
                obtain ⟨⟨t108, t109⟩, A130, H⟩ := H
                replace H : ((quittanceref05_seek.f kj8 l0 a1 (-1)).bind fun bt110 => (if a2 = 3 then ((Go.Proofs.Ytcfpkkgdofblfaa.H.quittanceref03_Date.f a1).bind fun bt112 => ((Go.Proofs.Ytcfpkkgdofblfaa.H.quittanceref03_Date.f t108).bind fun bt117 => (if t109 = true then (if bt112.2.1 = bt117.2.1 then (if bt112.1 = bt117.1 then (quittanceref05_Roll.j2 kj8 a2 t108 t109 bt110.1 bt110.2) else (quittanceref05_Roll.j2 kj8 4 t108 t109 bt110.1 bt110.2)) else (quittanceref05_Roll.j2 kj8 4 t108 t109 bt110.1 bt110.2)) else (quittanceref05_Roll.j2 kj8 4 t108 t109 bt110.1 bt110.2)))) else (quittanceref05_Roll.j2 kj8 a2 t108 t109 bt110.1 bt110.2))) = some (r1, r2) := H
                have A13 := Aside0.mk A130
                clear A130
                replace H := Option.bind_eq_some_iff.mp H
                obtain ⟨⟨t110, t111⟩, A140, H⟩ := H
                replace H : (if a2 = 3 then ((Go.Proofs.Ytcfpkkgdofblfaa.H.quittanceref03_Date.f a1).bind fun bt112 => ((Go.Proofs.Ytcfpkkgdofblfaa.H.quittanceref03_Date.f t108).bind fun bt117 => (if t109 = true then (if bt112.2.1 = bt117.2.1 then (if bt112.1 = bt117.1 then (quittanceref05_Roll.j2 kj8 a2 t108 t109 t110 t111) else (quittanceref05_Roll.j2 kj8 4 t108 t109 t110 t111)) else (quittanceref05_Roll.j2 kj8 4 t108 t109 t110 t111)) else (quittanceref05_Roll.j2 kj8 4 t108 t109 t110 t111)))) else (quittanceref05_Roll.j2 kj8 a2 t108 t109 t110 t111)) = some (r1, r2) := H
                have A14 := Aside0.mk A140
                clear A140
                have HC15 := Aside0.mk H
                clear H
                go_upto_if 46 with (first | ((with_reducible refine gate_callee (f := 69) rfl ?_); refine goesL_ (some 36) rfl rfl Try.func69 (by kernel_rfl) rfl #[.slice A0 l0.length c0, .int .i64 a1, .int .i64 1] rfl (by (try simp only [List.map_toArray, List.map_cons, List.map_nil]); first | done | rfl | (simp only [List.length_drop, List.length_take]; rfl)) ?_; (with_reducible refine (quittanceref05_seek.calls kj8 _ _ l0 a1 1 t108 t109 _ ?side1 ?side2 A13.out).mono ?_); (case side1 => repeat (first | exact (Kd.C_below HR0.out HB.out) | (with_reducible refine Kd.C_alloc ?_ _) | (with_reducible refine Kd.C_drewN ?_ _) | (with_reducible refine Kd.C_drew ?_))); (case side2 => exact HC0.out); rintro e w' ⟨rfl, ⟨nd, rfl⟩⟩; refine ⟨_, rfl, ?_⟩) | ((with_reducible refine gate_callee (f := 69) rfl ?_); refine goesL_ (some 42) rfl rfl Try.func69 (by kernel_rfl) rfl #[.slice A0 l0.length c0, .int .i64 a1, .int .i64 (-1)] rfl (by (try simp only [List.map_toArray, List.map_cons, List.map_nil]); first | done | rfl | (simp only [List.length_drop, List.length_take]; rfl)) ?_; (with_reducible refine (quittanceref05_seek.calls kj8 _ _ l0 a1 (-1) t110 t111 _ ?side1 ?side2 A14.out).mono ?_); (case side1 => repeat (first | exact (Kd.C_below HR0.out (by repeat (first | (with_reducible first | exact HB.out | apply below_alloc | apply pw_below_drewN | apply below_drew1) | exact HB.out))) | (with_reducible refine Kd.C_alloc ?_ _) | (with_reducible refine Kd.C_drewN ?_ _) | (with_reducible refine Kd.C_drew ?_))); (case side2 => exact HC0.out); rintro e w' ⟨rfl, ⟨nd, rfl⟩⟩; refine ⟨_, rfl, ?_⟩))
                (try simp only [Act.put, List.setIfInBounds_toArray, List.set_cons_zero, List.set_cons_succ])
                go_cut [2] (fun v2 wc => ∃ (kq : Nat) (x2_14 : Int), v2 = .int .i64 x2_14 ∧ Aside0 (quittanceref05_Roll.j2 kq x2_14 t108 t109 t110 t111 = some (r1, r2)) ∧ Aside0 (kq ≤ kj8) ∧ Aside0 (Below w.heap.size w wc))
                case first =>
                  have H := HC15.out
                  clear HC15
                  by_cases c16 : a2 = 3
                  · rw [if_pos c16] at H
                    have c16b0 : (a2 == 3) = true := beq_iff_eq.mpr c16
                    have c16b1 : (a2 != 3) = false := bne_eq_false_iff_eq.mpr c16
                    clear c16
                    (first | rw [c16b0] | (simp only [i64_w, i32_w]; rw [c16b0]) | skip)
                    replace H := Option.bind_eq_some_iff.mp H
                    obtain ⟨⟨t112, t113, t114, t115⟩, A170, H⟩ := H
                    replace H : ((Go.Proofs.Ytcfpkkgdofblfaa.H.quittanceref03_Date.f t108).bind fun bt117 => (if t109 = true then (if t113 = bt117.2.1 then (if t112 = bt117.1 then (quittanceref05_Roll.j2 kj8 a2 t108 t109 t110 t111) else (quittanceref05_Roll.j2 kj8 4 t108 t109 t110 t111)) else (quittanceref05_Roll.j2 kj8 4 t108 t109 t110 t111)) else (quittanceref05_Roll.j2 kj8 4 t108 t109 t110 t111))) = some (r1, r2) := H
                    have A17 := Aside0.mk A170
                    clear A170
                    replace H := Option.bind_eq_some_iff.mp H
                    obtain ⟨⟨t117, t118, t119, t120⟩, A180, H⟩ := H
                    replace H : (if t109 = true then (if t113 = t118 then (if t112 = t117 then (quittanceref05_Roll.j2 kj8 a2 t108 t109 t110 t111) else (quittanceref05_Roll.j2 kj8 4 t108 t109 t110 t111)) else (quittanceref05_Roll.j2 kj8 4 t108 t109 t110 t111)) else (quittanceref05_Roll.j2 kj8 4 t108 t109 t110 t111)) = some (r1, r2) := H
                    have A18 := Aside0.mk A180
                    clear A180
                    by_cases c19 : t109 = true
                    · subst c19
                      have H1 : (if t113 = t118 then (if t112 = t117 then (quittanceref05_Roll.j2 kj8 a2 t108 true t110 t111) else (quittanceref05_Roll.j2 kj8 4 t108 true t110 t111)) else (quittanceref05_Roll.j2 kj8 4 t108 true t110 t111)) = some (r1, r2) := by rw [if_pos rfl] at H; exact H
                      clear H
                      have H := H1
                      clear H1
                      by_cases c20 : t113 = t118
                      · rw [if_pos c20] at H
                        have c20b0 : (t113 == t118) = true := beq_iff_eq.mpr c20
                        have c20b1 : (t113 != t118) = false := bne_eq_false_iff_eq.mpr c20
                        clear c20
                        by_cases c21 : t112 = t117
                        · rw [if_pos c21] at H
                          have c21b0 : (t112 == t117) = true := beq_iff_eq.mpr c21
                          have c21b1 : (t112 != t117) = false := bne_eq_false_iff_eq.mpr c21
                          clear c21
                          have H' := Aside0.mk H
                          clear H
                          go_wp2_with (first | ((with_reducible refine gate_callee (f := 70) rfl ?_); refine goesL_ (some 49) rfl rfl Try.func70 (by kernel_rfl) rfl #[.int .i64 a1] rfl (by (try simp only [List.map_toArray, List.map_cons, List.map_nil]); first | done | rfl | (simp only [List.length_drop, List.length_take]; rfl)) ?_; (with_reducible refine (Go.Proofs.Ytcfpkkgdofblfaa.H.quittanceref03_Date.calls a1 t112 t113 t114 t115 _ A17.out).mono ?_); rintro e w22 ⟨rfl, hb⟩; refine ⟨_, rfl, ?_⟩; have n0_ := Aside0.mk (below_step (by repeat (first | (with_reducible first | exact HB.out | apply below_alloc | apply pw_below_drewN | apply below_drew1) | exact HB.out)) hb); clear HB; have HB := n0_; clear n0_; (try clear hb); (try clear hb2); (try clear hk); (try clear hi)) | ((with_reducible refine gate_dst (N := 12) rfl ?_); refine box_event ?hg (N := 12) ?hd (cs := #[.int .i64 0, .int .i64 0, .int .i64 0]) (t := 99) ?hr ?_; (case hd => rfl); (case hg => rfl); (case hr => first | (go_simp; done) | (go_simp; rfl)); intro gb116 hg w23 hbox hb; have n0_ := Aside0.mk (below_step (by repeat (first | (with_reducible first | exact HB.out | apply below_alloc | apply pw_below_drewN | apply below_drew1) | exact HB.out)) hb); have n1_ := Aside0.mk (hbox); have n2_ := Aside0.mk ((by rw [hg]; exact (below_size (by repeat (first | (with_reducible first | exact HB.out | apply below_alloc | apply pw_below_drewN | apply below_drew1) | exact HB.out))) : w.heap.size ≤ gb116)); have n3_ := Aside0.mk ((by rw [hg]; exact (below_size (by repeat (first | (with_reducible first | exact HB.out | apply below_alloc | apply pw_below_drewN | apply below_drew1) | exact HB.out))) : w.heap.size ≤ gb116)); clear HB; have HB := n0_; have BK116 := n1_; have GW116 := n2_; have GE116 := n3_; clear n0_ n1_ n2_ n3_; clear hb hbox hg; (try have hu116_0 : w23.cell? ⟨gb116, 0, none⟩ = some (.int .i64 0) := (blk_cell BK116.out 0).trans rfl); (try have hu116_1 : w23.cell? ⟨gb116, 1, none⟩ = some (.int .i64 0) := (blk_cell BK116.out 1).trans rfl); (try have hu116_2 : w23.cell? ⟨gb116, 2, none⟩ = some (.int .i64 0) := (blk_cell BK116.out 2).trans rfl); (try have hv116_0 := blk_frozen BK116.out 0); (try have hv116_1 := blk_frozen BK116.out 1); (try have hv116_2 := blk_frozen BK116.out 2); have hcz24_0 : w23.cell? ⟨gb116, 0, none⟩ = some (.int .i64 0) := (blk_cell BK116.out 0).trans rfl; have hcz24_1 : w23.cell? ⟨gb116, 1, none⟩ = some (.int .i64 0) := (blk_cell BK116.out 1).trans rfl; have hcz24_2 : w23.cell? ⟨gb116, 2, none⟩ = some (.int .i64 0) := (blk_cell BK116.out 2).trans rfl; have hfz24_0 := blk_frozen BK116.out 0; have hfz24_1 := blk_frozen BK116.out 1; have hfz24_2 := blk_frozen BK116.out 2) | ((with_reducible refine gate_callee (f := 70) rfl ?_); refine goesL_ (some 54) rfl rfl Try.func70 (by kernel_rfl) rfl #[.int .i64 t108] rfl (by (try simp only [List.map_toArray, List.map_cons, List.map_nil]); first | done | rfl | (simp only [List.length_drop, List.length_take]; rfl)) ?_; (with_reducible refine (Go.Proofs.Ytcfpkkgdofblfaa.H.quittanceref03_Date.calls t108 t117 t118 t119 t120 _ A18.out).mono ?_); rintro e w25 ⟨rfl, hb⟩; refine ⟨_, rfl, ?_⟩; have n0_ := Aside0.mk (blk_below (g := gb116) (o := .cells #[.int .i64 t112, .int .i64 t113, .int .i64 t114] 99 (0, 0)) (by (with_reducible repeat (first | refine blk_drewN ?_ _ | refine blk_drew ?_ | refine blk_alloc ?_ _)); refine blk_put (cs := #[.int .i64 t112, .int .i64 t113, .int .i64 0]) ?_ 2 _ rfl; (with_reducible repeat (first | refine blk_drewN ?_ _ | refine blk_drew ?_ | refine blk_alloc ?_ _)); refine blk_put (cs := #[.int .i64 t112, .int .i64 0, .int .i64 0]) ?_ 1 _ rfl; (with_reducible repeat (first | refine blk_drewN ?_ _ | refine blk_drew ?_ | refine blk_alloc ?_ _)); refine blk_put (cs := #[.int .i64 0, .int .i64 0, .int .i64 0]) ?_ 0 _ rfl; (with_reducible repeat (first | refine blk_drewN ?_ _ | refine blk_drew ?_ | refine blk_alloc ?_ _)); exact BK116.out) hb); have n1_ := Aside0.mk (below_step (by repeat (first | (with_reducible first | exact HB.out | apply below_alloc | apply pw_below_drewN | apply below_drew1 | refine below_set ?_ GE116.out) | exact HB.out)) hb); clear BK116; clear HB; have BK116 := n0_; have HB := n1_; clear n0_ n1_; (try clear hb); (try clear hb2); (try clear hk); (try clear hi); (try have hu116_0 : w25.cell? ⟨gb116, 0, none⟩ = some (.int .i64 t112) := (blk_cell BK116.out 0).trans rfl); (try have hu116_1 : w25.cell? ⟨gb116, 1, none⟩ = some (.int .i64 t113) := (blk_cell BK116.out 1).trans rfl); (try have hu116_2 : w25.cell? ⟨gb116, 2, none⟩ = some (.int .i64 t114) := (blk_cell BK116.out 2).trans rfl); (try have hv116_0 := blk_frozen BK116.out 0); (try have hv116_1 := blk_frozen BK116.out 1); (try have hv116_2 := blk_frozen BK116.out 2)) | ((with_reducible refine gate_dst (N := 14) rfl ?_); refine box_event ?hg (N := 14) ?hd (cs := #[.int .i64 0, .int .i64 0, .int .i64 0]) (t := 99) ?hr ?_; (case hd => rfl); (case hg => rfl); (case hr => first | (go_simp; done) | (go_simp; rfl)); intro gb121 hg w26 hbox hb; have n0_ := Aside0.mk (blk_below (g := gb116) (o := .cells #[.int .i64 t112, .int .i64 t113, .int .i64 t114] 99 (0, 0)) (by (with_reducible repeat (first | refine blk_drewN ?_ _ | refine blk_drew ?_ | refine blk_alloc ?_ _)); exact BK116.out) hb); have n1_ := Aside0.mk (below_step (by repeat (first | (with_reducible first | exact HB.out | apply below_alloc | apply pw_below_drewN | apply below_drew1 | refine below_set ?_ GE116.out) | exact HB.out)) hb); have n2_ := Aside0.mk (hbox); have n3_ := Aside0.mk ((by rw [hg]; exact (below_size (by repeat (first | (with_reducible first | exact HB.out | apply below_alloc | apply pw_below_drewN | apply below_drew1 | refine below_set ?_ GE116.out) | exact HB.out))) : w.heap.size ≤ gb121)); have n4_ := Aside0.mk ((by rw [hg]; exact (below_size (by repeat (first | (with_reducible first | exact HB.out | apply below_alloc | apply pw_below_drewN | apply below_drew1 | refine below_set ?_ GE116.out) | exact HB.out))) : w.heap.size ≤ gb121)); have n5_ := Aside0.mk ((by rw [hg]; exact Nat.ne_of_lt (blk_lt (g := gb116) (o := .cells #[.int .i64 t112, .int .i64 t113, .int .i64 t114] 99 (0, 0)) (by (with_reducible repeat (first | refine blk_drewN ?_ _ | refine blk_drew ?_ | refine blk_alloc ?_ _)); exact BK116.out)) : gb116 ≠ gb121)); have n6_ := Aside0.mk ((by rw [hg]; exact Nat.ne_of_gt (blk_lt (g := gb116) (o := .cells #[.int .i64 t112, .int .i64 t113, .int .i64 t114] 99 (0, 0)) (by (with_reducible repeat (first | refine blk_drewN ?_ _ | refine blk_drew ?_ | refine blk_alloc ?_ _)); exact BK116.out)) : gb121 ≠ gb116)); clear BK116; clear HB; have BK116 := n0_; have HB := n1_; have BK121 := n2_; have GW121 := n3_; have GE121 := n4_; have NB116_121 := n5_; have NB121_116 := n6_; clear n0_ n1_ n2_ n3_ n4_ n5_ n6_; clear hb hbox hg; (try have hu116_0 : w26.cell? ⟨gb116, 0, none⟩ = some (.int .i64 t112) := (blk_cell BK116.out 0).trans rfl); (try have hu116_1 : w26.cell? ⟨gb116, 1, none⟩ = some (.int .i64 t113) := (blk_cell BK116.out 1).trans rfl); (try have hu116_2 : w26.cell? ⟨gb116, 2, none⟩ = some (.int .i64 t114) := (blk_cell BK116.out 2).trans rfl); (try have hv116_0 := blk_frozen BK116.out 0); (try have hv116_1 := blk_frozen BK116.out 1); (try have hv116_2 := blk_frozen BK116.out 2); (try have hu121_0 : w26.cell? ⟨gb121, 0, none⟩ = some (.int .i64 0) := (blk_cell BK121.out 0).trans rfl); (try have hu121_1 : w26.cell? ⟨gb121, 1, none⟩ = some (.int .i64 0) := (blk_cell BK121.out 1).trans rfl); (try have hu121_2 : w26.cell? ⟨gb121, 2, none⟩ = some (.int .i64 0) := (blk_cell BK121.out 2).trans rfl); (try have hv121_0 := blk_frozen BK121.out 0); (try have hv121_1 := blk_frozen BK121.out 1); (try have hv121_2 := blk_frozen BK121.out 2); have hnb27 := NB121_116.out; have hnc27 := NB116_121.out; have hcz28_0 : w26.cell? ⟨gb121, 0, none⟩ = some (.int .i64 0) := (blk_cell BK121.out 0).trans rfl; have hcz28_1 : w26.cell? ⟨gb121, 1, none⟩ = some (.int .i64 0) := (blk_cell BK121.out 1).trans rfl; have hcz28_2 : w26.cell? ⟨gb121, 2, none⟩ = some (.int .i64 0) := (blk_cell BK121.out 2).trans rfl; have hfz28_0 := blk_frozen BK121.out 0; have hfz28_1 := blk_frozen BK121.out 1; have hfz28_2 := blk_frozen BK121.out 2; have hcz29_0 : w26.cell? ⟨gb116, 0, none⟩ = some (.int .i64 t112) := (blk_cell BK116.out 0).trans rfl; have hcz29_1 : w26.cell? ⟨gb116, 1, none⟩ = some (.int .i64 t113) := (blk_cell BK116.out 1).trans rfl; have hcz29_2 : w26.cell? ⟨gb116, 2, none⟩ = some (.int .i64 t114) := (blk_cell BK116.out 2).trans rfl; have hfz29_0 := blk_frozen BK116.out 0; have hfz29_1 := blk_frozen BK116.out 1; have hfz29_2 := blk_frozen BK116.out 2))
                          go_meet
                          case rel => exact ⟨_, (a2), (by first | rfl | (simp; done) | (simp [*]; done)), H', ⟨by have := HJ5.out; have := HJ8.out; first | omega | exact Nat.le_refl _⟩, ⟨by repeat (first | (with_reducible first | exact HB.out | apply below_alloc | apply pw_below_drewN | apply below_drew1 | refine below_set ?_ GE116.out | refine below_set ?_ GE121.out) | exact HB.out)⟩⟩
                        · rw [if_neg c21] at H
                          have c21b0 : (t112 == t117) = false := beq_eq_false_iff_ne.mpr c21
                          have c21b1 : (t112 != t117) = true := bne_iff_ne.mpr c21
                          have H' := Aside0.mk H
                          clear H
                          go_wp2_with (first | ((with_reducible refine gate_callee (f := 70) rfl ?_); refine goesL_ (some 49) rfl rfl Try.func70 (by kernel_rfl) rfl #[.int .i64 a1] rfl (by (try simp only [List.map_toArray, List.map_cons, List.map_nil]); first | done | rfl | (simp only [List.length_drop, List.length_take]; rfl)) ?_; (with_reducible refine (Go.Proofs.Ytcfpkkgdofblfaa.H.quittanceref03_Date.calls a1 t112 t113 t114 t115 _ A17.out).mono ?_); rintro e w30 ⟨rfl, hb⟩; refine ⟨_, rfl, ?_⟩; have n0_ := Aside0.mk (below_step (by repeat (first | (with_reducible first | exact HB.out | apply below_alloc | apply pw_below_drewN | apply below_drew1) | exact HB.out)) hb); clear HB; have HB := n0_; clear n0_; (try clear hb); (try clear hb2); (try clear hk); (try clear hi)) | ((with_reducible refine gate_dst (N := 12) rfl ?_); refine box_event ?hg (N := 12) ?hd (cs := #[.int .i64 0, .int .i64 0, .int .i64 0]) (t := 99) ?hr ?_; (case hd => rfl); (case hg => rfl); (case hr => first | (go_simp; done) | (go_simp; rfl)); intro gb116 hg w31 hbox hb; have n0_ := Aside0.mk (below_step (by repeat (first | (with_reducible first | exact HB.out | apply below_alloc | apply pw_below_drewN | apply below_drew1) | exact HB.out)) hb); have n1_ := Aside0.mk (hbox); have n2_ := Aside0.mk ((by rw [hg]; exact (below_size (by repeat (first | (with_reducible first | exact HB.out | apply below_alloc | apply pw_below_drewN | apply below_drew1) | exact HB.out))) : w.heap.size ≤ gb116)); have n3_ := Aside0.mk ((by rw [hg]; exact (below_size (by repeat (first | (with_reducible first | exact HB.out | apply below_alloc | apply pw_below_drewN | apply below_drew1) | exact HB.out))) : w.heap.size ≤ gb116)); clear HB; have HB := n0_; have BK116 := n1_; have GW116 := n2_; have GE116 := n3_; clear n0_ n1_ n2_ n3_; clear hb hbox hg; (try have hu116_0 : w31.cell? ⟨gb116, 0, none⟩ = some (.int .i64 0) := (blk_cell BK116.out 0).trans rfl); (try have hu116_1 : w31.cell? ⟨gb116, 1, none⟩ = some (.int .i64 0) := (blk_cell BK116.out 1).trans rfl); (try have hu116_2 : w31.cell? ⟨gb116, 2, none⟩ = some (.int .i64 0) := (blk_cell BK116.out 2).trans rfl); (try have hv116_0 := blk_frozen BK116.out 0); (try have hv116_1 := blk_frozen BK116.out 1); (try have hv116_2 := blk_frozen BK116.out 2); have hcz32_0 : w31.cell? ⟨gb116, 0, none⟩ = some (.int .i64 0) := (blk_cell BK116.out 0).trans rfl; have hcz32_1 : w31.cell? ⟨gb116, 1, none⟩ = some (.int .i64 0) := (blk_cell BK116.out 1).trans rfl; have hcz32_2 : w31.cell? ⟨gb116, 2, none⟩ = some (.int .i64 0) := (blk_cell BK116.out 2).trans rfl; have hfz32_0 := blk_frozen BK116.out 0; have hfz32_1 := blk_frozen BK116.out 1; have hfz32_2 := blk_frozen BK116.out 2) | ((with_reducible refine gate_callee (f := 70) rfl ?_); refine goesL_ (some 54) rfl rfl Try.func70 (by kernel_rfl) rfl #[.int .i64 t108] rfl (by (try simp only [List.map_toArray, List.map_cons, List.map_nil]); first | done | rfl | (simp only [List.length_drop, List.length_take]; rfl)) ?_; (with_reducible refine (Go.Proofs.Ytcfpkkgdofblfaa.H.quittanceref03_Date.calls t108 t117 t118 t119 t120 _ A18.out).mono ?_); rintro e w33 ⟨rfl, hb⟩; refine ⟨_, rfl, ?_⟩; have n0_ := Aside0.mk (blk_below (g := gb116) (o := .cells #[.int .i64 t112, .int .i64 t113, .int .i64 t114] 99 (0, 0)) (by (with_reducible repeat (first | refine blk_drewN ?_ _ | refine blk_drew ?_ | refine blk_alloc ?_ _)); refine blk_put (cs := #[.int .i64 t112, .int .i64 t113, .int .i64 0]) ?_ 2 _ rfl; (with_reducible repeat (first | refine blk_drewN ?_ _ | refine blk_drew ?_ | refine blk_alloc ?_ _)); refine blk_put (cs := #[.int .i64 t112, .int .i64 0, .int .i64 0]) ?_ 1 _ rfl; (with_reducible repeat (first | refine blk_drewN ?_ _ | refine blk_drew ?_ | refine blk_alloc ?_ _)); refine blk_put (cs := #[.int .i64 0, .int .i64 0, .int .i64 0]) ?_ 0 _ rfl; (with_reducible repeat (first | refine blk_drewN ?_ _ | refine blk_drew ?_ | refine blk_alloc ?_ _)); exact BK116.out) hb); have n1_ := Aside0.mk (below_step (by repeat (first | (with_reducible first | exact HB.out | apply below_alloc | apply pw_below_drewN | apply below_drew1 | refine below_set ?_ GE116.out) | exact HB.out)) hb); clear BK116; clear HB; have BK116 := n0_; have HB := n1_; clear n0_ n1_; (try clear hb); (try clear hb2); (try clear hk); (try clear hi); (try have hu116_0 : w33.cell? ⟨gb116, 0, none⟩ = some (.int .i64 t112) := (blk_cell BK116.out 0).trans rfl); (try have hu116_1 : w33.cell? ⟨gb116, 1, none⟩ = some (.int .i64 t113) := (blk_cell BK116.out 1).trans rfl); (try have hu116_2 : w33.cell? ⟨gb116, 2, none⟩ = some (.int .i64 t114) := (blk_cell BK116.out 2).trans rfl); (try have hv116_0 := blk_frozen BK116.out 0); (try have hv116_1 := blk_frozen BK116.out 1); (try have hv116_2 := blk_frozen BK116.out 2)) | ((with_reducible refine gate_dst (N := 14) rfl ?_); refine box_event ?hg (N := 14) ?hd (cs := #[.int .i64 0, .int .i64 0, .int .i64 0]) (t := 99) ?hr ?_; (case hd => rfl); (case hg => rfl); (case hr => first | (go_simp; done) | (go_simp; rfl)); intro gb121 hg w34 hbox hb; have n0_ := Aside0.mk (blk_below (g := gb116) (o := .cells #[.int .i64 t112, .int .i64 t113, .int .i64 t114] 99 (0, 0)) (by (with_reducible repeat (first | refine blk_drewN ?_ _ | refine blk_drew ?_ | refine blk_alloc ?_ _)); exact BK116.out) hb); have n1_ := Aside0.mk (below_step (by repeat (first | (with_reducible first | exact HB.out | apply below_alloc | apply pw_below_drewN | apply below_drew1 | refine below_set ?_ GE116.out) | exact HB.out)) hb); have n2_ := Aside0.mk (hbox); have n3_ := Aside0.mk ((by rw [hg]; exact (below_size (by repeat (first | (with_reducible first | exact HB.out | apply below_alloc | apply pw_below_drewN | apply below_drew1 | refine below_set ?_ GE116.out) | exact HB.out))) : w.heap.size ≤ gb121)); have n4_ := Aside0.mk ((by rw [hg]; exact (below_size (by repeat (first | (with_reducible first | exact HB.out | apply below_alloc | apply pw_below_drewN | apply below_drew1 | refine below_set ?_ GE116.out) | exact HB.out))) : w.heap.size ≤ gb121)); have n5_ := Aside0.mk ((by rw [hg]; exact Nat.ne_of_lt (blk_lt (g := gb116) (o := .cells #[.int .i64 t112, .int .i64 t113, .int .i64 t114] 99 (0, 0)) (by (with_reducible repeat (first | refine blk_drewN ?_ _ | refine blk_drew ?_ | refine blk_alloc ?_ _)); exact BK116.out)) : gb116 ≠ gb121)); have n6_ := Aside0.mk ((by rw [hg]; exact Nat.ne_of_gt (blk_lt (g := gb116) (o := .cells #[.int .i64 t112, .int .i64 t113, .int .i64 t114] 99 (0, 0)) (by (with_reducible repeat (first | refine blk_drewN ?_ _ | refine blk_drew ?_ | refine blk_alloc ?_ _)); exact BK116.out)) : gb121 ≠ gb116)); clear BK116; clear HB; have BK116 := n0_; have HB := n1_; have BK121 := n2_; have GW121 := n3_; have GE121 := n4_; have NB116_121 := n5_; have NB121_116 := n6_; clear n0_ n1_ n2_ n3_ n4_ n5_ n6_; clear hb hbox hg; (try have hu116_0 : w34.cell? ⟨gb116, 0, none⟩ = some (.int .i64 t112) := (blk_cell BK116.out 0).trans rfl); (try have hu116_1 : w34.cell? ⟨gb116, 1, none⟩ = some (.int .i64 t113) := (blk_cell BK116.out 1).trans rfl); (try have hu116_2 : w34.cell? ⟨gb116, 2, none⟩ = some (.int .i64 t114) := (blk_cell BK116.out 2).trans rfl); (try have hv116_0 := blk_frozen BK116.out 0); (try have hv116_1 := blk_frozen BK116.out 1); (try have hv116_2 := blk_frozen BK116.out 2); (try have hu121_0 : w34.cell? ⟨gb121, 0, none⟩ = some (.int .i64 0) := (blk_cell BK121.out 0).trans rfl); (try have hu121_1 : w34.cell? ⟨gb121, 1, none⟩ = some (.int .i64 0) := (blk_cell BK121.out 1).trans rfl); (try have hu121_2 : w34.cell? ⟨gb121, 2, none⟩ = some (.int .i64 0) := (blk_cell BK121.out 2).trans rfl); (try have hv121_0 := blk_frozen BK121.out 0); (try have hv121_1 := blk_frozen BK121.out 1); (try have hv121_2 := blk_frozen BK121.out 2); have hnb35 := NB121_116.out; have hnc35 := NB116_121.out; have hcz36_0 : w34.cell? ⟨gb121, 0, none⟩ = some (.int .i64 0) := (blk_cell BK121.out 0).trans rfl; have hcz36_1 : w34.cell? ⟨gb121, 1, none⟩ = some (.int .i64 0) := (blk_cell BK121.out 1).trans rfl; have hcz36_2 : w34.cell? ⟨gb121, 2, none⟩ = some (.int .i64 0) := (blk_cell BK121.out 2).trans rfl; have hfz36_0 := blk_frozen BK121.out 0; have hfz36_1 := blk_frozen BK121.out 1; have hfz36_2 := blk_frozen BK121.out 2; have hcz37_0 : w34.cell? ⟨gb116, 0, none⟩ = some (.int .i64 t112) := (blk_cell BK116.out 0).trans rfl; have hcz37_1 : w34.cell? ⟨gb116, 1, none⟩ = some (.int .i64 t113) := (blk_cell BK116.out 1).trans rfl; have hcz37_2 : w34.cell? ⟨gb116, 2, none⟩ = some (.int .i64 t114) := (blk_cell BK116.out 2).trans rfl; have hfz37_0 := blk_frozen BK116.out 0; have hfz37_1 := blk_frozen BK116.out 1; have hfz37_2 := blk_frozen BK116.out 2))
                          go_meet
                          case rel => exact ⟨_, (4), (by first | rfl | (simp; done) | (simp [*]; done)), H', ⟨by have := HJ5.out; have := HJ8.out; first | omega | exact Nat.le_refl _⟩, ⟨by repeat (first | (with_reducible first | exact HB.out | apply below_alloc | apply pw_below_drewN | apply below_drew1 | refine below_set ?_ GE116.out | refine below_set ?_ GE121.out) | exact HB.out)⟩⟩
                      · rw [if_neg c20] at H
                        have c20b0 : (t113 == t118) = false := beq_eq_false_iff_ne.mpr c20
                        have c20b1 : (t113 != t118) = true := bne_iff_ne.mpr c20
                        have H' := Aside0.mk H
                        clear H
                        go_wp2_with (first | ((with_reducible refine gate_callee (f := 70) rfl ?_); refine goesL_ (some 49) rfl rfl Try.func70 (by kernel_rfl) rfl #[.int .i64 a1] rfl (by (try simp only [List.map_toArray, List.map_cons, List.map_nil]); first | done | rfl | (simp only [List.length_drop, List.length_take]; rfl)) ?_; (with_reducible refine (Go.Proofs.Ytcfpkkgdofblfaa.H.quittanceref03_Date.calls a1 t112 t113 t114 t115 _ A17.out).mono ?_); rintro e w38 ⟨rfl, hb⟩; refine ⟨_, rfl, ?_⟩; have n0_ := Aside0.mk (below_step (by repeat (first | (with_reducible first | exact HB.out | apply below_alloc | apply pw_below_drewN | apply below_drew1) | exact HB.out)) hb); clear HB; have HB := n0_; clear n0_; (try clear hb); (try clear hb2); (try clear hk); (try clear hi)) | ((with_reducible refine gate_dst (N := 12) rfl ?_); refine box_event ?hg (N := 12) ?hd (cs := #[.int .i64 0, .int .i64 0, .int .i64 0]) (t := 99) ?hr ?_; (case hd => rfl); (case hg => rfl); (case hr => first | (go_simp; done) | (go_simp; rfl)); intro gb116 hg w39 hbox hb; have n0_ := Aside0.mk (below_step (by repeat (first | (with_reducible first | exact HB.out | apply below_alloc | apply pw_below_drewN | apply below_drew1) | exact HB.out)) hb); have n1_ := Aside0.mk (hbox); have n2_ := Aside0.mk ((by rw [hg]; exact (below_size (by repeat (first | (with_reducible first | exact HB.out | apply below_alloc | apply pw_below_drewN | apply below_drew1) | exact HB.out))) : w.heap.size ≤ gb116)); have n3_ := Aside0.mk ((by rw [hg]; exact (below_size (by repeat (first | (with_reducible first | exact HB.out | apply below_alloc | apply pw_below_drewN | apply below_drew1) | exact HB.out))) : w.heap.size ≤ gb116)); clear HB; have HB := n0_; have BK116 := n1_; have GW116 := n2_; have GE116 := n3_; clear n0_ n1_ n2_ n3_; clear hb hbox hg; (try have hu116_0 : w39.cell? ⟨gb116, 0, none⟩ = some (.int .i64 0) := (blk_cell BK116.out 0).trans rfl); (try have hu116_1 : w39.cell? ⟨gb116, 1, none⟩ = some (.int .i64 0) := (blk_cell BK116.out 1).trans rfl); (try have hu116_2 : w39.cell? ⟨gb116, 2, none⟩ = some (.int .i64 0) := (blk_cell BK116.out 2).trans rfl); (try have hv116_0 := blk_frozen BK116.out 0); (try have hv116_1 := blk_frozen BK116.out 1); (try have hv116_2 := blk_frozen BK116.out 2); have hcz40_0 : w39.cell? ⟨gb116, 0, none⟩ = some (.int .i64 0) := (blk_cell BK116.out 0).trans rfl; have hcz40_1 : w39.cell? ⟨gb116, 1, none⟩ = some (.int .i64 0) := (blk_cell BK116.out 1).trans rfl; have hcz40_2 : w39.cell? ⟨gb116, 2, none⟩ = some (.int .i64 0) := (blk_cell BK116.out 2).trans rfl; have hfz40_0 := blk_frozen BK116.out 0; have hfz40_1 := blk_frozen BK116.out 1; have hfz40_2 := blk_frozen BK116.out 2) | ((with_reducible refine gate_callee (f := 70) rfl ?_); refine goesL_ (some 54) rfl rfl Try.func70 (by kernel_rfl) rfl #[.int .i64 t108] rfl (by (try simp only [List.map_toArray, List.map_cons, List.map_nil]); first | done | rfl | (simp only [List.length_drop, List.length_take]; rfl)) ?_; (with_reducible refine (Go.Proofs.Ytcfpkkgdofblfaa.H.quittanceref03_Date.calls t108 t117 t118 t119 t120 _ A18.out).mono ?_); rintro e w41 ⟨rfl, hb⟩; refine ⟨_, rfl, ?_⟩; have n0_ := Aside0.mk (blk_below (g := gb116) (o := .cells #[.int .i64 t112, .int .i64 t113, .int .i64 t114] 99 (0, 0)) (by (with_reducible repeat (first | refine blk_drewN ?_ _ | refine blk_drew ?_ | refine blk_alloc ?_ _)); refine blk_put (cs := #[.int .i64 t112, .int .i64 t113, .int .i64 0]) ?_ 2 _ rfl; (with_reducible repeat (first | refine blk_drewN ?_ _ | refine blk_drew ?_ | refine blk_alloc ?_ _)); refine blk_put (cs := #[.int .i64 t112, .int .i64 0, .int .i64 0]) ?_ 1 _ rfl; (with_reducible repeat (first | refine blk_drewN ?_ _ | refine blk_drew ?_ | refine blk_alloc ?_ _)); refine blk_put (cs := #[.int .i64 0, .int .i64 0, .int .i64 0]) ?_ 0 _ rfl; (with_reducible repeat (first | refine blk_drewN ?_ _ | refine blk_drew ?_ | refine blk_alloc ?_ _)); exact BK116.out) hb); have n1_ := Aside0.mk (below_step (by repeat (first | (with_reducible first | exact HB.out | apply below_alloc | apply pw_below_drewN | apply below_drew1 | refine below_set ?_ GE116.out) | exact HB.out)) hb); clear BK116; clear HB; have BK116 := n0_; have HB := n1_; clear n0_ n1_; (try clear hb); (try clear hb2); (try clear hk); (try clear hi); (try have hu116_0 : w41.cell? ⟨gb116, 0, none⟩ = some (.int .i64 t112) := (blk_cell BK116.out 0).trans rfl); (try have hu116_1 : w41.cell? ⟨gb116, 1, none⟩ = some (.int .i64 t113) := (blk_cell BK116.out 1).trans rfl); (try have hu116_2 : w41.cell? ⟨gb116, 2, none⟩ = some (.int .i64 t114) := (blk_cell BK116.out 2).trans rfl); (try have hv116_0 := blk_frozen BK116.out 0); (try have hv116_1 := blk_frozen BK116.out 1); (try have hv116_2 := blk_frozen BK116.out 2)) | ((with_reducible refine gate_dst (N := 14) rfl ?_); refine box_event ?hg (N := 14) ?hd (cs := #[.int .i64 0, .int .i64 0, .int .i64 0]) (t := 99) ?hr ?_; (case hd => rfl); (case hg => rfl); (case hr => first | (go_simp; done) | (go_simp; rfl)); intro gb121 hg w42 hbox hb; have n0_ := Aside0.mk (blk_below (g := gb116) (o := .cells #[.int .i64 t112, .int .i64 t113, .int .i64 t114] 99 (0, 0)) (by (with_reducible repeat (first | refine blk_drewN ?_ _ | refine blk_drew ?_ | refine blk_alloc ?_ _)); exact BK116.out) hb); have n1_ := Aside0.mk (below_step (by repeat (first | (with_reducible first | exact HB.out | apply below_alloc | apply pw_below_drewN | apply below_drew1 | refine below_set ?_ GE116.out) | exact HB.out)) hb); have n2_ := Aside0.mk (hbox); have n3_ := Aside0.mk ((by rw [hg]; exact (below_size (by repeat (first | (with_reducible first | exact HB.out | apply below_alloc | apply pw_below_drewN | apply below_drew1 | refine below_set ?_ GE116.out) | exact HB.out))) : w.heap.size ≤ gb121)); have n4_ := Aside0.mk ((by rw [hg]; exact (below_size (by repeat (first | (with_reducible first | exact HB.out | apply below_alloc | apply pw_below_drewN | apply below_drew1 | refine below_set ?_ GE116.out) | exact HB.out))) : w.heap.size ≤ gb121)); have n5_ := Aside0.mk ((by rw [hg]; exact Nat.ne_of_lt (blk_lt (g := gb116) (o := .cells #[.int .i64 t112, .int .i64 t113, .int .i64 t114] 99 (0, 0)) (by (with_reducible repeat (first | refine blk_drewN ?_ _ | refine blk_drew ?_ | refine blk_alloc ?_ _)); exact BK116.out)) : gb116 ≠ gb121)); have n6_ := Aside0.mk ((by rw [hg]; exact Nat.ne_of_gt (blk_lt (g := gb116) (o := .cells #[.int .i64 t112, .int .i64 t113, .int .i64 t114] 99 (0, 0)) (by (with_reducible repeat (first | refine blk_drewN ?_ _ | refine blk_drew ?_ | refine blk_alloc ?_ _)); exact BK116.out)) : gb121 ≠ gb116)); clear BK116; clear HB; have BK116 := n0_; have HB := n1_; have BK121 := n2_; have GW121 := n3_; have GE121 := n4_; have NB116_121 := n5_; have NB121_116 := n6_; clear n0_ n1_ n2_ n3_ n4_ n5_ n6_; clear hb hbox hg; (try have hu116_0 : w42.cell? ⟨gb116, 0, none⟩ = some (.int .i64 t112) := (blk_cell BK116.out 0).trans rfl); (try have hu116_1 : w42.cell? ⟨gb116, 1, none⟩ = some (.int .i64 t113) := (blk_cell BK116.out 1).trans rfl); (try have hu116_2 : w42.cell? ⟨gb116, 2, none⟩ = some (.int .i64 t114) := (blk_cell BK116.out 2).trans rfl); (try have hv116_0 := blk_frozen BK116.out 0); (try have hv116_1 := blk_frozen BK116.out 1); (try have hv116_2 := blk_frozen BK116.out 2); (try have hu121_0 : w42.cell? ⟨gb121, 0, none⟩ = some (.int .i64 0) := (blk_cell BK121.out 0).trans rfl); (try have hu121_1 : w42.cell? ⟨gb121, 1, none⟩ = some (.int .i64 0) := (blk_cell BK121.out 1).trans rfl); (try have hu121_2 : w42.cell? ⟨gb121, 2, none⟩ = some (.int .i64 0) := (blk_cell BK121.out 2).trans rfl); (try have hv121_0 := blk_frozen BK121.out 0); (try have hv121_1 := blk_frozen BK121.out 1); (try have hv121_2 := blk_frozen BK121.out 2); have hnb43 := NB121_116.out; have hnc43 := NB116_121.out; have hcz44_0 : w42.cell? ⟨gb121, 0, none⟩ = some (.int .i64 0) := (blk_cell BK121.out 0).trans rfl; have hcz44_1 : w42.cell? ⟨gb121, 1, none⟩ = some (.int .i64 0) := (blk_cell BK121.out 1).trans rfl; have hcz44_2 : w42.cell? ⟨gb121, 2, none⟩ = some (.int .i64 0) := (blk_cell BK121.out 2).trans rfl; have hfz44_0 := blk_frozen BK121.out 0; have hfz44_1 := blk_frozen BK121.out 1; have hfz44_2 := blk_frozen BK121.out 2; have hcz45_0 : w42.cell? ⟨gb116, 0, none⟩ = some (.int .i64 t112) := (blk_cell BK116.out 0).trans rfl; have hcz45_1 : w42.cell? ⟨gb116, 1, none⟩ = some (.int .i64 t113) := (blk_cell BK116.out 1).trans rfl; have hcz45_2 : w42.cell? ⟨gb116, 2, none⟩ = some (.int .i64 t114) := (blk_cell BK116.out 2).trans rfl; have hfz45_0 := blk_frozen BK116.out 0; have hfz45_1 := blk_frozen BK116.out 1; have hfz45_2 := blk_frozen BK116.out 2))
                        go_meet
                        case rel => exact ⟨_, (4), (by first | rfl | (simp; done) | (simp [*]; done)), H', ⟨by have := HJ5.out; have := HJ8.out; first | omega | exact Nat.le_refl _⟩, ⟨by repeat (first | (with_reducible first | exact HB.out | apply below_alloc | apply pw_below_drewN | apply below_drew1 | refine below_set ?_ GE116.out | refine below_set ?_ GE121.out) | exact HB.out)⟩⟩
                    · replace c19 := Bool.eq_false_iff.mpr c19
                      subst c19
                      have H1 : (quittanceref05_Roll.j2 kj8 4 t108 false t110 t111) = some (r1, r2) := by rw [if_neg (show ¬ (false = true) by decide)] at H; exact H
                      clear H
                      have H := H1
                      clear H1
                      have H' := Aside0.mk H
                      clear H
                      go_wp2_with (first | ((with_reducible refine gate_callee (f := 70) rfl ?_); refine goesL_ (some 49) rfl rfl Try.func70 (by kernel_rfl) rfl #[.int .i64 a1] rfl (by (try simp only [List.map_toArray, List.map_cons, List.map_nil]); first | done | rfl | (simp only [List.length_drop, List.length_take]; rfl)) ?_; (with_reducible refine (Go.Proofs.Ytcfpkkgdofblfaa.H.quittanceref03_Date.calls a1 t112 t113 t114 t115 _ A17.out).mono ?_); rintro e w46 ⟨rfl, hb⟩; refine ⟨_, rfl, ?_⟩; have n0_ := Aside0.mk (below_step (by repeat (first | (with_reducible first | exact HB.out | apply below_alloc | apply pw_below_drewN | apply below_drew1) | exact HB.out)) hb); clear HB; have HB := n0_; clear n0_; (try clear hb); (try clear hb2); (try clear hk); (try clear hi)) | ((with_reducible refine gate_dst (N := 12) rfl ?_); refine box_event ?hg (N := 12) ?hd (cs := #[.int .i64 0, .int .i64 0, .int .i64 0]) (t := 99) ?hr ?_; (case hd => rfl); (case hg => rfl); (case hr => first | (go_simp; done) | (go_simp; rfl)); intro gb116 hg w47 hbox hb; have n0_ := Aside0.mk (below_step (by repeat (first | (with_reducible first | exact HB.out | apply below_alloc | apply pw_below_drewN | apply below_drew1) | exact HB.out)) hb); have n1_ := Aside0.mk (hbox); have n2_ := Aside0.mk ((by rw [hg]; exact (below_size (by repeat (first | (with_reducible first | exact HB.out | apply below_alloc | apply pw_below_drewN | apply below_drew1) | exact HB.out))) : w.heap.size ≤ gb116)); have n3_ := Aside0.mk ((by rw [hg]; exact (below_size (by repeat (first | (with_reducible first | exact HB.out | apply below_alloc | apply pw_below_drewN | apply below_drew1) | exact HB.out))) : w.heap.size ≤ gb116)); clear HB; have HB := n0_; have BK116 := n1_; have GW116 := n2_; have GE116 := n3_; clear n0_ n1_ n2_ n3_; clear hb hbox hg; (try have hu116_0 : w47.cell? ⟨gb116, 0, none⟩ = some (.int .i64 0) := (blk_cell BK116.out 0).trans rfl); (try have hu116_1 : w47.cell? ⟨gb116, 1, none⟩ = some (.int .i64 0) := (blk_cell BK116.out 1).trans rfl); (try have hu116_2 : w47.cell? ⟨gb116, 2, none⟩ = some (.int .i64 0) := (blk_cell BK116.out 2).trans rfl); (try have hv116_0 := blk_frozen BK116.out 0); (try have hv116_1 := blk_frozen BK116.out 1); (try have hv116_2 := blk_frozen BK116.out 2); have hcz48_0 : w47.cell? ⟨gb116, 0, none⟩ = some (.int .i64 0) := (blk_cell BK116.out 0).trans rfl; have hcz48_1 : w47.cell? ⟨gb116, 1, none⟩ = some (.int .i64 0) := (blk_cell BK116.out 1).trans rfl; have hcz48_2 : w47.cell? ⟨gb116, 2, none⟩ = some (.int .i64 0) := (blk_cell BK116.out 2).trans rfl; have hfz48_0 := blk_frozen BK116.out 0; have hfz48_1 := blk_frozen BK116.out 1; have hfz48_2 := blk_frozen BK116.out 2) | ((with_reducible refine gate_callee (f := 70) rfl ?_); refine goesL_ (some 54) rfl rfl Try.func70 (by kernel_rfl) rfl #[.int .i64 t108] rfl (by (try simp only [List.map_toArray, List.map_cons, List.map_nil]); first | done | rfl | (simp only [List.length_drop, List.length_take]; rfl)) ?_; (with_reducible refine (Go.Proofs.Ytcfpkkgdofblfaa.H.quittanceref03_Date.calls t108 t117 t118 t119 t120 _ A18.out).mono ?_); rintro e w49 ⟨rfl, hb⟩; refine ⟨_, rfl, ?_⟩; have n0_ := Aside0.mk (blk_below (g := gb116) (o := .cells #[.int .i64 t112, .int .i64 t113, .int .i64 t114] 99 (0, 0)) (by (with_reducible repeat (first | refine blk_drewN ?_ _ | refine blk_drew ?_ | refine blk_alloc ?_ _)); refine blk_put (cs := #[.int .i64 t112, .int .i64 t113, .int .i64 0]) ?_ 2 _ rfl; (with_reducible repeat (first | refine blk_drewN ?_ _ | refine blk_drew ?_ | refine blk_alloc ?_ _)); refine blk_put (cs := #[.int .i64 t112, .int .i64 0, .int .i64 0]) ?_ 1 _ rfl; (with_reducible repeat (first | refine blk_drewN ?_ _ | refine blk_drew ?_ | refine blk_alloc ?_ _)); refine blk_put (cs := #[.int .i64 0, .int .i64 0, .int .i64 0]) ?_ 0 _ rfl; (with_reducible repeat (first | refine blk_drewN ?_ _ | refine blk_drew ?_ | refine blk_alloc ?_ _)); exact BK116.out) hb); have n1_ := Aside0.mk (below_step (by repeat (first | (with_reducible first | exact HB.out | apply below_alloc | apply pw_below_drewN | apply below_drew1 | refine below_set ?_ GE116.out) | exact HB.out)) hb); clear BK116; clear HB; have BK116 := n0_; have HB := n1_; clear n0_ n1_; (try clear hb); (try clear hb2); (try clear hk); (try clear hi); (try have hu116_0 : w49.cell? ⟨gb116, 0, none⟩ = some (.int .i64 t112) := (blk_cell BK116.out 0).trans rfl); (try have hu116_1 : w49.cell? ⟨gb116, 1, none⟩ = some (.int .i64 t113) := (blk_cell BK116.out 1).trans rfl); (try have hu116_2 : w49.cell? ⟨gb116, 2, none⟩ = some (.int .i64 t114) := (blk_cell BK116.out 2).trans rfl); (try have hv116_0 := blk_frozen BK116.out 0); (try have hv116_1 := blk_frozen BK116.out 1); (try have hv116_2 := blk_frozen BK116.out 2)) | ((with_reducible refine gate_dst (N := 14) rfl ?_); refine box_event ?hg (N := 14) ?hd (cs := #[.int .i64 0, .int .i64 0, .int .i64 0]) (t := 99) ?hr ?_; (case hd => rfl); (case hg => rfl); (case hr => first | (go_simp; done) | (go_simp; rfl)); intro gb121 hg w50 hbox hb; have n0_ := Aside0.mk (blk_below (g := gb116) (o := .cells #[.int .i64 t112, .int .i64 t113, .int .i64 t114] 99 (0, 0)) (by (with_reducible repeat (first | refine blk_drewN ?_ _ | refine blk_drew ?_ | refine blk_alloc ?_ _)); exact BK116.out) hb); have n1_ := Aside0.mk (below_step (by repeat (first | (with_reducible first | exact HB.out | apply below_alloc | apply pw_below_drewN | apply below_drew1 | refine below_set ?_ GE116.out) | exact HB.out)) hb); have n2_ := Aside0.mk (hbox); have n3_ := Aside0.mk ((by rw [hg]; exact (below_size (by repeat (first | (with_reducible first | exact HB.out | apply below_alloc | apply pw_below_drewN | apply below_drew1 | refine below_set ?_ GE116.out) | exact HB.out))) : w.heap.size ≤ gb121)); have n4_ := Aside0.mk ((by rw [hg]; exact (below_size (by repeat (first | (with_reducible first | exact HB.out | apply below_alloc | apply pw_below_drewN | apply below_drew1 | refine below_set ?_ GE116.out) | exact HB.out))) : w.heap.size ≤ gb121)); have n5_ := Aside0.mk ((by rw [hg]; exact Nat.ne_of_lt (blk_lt (g := gb116) (o := .cells #[.int .i64 t112, .int .i64 t113, .int .i64 t114] 99 (0, 0)) (by (with_reducible repeat (first | refine blk_drewN ?_ _ | refine blk_drew ?_ | refine blk_alloc ?_ _)); exact BK116.out)) : gb116 ≠ gb121)); have n6_ := Aside0.mk ((by rw [hg]; exact Nat.ne_of_gt (blk_lt (g := gb116) (o := .cells #[.int .i64 t112, .int .i64 t113, .int .i64 t114] 99 (0, 0)) (by (with_reducible repeat (first | refine blk_drewN ?_ _ | refine blk_drew ?_ | refine blk_alloc ?_ _)); exact BK116.out)) : gb121 ≠ gb116)); clear BK116; clear HB; have BK116 := n0_; have HB := n1_; have BK121 := n2_; have GW121 := n3_; have GE121 := n4_; have NB116_121 := n5_; have NB121_116 := n6_; clear n0_ n1_ n2_ n3_ n4_ n5_ n6_; clear hb hbox hg; (try have hu116_0 : w50.cell? ⟨gb116, 0, none⟩ = some (.int .i64 t112) := (blk_cell BK116.out 0).trans rfl); (try have hu116_1 : w50.cell? ⟨gb116, 1, none⟩ = some (.int .i64 t113) := (blk_cell BK116.out 1).trans rfl); (try have hu116_2 : w50.cell? ⟨gb116, 2, none⟩ = some (.int .i64 t114) := (blk_cell BK116.out 2).trans rfl); (try have hv116_0 := blk_frozen BK116.out 0); (try have hv116_1 := blk_frozen BK116.out 1); (try have hv116_2 := blk_frozen BK116.out 2); (try have hu121_0 : w50.cell? ⟨gb121, 0, none⟩ = some (.int .i64 0) := (blk_cell BK121.out 0).trans rfl); (try have hu121_1 : w50.cell? ⟨gb121, 1, none⟩ = some (.int .i64 0) := (blk_cell BK121.out 1).trans rfl); (try have hu121_2 : w50.cell? ⟨gb121, 2, none⟩ = some (.int .i64 0) := (blk_cell BK121.out 2).trans rfl); (try have hv121_0 := blk_frozen BK121.out 0); (try have hv121_1 := blk_frozen BK121.out 1); (try have hv121_2 := blk_frozen BK121.out 2); have hnb51 := NB121_116.out; have hnc51 := NB116_121.out; have hcz52_0 : w50.cell? ⟨gb121, 0, none⟩ = some (.int .i64 0) := (blk_cell BK121.out 0).trans rfl; have hcz52_1 : w50.cell? ⟨gb121, 1, none⟩ = some (.int .i64 0) := (blk_cell BK121.out 1).trans rfl; have hcz52_2 : w50.cell? ⟨gb121, 2, none⟩ = some (.int .i64 0) := (blk_cell BK121.out 2).trans rfl; have hfz52_0 := blk_frozen BK121.out 0; have hfz52_1 := blk_frozen BK121.out 1; have hfz52_2 := blk_frozen BK121.out 2))
                      go_meet
                      case rel => exact ⟨_, (4), (by first | rfl | (simp; done) | (simp [*]; done)), H', ⟨by have := HJ5.out; have := HJ8.out; first | omega | exact Nat.le_refl _⟩, ⟨by repeat (first | (with_reducible first | exact HB.out | apply below_alloc | apply pw_below_drewN | apply below_drew1 | refine below_set ?_ GE116.out | refine below_set ?_ GE121.out) | exact HB.out)⟩⟩
                  · rw [if_neg c16] at H
                    have c16b0 : (a2 == 3) = false := beq_eq_false_iff_ne.mpr c16
                    have c16b1 : (a2 != 3) = true := bne_iff_ne.mpr c16
                    (first | rw [c16b0] | (simp only [i64_w, i32_w]; rw [c16b0]) | skip)
                    have H' := Aside0.mk H
                    clear H
                    go_wp2
                    go_meet
                    case rel => exact ⟨_, (a2), (by first | rfl | (simp; done) | (simp [*]; done)), H', ⟨by have := HJ5.out; have := HJ8.out; first | omega | exact Nat.le_refl _⟩, ⟨by repeat (first | (with_reducible first | exact HB.out | apply below_alloc | apply pw_below_drewN | apply below_drew1) | exact HB.out)⟩⟩
                case rest =>
                  clear HC15
                  try clear c1
                  try clear c2
                  try clear p2
                  try clear c3
                  try clear c4
                  try clear c5
                  try clear c6
                  try clear c7
                  try clear c7b0
                  try clear c8
                  try clear c10
                  try clear c10b0
                  try clear c10b1
                  try clear c12
                  try clear c16
                  try clear c16b0
                  try clear c16b1
                  try clear c19
                  try clear c20
                  try clear c20b0
                  try clear c20b1
                  try clear c21
                  try clear c21b0
                  try clear c21b1
                  try clear c27
                  try clear c31
                  try clear c35
                  try clear c37
                  try clear c43
                  try clear c51
                  try clear hcz24_0
                  try clear hcz24_1
                  try clear hcz24_2
                  try clear hcz28_0
                  try clear hcz28_1
                  try clear hcz28_2
                  try clear hcz29_0
                  try clear hcz29_1
                  try clear hcz29_2
                  try clear hcz32_0
                  try clear hcz32_1
                  try clear hcz32_2
                  try clear hcz36_0
                  try clear hcz36_1
                  try clear hcz36_2
                  try clear hcz37_0
                  try clear hcz37_1
                  try clear hcz37_2
                  try clear hcz40_0
                  try clear hcz40_1
                  try clear hcz40_2
                  try clear hcz44_0
                  try clear hcz44_1
                  try clear hcz44_2
                  try clear hcz45_0
                  try clear hcz45_1
                  try clear hcz45_2
                  try clear hcz48_0
                  try clear hcz48_1
                  try clear hcz48_2
                  try clear hcz52_0
                  try clear hcz52_1
                  try clear hcz52_2
                  try clear hfz24_0
                  try clear hfz24_1
                  try clear hfz24_2
                  try clear hfz28_0
                  try clear hfz28_1
                  try clear hfz28_2
                  try clear hfz29_0
                  try clear hfz29_1
                  try clear hfz29_2
                  try clear hfz32_0
                  try clear hfz32_1
                  try clear hfz32_2
                  try clear hfz36_0
                  try clear hfz36_1
                  try clear hfz36_2
                  try clear hfz37_0
                  try clear hfz37_1
                  try clear hfz37_2
                  try clear hfz40_0
                  try clear hfz40_1
                  try clear hfz40_2
                  try clear hfz44_0
                  try clear hfz44_1
                  try clear hfz44_2
                  try clear hfz45_0
                  try clear hfz45_1
                  try clear hfz45_2
                  try clear hfz48_0
                  try clear hfz48_1
                  try clear hfz48_2
                  try clear hfz52_0
                  try clear hfz52_1
                  try clear hfz52_2
                  try clear p2
                  obtain ⟨kq, x2_14, rfl, HA, HJ14, HB⟩ := hcut
                  cases kq with
                  | zero => exact absurd HA.out (by simp [quittanceref05_Roll.j2])
                  | succ kj14 =>
                    have H := HA.out
                    clear HA
                    simp only [quittanceref05_Roll.j2] at H
                    by_cases c53 : x2_14 = 4
                    · rw [if_pos c53] at H
                      have c53b0 : (x2_14 == 4) = true := beq_iff_eq.mpr c53
                      have c53b1 : (x2_14 != 4) = false := bne_eq_false_iff_eq.mpr c53
                      clear c53
                      by_cases c54 : t111 = true
                      · subst c54
                        have H1 : (some (t110, 0)) = some (r1, r2) := by rw [if_pos rfl] at H; exact H
                        clear H
                        have H := H1
                        clear H1
                        simp only [Option.some.injEq, Prod.mk.injEq] at H
                        obtain ⟨rfl, rfl⟩ := H
                        go_wp2
                        go_ret2
                        exact ⟨by first | rfl | (simp [errW_none, errW_some] <;> rfl) | (simp [*, errW_none, errW_some] <;> rfl), by repeat (first | (with_reducible first | exact HB.out | apply below_alloc | apply pw_below_drewN | apply below_drew1) | exact HB.out)⟩
                      · replace c54 := Bool.eq_false_iff.mpr c54
                        subst c54
                        have H1 : (some (0, 5)) = some (r1, r2) := by rw [if_neg (show ¬ (false = true) by decide)] at H; exact H
                        clear H
                        have H := H1
                        clear H1
                        simp only [Option.some.injEq, Prod.mk.injEq] at H
                        obtain ⟨rfl, rfl⟩ := H
                        go_wp2
                        go_ret2
                        exact ⟨by first | rfl | (simp [errW_none, errW_some] <;> rfl) | (simp [*, errW_none, errW_some] <;> rfl), by repeat (first | (with_reducible first | exact HB.out | apply below_alloc | apply pw_below_drewN | apply below_drew1) | exact HB.out)⟩
                    · rw [if_neg c53] at H
                      have c53b0 : (x2_14 == 4) = false := beq_eq_false_iff_ne.mpr c53
                      have c53b1 : (x2_14 != 4) = true := bne_iff_ne.mpr c53
                      by_cases c55 : t109 = true
                      · subst c55
                        have H1 : (some (t108, 0)) = some (r1, r2) := by rw [if_pos rfl] at H; exact H
                        clear H
                        have H := H1
                        clear H1
                        simp only [Option.some.injEq, Prod.mk.injEq] at H
                        obtain ⟨rfl, rfl⟩ := H
                        go_wp2
                        go_ret2
                        exact ⟨by first | rfl | (simp [errW_none, errW_some] <;> rfl) | (simp [*, errW_none, errW_some] <;> rfl), by repeat (first | (with_reducible first | exact HB.out | apply below_alloc | apply pw_below_drewN | apply below_drew1) | exact HB.out)⟩
                      · replace c55 := Bool.eq_false_iff.mpr c55
                        subst c55
                        have H1 : (some (0, 5)) = some (r1, r2) := by rw [if_neg (show ¬ (false = true) by decide)] at H; exact H
                        clear H
                        have H := H1
                        clear H1
                        simp only [Option.some.injEq, Prod.mk.injEq] at H
                        obtain ⟨rfl, rfl⟩ := H
                        go_wp2
                        go_ret2
                        exact ⟨by first | rfl | (simp [errW_none, errW_some] <;> rfl) | (simp [*, errW_none, errW_some] <;> rfl), by repeat (first | (with_reducible first | exact HB.out | apply below_alloc | apply pw_below_drewN | apply below_drew1) | exact HB.out)⟩
  · replace c5 := Bool.eq_false_iff.mpr c5
    subst c5
    have H1 : (some (0, 5)) = some (r1, r2) := by rw [if_neg (show ¬ (false = true) by decide)] at H; exact H
    clear H
    have H := H1
    clear H1
    simp only [Option.some.injEq, Prod.mk.injEq] at H
    obtain ⟨rfl, rfl⟩ := H
    go_enter Try.func37, Try.ntmps37
    go_wp2_with (first | ((with_reducible refine gate_callee (f := 31) rfl ?_); refine goesL_ (some 17) rfl rfl Try.func31 (by kernel_rfl) rfl #[.int .i64 a1] rfl (by (try simp only [List.map_toArray, List.map_cons, List.map_nil]); first | done | rfl | (simp only [List.length_drop, List.length_take]; rfl)) ?_; (with_reducible refine (Go.Proofs.Ytcfpkkgdofblfaa.H.quittanceref03_Is.calls a1 false _ A4.out).mono ?_); rintro e w' ⟨rfl, ⟨nd, rfl⟩⟩; refine ⟨_, rfl, ?_⟩))
    go_ret2
    exact ⟨by first | rfl | (simp [errW_none, errW_some] <;> rfl) | (simp [*, errW_none, errW_some] <;> rfl), by repeat (first | (with_reducible first | exact HB.out | apply below_alloc | apply pw_below_drewN | apply below_drew1) | exact HB.out)⟩

end Go.Proofs.Ytcfpkkgdofblfaa.PBU
/- Plain: days rolled, rising; a list of one's own as1 a block of numbers. -/
namespace Go.Proofs.Ytcfpkkgdofblfaa.Du
open Go.RowKit Go.Proofs.YtcfpkkgdofblfaaW.PrintWords Go.Proofs.YtcfpkkgdofblfaaW.PrintLast Go.Proofs.YtcfpkkgdofblfaaW.PrintMore
open Go.Proofs.Ytcfpkkgdofblfaa.Math Go.Proofs.Ytcfpkkgdofblfaa.H
set_option linter.unusedVariables false
set_option linter.unusedSimpArgs false
theorem rises_pm (l : List Int) : ∀ p, rises p l = Pm.holsOk p l := by
  induction l with
  | nil => intro p; rfl
  | cons a l ih =>
    intro p
    simp only [rises, Pm.holsOk, ih]
    rw [Bool.eq_iff_iff]
    simp only [Bool.and_eq_true, decide_eq_true_eq]
    constructor
    · rintro ⟨⟨h1, h2⟩, h3, h4⟩; exact ⟨⟨h1, h2, h3⟩, h4⟩
    · rintro ⟨⟨h1, h2, h3⟩, h4⟩; exact ⟨⟨h1, h2⟩, h3, h4⟩
/-- What was told, and what follows, or why none. -/
def after (pre : List Int) (r : List Int × Int) : List Int × Int := if r.2 = 0 then (pre ++ r.1, 0) else ([], r.2)
theorem after_nil {r : List Int × Int} (h : r.2 ≠ 0 → r.1 = []) : after [] r = r := by
  unfold after
  obtain ⟨a, b⟩ := r
  by_cases e : b = 0
  · subst e; simp
  · simp only [] at h; simp [e, h e]
theorem after_after (pre : List Int) (x : Int) (r : List Int × Int) : after pre (after [x] r) = after (pre ++ [x]) r := by
  unfold after
  by_cases e : r.2 = 0
  · simp [e]
  · simp [e]
theorem after_err (pre : List Int) {e : Int} (h : e ≠ 0) : after pre ([], e) = ([], e) := by unfold after; simp [h]
/-- Days, each rolled, or why none. -/
def rollAll (hol : List Int) (how : Int) : List Int → List Int × Int
  | [] => ([], 0)
  | d :: r => if (rollS hol d how).2 = 0 then after [(rollS hol d how).1] (rollAll hol how r) else ([], (rollS hol d how).2)
theorem rollAll_err (hol : List Int) (how : Int) (l : List Int) : (rollAll hol how l).2 ≠ 0 → (rollAll hol how l).1 = [] := by
  cases l with
  | nil => intro h; exact absurd rfl h
  | cons d r =>
    rw [rollAll]
    split
    · unfold after
      split
      · intro h; exact absurd rfl h
      · intro; rfl
    · intro; rfl
theorem rollAll_len (hol : List Int) (how : Int) (l : List Int) : (rollAll hol how l).2 = 0 → (rollAll hol how l).1.length = l.length := by
  induction l with
  | nil => intro; rfl
  | cons d r ih =>
    rw [rollAll]
    split
    · unfold after
      split
      · rename_i h; intro; simp [ih h]
      · rename_i h; intro e; exact absurd e h
    · rename_i h; intro e; exact absurd e h
/-- Each is later than the one ahead. -/
def rise : Int → List Int → Bool
  | _, [] => true
  | p, d :: r => decide (p < d) && rise d r
/-- The days of a product's instalments, or why none. -/
def daysP (p : Pm.Prod) (start : Int) : List Int × Int :=
  if Pm.ok p = true then
    if (datesP start p.every p.times).2 = 0 then
      if (rollAll p.hol p.roll (datesP start p.every p.times).1).2 = 0 then
        if rise start (rollAll p.hol p.roll (datesP start p.every p.times).1).1 = true then ((rollAll p.hol p.roll (datesP start p.every p.times).1).1, 0) else ([], 11)
      else ([], (rollAll p.hol p.roll (datesP start p.every p.times).1).2)
    else ([], (datesP start p.every p.times).2)
  else ([], 9)
/-- A list of the call's own. -/
def RowI (w : World) (B : Nat) (v : Value) (l : List Int) : Prop :=
  (v = .slice none 0 0 ∧ l = []) ∨ ∃ g c t, v = .slice (some ⟨g, 0, none⟩) l.length c ∧ B ≤ g ∧ l.length ≤ c ∧ H.Blk w g 3 (nums .i64 l ++ t)
theorem reps_nums (k : IntKind) (l : List Int) (inner : List Value) (h : Reps (fun x cs => cs = [Value.int k x]) 1 l inner) : inner = nums k l := by
  obtain ⟨h1, h2⟩ := h
  apply List.ext_getElem?
  intro j
  by_cases hj : j < l.length
  · have e := h2 j l[j] (List.getElem?_eq_getElem hj)
    have e2 := congrArg (fun x => x[0]?) e
    simp only [Nat.mul_one, List.getElem?_take, List.getElem?_drop, Nat.add_zero] at e2
    simp only [Nat.zero_lt_one, if_true, List.getElem?_cons_zero] at e2
    rw [e2]
    simp [nums, hj]
  · rw [List.getElem?_eq_none (by omega), List.getElem?_eq_none (by simp [nums]; omega)]
theorem row_of_R {w : World} {B : Nat} {ok : Nat → Prop} {v : Value} {l : List Int} (h : Kd.R (Kd.int .i64) 3 w B ok v l) : RowI w B v l := by
  obtain ⟨-, inner, ho, hr⟩ := h
  obtain rfl := reps_nums .i64 l inner hr
  have ho2 := ho.2
  rcases ho2 with ⟨hv, hn⟩ | ⟨g, cap, cur, hv, hg, hh, r⟩
  · refine Or.inl ⟨hv, ?_⟩
    cases l with
    | nil => rfl
    | cons a r => simp at hn
  · subst hv
    obtain ⟨t, -, hb, hc⟩ := H.Blk.ofOwn ho
    exact Or.inr ⟨g, cap, t, rfl, hg, hc, hb⟩
end Go.Proofs.Ytcfpkkgdofblfaa.Du
/- dues.Days: the days on which instalments are due. -/
namespace Go.Proofs.Ytcfpkkgdofblfaa.Du
open Go.RowKit Go.Proofs.YtcfpkkgdofblfaaW.PrintWords Go.Proofs.YtcfpkkgdofblfaaW.PrintLast Go.Proofs.YtcfpkkgdofblfaaW.PrintMore Go.Proofs.Ytcfpkkgdofblfaa.HW
open Go.Proofs.Ytcfpkkgdofblfaa.Math Go.Proofs.Ytcfpkkgdofblfaa.H Go.Proofs.Ytcfpkkgdofblfaa.Pd Pm
attribute [local go_sem] run_makeFunc_
set_option linter.unusedVariables false
set_option linter.unusedSimpArgs false
theorem cell_lt {w : World} {ad : Addr} {v : Value} (h : w.cell? ad = some v) : ad.block < w.heap.size := by
  rcases Nat.lt_or_ge ad.block w.heap.size with h1 | h1
  · exact h1
  · exfalso
    have e : w.heap[ad.block]? = none := Array.getElem?_eq_none h1
    simp [World.cell?, e] at h
theorem C_but {w w1 : World} {A : Option Addr} {n g : Nat} {l : List Int} {k : IntKind} (h : Kd.C (Kd.int k) w A n l) (hb : But g w w1) (hA : ∀ ad, A = some ad → ad.block ≠ g) : Kd.C (Kd.int k) w1 A n l := by
  have h' := Kd.reads_of_C (d := (0 : Int)) h
  refine Kd.C_of_reads (d := (0 : Int)) ⟨h'.1, h'.2.1, fun hn => ?_⟩
  obtain ⟨ad, e, hc⟩ := h'.2.2 hn
  refine ⟨ad, e, fun j hj => ?_⟩
  have hj' := hc j hj
  have hlt := cell_lt hj'
  rw [hb.cell hlt (by have := hA ad e; simp only [Addr.add]; split <;> exact this)]
  exact hj'
theorem CalIn.but {B : Nat} {w w1 : World} {gb g : Nat} {l : List Int} (h : CalIn B w gb l) (hb : But g w w1) (h1 : gb ≠ g) (h2 : g < B) : CalIn B w1 gb l := by
  obtain ⟨A, c, c1, c2, c3, c4, c5, c6, c7⟩ := h
  exact ⟨A, c, by rw [hb.cell (by exact c6) (by exact h1)]; exact c1, C_but c2 hb (fun ad e => by have := c7 ad e; omega), c3, c4, c5, Nat.lt_of_lt_of_le c6 hb.size, c7⟩
theorem CalIn.below {B : Nat} {w w1 : World} {gb : Nat} {l : List Int} (h : CalIn B w gb l) (hb : Below w.heap.size w w1) : CalIn B w1 gb l := by
  obtain ⟨A, c, h1, h2, h3, h4, h5, h6, h7⟩ := h
  exact ⟨A, c, by rw [hb.cell (by exact h6)]; exact h1, Kd.C_below h2 hb, h3, h4, h5, Nat.lt_of_lt_of_le h6 hb.size, h7⟩
theorem roller_any {gb : Nat} {l : List Int} {day how r1 r2 : Int} {w : World} (h : CalAt w gb l) (hr : rollS l day how = (r1, r2)) :
    Calls Try.prog 35 #[.agg #[.pointer (some ⟨gb, 0, none⟩), .int .i64 how], .int .i64 day] w fun e w' => e = .returned (.tuple #[.int .i64 r1, .int .i64 r2]) ∧ Below w.heap.size w w' := by
  have HA := Aside0.mk h
  have HR := Aside0.mk hr
  clear h hr
  have HB := Aside0.mk (below_alloc (Below.refl w.heap.size w) (.cells #[.pointer (some ⟨gb, 0, none⟩), .int .i64 how] 64))
  go_enter Try.func35, Try.ntmps35
  go_wp2_with (go_at_call 67; (with_reducible refine (roll_any (HA.out.below HB.out) HR.out).mono ?_); rintro e w2 ⟨rfl, hb⟩; have HB2 := Aside0.mk (below_step HB.out hb); clear hb)
  go_ret2
  exact ⟨rfl, HB2.out⟩
/-- What a call gives that hands back a list of its own, or none, and why. -/
def Listed (r : List Int × Int) (w : World) (e : Ending) (w' : World) : Prop := ∃ v, e = .returned (.tuple #[v, .int .i64 r.2]) ∧ RowI w' w.heap.size v r.1 ∧ Below w.heap.size w w'
theorem dates_any (n e t : Int) (w : World) : Calls Try.prog 33 #[.int .i64 n, .int .i64 e, .int .i64 t] w (Listed (datesP n e t) w) := by
  refine (PDA.monthly_Dates.calls (t.toNat + 2) n e t _ _ w civ_dates.2.1).mono ?_
  rintro e w' ⟨v, he, hr, hb⟩
  exact ⟨v, he, row_of_R hr, hb⟩
theorem dates_full : ∀ (m : Nat) (n e i : Int) (l : List Int), (dates m n e i l).2 = 0 → (dates m n e i l).1.length = l.length + m
  | 0, n, e, i, l => by simp [dates]
  | m + 1, n, e, i, l => by
    unfold dates
    split
    · intro h
      have := dates_full m n e (i + 1) (l ++ [(add n ((i + 1) * e)).1]) h
      simp at this ⊢
      omega
    · rename_i h; intro h2; exact absurd h2 h
theorem datesP_full {n e t : Int} (h : (datesP n e t).2 = 0) : ((datesP n e t).1.length : Int) = t ∧ 1 ≤ t ∧ t ≤ 600 := by
  unfold datesP at h ⊢
  split at h
  · rename_i hc
    rw [if_pos hc]
    have := dates_full t.toNat n e 0 [] h
    simp at this
    omega
  · cases h
set_option maxRecDepth 100000 in
set_option maxHeartbeats 2000000 in
theorem days_refused (p : Prod) (A1 : Option Addr) (c1 : Nat) (A2 : Option Addr) (c2 : Nat) (A3 : Option Addr) (c3 : Nat) (start : Int) (w : World) (hg : GV w) (hp : ProdAt w p A1 c1 A2 c2 A3 c3) (hs : Small p) (ho : ok p = false) :
    Calls Try.prog 14 #[pv p A1 c1 A2 c2 A3 c3, .int .i64 start] w (Listed (daysP p start) w) := by
  have er : err p = 9 := by unfold err; rw [ho]; rfl
  have ed : daysP p start = ([], 9) := by unfold daysP; rw [ho]; rfl
  rw [ed]
  have HG := Aside0.mk hg
  have HP := Aside0.mk hp
  have CK := Aside0.mk (fun w1 (hb : Below w.heap.size w w1) => check_any p A1 c1 A2 c2 A3 c3 w1 (HG.out.below hb) (HP.out.below hb) hs)
  rw [er] at CK
  clear hg hp ed er ho hs
  go_enter Try.func14, Try.ntmps14
  go_wp2_with ((with_reducible refine gate_dst (N := 2) rfl ?_); refine box_event ?hg (N := 2) ?hd (cs := pcs p A1 c1 A2 c2 A3 c3) (t := 27) ?hr ?_; (case hd => rfl); (case hg => rfl); (case hr => first | (go_simp; done) | (go_simp; rfl)); intro g2 hg v0 hb1 hbl1; clear hg; have G2 := Aside0.mk hb1; have HB := Aside0.mk hbl1; clear hb1 hbl1; refine Hid.out ?_)
  refine Lib.hid ?_
  go_wp2_with (first
    | ((with_reducible refine gate_dst (N := 16) rfl ?_); refine wpList_load_row rfl 27 (.tmp 2) rfl g2 rfl 27 _ (0, 0) _ G2.out Try.underlying27 rfl info_prod ?_)
    | (go_at_call 32; (with_reducible refine (CK.out _ HB.out).mono ?_); rintro e w2 ⟨rfl, hb⟩; have HB := Aside0.mk (below_step HB.out hb); have G2 := Aside0.mk (Pd.blk_below G2.out hb); clear hb; obtain ⟨-, -, -, -, q4, q5, -, -, -, -, -, -, -, -, -, -, -, q17, q18⟩ := pc_cells G2.out))
  go_ret2
  exact ⟨_, rfl, Or.inl ⟨rfl, rfl⟩, HB.out⟩
set_option maxRecDepth 100000 in
set_option maxHeartbeats 2000000 in
theorem days_none (p : Prod) (A1 : Option Addr) (c1 : Nat) (A2 : Option Addr) (c2 : Nat) (A3 : Option Addr) (c3 : Nat) (start : Int) (w : World) (hg : GV w) (hp : ProdAt w p A1 c1 A2 c2 A3 c3) (hs : Small p) (ho : ok p = true) (hd : (datesP start p.every p.times).2 ≠ 0) :
    Calls Try.prog 14 #[pv p A1 c1 A2 c2 A3 c3, .int .i64 start] w (Listed (daysP p start) w) := by
  have er : err p = 0 := by unfold err; rw [ho]; rfl
  have ed : daysP p start = ([], (datesP start p.every p.times).2) := by unfold daysP; rw [if_pos ho, if_neg hd]
  rw [ed]
  have HG := Aside0.mk hg
  have HP := Aside0.mk hp
  have CK := Aside0.mk (fun w1 (hb : Below w.heap.size w w1) => check_any p A1 c1 A2 c2 A3 c3 w1 (HG.out.below hb) (HP.out.below hb) hs)
  rw [er] at CK
  have dt := fun w => dates_any start p.every p.times w
  generalize datesP start p.every p.times = D at dt hd ⊢
  obtain ⟨l, e0⟩ := D
  have DT := Aside0.mk dt
  have he : (e0 != 0) = true := by simpa using hd
  clear hg hp ed er ho hs dt hd
  go_enter Try.func14, Try.ntmps14
  go_wp2_with ((with_reducible refine gate_dst (N := 2) rfl ?_); refine box_event ?hg (N := 2) ?hd (cs := pcs p A1 c1 A2 c2 A3 c3) (t := 27) ?hr ?_; (case hd => rfl); (case hg => rfl); (case hr => first | (go_simp; done) | (go_simp; rfl)); intro g2 hg v0 hb1 hbl1; clear hg; have G2 := Aside0.mk hb1; have HB := Aside0.mk hbl1; clear hb1 hbl1; refine Hid.out ?_)
  refine Lib.hid ?_
  go_wp2_with (first
    | ((with_reducible refine gate_dst (N := 16) rfl ?_); refine wpList_load_row rfl 27 (.tmp 2) rfl g2 rfl 27 _ (0, 0) _ G2.out Try.underlying27 rfl info_prod ?_)
    | (go_at_call 32; (with_reducible refine (CK.out _ HB.out).mono ?_); rintro e w2 ⟨rfl, hb⟩; have HB := Aside0.mk (below_step HB.out hb); have G2 := Aside0.mk (Pd.blk_below G2.out hb); clear hb; obtain ⟨-, -, -, -, q4, q5, -, -, -, -, -, -, -, -, -, -, -, q17, q18⟩ := pc_cells G2.out)
    | (go_at_call 33; (with_reducible refine (DT.out _).mono ?_); rintro e w3 ⟨v, rfl, hr, hb⟩; have RW := Aside0.mk hr; have HB := Aside0.mk (below_step HB.out hb); have G2 := Aside0.mk (Pd.blk_below G2.out hb); clear hr hb; obtain ⟨-, -, -, -, q4, q5, -, -, -, -, -, -, -, -, -, -, -, q17, q18⟩ := pc_cells G2.out))
  go_ret2
  exact ⟨_, rfl, Or.inl ⟨rfl, rfl⟩, HB.out⟩
end Go.Proofs.Ytcfpkkgdofblfaa.Du
/- dues.Days, where all may be: each day rolled, and whether they rise. -/
namespace Go.Proofs.Ytcfpkkgdofblfaa.Du
open Go.RowKit Go.Proofs.YtcfpkkgdofblfaaW.PrintWords Go.Proofs.YtcfpkkgdofblfaaW.PrintLast Go.Proofs.YtcfpkkgdofblfaaW.PrintMore Go.Proofs.Ytcfpkkgdofblfaa.HW
open Go.Proofs.Ytcfpkkgdofblfaa.Math Go.Proofs.Ytcfpkkgdofblfaa.H Go.Proofs.Ytcfpkkgdofblfaa.Pd Pm
attribute [local go_sem] run_makeFunc_
set_option linter.unusedVariables false
set_option linter.unusedSimpArgs false
theorem nums_at (pre : List Int) (d : Int) (r : List Int) (t : List Value) (k : Nat) (h : pre.length = k) : (nums .i64 (pre ++ d :: r) ++ t)[k]? = some (.int .i64 d) := by
  subst h
  simp [nums]
theorem nums_set (pre : List Int) (d x : Int) (r : List Int) (t : List Value) (k : Nat) (h : pre.length = k) : (nums .i64 (pre ++ d :: r) ++ t).set k (.int .i64 x) = nums .i64 (pre ++ [x] ++ r) ++ t := by
  subst h
  simp [nums, List.set_append]
theorem ok_days {p : Prod} (h : ok p = true) : p.hol.length ≤ 200 ∧ holsOk (-25568) p.hol = true ∧ 1 ≤ p.roll ∧ p.roll ≤ 4 := by
  simp only [ok, daysOk, Bool.and_eq_true, decide_eq_true_eq] at h
  exact ⟨h.2.1.1, h.2.2, h.2.1.2.1.1, h.2.1.2.1.2⟩
/-- A calendar of holidays that may be. -/
def Made1 (l : List Int) (w : World) (e : Ending) (w' : World) : Prop := ∃ gb, e = .returned (.tuple #[.pointer (some ⟨gb, 0, none⟩), .int .i64 0]) ∧ w.heap.size ≤ gb ∧ CalIn w.heap.size w' gb l ∧ Below w.heap.size w w'
theorem new_ok (p : Prod) (A1 : Option Addr) (c1 : Nat) (A2 : Option Addr) (c2 : Nat) (A3 : Option Addr) (c3 : Nat) (w : World) (hp : ProdAt w p A1 c1 A2 c2 A3 c3) (ho : ok p = true) : Calls Try.prog 34 #[.slice A3 p.hol.length c3] w (Made1 p.hol w) := by
  obtain ⟨h1, h2, -, -⟩ := ok_days ho
  refine (new_few2 A3 c3 p.hol true w hp.r3 hp.l3 hp.n3 h1 ((rises_pm _ _).trans h2)).mono ?_
  rintro e w' ⟨hb, -, h⟩
  obtain ⟨gb, hge, he, hc⟩ := h rfl
  exact ⟨gb, he, hge, hc, hb⟩
/-- A list of the call's own that is not empty. -/
def Listed1 (l : List Int) (w : World) (e : Ending) (w' : World) : Prop := ∃ g c t, e = .returned (.tuple #[.slice (some ⟨g, 0, none⟩) l.length c, .int .i64 0]) ∧ w.heap.size ≤ g ∧ l.length ≤ c ∧ H.Blk w' g 3 (nums .i64 l ++ t) ∧ Below w.heap.size w w'
theorem Listed.one {l : List Int} {w w' : World} {e : Ending} (h : Listed (l, 0) w e w') (hl : l ≠ []) : Listed1 l w e w' := by
  obtain ⟨v, he, hr, hb⟩ := h
  rcases hr with ⟨-, h⟩ | ⟨g, c, t, rfl, hg, hc, hk⟩
  · exact absurd h hl
  · exact ⟨g, c, t, he, hg, hc, hk, hb⟩
/-- What comes of the days, rolled. -/
def risen (start : Int) (r : List Int × Int) : List Int × Int := if r.2 = 0 then if rise start r.1 = true then (r.1, 0) else ([], 11) else ([], r.2)
set_option maxRecDepth 100000 in
set_option maxHeartbeats 4000000 in
theorem days_main (p : Prod) (A1 : Option Addr) (c1 : Nat) (A2 : Option Addr) (c2 : Nat) (A3 : Option Addr) (c3 : Nat) (start : Int) (w : World) (hg : GV w) (hp : ProdAt w p A1 c1 A2 c2 A3 c3) (hs : Small p) (ho : ok p = true) (l : List Int) (hd : datesP start p.every p.times = (l, 0)) :
    Calls Try.prog 14 #[pv p A1 c1 A2 c2 A3 c3, .int .i64 start] w (Listed (risen start (rollAll p.hol p.roll l)) w) := by
  generalize hR : risen start (rollAll p.hol p.roll l) = R
  have RR := Aside0.mk hR
  clear hR
  have er : err p = 0 := by unfold err; rw [ho]; rfl
  have hfull := datesP_full (n := start) (e := p.every) (t := p.times) (by rw [hd])
  rw [hd] at hfull
  have hne : l ≠ [] := fun e => by rw [e] at hfull; have := hfull.1; simp at this; omega
  have hln : l.length ≤ 600 := by have := hfull.1; simp only [] at this; omega
  have HG := Aside0.mk hg
  have HP := Aside0.mk hp
  have CK := Aside0.mk (fun w1 (hb : Below w.heap.size w w1) => check_any p A1 c1 A2 c2 A3 c3 w1 (HG.out.below hb) (HP.out.below hb) hs)
  rw [er] at CK
  have DT := Aside0.mk (fun w => show Calls Try.prog 33 #[.int .i64 start, .int .i64 p.every, .int .i64 p.times] w (Listed1 l w) from (dates_any start p.every p.times w).mono fun e w' h => by rw [hd] at h; exact h.one hne)
  have NW := Aside0.mk (fun w1 (hb : Below w.heap.size w w1) => new_ok p A1 c1 A2 c2 A3 c3 w1 (HP.out.below hb) ho)
  have hlp : 0 < l.length := by cases l with | nil => exact absurd rfl hne | cons a r => simp
  clear hg hp er ho hs hd hfull hne
  go_enter Try.func14, Try.ntmps14
  go_wp2_with ((with_reducible refine gate_dst (N := 2) rfl ?_); refine box_event ?hg (N := 2) ?hd (cs := pcs p A1 c1 A2 c2 A3 c3) (t := 27) ?hr ?_; (case hd => rfl); (case hg => rfl); (case hr => first | (go_simp; done) | (go_simp; rfl)); intro g2 hg v0 hb1 hbl1; clear hg; have G2 := Aside0.mk hb1; have HB := Aside0.mk hbl1; clear hb1 hbl1; refine Hid.out ?_)
  refine Lib.hid ?_
  go_wp2_with (first
    | ((with_reducible refine gate_dst (N := 16) rfl ?_); refine wpList_load_row rfl 27 (.tmp 2) rfl g2 rfl 27 _ (0, 0) _ G2.out Try.underlying27 rfl info_prod ?_)
    | (go_at_call 32; (with_reducible refine (CK.out _ HB.out).mono ?_); rintro e w2 ⟨rfl, hb⟩; have HB := Aside0.mk (below_step HB.out hb); have G2 := Aside0.mk (Pd.blk_below G2.out hb); clear hb; obtain ⟨-, -, -, -, q4, q5, -, -, -, -, -, -, -, -, -, -, -, q17, q18⟩ := pc_cells G2.out)
    | (go_at_call 33; (with_reducible refine (DT.out _).mono ?_); rintro e w3 ⟨g, c, t, rfl, hge0, hc, hbk, hb⟩; have hge := Nat.le_trans (Below.size HB.out) hge0; clear hge0; have BK := Aside0.mk hbk; have gsz := Blk.lt hbk; have HB := Aside0.mk (below_step HB.out hb); have G2 := Aside0.mk (Pd.blk_below G2.out hb); clear hb hbk; obtain ⟨-, -, -, -, q4, q5, -, -, -, -, -, -, -, -, -, -, -, q17, q18⟩ := pc_cells G2.out)
    | (go_at_call 34; (with_reducible refine (NW.out _ HB.out).mono ?_); rintro e w4 ⟨gb, rfl, hgb, hcal, hb⟩; have CA := Aside0.mk hcal; have BK := Aside0.mk (BK.out.below hb); have HB := Aside0.mk (below_step HB.out hb); have G2 := Aside0.mk (Pd.blk_below G2.out hb); clear hb hcal; obtain ⟨-, -, -, -, q4, q5, -, -, -, -, -, -, -, -, -, -, -, q17, q18⟩ := pc_cells G2.out))
  have gne : gb ≠ g := by omega
  go_loopg [46] (l.length + 1) (fun gq iv w' => ∃ (k : Nat) (pre : List Int), k ≤ l.length ∧ iv = .int .i64 (k : Int) ∧ Aside0 (pre.length = k) ∧ Aside0 (gq = l.length + 1 - k) ∧ Aside0 (rollAll p.hol p.roll l = after pre (rollAll p.hol p.roll (l.drop k))) ∧ Aside0 (H.Blk w' g 3 (nums .i64 (pre ++ l.drop k) ++ t)) ∧ Aside0 (CalIn w3.heap.size w' gb p.hol) ∧ Aside0 (Below w.heap.size w w'))
  case atStart => exact ⟨0, [], by omega, rfl, ⟨rfl⟩, ⟨rfl⟩, ⟨(after_nil (rollAll_err _ _ _)).symm⟩, BK, CA, HB⟩
  case round =>
    obtain ⟨k, pre, kn, rfl, hpl, hgq, hra, hbk, hcal, hbel⟩ := hrel
    by_cases hlt : k < l.length
    · have hdr : l.drop k = l[k] :: l.drop (k + 1) := List.drop_eq_getElem_cons hlt
      rw [hdr] at hra hbk
      have hat := nums_at pre l[k] (l.drop (k + 1)) t k hpl.out
      have hcl0 := (hbk.out.cell k).trans hat
      have hsz : (k : Int) < (l.length : Int) := by omega
      obtain ⟨x, e1, hx⟩ : ∃ x e1, rollS p.hol l[k] p.roll = (x, e1) := ⟨_, _, rfl⟩
      have RC := Aside0.mk (roller_any (CalIn.at hcal.out) hx)
      have HAT := Aside0.mk hat
      by_cases he1 : e1 = 0
      · subst he1
        have hra2 := Aside0.mk (show rollAll p.hol p.roll l = after (pre ++ [x]) (rollAll p.hol p.roll (l.drop (k + 1))) by
          have e := hra.out
          rw [rollAll, hx, if_pos rfl] at e
          rw [e, after_after])
        clear hra hx hdr
        go_wp2_with ((with_reducible refine gate_calleeV (t := 54) rfl ?_); refine goesV_ 54 #[.agg #[.pointer (some ⟨gb, 0, none⟩), .int .i64 p.roll]] (by first | rfl | (simp; done)) (some 56) rfl rfl Try.func35 (by kernel_rfl) rfl #[.agg #[.pointer (some ⟨gb, 0, none⟩), .int .i64 p.roll], .int .i64 l[k]] rfl (by (try simp only [List.map_toArray, List.map_cons, List.map_nil]); first | done | rfl | (simp; done)) ?_; (with_reducible refine (RC.out).mono ?_); rintro e w13 ⟨rfl, hb⟩; refine ⟨_, rfl, ?_⟩; have BK2 := Aside0.mk (hbk.out.below hb); have CA2 := Aside0.mk (CalIn.below hcal.out hb); have HB2 := Aside0.mk (below_step hbel.out hb); have hcl := (BK2.out.cell k).trans hat; have hfz := BK2.out.frozen k; clear hb)
        have BK3 := BK2.out.put k (.int .i64 x)
        rw [nums_set pre l[k] x (l.drop (k + 1)) t k hpl.out] at BK3
        have hbut : But g w13 (w13.setCell ⟨g, k, none⟩ (.int .i64 x)) := (But.of (Below.refl w13.heap.size w13)).setCell (p := ⟨g, k, none⟩) (Or.inl rfl) _
        go_roundg (l.length + 1 - (k + 1))
        case measure => have := hgq.out; omega
        case rel => exact ⟨k + 1, pre ++ [x], by omega, by simp, ⟨by simp [hpl.out]⟩, ⟨rfl⟩, hra2, ⟨BK3⟩, ⟨CalIn.but CA2.out hbut gne (by omega)⟩, ⟨But.below HB2.out HB2.out.size hge hbut⟩⟩
      · have he : (e1 != 0) = true := by simpa using he1
        have fin := Aside0.mk (show R = ([], e1) by
          have e := hra.out
          rw [rollAll, hx, if_neg he1, after_err pre he1] at e
          rw [← RR.out]
          unfold risen
          rw [e, if_neg he1])
        clear hra hx hdr he1
        go_wp2_with ((with_reducible refine gate_calleeV (t := 54) rfl ?_); refine goesV_ 54 #[.agg #[.pointer (some ⟨gb, 0, none⟩), .int .i64 p.roll]] (by first | rfl | (simp; done)) (some 56) rfl rfl Try.func35 (by kernel_rfl) rfl #[.agg #[.pointer (some ⟨gb, 0, none⟩), .int .i64 p.roll], .int .i64 l[k]] rfl (by (try simp only [List.map_toArray, List.map_cons, List.map_nil]); first | done | rfl | (simp; done)) ?_; (with_reducible refine (RC.out).mono ?_); rintro e w13 ⟨rfl, hb⟩; refine ⟨_, rfl, ?_⟩; have BK2 := Aside0.mk (hbk.out.below hb); have CA2 := Aside0.mk (CalIn.below hcal.out hb); have HB2 := Aside0.mk (below_step hbel.out hb); have hcl := (BK2.out.cell k).trans hat; have hfz := BK2.out.frozen k; clear hb)
        have hbut : But g w13 (w13.setCell ⟨g, k, none⟩ (.int .i64 x)) := (But.of (Below.refl w13.heap.size w13)).setCell (p := ⟨g, k, none⟩) (Or.inl rfl) _
        go_ret2
        rw [fin.out]
        exact ⟨_, rfl, Or.inl ⟨rfl, rfl⟩, But.below HB2.out HB2.out.size hge hbut⟩
    · obtain rfl : k = l.length := by omega
      have hra2 := hra.out
      rw [List.drop_length, rollAll, after, if_pos rfl, List.append_nil] at hra2
      have hbk2 := hbk.out
      rw [List.drop_length, List.append_nil] at hbk2
      have RR2 := Aside0.mk (show R = (if rise start pre = true then (pre, 0) else ([], 11)) by rw [← RR.out, hra2]; rfl)
      clear RR
      have BK2 := Aside0.mk hbk2
      have pl := hpl.out
      clear hra hra2 hbk hbk2 hcal CA CK DT NW HG HP
      go_wp2_with fail
      go_loopg [66] (l.length + 1) (fun gq iv w' => ∃ (k : Nat) (pv : Int), k ≤ l.length ∧ iv = .int .i64 (k : Int) ∧ Aside0 (k = 0 ∧ pv = start ∨ 0 < k ∧ pre[k - 1]? = some pv) ∧ Aside0 (gq = l.length + 1 - k) ∧ Aside0 (rise start pre = rise pv (pre.drop k)) ∧ Aside0 (H.Blk w' g 3 (nums .i64 pre ++ t)) ∧ Aside0 (Below w.heap.size w w'))
      case atStart => exact ⟨0, start, by omega, rfl, ⟨Or.inl ⟨rfl, rfl⟩⟩, ⟨rfl⟩, ⟨rfl⟩, BK2, hbel⟩
      case round =>
        obtain ⟨k, pv, kn, rfl, hpv, hgq2, hri, hbk, hbel2⟩ := hrel
        by_cases hlt : k < l.length
        · have hdr : pre.drop k = pre[k] :: pre.drop (k + 1) := List.drop_eq_getElem_cons (by omega)
          have hcl := (hbk.out.cell k).trans (show (nums .i64 pre ++ t)[k]? = some (.int .i64 (pre[k]'(by omega))) by rw [List.getElem?_append_left (by simp [nums]; omega)]; simp [nums] <;> omega)
          have hsz : (k : Int) < (l.length : Int) := by omega
          have hri2 := hri.out
          rw [hdr, rise] at hri2
          generalize hd : pre[k]'(by omega) = d at *
          have HD := Aside0.mk (show pre[k]? = some d by rw [← hd]; exact List.getElem?_eq_getElem _)
          clear hd hdr
          by_cases hle : d ≤ pv
          · have fin := Aside0.mk (show R = ([], 11) by rw [RR2.out, hri2, decide_eq_false (by omega)]; rfl)
            have tl : decide (d ≤ pv) = true := decide_eq_true hle
            clear hri hri2 hle
            rcases hpv.out with ⟨rfl, rfl⟩ | ⟨k0, hk⟩
            · go_wp2_with fail
              go_ret2
              rw [fin.out]
              exact ⟨_, rfl, Or.inl ⟨rfl, rfl⟩, hbel2.out⟩
            · obtain ⟨j, rfl⟩ : ∃ j, k = j + 1 := ⟨k - 1, by omega⟩
              have hj0 : (((j + 1 : Nat) : Int) == 0) = false := by simp; omega
              have hj1 : decide ((0 : Int) < ((j + 1 : Nat) : Int)) = true := decide_eq_true (by omega)
              have hcj := (hbk.out.cell j).trans (show (nums .i64 pre ++ t)[j]? = some (.int .i64 pv) by simp at hk; rw [List.getElem?_append_left (by simp [nums]; omega)]; simp [nums, hk])
              have hjz : (j : Int) < (l.length : Int) := by omega
              clear k0 hk
              go_wp2_with fail
              go_ret2
              rw [fin.out]
              exact ⟨_, rfl, Or.inl ⟨rfl, rfl⟩, hbel2.out⟩
          · have tl : decide (d ≤ pv) = false := decide_eq_false hle
            have hri3 := Aside0.mk (show rise start pre = rise d (pre.drop (k + 1)) by rw [hri2, decide_eq_true (by omega)]; simp)
            clear hri hri2 hle
            rcases hpv.out with ⟨rfl, rfl⟩ | ⟨k0, hk⟩
            · go_wp2_with fail
              go_roundg (l.length + 1 - (0 + 1))
              case measure => have := hgq2.out; omega
              case rel => exact ⟨1, d, by omega, by simp, ⟨Or.inr ⟨by omega, HD.out⟩⟩, ⟨rfl⟩, hri3, hbk, hbel2⟩
            · obtain ⟨j, rfl⟩ : ∃ j, k = j + 1 := ⟨k - 1, by omega⟩
              have hj0 : (((j + 1 : Nat) : Int) == 0) = false := by simp; omega
              have hj1 : decide ((0 : Int) < ((j + 1 : Nat) : Int)) = true := decide_eq_true (by omega)
              have hcj := (hbk.out.cell j).trans (show (nums .i64 pre ++ t)[j]? = some (.int .i64 pv) by simp at hk; rw [List.getElem?_append_left (by simp [nums]; omega)]; simp [nums, hk])
              have hjz : (j : Int) < (l.length : Int) := by omega
              clear k0 hk
              go_wp2_with fail
              go_roundg (l.length + 1 - (j + 1 + 1))
              case measure => have := hgq2.out; omega
              case rel => exact ⟨j + 2, d, by omega, by simp; omega, ⟨Or.inr ⟨by omega, HD.out⟩⟩, ⟨rfl⟩, hri3, hbk, hbel2⟩
        · obtain rfl : k = l.length := by omega
          have hri2 := hri.out
          rw [List.drop_eq_nil_of_le (by omega), rise] at hri2
          have fin := Aside0.mk (show R = (pre, 0) by rw [RR2.out, hri2]; rfl)
          clear hri hri2
          go_wp2_with fail
          go_ret2
          rw [fin.out]
          exact ⟨_, rfl, Or.inr ⟨g, c, t, by rw [pl]; rfl, hge, by rw [pl]; exact hc, hbk.out⟩, hbel2.out⟩
end Go.Proofs.Ytcfpkkgdofblfaa.Du
/- dues.Days whole; dues.Parts where there are no days; awake; days that are none. -/
namespace Go.Proofs.Ytcfpkkgdofblfaa.Du
open Go.RowKit Go.Proofs.YtcfpkkgdofblfaaW.PrintWords Go.Proofs.YtcfpkkgdofblfaaW.PrintLast Go.Proofs.YtcfpkkgdofblfaaW.PrintMore Go.Proofs.Ytcfpkkgdofblfaa.HW
open Go.Proofs.Ytcfpkkgdofblfaa.Math Go.Proofs.Ytcfpkkgdofblfaa.H Go.Proofs.Ytcfpkkgdofblfaa.Pd Pm
set_option linter.unusedVariables false
set_option linter.unusedSimpArgs false
theorem days_any (p : Prod) (A1 : Option Addr) (c1 : Nat) (A2 : Option Addr) (c2 : Nat) (A3 : Option Addr) (c3 : Nat) (start : Int) (w : World) (hg : GV w) (hp : ProdAt w p A1 c1 A2 c2 A3 c3) (hs : Small p) :
    Calls Try.prog 14 #[pv p A1 c1 A2 c2 A3 c3, .int .i64 start] w (Listed (daysP p start) w) := by
  cases ho : ok p with
  | false => exact days_refused p A1 c1 A2 c2 A3 c3 start w hg hp hs ho
  | true =>
    by_cases hd : (datesP start p.every p.times).2 = 0
    · have e : daysP p start = risen start (rollAll p.hol p.roll (datesP start p.every p.times).1) := by
        unfold daysP risen
        rw [if_pos ho, if_pos hd]
      rw [e]
      exact days_main p A1 c1 A2 c2 A3 c3 start w hg hp hs ho _ (by rw [← hd])
    · exact days_none p A1 c1 A2 c2 A3 c3 start w hg hp hs ho hd
set_option maxRecDepth 100000 in
set_option maxHeartbeats 2000000 in
theorem parts_err (p : Prod) (A1 : Option Addr) (c1 : Nat) (A2 : Option Addr) (c2 : Nat) (A3 : Option Addr) (c3 : Nat) (start : Int) (w : World) (hg : GV w) (hp : ProdAt w p A1 c1 A2 c2 A3 c3) (hs : Small p) (e0 : Int) (h0 : e0 ≠ 0) (hd : daysP p start = ([], e0)) :
    Calls Try.prog 16 #[pv p A1 c1 A2 c2 A3 c3, .int .i64 start] w fun e w' => e = .returned (.tuple #[.slice none 0 0, .int .i64 e0]) ∧ Below w.heap.size w w' := by
  have HG := Aside0.mk hg
  have HP := Aside0.mk hp
  have DA := Aside0.mk (fun w1 (hb : Below w.heap.size w w1) => show Calls Try.prog 14 #[pv p A1 c1 A2 c2 A3 c3, .int .i64 start] w1 fun e w' => (∃ v, e = .returned (.tuple #[v, .int .i64 e0])) ∧ Below w1.heap.size w1 w' from (days_any p A1 c1 A2 c2 A3 c3 start w1 (HG.out.below hb) (HP.out.below hb) hs).mono fun e w' h => by rw [hd] at h; obtain ⟨v, he, -, hb⟩ := h; exact ⟨⟨v, he⟩, hb⟩)
  have hn : (e0 != 0) = true := by simpa using h0
  clear hg hp hd h0 hs
  go_enter Try.func16, Try.ntmps16
  go_wp2_with ((with_reducible refine gate_dst (N := 2) rfl ?_); refine box_event ?hg (N := 2) ?hd (cs := pcs p A1 c1 A2 c2 A3 c3) (t := 27) ?hr ?_; (case hd => rfl); (case hg => rfl); (case hr => first | (go_simp; done) | (go_simp; rfl)); intro g2 hg v0 hb1 hbl1; clear hg; have G2 := Aside0.mk hb1; have HB := Aside0.mk hbl1; clear hb1 hbl1; refine Hid.out ?_)
  refine Lib.hid ?_
  go_wp2_with (first
    | ((with_reducible refine gate_dst (N := 14) rfl ?_); refine wpList_load_row rfl 27 (.tmp 2) rfl g2 rfl 27 _ (0, 0) _ G2.out Try.underlying27 rfl info_prod ?_)
    | (go_at_call 14; (with_reducible refine (DA.out _ HB.out).mono ?_); rintro e w2 ⟨⟨v, rfl⟩, hb⟩; have HB := Aside0.mk (below_step HB.out hb); have G2 := Aside0.mk (Pd.blk_below G2.out hb); clear hb))
  go_ret2
  exact ⟨rfl, HB.out⟩
end Go.Proofs.Ytcfpkkgdofblfaa.Du
/- dues.Parts, where there are days: how many parts of a year lie between. -/
namespace Go.Proofs.Ytcfpkkgdofblfaa.Du
open Go.RowKit Go.Proofs.YtcfpkkgdofblfaaW.PrintWords Go.Proofs.YtcfpkkgdofblfaaW.PrintLast Go.Proofs.YtcfpkkgdofblfaaW.PrintMore Go.Proofs.Ytcfpkkgdofblfaa.HW
open Go.Proofs.Ytcfpkkgdofblfaa.Math Go.Proofs.Ytcfpkkgdofblfaa.H Go.Proofs.Ytcfpkkgdofblfaa.Pd Pm
set_option linter.unusedVariables false
set_option linter.unusedSimpArgs false
/-- A list of the call's own, of 64 bits each. -/
def RowL (w : World) (B : Nat) (v : Value) (l : List Int) : Prop :=
  (v = .slice none 0 0 ∧ l = []) ∨ ∃ g c t, v = .slice (some ⟨g, 0, none⟩) l.length c ∧ B ≤ g ∧ l.length ≤ c ∧ H.Blk w g 2 (nums .i64 l ++ t)
theorem rowL_of_R {w : World} {B : Nat} {ok : Nat → Prop} {v : Value} {l : List Int} (h : Kd.R (Kd.int .i64) 2 w B ok v l) : RowL w B v l := by
  obtain ⟨-, inner, ho, hr⟩ := h
  obtain rfl := reps_nums .i64 l inner hr
  have ho2 := ho.2
  rcases ho2 with ⟨hv, hn⟩ | ⟨g, cap, cur, hv, hg, hh, r⟩
  · refine Or.inl ⟨hv, ?_⟩
    cases l with
    | nil => rfl
    | cons a r => simp at hn
  · subst hv
    obtain ⟨t, -, hb, hc⟩ := H.Blk.ofOwn ho
    exact Or.inr ⟨g, cap, t, rfl, hg, hc, hb⟩
theorem RL_slice {W : World} {B : Nat} {ok : Nat → Prop} {v : Value} {l : List Int} (h : Kd.R (Kd.int .i64) 2 W B ok v l) (hl : l ≠ []) : ∃ g c, v = .slice (some ⟨g, 0, none⟩) l.length c := by
  rcases rowL_of_R h with ⟨-, e⟩ | ⟨g, c, t, e, -⟩
  · exact absurd e hl
  · exact ⟨g, c, e⟩
theorem info_l : (Try.prog.info? 2).map (fun i => (i.zero, i.size, i.bytes)) = some (some (.int .i64 0), 1, 8) := by kernel_rfl
/-- How many parts of a year lie between each day and the one ahead, or why not. -/
def partsAll (c : Int) : Int → List Int → List Int × Int
  | _, [] => ([], 0)
  | s, d :: r => if (between c s d).2 = 0 then after [(between c s d).1] (partsAll c d r) else ([], (between c s d).2)
theorem partsAll_err (c s : Int) (l : List Int) : (partsAll c s l).2 ≠ 0 → (partsAll c s l).1 = [] := by
  cases l with
  | nil => intro h; exact absurd rfl h
  | cons d r =>
    rw [partsAll]
    split
    · unfold after
      split
      · intro h; exact absurd rfl h
      · intro; rfl
    · intro; rfl
/-- What a call gives that hands back a list of its own of 64 bits each, or none, and why. -/
def ListedL (r : List Int × Int) (w : World) (e : Ending) (w' : World) : Prop := ∃ v, e = .returned (.tuple #[v, .int .i64 r.2]) ∧ RowL w' w.heap.size v r.1 ∧ Below w.heap.size w w'
theorem between_any (c a b v e : Int) (h : between c a b = (v, e)) (w : World) : Calls Try.prog 38 #[.int .i64 c, .int .i64 a, .int .i64 b] w fun en w' => en = .returned (.tuple #[.int .i64 v, .int .i64 e]) ∧ Below w.heap.size w w' :=
  fraction_Between.calls c a b v e w (by unfold fraction_Between.f; rw [h])
set_option maxRecDepth 100000 in
set_option maxHeartbeats 8000000 in
theorem parts_main (p : Prod) (A1 : Option Addr) (c1 : Nat) (A2 : Option Addr) (c2 : Nat) (A3 : Option Addr) (c3 : Nat) (start : Int) (w : World) (hg : GV w) (hp : ProdAt w p A1 c1 A2 c2 A3 c3) (hs : Small p) (l : List Int) (hl0 : l ≠ []) (hln : l.length ≤ 600) (hd : daysP p start = (l, 0)) :
    Calls Try.prog 16 #[pv p A1 c1 A2 c2 A3 c3, .int .i64 start] w (ListedL (partsAll p.count start l) w) := by
  generalize hR : partsAll p.count start l = R
  have RR := Aside0.mk hR
  clear hR
  have HG := Aside0.mk hg
  have HP := Aside0.mk hp
  have DA := Aside0.mk (fun w1 (hb : Below w.heap.size w w1) => show Calls Try.prog 14 #[pv p A1 c1 A2 c2 A3 c3, .int .i64 start] w1 (Listed1 l w1) from (days_any p A1 c1 A2 c2 A3 c3 start w1 (HG.out.below hb) (HP.out.below hb) hs).mono fun e w' h => by rw [hd] at h; exact h.one hl0)
  have hlp : 0 < l.length := by cases l with | nil => exact absurd rfl hl0 | cons a r => simp
  clear hg hp hd hs hl0
  go_enter Try.func16, Try.ntmps16
  go_wp2_with ((with_reducible refine gate_dst (N := 2) rfl ?_); refine box_event ?hg (N := 2) ?hd (cs := pcs p A1 c1 A2 c2 A3 c3) (t := 27) ?hr ?_; (case hd => rfl); (case hg => rfl); (case hr => first | (go_simp; done) | (go_simp; rfl)); intro g2 hg v0 hb1 hbl1; clear hg; have G2 := Aside0.mk hb1; have HB := Aside0.mk hbl1; clear hb1 hbl1; refine Hid.out ?_)
  refine Lib.hid ?_
  have g2lt0 := blk_lt G2.out
  go_wp2_with (first
    | ((with_reducible refine gate_dst (N := 14) rfl ?_); refine wpList_load_row rfl 27 (.tmp 2) rfl g2 rfl 27 _ (0, 0) _ G2.out Try.underlying27 rfl info_prod ?_)
    | (go_at_call 14; (with_reducible refine (DA.out _ HB.out).mono ?_); rintro e w3 ⟨g, c, t, rfl, hge, hc, hbk, hb⟩; have gne := (show g2 ≠ g by omega); have BK := Aside0.mk hbk; have gsz := Blk.lt hbk; have hgw := Nat.le_trans HB.out.size hge; have HB := Aside0.mk (below_step HB.out hb); have G2 := Aside0.mk (Pd.blk_below G2.out hb); clear hb hbk))
  go_loopg [1, 8, 24] (l.length + 1) (fun gq sv ov iv w' => ∃ (k : Nat) (s : Int) (A : Option Addr) (cw : Nat) (ls : List Int), k ≤ l.length ∧ iv = .int .i64 (k : Int) ∧ sv = .int .i64 s ∧ ov = .slice A ls.length cw ∧ Aside0 (ls.length = k) ∧ Aside0 (gq = l.length + 1 - k) ∧ Aside0 (R = after ls (partsAll p.count s (l.drop k))) ∧ Aside0 (Kd.R (Kd.int .i64) 2 w' w.heap.size (fun b => b ≠ g ∧ b ≠ g2) (.slice A ls.length cw) ls) ∧ Aside0 (H.Blk w' g 3 (nums .i64 l ++ t)) ∧ Aside0 (w'.heap[g2]? = some (.cells (pcs p A1 c1 A2 c2 A3 c3) 27 (0, 0))) ∧ Aside0 (Below w.heap.size w w'))
  case atStart => exact ⟨0, start, none, 0, [], by omega, rfl, rfl, rfl, ⟨rfl⟩, ⟨rfl⟩, ⟨RR.out.symm.trans (after_nil (partsAll_err _ _ _)).symm⟩, ⟨Kd.R_nil _ _ _ _ _⟩, BK, G2, HB⟩
  case round =>
    obtain ⟨k, s, A, cw, ls, kn, rfl, rfl, rfl, hlen, hgq, hra, hr, hbk, G2, hbel⟩ := hrel
    have gszr := Blk.lt hbk.out
    have g2lt := blk_lt G2.out
    have gsz0 := hbel.out.size
    by_cases hlt : k < l.length
    · have hdr : l.drop k = l[k] :: l.drop (k + 1) := List.drop_eq_getElem_cons hlt
      rw [hdr] at hra
      have hcl := (hbk.out.cell k).trans (show (nums .i64 l ++ t)[k]? = some (.int .i64 l[k]) by rw [List.getElem?_append_left (by simp [nums]; omega)]; simp [nums] <;> omega)
      have hsz : (k : Int) < (l.length : Int) := by omega
      obtain ⟨-, q1, -, -, -, -, -, -, -, -, -, -, -, -, -, -, -, -, -⟩ := pc_cells G2.out
      obtain ⟨v, e1, hx⟩ : ∃ v e1, between p.count s l[k] = (v, e1) := ⟨_, _, rfl⟩
      have BT := Aside0.mk (fun w => between_any _ _ _ _ _ hx w)
      by_cases he1 : e1 = 0
      · subst he1
        have hra2 := Aside0.mk (show R = after (ls ++ [v]) (partsAll p.count l[k] (l.drop (k + 1))) by
          have e := hra.out
          rw [partsAll, hx, if_pos rfl] at e
          rw [e, after_after])
        clear hra hx hdr
        go_wp2_with (first
          | (go_at_call 38; (with_reducible refine (BT.out _).mono ?_); rintro e w9 ⟨rfl, hb⟩; have HO := Aside0.mk (Kd.R_below hr.out hb); have BK9 := Aside0.mk (hbk.out.below hb); have G9 := Aside0.mk (Pd.blk_below G2.out hb); have HB9 := Aside0.mk (below_step hbel.out hb); have gs9 := Blk.lt BK9.out; have g29 := blk_lt G9.out; have gw9 := HB9.out.size; clear hb)
          | ((with_reducible refine gate_builtin (b := .append) (xs := #[.tmp 39, .tmp 41]) rfl ?_); at_builtin; refine Kd.R_append (Kd.int .i64) (w0 := w) w.heap.size rfl (.tmp 39) (.tmp 41) 35 2 (.int .i64 0) 8 rfl Try.underlying35 info_l rfl (by decide) (by omega) (.slice A ls.length cw) ls v [.int .i64 v] (fun b => b ≠ g ∧ b ≠ g2) (fun _ => False) rfl rfl ?aP (fun _ hk => hk.elim) ?aF ?aO ?aB ?aS ?aL ?_; (case aP => exact rfl); (case aF => exact fun b hb => ⟨by omega, by omega⟩); (case aO => exact HO.out); (case aB => exact HB9.out); (case aS => exact gw9); (case aL => have := hlen.out; omega); intro v1 w11 hr1 hb1 hg1 hat1; obtain ⟨l2, hl2⟩ : ∃ l2, l2 = ls ++ [v] := ⟨_, rfl⟩; rw [← hl2] at hr1; obtain ⟨gn, cn, rfl⟩ := RL_slice hr1 (by rw [hl2]; simp); have L2 := Aside0.mk hl2; clear hl2; have R1 := Aside0.mk hr1; have HB1 := Aside0.mk hb1; have HK := Aside0.mk ((hg1.block g gs9 (fun e => (HO.out.1 g e.symm).1 rfl)).trans BK9.out); have HK2 := Aside0.mk ((hg1.block g2 g29 (fun e => (HO.out.1 g2 e.symm).2 rfl)).trans G9.out); clear hr1 hb1 hg1 hat1))
        have hlen2 : l2.length = k + 1 := by rw [L2.out, List.length_append, hlen.out]; rfl
        have L3 := Aside0.mk hlen2
        clear hlen2
        go_roundg (l.length + 1 - (k + 1))
        case measure => have := hgq.out; omega
        case rel => exact ⟨k + 1, l[k], some ⟨gn, 0, none⟩, cn, l2, by omega, by simp, rfl, rfl, L3, ⟨rfl⟩, ⟨by rw [hra2.out, L2.out]⟩, R1, HK, HK2, HB1⟩
      · have he : (e1 != 0) = true := by simpa using he1
        have fin := Aside0.mk (show R = ([], e1) by
          have e := hra.out
          rw [partsAll, hx, if_neg he1, after_err ls he1] at e
          exact e)
        clear hra hx hdr he1
        go_wp2_with (go_at_call 38; (with_reducible refine (BT.out _).mono ?_); rintro e w9 ⟨rfl, hb⟩; have HB9 := Aside0.mk (below_step hbel.out hb); clear hb)
        go_ret2
        rw [fin.out]
        exact ⟨_, rfl, Or.inl ⟨rfl, rfl⟩, HB9.out⟩
    · obtain rfl : k = l.length := by omega
      have fin := Aside0.mk (show R = (ls, 0) by
        have e := hra.out
        rw [List.drop_length, partsAll, after, if_pos rfl, List.append_nil] at e
        exact e)
      clear hra
      go_wp2_with fail
      go_ret2
      rw [fin.out]
      exact ⟨_, rfl, rowL_of_R hr.out, hbel.out⟩
end Go.Proofs.Ytcfpkkgdofblfaa.Du
/- quittanceref11.Parts: the document's parts between days; both parts are one where all may be. -/
namespace Go.Proofs.Ytcfpkkgdofblfaa.Du
open Go.RowKit Go.Proofs.YtcfpkkgdofblfaaW.PrintWords Go.Proofs.YtcfpkkgdofblfaaW.PrintLast Go.Proofs.YtcfpkkgdofblfaaW.PrintMore Go.Proofs.Ytcfpkkgdofblfaa.HW
open Go.Proofs.Ytcfpkkgdofblfaa.Math Go.Proofs.Ytcfpkkgdofblfaa.H Go.Proofs.Ytcfpkkgdofblfaa.Pd Pm
set_option linter.unusedVariables false
set_option linter.unusedSimpArgs false
/-- How many parts lie between each day and the one ahead. -/
def rpartsL (c : Int) : Int → List Int → List Int
  | _, [] => []
  | s, d :: r => (between c s d).1 :: rpartsL c d r
end Go.Proofs.Ytcfpkkgdofblfaa.Du
/- Plain: days behind the last year; holidays that leave no day between two instalments. -/
namespace Go.Proofs.Ytcfpkkgdofblfaa.Du
open Go.RowKit Go.Proofs.YtcfpkkgdofblfaaW.PrintWords Go.Proofs.YtcfpkkgdofblfaaW.PrintLast Go.Proofs.YtcfpkkgdofblfaaW.PrintMore Go.Proofs.Ytcfpkkgdofblfaa.HW
open Go.Proofs.Ytcfpkkgdofblfaa.Math Go.Proofs.Ytcfpkkgdofblfaa.H Go.Proofs.Ytcfpkkgdofblfaa.Pd Pm
set_option linter.unusedVariables false
set_option linter.unusedSimpArgs false
theorem dates_zero : ∀ (m : Nat) (n e i : Int) (l : List Int), (dates m n e i l).2 = 0 → ∀ j : Int, i < j → j ≤ i + m → (add n (j * e)).2 = 0
  | 0, n, e, i, l => fun _ j h1 h2 => by omega
  | m + 1, n, e, i, l => by
    unfold dates
    split
    · rename_i h
      intro h0 j h1 h2
      by_cases hj : j = i + 1
      · rw [hj]; exact h
      · exact dates_zero m n e (i + 1) _ h0 j (by omega) (by omega)
    · rename_i h; intro h0; exact absurd h0 h
end Go.Proofs.Ytcfpkkgdofblfaa.Du
/- Both parts between days are one. -/
namespace Go.Proofs.Ytcfpkkgdofblfaa.Du
open Go.RowKit Go.Proofs.YtcfpkkgdofblfaaW.PrintWords Go.Proofs.YtcfpkkgdofblfaaW.PrintLast Go.Proofs.YtcfpkkgdofblfaaW.PrintMore Go.Proofs.Ytcfpkkgdofblfaa.HW
open Go.Proofs.Ytcfpkkgdofblfaa.Math Go.Proofs.Ytcfpkkgdofblfaa.H Go.Proofs.Ytcfpkkgdofblfaa.Pd Pm
set_option linter.unusedVariables false
set_option linter.unusedSimpArgs false
theorem seekS_day (l : List Int) (step : Int) : ∀ (k : Nat) (day : Int), (seekS l step k day).2 = 0 → isDay (seekS l step k day).1
  | 0, day => by intro h; simp [seekS] at h
  | k + 1, day => by
    rw [seekS_succ]
    split
    · rename_i hd
      split
      · intro; exact hd
      · exact seekS_day l step k (day + step)
    · intro h; simp at h
theorem rollS_day {l : List Int} {day how : Int} (h : (rollS l day how).2 = 0) : isDay (rollS l day how).1 := by
  unfold rollS at h ⊢
  split
  · rename_i hd; rw [if_pos hd] at h; simp at h
  · rename_i hd
    rw [if_neg hd] at h
    split
    · rename_i hb; rw [if_pos hb] at h; simp at h
    · rename_i hb
      rw [if_neg hb] at h
      split
      · exact Classical.not_not.1 hd
      · rename_i h1
        rw [if_neg h1] at h
        split
        · rename_i h4; rw [if_pos h4] at h; exact seekS_day _ _ _ _ h
        · rename_i h4
          rw [if_neg h4] at h
          split
          · rename_i h3; rw [if_pos h3] at h; exact seekS_day _ _ _ _ h
          · rename_i h3; rw [if_neg h3] at h; exact seekS_day _ _ _ _ h
theorem rollAll_day (hol : List Int) (how : Int) (l : List Int) : (rollAll hol how l).2 = 0 → ∀ d ∈ (rollAll hol how l).1, isDay d := by
  induction l with
  | nil => intro _ d hd; simp [rollAll] at hd
  | cons a r ih =>
    rw [rollAll]
    split
    · rename_i h0
      unfold after
      split
      · rename_i h
        intro _ d hd
        rcases List.mem_append.1 hd with h1 | h1
        · rw [List.mem_singleton.1 h1]; exact rollS_day h0
        · exact ih h d h1
      · rename_i h; intro e; exact absurd e h
    · rename_i h; intro e; exact absurd e h
theorem between_ok {c a b : Int} (hc : c = 1 ∨ c = 2 ∨ c = 3) (ha : isDay a) (hb : isDay b) : between c a b = (place c b - place c a, 0) := by
  unfold between
  rw [if_pos hc, if_pos ⟨ha, hb⟩]
theorem partsAll_ok {c : Int} (hc : c = 1 ∨ c = 2 ∨ c = 3) : ∀ (l : List Int) (s : Int), isDay s → (∀ d ∈ l, isDay d) → partsAll c s l = (rpartsL c s l, 0)
  | [], s, _, _ => rfl
  | d :: r, s, hs, hd => by
    rw [partsAll, between_ok hc hs (hd d (by simp)), if_pos rfl, partsAll_ok hc r d (hd d (by simp)) (fun x hx => hd x (by simp [hx])), rpartsL, between_ok hc hs (hd d (by simp))]
    rfl
theorem dates_start {n e t : Int} (h : (datesP n e t).2 = 0) : isDay n := by
  have hf := datesP_full h
  unfold datesP at h
  split at h
  · rename_i hc
    have := dates_zero t.toNat n e 0 [] h 1 (by omega) (by omega)
    by_cases hd : isDay n
    · exact hd
    · unfold add at this; rw [if_neg hd] at this; simp at this
  · simp at h
/-- What is known of days that there are. -/
theorem days_known {p : Prod} {start : Int} {l : List Int} (h : daysP p start = (l, 0)) : ok p = true ∧ isDay start ∧ (∀ d ∈ l, isDay d) ∧ (l.length : Int) = p.times ∧ 1 ≤ p.times ∧ p.times ≤ 600 ∧ rise start l = true ∧ l = (rollAll p.hol p.roll (datesP start p.every p.times).1).1 ∧ (rollAll p.hol p.roll (datesP start p.every p.times).1).2 = 0 ∧ (datesP start p.every p.times).2 = 0 := by
  unfold daysP at h
  split at h
  · rename_i ho
    split at h
    · rename_i hd
      split at h
      · rename_i hr
        split at h
        · rename_i hi
          obtain ⟨rfl, -⟩ := Prod.mk.inj h
          obtain ⟨f1, f2, f3⟩ := datesP_full hd
          have hl := rollAll_len p.hol p.roll _ hr
          exact ⟨ho, dates_start hd, rollAll_day _ _ _ hr, by rw [hl]; exact f1, f2, f3, hi, rfl, hr, hd⟩
        · simp at h
      · rename_i hr; exact absurd (Prod.mk.inj h).2 hr
    · rename_i hd; exact absurd (Prod.mk.inj h).2 hd
  · simp at h
theorem count_known {p : Prod} (h : ok p = true) : p.count = 1 ∨ p.count = 2 ∨ p.count = 3 := by
  simp only [ok, shapeOk, Bool.and_eq_true, decide_eq_true_eq] at h
  omega
/-- The parts between days, or why none. -/
def partsP (p : Prod) (start : Int) : List Int × Int := if (daysP p start).2 = 0 then (rpartsL p.count start (daysP p start).1, 0) else ([], (daysP p start).2)
theorem daysP_err (p : Prod) (start : Int) : (daysP p start).2 ≠ 0 → (daysP p start).1 = [] := by
  unfold daysP
  repeat' split
  all_goals first | (intro; rfl) | (intro h; exact absurd rfl h)
theorem parts_any (p : Prod) (A1 : Option Addr) (c1 : Nat) (A2 : Option Addr) (c2 : Nat) (A3 : Option Addr) (c3 : Nat) (start : Int) (w : World) (hg : GV w) (hp : ProdAt w p A1 c1 A2 c2 A3 c3) (hs : Small p) :
    Calls Try.prog 16 #[pv p A1 c1 A2 c2 A3 c3, .int .i64 start] w (ListedL (partsP p start) w) := by
  by_cases h : (daysP p start).2 = 0
  · have hd : daysP p start = ((daysP p start).1, 0) := by rw [← h]
    obtain ⟨ho, hs0, hds, hl, t1, t2, -⟩ := days_known hd
    have e : partsP p start = partsAll p.count start (daysP p start).1 := by
      rw [partsAll_ok (count_known ho) _ _ hs0 hds]; unfold partsP; rw [if_pos h]
    rw [e]
    exact parts_main p A1 c1 A2 c2 A3 c3 start w hg hp hs _ (fun e => by rw [e] at hl; simp at hl; omega) (by omega) hd
  · have e : partsP p start = ([], (daysP p start).2) := by unfold partsP; rw [if_neg h]
    rw [e]
    refine (parts_err p A1 c1 A2 c2 A3 c3 start w hg hp hs _ h (by rw [← daysP_err p start h])).mono ?_
    rintro en w' ⟨he, hb⟩
    exact ⟨_, he, Or.inl ⟨rfl, rfl⟩, hb⟩
end Go.Proofs.Ytcfpkkgdofblfaa.Du
/- quittanceplay.Product: this product, or one near it. -/
namespace Go.Proofs.Ytcfpkkgdofblfaa.Du
open Go.RowKit Go.Proofs.YtcfpkkgdofblfaaW.PrintWords Go.Proofs.YtcfpkkgdofblfaaW.PrintLast Go.Proofs.YtcfpkkgdofblfaaW.PrintMore Go.Proofs.Ytcfpkkgdofblfaa.HW
open Go.Proofs.Ytcfpkkgdofblfaa.Math Go.Proofs.Ytcfpkkgdofblfaa.H Go.Proofs.Ytcfpkkgdofblfaa.Pd Pm
set_option linter.unusedVariables false
set_option linter.unusedSimpArgs false
section
variable {P : Program} {ops : Array Oper} {rest : List Oper} {a : Act} {Q : Exit → Act → World → Prop}
theorem But.setRow (g : Nat) (w : World) (cs : Array Value) : H.But g w (w.setRow g cs) := ⟨rfl, rfl, rfl, by rw [size_setRow]; exact Nat.le_refl _, fun k _ hk => setRow_other w g k cs hk⟩
end
/-- A number of 64 bits without a sign, its remainder. -/
def U (x : Int) (m : Int) : Int := x % 18446744073709551616 % m
end Go.Proofs.Ytcfpkkgdofblfaa.Du
/- quittanceplay.Product, where the product may not be: one that is near. -/
namespace Go.Proofs.Ytcfpkkgdofblfaa.Du
open Go.RowKit Go.Proofs.YtcfpkkgdofblfaaW.PrintWords Go.Proofs.YtcfpkkgdofblfaaW.PrintLast Go.Proofs.YtcfpkkgdofblfaaW.PrintMore Go.Proofs.Ytcfpkkgdofblfaa.HW
open Go.Proofs.Ytcfpkkgdofblfaa.Math Go.Proofs.Ytcfpkkgdofblfaa.H Go.Proofs.Ytcfpkkgdofblfaa.Pd Pm
set_option linter.unusedVariables false
set_option linter.unusedSimpArgs false
section
variable {P : Program} {ops : Array Oper} {rest : List Oper} {a : Act} {Q : Exit → Act → World → Prop}
theorem But.one (g i : Nat) (W : World) (x : Value) : H.But g W (W.setCell ⟨g, i, none⟩ x) := (H.But.of (Below.refl W.heap.size W)).setCell (p := ⟨g, i, none⟩) (Or.inl rfl) x
/-- One cell of a known row is written. -/
theorem put_event {W : World} {o : Oper} (hgd : o.guard = none) {t : TypeId} {p : Tmp} {v : Operand} (_ho : o.op = .store t (.tmp p) v) (hd : o.dst = none) {g i : Nat} {cs cs' : Array Value} {T : TypeId} {x : Value}
    (hrun : (execOp a.eval o).run P W = .ok .skip (W.setCell ⟨g, i, none⟩ x)) (hb : W.heap[g]? = some (.cells cs T (0, 0))) (hc : cs.setIfInBounds i x = cs')
    (h : ∀ w1, w1.heap[g]? = some (.cells cs' T (0, 0)) → H.But g W w1 → wpList P ops Q rest a w1) : wpList P ops Q (o :: rest) a W := by
  refine store_event hgd _ho hd hrun ?_
  rintro w' rfl
  exact h _ (by rw [heap_setCell_same W g i cs T x hb, hc]) (But.one g i W x)
/-- A literal slice. -/
theorem lit_event {W : World} {o : Oper} (hgd : o.guard = none) {N : Tmp} (_hd : o.dst = some N) {cs : Array Value} {t : TypeId} {n : Nat}
    (hrun : (execOp a.eval o).run P W = .ok (.value (.slice (some ⟨W.heap.size, 0, none⟩) n n)) (W.alloc (.cells cs t (0, 0))))
    (h : ∀ g, g = W.heap.size → ∀ w1, w1.heap[g]? = some (.cells cs t (0, 0)) → Below W.heap.size W w1 → wpList P ops Q rest (a.put o.dst (.slice (some ⟨g, 0, none⟩) n n)) w1) : wpList P ops Q (o :: rest) a W :=
  Kd.event_run hgd hrun (h _ rfl _ (blk_new W _) (below_alloc (Below.refl _ _) _))
end
end Go.Proofs.Ytcfpkkgdofblfaa.Du
/- What a law of days asks of lists that calls hand back. -/
namespace Go.Proofs.Ytcfpkkgdofblfaa.Du
open Go.RowKit Go.Proofs.YtcfpkkgdofblfaaW.PrintWords Go.Proofs.YtcfpkkgdofblfaaW.PrintLast Go.Proofs.YtcfpkkgdofblfaaW.PrintMore Go.Proofs.Ytcfpkkgdofblfaa.HW
open Go.Proofs.Ytcfpkkgdofblfaa.Math Go.Proofs.Ytcfpkkgdofblfaa.H Go.Proofs.Ytcfpkkgdofblfaa.Pd Pm
set_option linter.unusedVariables false
set_option linter.unusedSimpArgs false
theorem C_nil (w : World) : Kd.C (Kd.int .i64) w none 0 [] := Kd.C_of_reads (d := (0 : Int)) ⟨rfl, by omega, fun h => absurd h (by omega)⟩
end Go.Proofs.Ytcfpkkgdofblfaa.Du
/- Plain law of level at no rate; the law's awake. -/
namespace Go.Proofs.Ytcfpkkgdofblfaa.Lv
open Go.RowKit Go.Proofs.YtcfpkkgdofblfaaW.PrintWords Go.Proofs.YtcfpkkgdofblfaaW.PrintLast Go.Proofs.YtcfpkkgdofblfaaW.PrintMore Go.Proofs.Ytcfpkkgdofblfaa.HW
open Pm Pd
set_option linter.unusedVariables false
set_option linter.unusedSimpArgs false
open Go.Proofs.Ytcfpkkgdofblfaa.H Go.Proofs.Ytcfpkkgdofblfaa.Du
theorem div_uniq {n v a : Int} (hn : 0 < n) (h1 : a ≤ n * v) (h2 : n * (v - 1) < a) : v = (a + n - 1) / n := by
  have e : n * (v - 1) = n * v - n := by rw [Int.mul_sub, Int.mul_one]
  rw [e] at h2
  have h3 : (a + n - 1) / n < v + 1 := Int.ediv_lt_of_lt_mul hn (by rw [Int.mul_comm, Int.mul_add, Int.mul_one]; omega)
  have h4 : v ≤ (a + n - 1) / n := (Int.le_ediv_iff_mul_le hn).2 (by rw [Int.mul_comm]; omega)
  omega
/-- At no rate the least instalment is the sum in equal parts, rounded up. -/
theorem of_rate {p : Prod} {l : List Int} {m : Int} (h : askE p l m = 0) (hr : p.rate = 0) (hg : p.grace < l.length) : ofE p l m = ((m + (l.length - p.grace) - 1) / (l.length - p.grace), 0) := by
  obtain ⟨k1, k2, k3, k4, m0, m1⟩ := ask_known h
  have hf : fine l = true := by
    unfold askE at h
    split at h
    · simp at h
    · split at h
      · rename_i h2; exact h2.2.2.2
      · simp at h
  have G := good_new p.count p.round
  have gw := G.w0
  have g0 := G.h0
  have g1 := G.h1
  have hl : ∀ n ∈ l, 0 ≤ n ∧ n ≤ 53436000 := by
    intro n hn
    unfold fine at hf
    have := of_decide_eq_true (List.all_eq_true.1 hf n hn)
    omega
  obtain ⟨N, hN⟩ : ∃ N, (l.length : Int) - p.grace = N := ⟨_, rfl⟩
  have key : ∀ x, 0 ≤ x → (lf p l m x ≤ 0 ↔ m ≤ N * x) := by
    intro x x0
    unfold lf
    rw [hr, wk_grace (by omega) g0 (by omega) l 0 m (by omega) (by omega) k4.1 (by omega) (by omega) hl, wk_rate (by omega) g0 (by omega) x0 _ _ _ (Int.le_refl _) (by omega) (by omega) (fun n hn => hl n (List.mem_of_mem_drop hn))]
    rw [List.length_drop, show (((l.length - (p.grace - 0).toNat : Nat) : Int)) = N by omega]
  rw [hN]
  have hN0 : 0 < N := by omega
  have big : lf p l m 1000000000000000 ≤ 0 := (key _ (by decide)).2 (by omega)
  obtain ⟨hm, hz⟩ := lf_mono h
  have L := srch_least (lf p l m) 50 0 1000000000000000 (by decide) (by decide) (by decide) (by decide) hz big
  have hn : ¬ askE p l m ≠ 0 := by rw [h]; decide
  unfold ofE
  rw [if_neg hn, if_neg (by omega)]
  obtain ⟨a1, a2, a3, a4⟩ := L
  generalize srch (lf p l m) 50 0 1000000000000000 = v at *
  have b1 := (key v (by omega)).1 a1
  have b2 : N * (v - 1) < m := by
    have : ¬ m ≤ N * (v - 1) := fun h => by have := (key (v - 1) (by omega)).2 h; omega
    omega
  rw [div_uniq hN0 b1 b2]
theorem small_q {p : Prod} (h1 : p.name = plainP.name) (h2 : p.resets = []) (h3 : p.late = []) (h4 : p.hol = []) : Small p := ⟨by rw [h1]; decide, by rw [h2]; decide, by rw [h3]; decide, by rw [h4]; decide⟩
abbrev awP : Prod := { plainP with rate := 0, times := 3 }
theorem aw_ask : askE awP [31, 28, 31] 100 = 0 := by decide +kernel
theorem aw_of : ofE awP [31, 28, 31] 100 = (34, 0) := by rw [of_rate aw_ask rfl (by decide)]; decide
set_option maxRecDepth 100000 in
set_option maxHeartbeats 2000000 in
theorem level_awake (w : World) (hg : GV w) : Calls Try.prog 24 #[] w fun e w' => e = .returned (.bool true) ∧ Below w.heap.size w w' := by
  have OF := Aside0.mk (fun (A : Option Addr) (c : Nat) (W : World) (hb : Below w.heap.size w W) (hc : Kd.C (Kd.int .i64) W A [31, 28, 31].length [31, 28, 31]) => show Calls Try.prog 23 #[pv awP none 0 none 0 none 0, .slice A 3 c, .int .i64 100] W (Two (34, 0) W) from by have := Of_any awP none 0 none 0 none 0 A [31, 28, 31] c 100 W (hg.below hb) (nilAt rfl rfl rfl) (small_q rfl rfl rfl rfl) hc (by decide); rw [aw_of] at this; exact this)
  clear hg
  go_enter Try.func24, Try.ntmps24
  go_wp2_with (first
    | (go_at_call 22; (with_reducible refine (plain_any _).mono ?_); rintro e w0 ⟨rfl, hb⟩; have HB := Aside0.mk hb; clear hb)
    | ((with_reducible refine gate_dst (N := 1) rfl ?_); refine copy_event rfl (N := 1) rfl rfl rfl (t := 27) (v := .tmp 4) rfl (cs := pcs plainP none 0 none 0 none 0) (zs := pzs) ?hr rfl rfl info_prod ?hz (pcs_one _ _ _ _ _ _ _) ?_; (case hr => first | (go_simp; done) | (go_simp; rfl)); (case hz => rfl); intro g hg w1 hb1 hbl1; have gge := (show w.heap.size ≤ g by rw [hg]; exact HB.out.size); have HB := Aside0.mk (below_step HB.out hbl1); have GG := Aside0.mk hb1; clear hg hb1 hbl1; have u7 : w1.cell? ⟨g, 7, none⟩ = some (.int .i64 _) := (blk_cell GG.out 7).trans rfl; have f7 := frozen_of_row w1 g 7 _ _ GG.out)
    | ((with_reducible refine gate_store (t := 2) (p := 5) rfl ?_); refine put_event rfl (t := 2) (p := 5) (v := (.const (.int .i64 0))) rfl rfl (g := g) (i := 7) (cs := pcs plainP none 0 none 0 none 0) (cs' := pcs { plainP with rate := 0 } none 0 none 0 none 0) (x := .int .i64 0) ?hr GG.out ?hc ?_; (case hc => rfl); (case hr => go_simp); intro w2 hb8 hbut; have GG := Aside0.mk hb8; have HB := Aside0.mk (But.below HB.out HB.out.size gge hbut); clear hbut; clear hb8; have u5 : w2.cell? ⟨g, 5, none⟩ = some (.int .i64 _) := (blk_cell GG.out 5).trans rfl; have f5 := frozen_of_row w2 g 5 _ _ GG.out)
    | ((with_reducible refine gate_store (t := 3) (p := 6) rfl ?_); refine put_event rfl (t := 3) (p := 6) (v := (.const (.int .i64 3))) rfl rfl (g := g) (i := 5) (cs := pcs { plainP with rate := 0 } none 0 none 0 none 0) (cs' := pcs { plainP with rate := 0, times := 3 } none 0 none 0 none 0) (x := .int .i64 3) ?hr GG.out ?hc ?_; (case hc => rfl); (case hr => go_simp); intro w3 hb8 hbut; have GG := Aside0.mk hb8; have HB := Aside0.mk (But.below HB.out HB.out.size gge hbut); clear hbut; clear hb8; skip)
    | ((with_reducible refine gate_dst (N := 8) rfl ?_); refine wpList_load_row rfl 27 (.tmp 1) rfl g rfl 27 _ (0, 0) _ GG.out Try.underlying27 rfl info_prod ?_)
    | ((with_reducible refine gate_dst (N := 9) rfl ?_); refine lit_event rfl (N := 9) rfl (cs := #[.int .i64 31, .int .i64 28, .int .i64 31]) (t := 2) (n := 3) ?hr ?_; (case hr => first | (go_simp; done) | (go_simp; rfl)); intro gl hgl w4 hbl hb; have HB := Aside0.mk (below_step HB.out hb); have RD := Aside0.mk (Blk.reads (w := w4) (g := gl) (k := .i64) (l := [31, 28, 31]) (t := []) (e := 2) hbl (by decide)); clear hgl hbl hb)
    | (go_at_call 23; (with_reducible refine (OF.out _ _ _ HB.out RD.out).mono ?_); rintro e w5 ⟨rfl, hb⟩; have HB := Aside0.mk (below_step HB.out hb); clear hb))
  go_ret
  exact ⟨rfl, HB.out⟩
end Go.Proofs.Ytcfpkkgdofblfaa.Lv
/- The law LevelNothing, walked. -/
namespace Go.Proofs.Ytcfpkkgdofblfaa.Lv
open Go.RowKit Go.Proofs.YtcfpkkgdofblfaaW.PrintWords Go.Proofs.YtcfpkkgdofblfaaW.PrintLast Go.Proofs.YtcfpkkgdofblfaaW.PrintMore Go.Proofs.Ytcfpkkgdofblfaa.HW
open Pm Pd
set_option linter.unusedVariables false
set_option linter.unusedSimpArgs false
open Go.Proofs.Ytcfpkkgdofblfaa.H Go.Proofs.Ytcfpkkgdofblfaa.Du
theorem made_zeros (n : Nat) : madeCells #[Value.int .i64 0] n = Array.replicate n (.int .i64 0) := by
  apply Array.toList_inj.1
  rw [toList_madeCells_one]
  simp
theorem make_zeros (n : Nat) (hn : n ≤ 1000000) (W : World) : (Instr.makeSlice 35 (.int .i64 (n : Int)) (.int .i64 (n : Int))).run Try.prog W = .ok (.slice (some ⟨W.heap.size, 0, none⟩) n n) (W.alloc (.cells (Array.replicate n (.int .i64 0)) 2)) := by
  have hi := info_i64
  cases hq : Try.prog.info? 2 with
  | none => rw [hq] at hi; simp at hi
  | some i =>
    rw [hq] at hi
    simp at hi
    obtain ⟨z1, z2, z3⟩ := hi
    have h := run_makeSlice (w := W) 35 2 i (.int .i64 0) Try.underlying35 hq z1 .i64 .i64 (n : Int) (n : Int) (by omega) (Int.le_refl _) (by rw [z2, Int.toNat_natCast]; omega) (by rw [z3]; omega) (by omega)
    rw [h, Int.toNat_natCast, z2, Nat.mul_one]
    have e : (Value.int .i64 0).cells = #[.int .i64 0] := rfl
    rw [e, made_zeros]
end Go.Proofs.Ytcfpkkgdofblfaa.Lv
/- The law LevelRefuses, walked. -/
namespace Go.Proofs.Ytcfpkkgdofblfaa.Lv
open Go.RowKit Go.Proofs.YtcfpkkgdofblfaaW.PrintWords Go.Proofs.YtcfpkkgdofblfaaW.PrintLast Go.Proofs.YtcfpkkgdofblfaaW.PrintMore Go.Proofs.Ytcfpkkgdofblfaa.HW
open Pm Pd
set_option linter.unusedVariables false
set_option linter.unusedSimpArgs false
open Go.Proofs.Ytcfpkkgdofblfaa.H Go.Proofs.Ytcfpkkgdofblfaa.Du
theorem make_12 (W : World) : (Instr.makeSlice 35 (.int .i64 12) (.int .i64 12)).run Try.prog W = .ok (.slice (some ⟨W.heap.size, 0, none⟩) 12 12) (W.alloc (.cells #[.int .i64 0, .int .i64 0, .int .i64 0, .int .i64 0, .int .i64 0, .int .i64 0, .int .i64 0, .int .i64 0, .int .i64 0, .int .i64 0, .int .i64 0, .int .i64 0] 2)) := make_zeros 12 (by decide) W
theorem ref_l0 : leftE plainP [0, 0, 0, 0, 0, 0, 0, 0, 0, 0, 0] 1000 100 = (0, 1) := by decide +kernel
theorem ref_o0 : ofE plainP [0, 0, 0, 0, 0, 0, 0, 0, 0, 0, 0] 1000 = (0, 1) := by decide +kernel
set_option maxRecDepth 100000 in
set_option maxHeartbeats 8000000 in
theorem refuses_0 (a0 : Int) (w : World) (hg : GV w) (hr : Int.tmod (IntKind.u64.wrap a0) 7 = 0) : Calls Try.prog 10 #[.int .i64 a0] w fun e w' => e = .returned (.bool true) ∧ Below w.heap.size w w' := by
  have LE := Aside0.mk (fun (A : Option Addr) (c : Nat) (W : World) (hb : Below w.heap.size w W) (hc : Kd.C (Kd.int .i64) W A 11 [0, 0, 0, 0, 0, 0, 0, 0, 0, 0, 0]) => show Calls Try.prog 26 #[pv plainP none 0 none 0 none 0, .slice A 11 c, .int .i64 1000, .int .i64 100] W (Two (0, 1) W) from by have := Left_any plainP none 0 none 0 none 0 A [0, 0, 0, 0, 0, 0, 0, 0, 0, 0, 0] c 1000 W (hg.below hb) (nilAt rfl rfl rfl) small_plain hc (by decide) 100; rw [ref_l0] at this; exact this)
  have OF := Aside0.mk (fun (A : Option Addr) (c : Nat) (W : World) (hb : Below w.heap.size w W) (hc : Kd.C (Kd.int .i64) W A 11 [0, 0, 0, 0, 0, 0, 0, 0, 0, 0, 0]) => show Calls Try.prog 23 #[pv plainP none 0 none 0 none 0, .slice A 11 c, .int .i64 1000] W (Two (0, 1) W) from by have := Of_any plainP none 0 none 0 none 0 A [0, 0, 0, 0, 0, 0, 0, 0, 0, 0, 0] c 1000 W (hg.below hb) (nilAt rfl rfl rfl) small_plain hc (by decide); rw [ref_o0] at this; exact this)
  have AK := Aside0.mk (fun (W : World) (hb : Below w.heap.size w W) => level_awake W (hg.below hb))
  have hmk := make_12
  clear hg
  go_enter Try.func10, Try.ntmps10
  go_wp2_with (first
    | (go_at_call 22; (with_reducible refine (plain_any _).mono ?_); rintro e w0 ⟨rfl, hb⟩; have HB := Aside0.mk hb; clear hb)
    | ((with_reducible refine gate_dst (N := 3) rfl ?_); refine copy_event rfl (N := 3) rfl rfl rfl (t := 27) (v := .tmp 11) rfl (cs := pcs plainP none 0 none 0 none 0) (zs := pzs) ?hr rfl rfl info_prod ?hz (pcs_one _ _ _ _ _ _ _) ?_; (case hr => first | (go_simp; done) | (go_simp; rfl)); (case hz => rfl); intro g hg w1 hb1 hbl1; have gge := (show w.heap.size ≤ g by rw [hg]; exact HB.out.size); have HB := Aside0.mk (below_step HB.out hbl1); have GG := Aside0.mk hb1; clear hg hb1 hbl1; have u5 : w1.cell? ⟨g, 5, none⟩ = some (.int .i64 12) := (blk_cell GG.out 5).trans rfl; have f5 := frozen_of_row w1 g 5 _ _ GG.out)
    | ((with_reducible refine gate_dst (N := 14) rfl ?_); refine lit_event rfl (N := 14) rfl (cs := #[.int .i64 0, .int .i64 0, .int .i64 0, .int .i64 0, .int .i64 0, .int .i64 0, .int .i64 0, .int .i64 0, .int .i64 0, .int .i64 0, .int .i64 0, .int .i64 0]) (t := 2) (n := 12) ?hr ?_; (case hr => first | (go_simp; done) | (go_simp; rfl)); intro gl hgl w4 hbl hb; have glge := (show w.heap.size ≤ gl by rw [hgl]; exact HB.out.size); have gne := (show g ≠ gl by have := blk_lt GG.out; omega); have HB := Aside0.mk (below_step HB.out hb); have GG := Aside0.mk (Pd.blk_below GG.out hb); have GL := Aside0.mk hbl; have u5 : w4.cell? ⟨g, 5, none⟩ = some (.int .i64 12) := (blk_cell GG.out 5).trans rfl; have v3 := (show w4.cell? ⟨gl, 3, none⟩ = some (.int .i64 0) from (blk_cell GL.out 3).trans rfl); have k3 := frozen_of_row w4 gl 3 _ _ GL.out; clear hgl hbl hb)
    | ((with_reducible refine gate_dst (N := 43) rfl ?_); refine wpList_load_row rfl 27 (.tmp 3) rfl g rfl 27 _ (0, 0) _ GG.out Try.underlying27 rfl info_prod ?_)
    | (go_at_call 26; have RD := Aside0.mk (Blk.reads (g := gl) (k := .i64) (l := [0, 0, 0, 0, 0, 0, 0, 0, 0, 0, 0]) (t := [.int .i64 0]) (e := 2) GL.out (by decide)); (with_reducible refine (LE.out _ _ _ HB.out RD.out).mono ?_); rintro e w5 ⟨rfl, hb⟩; have HB := Aside0.mk (below_step HB.out hb); have GG := Aside0.mk (Pd.blk_below GG.out hb); have RD := Aside0.mk (Kd.C_below RD.out hb); clear hb)
    | ((with_reducible refine gate_dst (N := 51) rfl ?_); refine wpList_load_row rfl 27 (.tmp 3) rfl g rfl 27 _ (0, 0) _ GG.out Try.underlying27 rfl info_prod ?_)
    | (go_at_call 23; (with_reducible refine (OF.out _ _ _ HB.out RD.out).mono ?_); rintro e w6 ⟨rfl, hb⟩; have HB := Aside0.mk (below_step HB.out hb); clear hb)
    | (go_at_call 24; (with_reducible refine (AK.out _ HB.out).mono ?_); rintro e w7 ⟨rfl, hb⟩; have HB := Aside0.mk (below_step HB.out hb); clear hb))
  go_ret
  exact ⟨rfl, HB.out⟩
theorem ref_l1 : leftE plainP [0, 0, 0, 0, 0, 0, 0, 0, 0, 0, 0, 0, 1] 1000 100 = (0, 1) := by decide +kernel
theorem ref_o1 : ofE plainP [0, 0, 0, 0, 0, 0, 0, 0, 0, 0, 0, 0, 1] 1000 = (0, 1) := by decide +kernel
set_option maxRecDepth 100000 in
set_option maxHeartbeats 8000000 in
theorem refuses_1 (a0 : Int) (w : World) (hg : GV w) (hr : Int.tmod (IntKind.u64.wrap a0) 7 = 1) : Calls Try.prog 10 #[.int .i64 a0] w fun e w' => e = .returned (.bool true) ∧ Below w.heap.size w w' := by
  have LE := Aside0.mk (fun (A : Option Addr) (c : Nat) (W : World) (hb : Below w.heap.size w W) (hc : Kd.C (Kd.int .i64) W A 13 [0, 0, 0, 0, 0, 0, 0, 0, 0, 0, 0, 0, 1]) => show Calls Try.prog 26 #[pv plainP none 0 none 0 none 0, .slice A 13 c, .int .i64 1000, .int .i64 100] W (Two (0, 1) W) from by have := Left_any plainP none 0 none 0 none 0 A [0, 0, 0, 0, 0, 0, 0, 0, 0, 0, 0, 0, 1] c 1000 W (hg.below hb) (nilAt rfl rfl rfl) small_plain hc (by decide) 100; rw [ref_l1] at this; exact this)
  have OF := Aside0.mk (fun (A : Option Addr) (c : Nat) (W : World) (hb : Below w.heap.size w W) (hc : Kd.C (Kd.int .i64) W A 13 [0, 0, 0, 0, 0, 0, 0, 0, 0, 0, 0, 0, 1]) => show Calls Try.prog 23 #[pv plainP none 0 none 0 none 0, .slice A 13 c, .int .i64 1000] W (Two (0, 1) W) from by have := Of_any plainP none 0 none 0 none 0 A [0, 0, 0, 0, 0, 0, 0, 0, 0, 0, 0, 0, 1] c 1000 W (hg.below hb) (nilAt rfl rfl rfl) small_plain hc (by decide); rw [ref_o1] at this; exact this)
  have AK := Aside0.mk (fun (W : World) (hb : Below w.heap.size w W) => level_awake W (hg.below hb))
  have hmk := make_12
  clear hg
  go_enter Try.func10, Try.ntmps10
  go_wp2_with (first
    | (go_at_call 22; (with_reducible refine (plain_any _).mono ?_); rintro e w0 ⟨rfl, hb⟩; have HB := Aside0.mk hb; clear hb)
    | ((with_reducible refine gate_dst (N := 3) rfl ?_); refine copy_event rfl (N := 3) rfl rfl rfl (t := 27) (v := .tmp 11) rfl (cs := pcs plainP none 0 none 0 none 0) (zs := pzs) ?hr rfl rfl info_prod ?hz (pcs_one _ _ _ _ _ _ _) ?_; (case hr => first | (go_simp; done) | (go_simp; rfl)); (case hz => rfl); intro g hg w1 hb1 hbl1; have gge := (show w.heap.size ≤ g by rw [hg]; exact HB.out.size); have HB := Aside0.mk (below_step HB.out hbl1); have GG := Aside0.mk hb1; clear hg hb1 hbl1; have u5 : w1.cell? ⟨g, 5, none⟩ = some (.int .i64 12) := (blk_cell GG.out 5).trans rfl; have f5 := frozen_of_row w1 g 5 _ _ GG.out)
    | ((with_reducible refine gate_dst (N := 14) rfl ?_); refine Kd.R_make (Kd.int .i64) (w0 := w) w.heap.size 2 rfl (N := 14) rfl 35 (.tmp 13) (.tmp 13) rfl 12 rfl rfl Try.underlying35 (.int .i64 0) 8 info_l rfl (by decide) (by decide) (0 : Int) (ok := fun b => b ≠ g) (okp := fun _ => False) ?zz (fun _ hk => hk.elim) ?fr (by decide) (by decide) HB.out HB.out.size ?_; (case zz => exact rfl); (case fr => have := blk_lt GG.out; exact (by omega)); intro v1 w4 hr1 hb1 hg1 hat1; have GG := Aside0.mk ((hg1.block g (blk_lt GG.out) (by simp)).trans GG.out); have HB := Aside0.mk hb1; obtain ⟨gl, cl, rfl⟩ := RL_slice hr1 (by decide); have RR := Aside0.mk hr1; clear hr1 hb1 hg1 hat1)
    | ((with_reducible refine gate_builtin (b := .append) (xs := #[.tmp 27, .tmp 28]) rfl ?_); at_builtin; refine Kd.R_append (Kd.int .i64) (w0 := w) w.heap.size rfl (.tmp 27) (.tmp 28) 35 2 (.int .i64 0) 8 rfl Try.underlying35 info_l rfl (by decide) (by decide) (.slice (some ⟨gl, 0, none⟩) 12 cl) [0, 0, 0, 0, 0, 0, 0, 0, 0, 0, 0, 0] 1 [.int .i64 1] (fun b => b ≠ g) (fun _ => False) rfl rfl ?aP (fun _ hk => hk.elim) ?aF ?aO ?aB ?aS ?aL ?_; (case aP => exact rfl); (case aF => exact fun b hb => (by have := blk_lt GG.out; omega)); (case aO => exact RR.out); (case aB => exact HB.out); (case aS => exact HB.out.size); (case aL => decide); intro v1 w11 hr1 hb1 hg1 hat1; obtain ⟨gn, cn, rfl⟩ := RL_slice hr1 (by simp); have R1 := Aside0.mk hr1; have GG := Aside0.mk ((hg1.block g (blk_lt GG.out) (fun e => (RR.out.1 g e.symm) rfl)).trans GG.out); have HB := Aside0.mk hb1; clear hr1 hb1 hg1 hat1)
    | ((with_reducible refine gate_dst (N := 43) rfl ?_); refine wpList_load_row rfl 27 (.tmp 3) rfl g rfl 27 _ (0, 0) _ GG.out Try.underlying27 rfl info_prod ?_)
    | (go_at_call 26; have RD := Aside0.mk ((Kd.R_reads' R1.out).2.2); (with_reducible refine (LE.out _ _ _ HB.out RD.out).mono ?_); rintro e w5 ⟨rfl, hb⟩; have HB := Aside0.mk (below_step HB.out hb); have GG := Aside0.mk (Pd.blk_below GG.out hb); have RD := Aside0.mk (Kd.C_below RD.out hb); clear hb)
    | ((with_reducible refine gate_dst (N := 51) rfl ?_); refine wpList_load_row rfl 27 (.tmp 3) rfl g rfl 27 _ (0, 0) _ GG.out Try.underlying27 rfl info_prod ?_)
    | (go_at_call 23; (with_reducible refine (OF.out _ _ _ HB.out RD.out).mono ?_); rintro e w6 ⟨rfl, hb⟩; have HB := Aside0.mk (below_step HB.out hb); clear hb)
    | (go_at_call 24; (with_reducible refine (AK.out _ HB.out).mono ?_); rintro e w7 ⟨rfl, hb⟩; have HB := Aside0.mk (below_step HB.out hb); clear hb))
  go_ret
  exact ⟨rfl, HB.out⟩
theorem ref_l2 : leftE plainP [0, 0, 0, -1, 0, 0, 0, 0, 0, 0, 0, 0] 1000 100 = (0, 1) := by decide +kernel
theorem ref_o2 : ofE plainP [0, 0, 0, -1, 0, 0, 0, 0, 0, 0, 0, 0] 1000 = (0, 1) := by decide +kernel
set_option maxRecDepth 100000 in
set_option maxHeartbeats 8000000 in
theorem refuses_2 (a0 : Int) (w : World) (hg : GV w) (hr : Int.tmod (IntKind.u64.wrap a0) 7 = 2) : Calls Try.prog 10 #[.int .i64 a0] w fun e w' => e = .returned (.bool true) ∧ Below w.heap.size w w' := by
  have LE := Aside0.mk (fun (A : Option Addr) (c : Nat) (W : World) (hb : Below w.heap.size w W) (hc : Kd.C (Kd.int .i64) W A 12 [0, 0, 0, -1, 0, 0, 0, 0, 0, 0, 0, 0]) => show Calls Try.prog 26 #[pv plainP none 0 none 0 none 0, .slice A 12 c, .int .i64 1000, .int .i64 100] W (Two (0, 1) W) from by have := Left_any plainP none 0 none 0 none 0 A [0, 0, 0, -1, 0, 0, 0, 0, 0, 0, 0, 0] c 1000 W (hg.below hb) (nilAt rfl rfl rfl) small_plain hc (by decide) 100; rw [ref_l2] at this; exact this)
  have OF := Aside0.mk (fun (A : Option Addr) (c : Nat) (W : World) (hb : Below w.heap.size w W) (hc : Kd.C (Kd.int .i64) W A 12 [0, 0, 0, -1, 0, 0, 0, 0, 0, 0, 0, 0]) => show Calls Try.prog 23 #[pv plainP none 0 none 0 none 0, .slice A 12 c, .int .i64 1000] W (Two (0, 1) W) from by have := Of_any plainP none 0 none 0 none 0 A [0, 0, 0, -1, 0, 0, 0, 0, 0, 0, 0, 0] c 1000 W (hg.below hb) (nilAt rfl rfl rfl) small_plain hc (by decide); rw [ref_o2] at this; exact this)
  have AK := Aside0.mk (fun (W : World) (hb : Below w.heap.size w W) => level_awake W (hg.below hb))
  have hmk := make_12
  clear hg
  go_enter Try.func10, Try.ntmps10
  go_wp2_with (first
    | (go_at_call 22; (with_reducible refine (plain_any _).mono ?_); rintro e w0 ⟨rfl, hb⟩; have HB := Aside0.mk hb; clear hb)
    | ((with_reducible refine gate_dst (N := 3) rfl ?_); refine copy_event rfl (N := 3) rfl rfl rfl (t := 27) (v := .tmp 11) rfl (cs := pcs plainP none 0 none 0 none 0) (zs := pzs) ?hr rfl rfl info_prod ?hz (pcs_one _ _ _ _ _ _ _) ?_; (case hr => first | (go_simp; done) | (go_simp; rfl)); (case hz => rfl); intro g hg w1 hb1 hbl1; have gge := (show w.heap.size ≤ g by rw [hg]; exact HB.out.size); have HB := Aside0.mk (below_step HB.out hbl1); have GG := Aside0.mk hb1; clear hg hb1 hbl1; have u5 : w1.cell? ⟨g, 5, none⟩ = some (.int .i64 12) := (blk_cell GG.out 5).trans rfl; have f5 := frozen_of_row w1 g 5 _ _ GG.out)
    | ((with_reducible refine gate_dst (N := 14) rfl ?_); refine lit_event rfl (N := 14) rfl (cs := #[.int .i64 0, .int .i64 0, .int .i64 0, .int .i64 0, .int .i64 0, .int .i64 0, .int .i64 0, .int .i64 0, .int .i64 0, .int .i64 0, .int .i64 0, .int .i64 0]) (t := 2) (n := 12) ?hr ?_; (case hr => first | (go_simp; done) | (go_simp; rfl)); intro gl hgl w4 hbl hb; have glge := (show w.heap.size ≤ gl by rw [hgl]; exact HB.out.size); have gne := (show g ≠ gl by have := blk_lt GG.out; omega); have HB := Aside0.mk (below_step HB.out hb); have GG := Aside0.mk (Pd.blk_below GG.out hb); have GL := Aside0.mk hbl; have u5 : w4.cell? ⟨g, 5, none⟩ = some (.int .i64 12) := (blk_cell GG.out 5).trans rfl; have v3 := (show w4.cell? ⟨gl, 3, none⟩ = some (.int .i64 0) from (blk_cell GL.out 3).trans rfl); have k3 := frozen_of_row w4 gl 3 _ _ GL.out; clear hgl hbl hb)
    | ((with_reducible refine gate_store (t := 2) (p := 33) rfl ?_); refine put_event rfl (t := 2) (p := 33) (v := (.const (.int .i64 (-1)))) rfl rfl (g := gl) (i := 3) (cs := #[.int .i64 0, .int .i64 0, .int .i64 0, .int .i64 0, .int .i64 0, .int .i64 0, .int .i64 0, .int .i64 0, .int .i64 0, .int .i64 0, .int .i64 0, .int .i64 0]) (cs' := #[.int .i64 0, .int .i64 0, .int .i64 0, .int .i64 (-1), .int .i64 0, .int .i64 0, .int .i64 0, .int .i64 0, .int .i64 0, .int .i64 0, .int .i64 0, .int .i64 0]) (x := .int .i64 (-1)) ?hr GL.out ?hc ?_; (case hc => rfl); (case hr => go_simp); intro w8 hb8 hbut; have GL := Aside0.mk hb8; have GG := Aside0.mk ((hbut.block g (blk_lt GG.out) gne).trans GG.out); have HB := Aside0.mk (But.below HB.out HB.out.size glge hbut); clear hb8 hbut)
    | ((with_reducible refine gate_dst (N := 43) rfl ?_); refine wpList_load_row rfl 27 (.tmp 3) rfl g rfl 27 _ (0, 0) _ GG.out Try.underlying27 rfl info_prod ?_)
    | (go_at_call 26; have RD := Aside0.mk (Blk.reads (g := gl) (k := .i64) (l := [0, 0, 0, -1, 0, 0, 0, 0, 0, 0, 0, 0]) (t := []) (e := 2) GL.out (by decide)); (with_reducible refine (LE.out _ _ _ HB.out RD.out).mono ?_); rintro e w5 ⟨rfl, hb⟩; have HB := Aside0.mk (below_step HB.out hb); have GG := Aside0.mk (Pd.blk_below GG.out hb); have RD := Aside0.mk (Kd.C_below RD.out hb); clear hb)
    | ((with_reducible refine gate_dst (N := 51) rfl ?_); refine wpList_load_row rfl 27 (.tmp 3) rfl g rfl 27 _ (0, 0) _ GG.out Try.underlying27 rfl info_prod ?_)
    | (go_at_call 23; (with_reducible refine (OF.out _ _ _ HB.out RD.out).mono ?_); rintro e w6 ⟨rfl, hb⟩; have HB := Aside0.mk (below_step HB.out hb); clear hb)
    | (go_at_call 24; (with_reducible refine (AK.out _ HB.out).mono ?_); rintro e w7 ⟨rfl, hb⟩; have HB := Aside0.mk (below_step HB.out hb); clear hb))
  go_ret
  exact ⟨rfl, HB.out⟩
theorem ref_l3 : leftE plainP [0, 0, 0, 267181, 0, 0, 0, 0, 0, 0, 0, 0] 1000 100 = (0, 1) := by decide +kernel
theorem ref_o3 : ofE plainP [0, 0, 0, 267181, 0, 0, 0, 0, 0, 0, 0, 0] 1000 = (0, 1) := by decide +kernel
set_option maxRecDepth 100000 in
set_option maxHeartbeats 8000000 in
theorem refuses_3 (a0 : Int) (w : World) (hg : GV w) (hr : Int.tmod (IntKind.u64.wrap a0) 7 = 3) : Calls Try.prog 10 #[.int .i64 a0] w fun e w' => e = .returned (.bool true) ∧ Below w.heap.size w w' := by
  have LE := Aside0.mk (fun (A : Option Addr) (c : Nat) (W : World) (hb : Below w.heap.size w W) (hc : Kd.C (Kd.int .i64) W A 12 [0, 0, 0, 267181, 0, 0, 0, 0, 0, 0, 0, 0]) => show Calls Try.prog 26 #[pv plainP none 0 none 0 none 0, .slice A 12 c, .int .i64 1000, .int .i64 100] W (Two (0, 1) W) from by have := Left_any plainP none 0 none 0 none 0 A [0, 0, 0, 267181, 0, 0, 0, 0, 0, 0, 0, 0] c 1000 W (hg.below hb) (nilAt rfl rfl rfl) small_plain hc (by decide) 100; rw [ref_l3] at this; exact this)
  have OF := Aside0.mk (fun (A : Option Addr) (c : Nat) (W : World) (hb : Below w.heap.size w W) (hc : Kd.C (Kd.int .i64) W A 12 [0, 0, 0, 267181, 0, 0, 0, 0, 0, 0, 0, 0]) => show Calls Try.prog 23 #[pv plainP none 0 none 0 none 0, .slice A 12 c, .int .i64 1000] W (Two (0, 1) W) from by have := Of_any plainP none 0 none 0 none 0 A [0, 0, 0, 267181, 0, 0, 0, 0, 0, 0, 0, 0] c 1000 W (hg.below hb) (nilAt rfl rfl rfl) small_plain hc (by decide); rw [ref_o3] at this; exact this)
  have AK := Aside0.mk (fun (W : World) (hb : Below w.heap.size w W) => level_awake W (hg.below hb))
  have hmk := make_12
  clear hg
  go_enter Try.func10, Try.ntmps10
  go_wp2_with (first
    | (go_at_call 22; (with_reducible refine (plain_any _).mono ?_); rintro e w0 ⟨rfl, hb⟩; have HB := Aside0.mk hb; clear hb)
    | ((with_reducible refine gate_dst (N := 3) rfl ?_); refine copy_event rfl (N := 3) rfl rfl rfl (t := 27) (v := .tmp 11) rfl (cs := pcs plainP none 0 none 0 none 0) (zs := pzs) ?hr rfl rfl info_prod ?hz (pcs_one _ _ _ _ _ _ _) ?_; (case hr => first | (go_simp; done) | (go_simp; rfl)); (case hz => rfl); intro g hg w1 hb1 hbl1; have gge := (show w.heap.size ≤ g by rw [hg]; exact HB.out.size); have HB := Aside0.mk (below_step HB.out hbl1); have GG := Aside0.mk hb1; clear hg hb1 hbl1; have u5 : w1.cell? ⟨g, 5, none⟩ = some (.int .i64 12) := (blk_cell GG.out 5).trans rfl; have f5 := frozen_of_row w1 g 5 _ _ GG.out)
    | ((with_reducible refine gate_dst (N := 14) rfl ?_); refine lit_event rfl (N := 14) rfl (cs := #[.int .i64 0, .int .i64 0, .int .i64 0, .int .i64 0, .int .i64 0, .int .i64 0, .int .i64 0, .int .i64 0, .int .i64 0, .int .i64 0, .int .i64 0, .int .i64 0]) (t := 2) (n := 12) ?hr ?_; (case hr => first | (go_simp; done) | (go_simp; rfl)); intro gl hgl w4 hbl hb; have glge := (show w.heap.size ≤ gl by rw [hgl]; exact HB.out.size); have gne := (show g ≠ gl by have := blk_lt GG.out; omega); have HB := Aside0.mk (below_step HB.out hb); have GG := Aside0.mk (Pd.blk_below GG.out hb); have GL := Aside0.mk hbl; have u5 : w4.cell? ⟨g, 5, none⟩ = some (.int .i64 12) := (blk_cell GG.out 5).trans rfl; have v3 := (show w4.cell? ⟨gl, 3, none⟩ = some (.int .i64 0) from (blk_cell GL.out 3).trans rfl); have k3 := frozen_of_row w4 gl 3 _ _ GL.out; clear hgl hbl hb)
    | ((with_reducible refine gate_store (t := 2) (p := 37) rfl ?_); refine put_event rfl (t := 2) (p := 37) (v := (.const (.int .i64 267181))) rfl rfl (g := gl) (i := 3) (cs := #[.int .i64 0, .int .i64 0, .int .i64 0, .int .i64 0, .int .i64 0, .int .i64 0, .int .i64 0, .int .i64 0, .int .i64 0, .int .i64 0, .int .i64 0, .int .i64 0]) (cs' := #[.int .i64 0, .int .i64 0, .int .i64 0, .int .i64 267181, .int .i64 0, .int .i64 0, .int .i64 0, .int .i64 0, .int .i64 0, .int .i64 0, .int .i64 0, .int .i64 0]) (x := .int .i64 267181) ?hr GL.out ?hc ?_; (case hc => rfl); (case hr => go_simp); intro w8 hb8 hbut; have GL := Aside0.mk hb8; have GG := Aside0.mk ((hbut.block g (blk_lt GG.out) gne).trans GG.out); have HB := Aside0.mk (But.below HB.out HB.out.size glge hbut); clear hb8 hbut)
    | ((with_reducible refine gate_dst (N := 43) rfl ?_); refine wpList_load_row rfl 27 (.tmp 3) rfl g rfl 27 _ (0, 0) _ GG.out Try.underlying27 rfl info_prod ?_)
    | (go_at_call 26; have RD := Aside0.mk (Blk.reads (g := gl) (k := .i64) (l := [0, 0, 0, 267181, 0, 0, 0, 0, 0, 0, 0, 0]) (t := []) (e := 2) GL.out (by decide)); (with_reducible refine (LE.out _ _ _ HB.out RD.out).mono ?_); rintro e w5 ⟨rfl, hb⟩; have HB := Aside0.mk (below_step HB.out hb); have GG := Aside0.mk (Pd.blk_below GG.out hb); have RD := Aside0.mk (Kd.C_below RD.out hb); clear hb)
    | ((with_reducible refine gate_dst (N := 51) rfl ?_); refine wpList_load_row rfl 27 (.tmp 3) rfl g rfl 27 _ (0, 0) _ GG.out Try.underlying27 rfl info_prod ?_)
    | (go_at_call 23; (with_reducible refine (OF.out _ _ _ HB.out RD.out).mono ?_); rintro e w6 ⟨rfl, hb⟩; have HB := Aside0.mk (below_step HB.out hb); clear hb)
    | (go_at_call 24; (with_reducible refine (AK.out _ HB.out).mono ?_); rintro e w7 ⟨rfl, hb⟩; have HB := Aside0.mk (below_step HB.out hb); clear hb))
  go_ret
  exact ⟨rfl, HB.out⟩
theorem ref_l4 : leftE plainP [0, 0, 0, 0, 0, 0, 0, 0, 0, 0, 0, 0] 0 100 = (0, 1) := by decide +kernel
theorem ref_o4 : ofE plainP [0, 0, 0, 0, 0, 0, 0, 0, 0, 0, 0, 0] 0 = (0, 1) := by decide +kernel
set_option maxRecDepth 100000 in
set_option maxHeartbeats 8000000 in
theorem refuses_4 (a0 : Int) (w : World) (hg : GV w) (hr : Int.tmod (IntKind.u64.wrap a0) 7 = 4) : Calls Try.prog 10 #[.int .i64 a0] w fun e w' => e = .returned (.bool true) ∧ Below w.heap.size w w' := by
  have LE := Aside0.mk (fun (A : Option Addr) (c : Nat) (W : World) (hb : Below w.heap.size w W) (hc : Kd.C (Kd.int .i64) W A 12 [0, 0, 0, 0, 0, 0, 0, 0, 0, 0, 0, 0]) => show Calls Try.prog 26 #[pv plainP none 0 none 0 none 0, .slice A 12 c, .int .i64 0, .int .i64 100] W (Two (0, 1) W) from by have := Left_any plainP none 0 none 0 none 0 A [0, 0, 0, 0, 0, 0, 0, 0, 0, 0, 0, 0] c 0 W (hg.below hb) (nilAt rfl rfl rfl) small_plain hc (by decide) 100; rw [ref_l4] at this; exact this)
  have OF := Aside0.mk (fun (A : Option Addr) (c : Nat) (W : World) (hb : Below w.heap.size w W) (hc : Kd.C (Kd.int .i64) W A 12 [0, 0, 0, 0, 0, 0, 0, 0, 0, 0, 0, 0]) => show Calls Try.prog 23 #[pv plainP none 0 none 0 none 0, .slice A 12 c, .int .i64 0] W (Two (0, 1) W) from by have := Of_any plainP none 0 none 0 none 0 A [0, 0, 0, 0, 0, 0, 0, 0, 0, 0, 0, 0] c 0 W (hg.below hb) (nilAt rfl rfl rfl) small_plain hc (by decide); rw [ref_o4] at this; exact this)
  have AK := Aside0.mk (fun (W : World) (hb : Below w.heap.size w W) => level_awake W (hg.below hb))
  have hmk := make_12
  clear hg
  go_enter Try.func10, Try.ntmps10
  go_wp2_with (first
    | (go_at_call 22; (with_reducible refine (plain_any _).mono ?_); rintro e w0 ⟨rfl, hb⟩; have HB := Aside0.mk hb; clear hb)
    | ((with_reducible refine gate_dst (N := 3) rfl ?_); refine copy_event rfl (N := 3) rfl rfl rfl (t := 27) (v := .tmp 11) rfl (cs := pcs plainP none 0 none 0 none 0) (zs := pzs) ?hr rfl rfl info_prod ?hz (pcs_one _ _ _ _ _ _ _) ?_; (case hr => first | (go_simp; done) | (go_simp; rfl)); (case hz => rfl); intro g hg w1 hb1 hbl1; have gge := (show w.heap.size ≤ g by rw [hg]; exact HB.out.size); have HB := Aside0.mk (below_step HB.out hbl1); have GG := Aside0.mk hb1; clear hg hb1 hbl1; have u5 : w1.cell? ⟨g, 5, none⟩ = some (.int .i64 12) := (blk_cell GG.out 5).trans rfl; have f5 := frozen_of_row w1 g 5 _ _ GG.out)
    | ((with_reducible refine gate_dst (N := 14) rfl ?_); refine lit_event rfl (N := 14) rfl (cs := #[.int .i64 0, .int .i64 0, .int .i64 0, .int .i64 0, .int .i64 0, .int .i64 0, .int .i64 0, .int .i64 0, .int .i64 0, .int .i64 0, .int .i64 0, .int .i64 0]) (t := 2) (n := 12) ?hr ?_; (case hr => first | (go_simp; done) | (go_simp; rfl)); intro gl hgl w4 hbl hb; have glge := (show w.heap.size ≤ gl by rw [hgl]; exact HB.out.size); have gne := (show g ≠ gl by have := blk_lt GG.out; omega); have HB := Aside0.mk (below_step HB.out hb); have GG := Aside0.mk (Pd.blk_below GG.out hb); have GL := Aside0.mk hbl; have u5 : w4.cell? ⟨g, 5, none⟩ = some (.int .i64 12) := (blk_cell GG.out 5).trans rfl; have v3 := (show w4.cell? ⟨gl, 3, none⟩ = some (.int .i64 0) from (blk_cell GL.out 3).trans rfl); have k3 := frozen_of_row w4 gl 3 _ _ GL.out; clear hgl hbl hb)
    | ((with_reducible refine gate_dst (N := 43) rfl ?_); refine wpList_load_row rfl 27 (.tmp 3) rfl g rfl 27 _ (0, 0) _ GG.out Try.underlying27 rfl info_prod ?_)
    | (go_at_call 26; have RD := Aside0.mk (Blk.reads (g := gl) (k := .i64) (l := [0, 0, 0, 0, 0, 0, 0, 0, 0, 0, 0, 0]) (t := []) (e := 2) GL.out (by decide)); (with_reducible refine (LE.out _ _ _ HB.out RD.out).mono ?_); rintro e w5 ⟨rfl, hb⟩; have HB := Aside0.mk (below_step HB.out hb); have GG := Aside0.mk (Pd.blk_below GG.out hb); have RD := Aside0.mk (Kd.C_below RD.out hb); clear hb)
    | ((with_reducible refine gate_dst (N := 51) rfl ?_); refine wpList_load_row rfl 27 (.tmp 3) rfl g rfl 27 _ (0, 0) _ GG.out Try.underlying27 rfl info_prod ?_)
    | (go_at_call 23; (with_reducible refine (OF.out _ _ _ HB.out RD.out).mono ?_); rintro e w6 ⟨rfl, hb⟩; have HB := Aside0.mk (below_step HB.out hb); clear hb)
    | (go_at_call 24; (with_reducible refine (AK.out _ HB.out).mono ?_); rintro e w7 ⟨rfl, hb⟩; have HB := Aside0.mk (below_step HB.out hb); clear hb))
  go_ret
  exact ⟨rfl, HB.out⟩
theorem ref_l5 : leftE plainP [0, 0, 0, 0, 0, 0, 0, 0, 0, 0, 0, 0] 10000000000001 100 = (0, 1) := by decide +kernel
theorem ref_o5 : ofE plainP [0, 0, 0, 0, 0, 0, 0, 0, 0, 0, 0, 0] 10000000000001 = (0, 1) := by decide +kernel
set_option maxRecDepth 100000 in
set_option maxHeartbeats 8000000 in
theorem refuses_5 (a0 : Int) (w : World) (hg : GV w) (hr : Int.tmod (IntKind.u64.wrap a0) 7 = 5) : Calls Try.prog 10 #[.int .i64 a0] w fun e w' => e = .returned (.bool true) ∧ Below w.heap.size w w' := by
  have LE := Aside0.mk (fun (A : Option Addr) (c : Nat) (W : World) (hb : Below w.heap.size w W) (hc : Kd.C (Kd.int .i64) W A 12 [0, 0, 0, 0, 0, 0, 0, 0, 0, 0, 0, 0]) => show Calls Try.prog 26 #[pv plainP none 0 none 0 none 0, .slice A 12 c, .int .i64 10000000000001, .int .i64 100] W (Two (0, 1) W) from by have := Left_any plainP none 0 none 0 none 0 A [0, 0, 0, 0, 0, 0, 0, 0, 0, 0, 0, 0] c 10000000000001 W (hg.below hb) (nilAt rfl rfl rfl) small_plain hc (by decide) 100; rw [ref_l5] at this; exact this)
  have OF := Aside0.mk (fun (A : Option Addr) (c : Nat) (W : World) (hb : Below w.heap.size w W) (hc : Kd.C (Kd.int .i64) W A 12 [0, 0, 0, 0, 0, 0, 0, 0, 0, 0, 0, 0]) => show Calls Try.prog 23 #[pv plainP none 0 none 0 none 0, .slice A 12 c, .int .i64 10000000000001] W (Two (0, 1) W) from by have := Of_any plainP none 0 none 0 none 0 A [0, 0, 0, 0, 0, 0, 0, 0, 0, 0, 0, 0] c 10000000000001 W (hg.below hb) (nilAt rfl rfl rfl) small_plain hc (by decide); rw [ref_o5] at this; exact this)
  have AK := Aside0.mk (fun (W : World) (hb : Below w.heap.size w W) => level_awake W (hg.below hb))
  have hmk := make_12
  clear hg
  go_enter Try.func10, Try.ntmps10
  go_wp2_with (first
    | (go_at_call 22; (with_reducible refine (plain_any _).mono ?_); rintro e w0 ⟨rfl, hb⟩; have HB := Aside0.mk hb; clear hb)
    | ((with_reducible refine gate_dst (N := 3) rfl ?_); refine copy_event rfl (N := 3) rfl rfl rfl (t := 27) (v := .tmp 11) rfl (cs := pcs plainP none 0 none 0 none 0) (zs := pzs) ?hr rfl rfl info_prod ?hz (pcs_one _ _ _ _ _ _ _) ?_; (case hr => first | (go_simp; done) | (go_simp; rfl)); (case hz => rfl); intro g hg w1 hb1 hbl1; have gge := (show w.heap.size ≤ g by rw [hg]; exact HB.out.size); have HB := Aside0.mk (below_step HB.out hbl1); have GG := Aside0.mk hb1; clear hg hb1 hbl1; have u5 : w1.cell? ⟨g, 5, none⟩ = some (.int .i64 12) := (blk_cell GG.out 5).trans rfl; have f5 := frozen_of_row w1 g 5 _ _ GG.out)
    | ((with_reducible refine gate_dst (N := 14) rfl ?_); refine lit_event rfl (N := 14) rfl (cs := #[.int .i64 0, .int .i64 0, .int .i64 0, .int .i64 0, .int .i64 0, .int .i64 0, .int .i64 0, .int .i64 0, .int .i64 0, .int .i64 0, .int .i64 0, .int .i64 0]) (t := 2) (n := 12) ?hr ?_; (case hr => first | (go_simp; done) | (go_simp; rfl)); intro gl hgl w4 hbl hb; have glge := (show w.heap.size ≤ gl by rw [hgl]; exact HB.out.size); have gne := (show g ≠ gl by have := blk_lt GG.out; omega); have HB := Aside0.mk (below_step HB.out hb); have GG := Aside0.mk (Pd.blk_below GG.out hb); have GL := Aside0.mk hbl; have u5 : w4.cell? ⟨g, 5, none⟩ = some (.int .i64 12) := (blk_cell GG.out 5).trans rfl; have v3 := (show w4.cell? ⟨gl, 3, none⟩ = some (.int .i64 0) from (blk_cell GL.out 3).trans rfl); have k3 := frozen_of_row w4 gl 3 _ _ GL.out; clear hgl hbl hb)
    | ((with_reducible refine gate_dst (N := 43) rfl ?_); refine wpList_load_row rfl 27 (.tmp 3) rfl g rfl 27 _ (0, 0) _ GG.out Try.underlying27 rfl info_prod ?_)
    | (go_at_call 26; have RD := Aside0.mk (Blk.reads (g := gl) (k := .i64) (l := [0, 0, 0, 0, 0, 0, 0, 0, 0, 0, 0, 0]) (t := []) (e := 2) GL.out (by decide)); (with_reducible refine (LE.out _ _ _ HB.out RD.out).mono ?_); rintro e w5 ⟨rfl, hb⟩; have HB := Aside0.mk (below_step HB.out hb); have GG := Aside0.mk (Pd.blk_below GG.out hb); have RD := Aside0.mk (Kd.C_below RD.out hb); clear hb)
    | ((with_reducible refine gate_dst (N := 51) rfl ?_); refine wpList_load_row rfl 27 (.tmp 3) rfl g rfl 27 _ (0, 0) _ GG.out Try.underlying27 rfl info_prod ?_)
    | (go_at_call 23; (with_reducible refine (OF.out _ _ _ HB.out RD.out).mono ?_); rintro e w6 ⟨rfl, hb⟩; have HB := Aside0.mk (below_step HB.out hb); clear hb)
    | (go_at_call 24; (with_reducible refine (AK.out _ HB.out).mono ?_); rintro e w7 ⟨rfl, hb⟩; have HB := Aside0.mk (below_step HB.out hb); clear hb))
  go_ret
  exact ⟨rfl, HB.out⟩
theorem ref_l6 : leftE plainP [0, 0, 0, 0, 0, 0, 0, 0, 0, 0, 0, 0] 1000 (-1) = (0, 1) := by decide +kernel
theorem ref_o6 : (ofE plainP [0, 0, 0, 0, 0, 0, 0, 0, 0, 0, 0, 0] 1000).2 = 0 := by decide +kernel
set_option maxRecDepth 100000 in
set_option maxHeartbeats 8000000 in
theorem refuses_6 (a0 : Int) (w : World) (hg : GV w) (hr : Int.tmod (IntKind.u64.wrap a0) 7 = 6) : Calls Try.prog 10 #[.int .i64 a0] w fun e w' => e = .returned (.bool true) ∧ Below w.heap.size w w' := by
  obtain ⟨v, hv⟩ : ∃ v, ofE plainP [0, 0, 0, 0, 0, 0, 0, 0, 0, 0, 0, 0] 1000 = (v, 0) := ⟨(ofE plainP [0, 0, 0, 0, 0, 0, 0, 0, 0, 0, 0, 0] 1000).1, Prod.ext rfl ref_o6⟩
  have LE := Aside0.mk (fun (A : Option Addr) (c : Nat) (W : World) (hb : Below w.heap.size w W) (hc : Kd.C (Kd.int .i64) W A 12 [0, 0, 0, 0, 0, 0, 0, 0, 0, 0, 0, 0]) => show Calls Try.prog 26 #[pv plainP none 0 none 0 none 0, .slice A 12 c, .int .i64 1000, .int .i64 (-1)] W (Two (0, 1) W) from by have := Left_any plainP none 0 none 0 none 0 A [0, 0, 0, 0, 0, 0, 0, 0, 0, 0, 0, 0] c 1000 W (hg.below hb) (nilAt rfl rfl rfl) small_plain hc (by decide) (-1); rw [ref_l6] at this; exact this)
  have OF := Aside0.mk (fun (A : Option Addr) (c : Nat) (W : World) (hb : Below w.heap.size w W) (hc : Kd.C (Kd.int .i64) W A 12 [0, 0, 0, 0, 0, 0, 0, 0, 0, 0, 0, 0]) => show Calls Try.prog 23 #[pv plainP none 0 none 0 none 0, .slice A 12 c, .int .i64 1000] W (Two (v, 0) W) from by have := Of_any plainP none 0 none 0 none 0 A [0, 0, 0, 0, 0, 0, 0, 0, 0, 0, 0, 0] c 1000 W (hg.below hb) (nilAt rfl rfl rfl) small_plain hc (by decide); rw [hv] at this; exact this)
  have AK := Aside0.mk (fun (W : World) (hb : Below w.heap.size w W) => level_awake W (hg.below hb))
  have hmk := make_12
  clear hg hv
  go_enter Try.func10, Try.ntmps10
  go_wp2_with (first
    | (go_at_call 22; (with_reducible refine (plain_any _).mono ?_); rintro e w0 ⟨rfl, hb⟩; have HB := Aside0.mk hb; clear hb)
    | ((with_reducible refine gate_dst (N := 3) rfl ?_); refine copy_event rfl (N := 3) rfl rfl rfl (t := 27) (v := .tmp 11) rfl (cs := pcs plainP none 0 none 0 none 0) (zs := pzs) ?hr rfl rfl info_prod ?hz (pcs_one _ _ _ _ _ _ _) ?_; (case hr => first | (go_simp; done) | (go_simp; rfl)); (case hz => rfl); intro g hg w1 hb1 hbl1; have gge := (show w.heap.size ≤ g by rw [hg]; exact HB.out.size); have HB := Aside0.mk (below_step HB.out hbl1); have GG := Aside0.mk hb1; clear hg hb1 hbl1; have u5 : w1.cell? ⟨g, 5, none⟩ = some (.int .i64 12) := (blk_cell GG.out 5).trans rfl; have f5 := frozen_of_row w1 g 5 _ _ GG.out)
    | ((with_reducible refine gate_dst (N := 14) rfl ?_); refine lit_event rfl (N := 14) rfl (cs := #[.int .i64 0, .int .i64 0, .int .i64 0, .int .i64 0, .int .i64 0, .int .i64 0, .int .i64 0, .int .i64 0, .int .i64 0, .int .i64 0, .int .i64 0, .int .i64 0]) (t := 2) (n := 12) ?hr ?_; (case hr => first | (go_simp; done) | (go_simp; rfl)); intro gl hgl w4 hbl hb; have glge := (show w.heap.size ≤ gl by rw [hgl]; exact HB.out.size); have gne := (show g ≠ gl by have := blk_lt GG.out; omega); have HB := Aside0.mk (below_step HB.out hb); have GG := Aside0.mk (Pd.blk_below GG.out hb); have GL := Aside0.mk hbl; have u5 : w4.cell? ⟨g, 5, none⟩ = some (.int .i64 12) := (blk_cell GG.out 5).trans rfl; have v3 := (show w4.cell? ⟨gl, 3, none⟩ = some (.int .i64 0) from (blk_cell GL.out 3).trans rfl); have k3 := frozen_of_row w4 gl 3 _ _ GL.out; clear hgl hbl hb)
    | ((with_reducible refine gate_dst (N := 43) rfl ?_); refine wpList_load_row rfl 27 (.tmp 3) rfl g rfl 27 _ (0, 0) _ GG.out Try.underlying27 rfl info_prod ?_)
    | (go_at_call 26; have RD := Aside0.mk (Blk.reads (g := gl) (k := .i64) (l := [0, 0, 0, 0, 0, 0, 0, 0, 0, 0, 0, 0]) (t := []) (e := 2) GL.out (by decide)); (with_reducible refine (LE.out _ _ _ HB.out RD.out).mono ?_); rintro e w5 ⟨rfl, hb⟩; have HB := Aside0.mk (below_step HB.out hb); have GG := Aside0.mk (Pd.blk_below GG.out hb); have RD := Aside0.mk (Kd.C_below RD.out hb); clear hb)
    | ((with_reducible refine gate_dst (N := 51) rfl ?_); refine wpList_load_row rfl 27 (.tmp 3) rfl g rfl 27 _ (0, 0) _ GG.out Try.underlying27 rfl info_prod ?_)
    | (go_at_call 23; (with_reducible refine (OF.out _ _ _ HB.out RD.out).mono ?_); rintro e w6 ⟨rfl, hb⟩; have HB := Aside0.mk (below_step HB.out hb); clear hb)
    | (go_at_call 24; (with_reducible refine (AK.out _ HB.out).mono ?_); rintro e w7 ⟨rfl, hb⟩; have HB := Aside0.mk (below_step HB.out hb); clear hb))
  go_ret
  exact ⟨rfl, HB.out⟩
theorem levelRefuses_walk (a0 : Int) (w : World) (w0 : (Lit.int .i64 a0).wf = true) (hg : GV w) : Calls Try.prog 10 #[.int .i64 a0] w fun e w' => e = .returned (.bool true) ∧ Below w.heap.size w w' := by
  have hb : 0 ≤ Int.tmod (IntKind.u64.wrap a0) 7 ∧ Int.tmod (IntKind.u64.wrap a0) 7 < 7 := by
    have e : IntKind.u64.wrap a0 = a0 % 18446744073709551616 := rfl
    have hn := Int.emod_nonneg a0 (show (18446744073709551616 : Int) ≠ 0 by omega)
    rw [e, Int.tmod_eq_emod_of_nonneg hn]
    omega
  rcases (by omega : Int.tmod (IntKind.u64.wrap a0) 7 = 0 ∨ Int.tmod (IntKind.u64.wrap a0) 7 = 1 ∨ Int.tmod (IntKind.u64.wrap a0) 7 = 2 ∨ Int.tmod (IntKind.u64.wrap a0) 7 = 3 ∨ Int.tmod (IntKind.u64.wrap a0) 7 = 4 ∨ Int.tmod (IntKind.u64.wrap a0) 7 = 5 ∨ Int.tmod (IntKind.u64.wrap a0) 7 = 6) with h | h | h | h | h | h | h
  · exact refuses_0 a0 w hg h
  · exact refuses_1 a0 w hg h
  · exact refuses_2 a0 w hg h
  · exact refuses_3 a0 w hg h
  · exact refuses_4 a0 w hg h
  · exact refuses_5 a0 w hg h
  · exact refuses_6 a0 w hg h
end Go.Proofs.Ytcfpkkgdofblfaa.Lv
