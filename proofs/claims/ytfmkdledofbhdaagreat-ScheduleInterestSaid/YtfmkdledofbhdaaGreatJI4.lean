/- Texts of this claim, joined in build order. -/
import Derived.Test.YtfmkdledofbhdaaGreatProg
import Derived.Below
import Derived.Deep.Draws
import Derived.Deep.AppendLies
import Derived.Maps.AppendAt
import Derived.OwnWalk
import Derived.Laws.BytesArg
import Derived.Laws.MakeOwn
import Derived.Laws.OwnMore
import Derived.Tactics
import Derived.Lib.ConvBytes
import Derived.Laws.Slices
import Derived.WalkKit
import Derived.KernelRfl
import Derived.RowKit3
import Derived.Deep.LoopGhost
import Derived.Deep.QuietTactic
import Derived.BigQuiet
import Derived.WideLaws
import Derived.Deep.DeepCutAuto
import Derived.Deep.CutBlock
import Derived.Deep.RegionHeld3
import Derived.Lib.AppendStr
import Derived.ArgAppend
import Derived.Laws.IdiomCopy
import Derived.OrdersHeld
import Derived.Laws.BitsLemmas
import Derived.RowKit
import Derived.Laws.StructEq
import Derived.WalkLawsBesides
import Derived.WalkSpells
import Derived.Lib.IndexMore
import Derived.Deep.Slices
import Derived.Deep.Fields
import Derived.ChangeSame
import Derived.Lib.SmallJoins
import Derived.ProofKit
import Derived.Defers
import Derived.Laws.Tables
import Derived.Deep.WholeRow
import Derived.Recover
import Derived.StillTailTactics
import Derived.IntWalk
import Derived.Shelf.Small.Bits
import Derived.Shelf.Strconv.Itoa0
import Derived.Shelf.Strings.Search1
import Derived.Shelf.Strings.Search2
import Derived.Shelf.Strings.Search3
import Derived.Shelf.LaysM
import Derived.Shelf.Strings.Shaped
import Derived.Shelf.Bits.Mul64
import Derived.Lib.SlBytesConst
import Derived.Deep.RegionWith
import Derived.Lib.Hide
import Derived.BigFrame
import Derived.Lib.BitFns
import Derived.Laws.BitsAllLaws
import Derived.Laws.Externs
import Derived.RegionTactic
import Derived.Deep.MidRow
import Derived.OpenShut
import Derived.ShutString
import Derived.ChangeOld
import Derived.Laws.IdiomArrays
import Derived.SizedLaws
import Derived.HandedShaped
import Derived.Shelf.Vars
import Derived.Test.YtfmkdledofbhdaaGreatJI1
import Derived.Test.YtfmkdledofbhdaaGreatJI2
import Derived.Test.YtfmkdledofbhdaaGreatJI3
set_option linter.unusedVariables false
set_option linter.unusedSimpArgs false
namespace Go.Proofs.YtfmkdledofbhdaaGreat.PBU
open Go.RowKit Go.Proofs.YtfmkdledofbhdaaGreatW.PrintWords Go.Proofs.YtfmkdledofbhdaaGreatW.PrintLast Go.Proofs.YtfmkdledofbhdaaGreatW.PrintMore Go.Proofs.YtfmkdledofbhdaaGreat.HW Go.Proofs.YtfmkdledofbhdaaGreat.H
attribute [local go_sem] run_makeFunc_ max2_int min2_int max_two min_two max_three min_three max_four min_four   -- for this text's walks alone
set_option linter.unusedVariables false
set_option linter.unusedSimpArgs false
/-! ### quittanceref05_Open: function 74 -/
def quittanceref05_Open.f (l0 : List Int) (a1 : Int) : Option (Bool) := (quittanceref03_Is.f a1).bind fun t101 => (if t101 = true then ((quittanceref03_Weekday.f a1).bind fun t102 => (if t102 < 5 then ((help_In_int.f l0 a1).bind fun t103 => (some (!t103))) else (some false))) else (some false))
set_option maxHeartbeats 8000000 in
set_option maxRecDepth 100000 in
theorem quittanceref05_Open.calls (A0 : Option Addr) (c0 : Nat) (l0 : List Int) (a1 : Int) (r : Bool) (w : World) (hr0 : Kd.C (Kd.int .i64) w A0 l0.length l0) (hc0 : l0.length ≤ c0) (h : quittanceref05_Open.f l0 a1 = some r) :
  Calls Tryz.prog 74 #[.slice A0 l0.length c0, .int .i64 a1] w fun e w' => e = .returned (.bool r) ∧ Drawn0 w w' := by
 have HR0 := Aside0.mk hr0
 have HC0 := Aside0.mk hc0
 clear hr0 hc0
 have H : ((quittanceref03_Is.f a1).bind fun t101 => (if t101 = true then ((quittanceref03_Weekday.f a1).bind fun t102 => (if t102 < 5 then ((help_In_int.f l0 a1).bind fun t103 => (some (!t103))) else (some false))) else (some false))) = some r := h
 clear h
 replace H := Option.bind_eq_some_iff.mp H
 obtain ⟨t101, A30, H⟩ := H
 replace H : (if t101 = true then ((quittanceref03_Weekday.f a1).bind fun t102 => (if t102 < 5 then ((help_In_int.f l0 a1).bind fun t103 => (some (!t103))) else (some false))) else (some false)) = some r := H
 have A3 := Aside0.mk A30
 clear A30
 by_cases c4 : t101 = true
 ·subst c4
  have H1 : ((quittanceref03_Weekday.f a1).bind fun t102 => (if t102 < 5 then ((help_In_int.f l0 a1).bind fun t103 => (some (!t103))) else (some false))) = some r := by rw [if_pos rfl] at H; exact H
  clear H
  have H := H1
  clear H1
  replace H := Option.bind_eq_some_iff.mp H
  obtain ⟨t102, A50, H⟩ := H
  replace H : (if t102 < 5 then ((help_In_int.f l0 a1).bind fun t103 => (some (!t103))) else (some false)) = some r := H
  have A5 := Aside0.mk A50
  clear A50
  by_cases c6 : t102 < 5
  ·rw [if_pos c6] at H
   have c6b0 : decide (t102 < 5) = true := decide_eq_true c6
   clear c6
   replace H := Option.bind_eq_some_iff.mp H
   obtain ⟨t103, A70, H⟩ := H
   replace H : (some (!t103)) = some r := H
   have A7 := Aside0.mk A70
   clear A70
   obtain rfl := Option.some.inj H
   go_enter Tryz.func74, Tryz.ntmps74
   go_wp2_with (first | ((with_reducible refine gate_callee (f := 53) rfl ?_); refine goesL_ (some 6) rfl rfl Tryz.func53 (by kernel_rfl) rfl #[.int .i64 a1] rfl (by (try simp only [List.map_toArray, List.map_cons, List.map_nil]); first | done | rfl | (simp only [List.length_drop, List.length_take]; rfl)) ?_; (with_reducible refine (quittanceref03_Is.calls a1 true _ A3.out).mono ?_); rintro e w' ⟨rfl, ⟨nd, rfl⟩⟩; refine ⟨_, rfl, ?_⟩) | (go_at_call 94; (with_reducible refine (quittanceref03_Weekday.calls a1 t102 _ A5.out).mono ?_); rintro e w' ⟨rfl, ⟨nd, rfl⟩⟩) | (go_at_call 32; (with_reducible refine (help_In_int.calls _ _ l0 a1 t103 _ ?side1 ?side2 A7.out).mono ?_); (case side1 => repeat (first | exact HR0.out | (with_reducible refine Kd.C_alloc ?_ _) | (with_reducible refine Kd.C_drewN ?_ _) | (with_reducible refine Kd.C_drew ?_))); (case side2 => exact HC0.out); rintro e w' ⟨rfl, ⟨nd, rfl⟩⟩))
   go_ret
   exact ⟨by first | rfl | (simp; done) | (simp [*]; done), by repeat (first | exact Drawn0.refl _ | apply Drawn0.step)⟩
  ·rw [if_neg c6] at H
   have c6b0 : decide (t102 < 5) = false := decide_eq_false c6
   clear c6
   obtain rfl := Option.some.inj H
   go_enter Tryz.func74, Tryz.ntmps74
   go_wp2_with (first | ((with_reducible refine gate_callee (f := 53) rfl ?_); refine goesL_ (some 6) rfl rfl Tryz.func53 (by kernel_rfl) rfl #[.int .i64 a1] rfl (by (try simp only [List.map_toArray, List.map_cons, List.map_nil]); first | done | rfl | (simp only [List.length_drop, List.length_take]; rfl)) ?_; (with_reducible refine (quittanceref03_Is.calls a1 true _ A3.out).mono ?_); rintro e w' ⟨rfl, ⟨nd, rfl⟩⟩; refine ⟨_, rfl, ?_⟩) | (go_at_call 94; (with_reducible refine (quittanceref03_Weekday.calls a1 t102 _ A5.out).mono ?_); rintro e w' ⟨rfl, ⟨nd, rfl⟩⟩))
   go_ret
   exact ⟨by first | rfl | (simp; done) | (simp [*]; done), by repeat (first | exact Drawn0.refl _ | apply Drawn0.step)⟩
 ·replace c4 := Bool.eq_false_iff.mpr c4
  subst c4
  have H1 : (some false) = some r := by rw [if_neg (show ¬ (false = true) by decide)] at H; exact H
  clear H
  have H := H1
  clear H1
  obtain rfl := Option.some.inj H
  go_enter Tryz.func74, Tryz.ntmps74
  go_wp2_with (first | ((with_reducible refine gate_callee (f := 53) rfl ?_); refine goesL_ (some 6) rfl rfl Tryz.func53 (by kernel_rfl) rfl #[.int .i64 a1] rfl (by (try simp only [List.map_toArray, List.map_cons, List.map_nil]); first | done | rfl | (simp only [List.length_drop, List.length_take]; rfl)) ?_; (with_reducible refine (quittanceref03_Is.calls a1 false _ A3.out).mono ?_); rintro e w' ⟨rfl, ⟨nd, rfl⟩⟩; refine ⟨_, rfl, ?_⟩))
  go_ret
  exact ⟨by first | rfl | (simp; done) | (simp [*]; done), by repeat (first | exact Drawn0.refl _ | apply Drawn0.step)⟩
/-! ### quittanceref05_seek: function 75 -/
def quittanceref05_seek.l0 : Nat → List Int → Int → Int → Option (Int × Bool)
 | 0, _, _, _ => none
 | k + 1, x0, x2, x8 => (quittanceref03_Is.f x8).bind fun t104 => (if t104 = true then ((quittanceref05_Open.f x0 x8).bind fun t105 => (if t105 = true then (some (x8, true)) else (quittanceref05_seek.l0 k x0 x2 (wrap64 (x8 + x2))))) else (some (0, false)))
def quittanceref05_seek.f (k : Nat) (l0 : List Int) (a1 : Int) (a2 : Int) : Option (Int × Bool) := quittanceref05_seek.l0 k l0 a2 a1
theorem quittanceref05_seek.mono_l : ∀ k, (∀ y0 y1 y2, LeO (quittanceref05_seek.l0 k y0 y1 y2) (quittanceref05_seek.l0 (k + 1) y0 y1 y2))
 | 0 => fun _ _ _ r h => by simp [quittanceref05_seek.l0] at h
 | k + 1 => by
  have ih0 := quittanceref05_seek.mono_l k
  ·intro y0 y1 y2
   unfold quittanceref05_seek.l0
   repeat' first
   | (with_reducible exact ih0 _ _ _)
   | (with_reducible exact LeO.refl _)
   | (with_reducible exact LeO.none _)
   | (with_reducible refine LeO.ite ?_ ?_)
   | (with_reducible refine LeO.bind ?_ (fun _ => ?_))
   | exact ih0 _ _ _
   | exact LeO.none _
   | refine LeO.ite ?_ ?_
   | refine LeO.bind ?_ (fun _ => ?_)
theorem quittanceref05_seek.mono : ∀ a0 a1 a2 k, LeO (quittanceref05_seek.f k a0 a1 a2) (quittanceref05_seek.f (k + 1) a0 a1 a2) := by
 intro a0 a1 a2 k
 have ih0 := quittanceref05_seek.mono_l k
 unfold quittanceref05_seek.f
 repeat' first
   | (with_reducible exact ih0 _ _ _)
   | (with_reducible exact LeO.refl _)
   | (with_reducible exact LeO.none _)
   | (with_reducible refine LeO.ite ?_ ?_)
   | (with_reducible refine LeO.bind ?_ (fun _ => ?_))
   | exact ih0 _ _ _
   | exact LeO.none _
   | refine LeO.ite ?_ ?_
   | refine LeO.bind ?_ (fun _ => ?_)
set_option maxHeartbeats 8000000 in
set_option maxRecDepth 100000 in
theorem quittanceref05_seek.calls (k : Nat) (A0 : Option Addr) (c0 : Nat) (l0 : List Int) (a1 : Int) (a2 : Int) (r1 : Int) (r2 : Bool) (w : World) (hr0 : Kd.C (Kd.int .i64) w A0 l0.length l0) (hc0 : l0.length ≤ c0) (h : quittanceref05_seek.f k l0 a1 a2 = some (r1, r2)) :
  Calls Tryz.prog 75 #[.slice A0 l0.length c0, .int .i64 a1, .int .i64 a2] w fun e w' => e = .returned (.tuple #[.int .i64 r1, .bool r2]) ∧ Drawn0 w w' := by
 have HR0 := Aside0.mk hr0
 have HC0 := Aside0.mk hc0
 clear hr0 hc0
 have H : (quittanceref05_seek.l0 k l0 a2 a1) = some (r1, r2) := h
 clear h
 have H' := Aside0.mk H
 clear H
 go_enter Tryz.func75, Tryz.ntmps75
 go_wp2
 go_loopg [8] k (fun kq v8 w' => ∃ (x8_1 : Int), v8 = .int .i64 x8_1 ∧ Aside0 (quittanceref05_seek.l0 kq l0 a2 x8_1 = some (r1, r2)) ∧ Aside0 (kq ≤ k) ∧ Drawn0 w w')
 case atStart => exact ⟨(a1), (by first | rfl | (simp; done) | (simp [*]; done)), H', ⟨Nat.le_refl _⟩, by repeat (first | exact Drawn0.refl _ | apply Drawn0.step)⟩
 case round =>
  clear H'
  obtain ⟨x8_1, rfl, HA, HK1, ⟨m1, rfl⟩⟩ := hrel
  cases gk with
  | zero => exact absurd HA.out (by simp [quittanceref05_seek.l0])
  | succ k1 =>
   have H := HA.out
   clear HA
   simp only [quittanceref05_seek.l0] at H
   replace H := Option.bind_eq_some_iff.mp H
   obtain ⟨t104, A40, H⟩ := H
   replace H : (if t104 = true then ((quittanceref05_Open.f l0 x8_1).bind fun t105 => (if t105 = true then (some (x8_1, true)) else (quittanceref05_seek.l0 k1 l0 a2 (wrap64 (x8_1 + a2))))) else (some (0, false))) = some (r1, r2) := H
   have A4 := Aside0.mk A40
   clear A40
   by_cases c5 : t104 = true
   ·subst c5
    have H1 : ((quittanceref05_Open.f l0 x8_1).bind fun t105 => (if t105 = true then (some (x8_1, true)) else (quittanceref05_seek.l0 k1 l0 a2 (wrap64 (x8_1 + a2))))) = some (r1, r2) := by rw [if_pos rfl] at H; exact H
    clear H
    have H := H1
    clear H1
    replace H := Option.bind_eq_some_iff.mp H
    obtain ⟨t105, A60, H⟩ := H
    replace H : (if t105 = true then (some (x8_1, true)) else (quittanceref05_seek.l0 k1 l0 a2 (wrap64 (x8_1 + a2)))) = some (r1, r2) := H
    have A6 := Aside0.mk A60
    clear A60
    by_cases c7 : t105 = true
    ·subst c7
     have H1 : (some (x8_1, true)) = some (r1, r2) := by rw [if_pos rfl] at H; exact H
     clear H
     have H := H1
     clear H1
     simp only [Option.some.injEq, Prod.mk.injEq] at H
     obtain ⟨rfl, rfl⟩ := H
     go_wp2_with (first | ((with_reducible refine gate_callee (f := 53) rfl ?_); refine goesL_ (some 11) rfl rfl Tryz.func53 (by kernel_rfl) rfl #[.int .i64 x8_1] rfl (by (try simp only [List.map_toArray, List.map_cons, List.map_nil]); first | done | rfl | (simp only [List.length_drop, List.length_take]; rfl)) ?_; (with_reducible refine (quittanceref03_Is.calls x8_1 true _ A4.out).mono ?_); rintro e w' ⟨rfl, ⟨nd, rfl⟩⟩; refine ⟨_, rfl, ?_⟩) | ((with_reducible refine gate_callee (f := 74) rfl ?_); refine goesL_ (some 17) rfl rfl Tryz.func74 (by kernel_rfl) rfl #[.slice A0 l0.length c0, .int .i64 x8_1] rfl (by (try simp only [List.map_toArray, List.map_cons, List.map_nil]); first | done | rfl | (simp only [List.length_drop, List.length_take]; rfl)) ?_; (with_reducible refine (quittanceref05_Open.calls _ _ l0 x8_1 true _ ?side1 ?side2 A6.out).mono ?_); (case side1 => repeat (first | exact HR0.out | (with_reducible refine Kd.C_alloc ?_ _) | (with_reducible refine Kd.C_drewN ?_ _) | (with_reducible refine Kd.C_drew ?_))); (case side2 => exact HC0.out); rintro e w' ⟨rfl, ⟨nd, rfl⟩⟩; refine ⟨_, rfl, ?_⟩))
     go_ret2
     exact ⟨by first | rfl | (simp; done) | (simp [*]; done), by repeat (first | exact Drawn0.refl _ | apply Drawn0.step)⟩
    ·replace c7 := Bool.eq_false_iff.mpr c7
     subst c7
     have H1 : (quittanceref05_seek.l0 k1 l0 a2 (wrap64 (x8_1 + a2))) = some (r1, r2) := by rw [if_neg (show ¬ (false = true) by decide)] at H; exact H
     clear H
     have H := H1
     clear H1
     have H' := Aside0.mk H
     clear H
     go_wp2_with (first | ((with_reducible refine gate_callee (f := 53) rfl ?_); refine goesL_ (some 11) rfl rfl Tryz.func53 (by kernel_rfl) rfl #[.int .i64 x8_1] rfl (by (try simp only [List.map_toArray, List.map_cons, List.map_nil]); first | done | rfl | (simp only [List.length_drop, List.length_take]; rfl)) ?_; (with_reducible refine (quittanceref03_Is.calls x8_1 true _ A4.out).mono ?_); rintro e w' ⟨rfl, ⟨nd, rfl⟩⟩; refine ⟨_, rfl, ?_⟩) | ((with_reducible refine gate_callee (f := 74) rfl ?_); refine goesL_ (some 17) rfl rfl Tryz.func74 (by kernel_rfl) rfl #[.slice A0 l0.length c0, .int .i64 x8_1] rfl (by (try simp only [List.map_toArray, List.map_cons, List.map_nil]); first | done | rfl | (simp only [List.length_drop, List.length_take]; rfl)) ?_; (with_reducible refine (quittanceref05_Open.calls _ _ l0 x8_1 false _ ?side1 ?side2 A6.out).mono ?_); (case side1 => repeat (first | exact HR0.out | (with_reducible refine Kd.C_alloc ?_ _) | (with_reducible refine Kd.C_drewN ?_ _) | (with_reducible refine Kd.C_drew ?_))); (case side2 => exact HC0.out); rintro e w' ⟨rfl, ⟨nd, rfl⟩⟩; refine ⟨_, rfl, ?_⟩))
     go_roundg k1
     case measure => have := HK1.out; omega
     case rel => exact ⟨(wrap64 (x8_1 + a2)), (by first | rfl | (simp; done) | (simp [*]; done)), H', ⟨by have := HK1.out; omega⟩, by repeat (first | exact Drawn0.refl _ | apply Drawn0.step)⟩
   ·replace c5 := Bool.eq_false_iff.mpr c5
    subst c5
    have H1 : (some (0, false)) = some (r1, r2) := by rw [if_neg (show ¬ (false = true) by decide)] at H; exact H
    clear H
    have H := H1
    clear H1
    simp only [Option.some.injEq, Prod.mk.injEq] at H
    obtain ⟨rfl, rfl⟩ := H
    go_wp2_with (first | ((with_reducible refine gate_callee (f := 53) rfl ?_); refine goesL_ (some 11) rfl rfl Tryz.func53 (by kernel_rfl) rfl #[.int .i64 x8_1] rfl (by (try simp only [List.map_toArray, List.map_cons, List.map_nil]); first | done | rfl | (simp only [List.length_drop, List.length_take]; rfl)) ?_; (with_reducible refine (quittanceref03_Is.calls x8_1 false _ A4.out).mono ?_); rintro e w' ⟨rfl, ⟨nd, rfl⟩⟩; refine ⟨_, rfl, ?_⟩))
    go_ret2
    exact ⟨by first | rfl | (simp; done) | (simp [*]; done), by repeat (first | exact Drawn0.refl _ | apply Drawn0.step)⟩
/-! ### quittanceref05_Roll: function 50 -/
mutual
def quittanceref05_Roll.j0 : Nat → List Int → Int → Int → Bool → Option (Int × Int)
 | 0, _, _, _, _ => none
 | k + 1, x0, x1, x2, x24 => if x24 = true then (some (0, 1)) else (if x2 = 1 then (quittanceref05_Roll.j1 k x0 x1 x2 true) else ((quittanceref05_Open.f x0 x1).bind fun t107 => (quittanceref05_Roll.j1 k x0 x1 x2 t107)))
def quittanceref05_Roll.j1 : Nat → List Int → Int → Int → Bool → Option (Int × Int)
 | 0, _, _, _, _ => none
 | k + 1, x0, x1, x2, x31 => if x31 = true then (some (x1, 0)) else ((quittanceref05_seek.f k x0 x1 1).bind fun bt108 => ((quittanceref05_seek.f k x0 x1 (-1)).bind fun bt110 => (if x2 = 3 then ((quittanceref03_Date.f x1).bind fun bt112 => ((quittanceref03_Date.f bt108.1).bind fun bt117 => (if bt108.2 = true then (if bt112.2.1 = bt117.2.1 then (if bt112.1 = bt117.1 then (quittanceref05_Roll.j2 k x2 bt108.1 bt108.2 bt110.1 bt110.2) else (quittanceref05_Roll.j2 k 4 bt108.1 bt108.2 bt110.1 bt110.2)) else (quittanceref05_Roll.j2 k 4 bt108.1 bt108.2 bt110.1 bt110.2)) else (quittanceref05_Roll.j2 k 4 bt108.1 bt108.2 bt110.1 bt110.2)))) else (quittanceref05_Roll.j2 k x2 bt108.1 bt108.2 bt110.1 bt110.2))))
def quittanceref05_Roll.j2 : Nat → Int → Int → Bool → Int → Bool → Option (Int × Int)
 | 0, _, _, _, _, _ => none
 | k + 1, x2, x8, x9, x10, x11 => if x2 = 4 then (if x11 = true then (some (x10, 0)) else (some (0, 5))) else (if x9 = true then (some (x8, 0)) else (some (0, 5)))
end
def quittanceref05_Roll.f (k : Nat) (l0 : List Int) (a1 : Int) (a2 : Int) : Option (Int × Int) := (quittanceref03_Is.f a1).bind fun t106 => (if t106 = true then (if a2 < 1 then (quittanceref05_Roll.j0 k l0 a1 a2 true) else (quittanceref05_Roll.j0 k l0 a1 a2 (decide (a2 > 4)))) else (some (0, 5)))
theorem quittanceref05_Roll.mono_l : ∀ k, (∀ y0 y1 y2 y3, LeO (quittanceref05_Roll.j0 k y0 y1 y2 y3) (quittanceref05_Roll.j0 (k + 1) y0 y1 y2 y3)) ∧ (∀ y0 y1 y2 y3, LeO (quittanceref05_Roll.j1 k y0 y1 y2 y3) (quittanceref05_Roll.j1 (k + 1) y0 y1 y2 y3)) ∧ (∀ y0 y1 y2 y3 y4, LeO (quittanceref05_Roll.j2 k y0 y1 y2 y3 y4) (quittanceref05_Roll.j2 (k + 1) y0 y1 y2 y3 y4))
 | 0 => ⟨fun _ _ _ _ r h => by simp [quittanceref05_Roll.j0] at h, fun _ _ _ _ r h => by simp [quittanceref05_Roll.j1] at h, fun _ _ _ _ _ r h => by simp [quittanceref05_Roll.j2] at h⟩
 | k + 1 => by
  obtain ⟨ih0, ih1, ih2⟩ := quittanceref05_Roll.mono_l k
  refine ⟨?_, ?_, ?_⟩
  ·intro y0 y1 y2 y3
   unfold quittanceref05_Roll.j0
   repeat' first
   | (with_reducible exact ih0 _ _ _ _)
   | (with_reducible exact ih1 _ _ _ _)
   | (with_reducible exact ih2 _ _ _ _ _)
   | (with_reducible exact quittanceref05_seek.mono _ _ _ _)
   | (with_reducible exact LeO.refl _)
   | (with_reducible exact LeO.none _)
   | (with_reducible refine LeO.ite ?_ ?_)
   | (with_reducible refine LeO.bind ?_ (fun _ => ?_))
   | exact ih0 _ _ _ _
   | exact ih1 _ _ _ _
   | exact ih2 _ _ _ _ _
   | exact quittanceref05_seek.mono _ _ _ _
   | exact LeO.none _
   | refine LeO.ite ?_ ?_
   | refine LeO.bind ?_ (fun _ => ?_)
  ·intro y0 y1 y2 y3
   unfold quittanceref05_Roll.j1
   repeat' first
   | (with_reducible exact ih0 _ _ _ _)
   | (with_reducible exact ih1 _ _ _ _)
   | (with_reducible exact ih2 _ _ _ _ _)
   | (with_reducible exact quittanceref05_seek.mono _ _ _ _)
   | (with_reducible exact LeO.refl _)
   | (with_reducible exact LeO.none _)
   | (with_reducible refine LeO.ite ?_ ?_)
   | (with_reducible refine LeO.bind ?_ (fun _ => ?_))
   | exact ih0 _ _ _ _
   | exact ih1 _ _ _ _
   | exact ih2 _ _ _ _ _
   | exact quittanceref05_seek.mono _ _ _ _
   | exact LeO.none _
   | refine LeO.ite ?_ ?_
   | refine LeO.bind ?_ (fun _ => ?_)
  ·intro y0 y1 y2 y3 y4
   unfold quittanceref05_Roll.j2
   repeat' first
   | (with_reducible exact ih0 _ _ _ _)
   | (with_reducible exact ih1 _ _ _ _)
   | (with_reducible exact ih2 _ _ _ _ _)
   | (with_reducible exact quittanceref05_seek.mono _ _ _ _)
   | (with_reducible exact LeO.refl _)
   | (with_reducible exact LeO.none _)
   | (with_reducible refine LeO.ite ?_ ?_)
   | (with_reducible refine LeO.bind ?_ (fun _ => ?_))
   | exact ih0 _ _ _ _
   | exact ih1 _ _ _ _
   | exact ih2 _ _ _ _ _
   | exact quittanceref05_seek.mono _ _ _ _
   | exact LeO.none _
   | refine LeO.ite ?_ ?_
   | refine LeO.bind ?_ (fun _ => ?_)
theorem quittanceref05_Roll.mono : ∀ a0 a1 a2 k, LeO (quittanceref05_Roll.f k a0 a1 a2) (quittanceref05_Roll.f (k + 1) a0 a1 a2) := by
 intro a0 a1 a2 k
 obtain ⟨ih0, ih1, ih2⟩ := quittanceref05_Roll.mono_l k
 unfold quittanceref05_Roll.f
 repeat' first
   | (with_reducible exact ih0 _ _ _ _)
   | (with_reducible exact ih1 _ _ _ _)
   | (with_reducible exact ih2 _ _ _ _ _)
   | (with_reducible exact quittanceref05_seek.mono _ _ _ _)
   | (with_reducible exact LeO.refl _)
   | (with_reducible exact LeO.none _)
   | (with_reducible refine LeO.ite ?_ ?_)
   | (with_reducible refine LeO.bind ?_ (fun _ => ?_))
   | exact ih0 _ _ _ _
   | exact ih1 _ _ _ _
   | exact ih2 _ _ _ _ _
   | exact quittanceref05_seek.mono _ _ _ _
   | exact LeO.none _
   | refine LeO.ite ?_ ?_
   | refine LeO.bind ?_ (fun _ => ?_)
set_option maxHeartbeats 8000000 in
set_option maxRecDepth 100000 in
theorem quittanceref05_Roll.calls (k : Nat) (A0 : Option Addr) (c0 : Nat) (l0 : List Int) (a1 : Int) (a2 : Int) (r1 : Int) (r2 : Int) (w : World) (hr0 : Kd.C (Kd.int .i64) w A0 l0.length l0) (hc0 : l0.length ≤ c0) (h : quittanceref05_Roll.f k l0 a1 a2 = some (r1, r2)) :
  Calls Tryz.prog 50 #[.slice A0 l0.length c0, .int .i64 a1, .int .i64 a2] w fun e w' => e = .returned (.tuple #[.int .i64 r1, .int .i64 r2]) ∧ Below w.heap.size w w' := by
 have hu127 := Tryz.underlying127
 have HR0 := Aside0.mk hr0
 have HC0 := Aside0.mk hc0
 clear hr0 hc0
 have HB := Aside0.mk (Below.refl w.heap.size w)
 have H : ((quittanceref03_Is.f a1).bind fun t106 => (if t106 = true then (if a2 < 1 then (quittanceref05_Roll.j0 k l0 a1 a2 true) else (quittanceref05_Roll.j0 k l0 a1 a2 (decide (a2 > 4)))) else (some (0, 5)))) = some (r1, r2) := h
 clear h
 replace H := Option.bind_eq_some_iff.mp H
 obtain ⟨t106, A40, H⟩ := H
 replace H : (if t106 = true then (if a2 < 1 then (quittanceref05_Roll.j0 k l0 a1 a2 true) else (quittanceref05_Roll.j0 k l0 a1 a2 (decide (a2 > 4)))) else (some (0, 5))) = some (r1, r2) := H
 have A4 := Aside0.mk A40
 clear A40
 by_cases c5 : t106 = true
 ·subst c5
  have H1 : (if a2 < 1 then (quittanceref05_Roll.j0 k l0 a1 a2 true) else (quittanceref05_Roll.j0 k l0 a1 a2 (decide (a2 > 4)))) = some (r1, r2) := by rw [if_pos rfl] at H; exact H
  clear H
  have H := H1
  clear H1
  have HC6 := Aside0.mk H
  clear H
  go_enter Tryz.func50, Tryz.ntmps50
  go_upto_region 3 with (first | ((with_reducible refine gate_callee (f := 53) rfl ?_); refine goesL_ (some 17) rfl rfl Tryz.func53 (by kernel_rfl) rfl #[.int .i64 a1] rfl (by (try simp only [List.map_toArray, List.map_cons, List.map_nil]); first | done | rfl | (simp only [List.length_drop, List.length_take]; rfl)) ?_; (with_reducible refine (quittanceref03_Is.calls a1 true _ A4.out).mono ?_); rintro e w' ⟨rfl, ⟨nd, rfl⟩⟩; refine ⟨_, rfl, ?_⟩))
  (try simp only [Act.put, List.setIfInBounds_toArray, List.set_cons_zero, List.set_cons_succ])
  go_cut [24] (fun v24 wc => ∃ (kq : Nat) (x24_5 : Bool), v24 = .bool x24_5 ∧ Aside0 (quittanceref05_Roll.j0 kq l0 a1 a2 x24_5 = some (r1, r2)) ∧ Aside0 (kq ≤ k) ∧ Aside0 (Below w.heap.size w wc))
  case first =>
   have H := HC6.out
   clear HC6
   by_cases c7 : a2 < 1
   ·rw [if_pos c7] at H
    have c7b0 : decide (a2 < 1) = true := decide_eq_true c7
    clear c7
    (first | rw [c7b0] | (simp only [i64_w, i32_w]; rw [c7b0]) | skip)
    have H' := Aside0.mk H
    clear H
    go_wp2
    go_meet
    case rel => exact ⟨_, (true), (by first | rfl | (simp; done) | (simp [*]; done)), H', ⟨by first | omega | exact Nat.le_refl _⟩, ⟨by repeat (first | (with_reducible first | exact HB.out | apply below_alloc | apply pw_below_drewN | apply below_drew1) | exact HB.out)⟩⟩
   ·rw [if_neg c7] at H
    have c7b0 : decide (a2 < 1) = false := decide_eq_false c7
    clear c7
    (first | rw [c7b0] | (simp only [i64_w, i32_w]; rw [c7b0]) | skip)
    have H' := Aside0.mk H
    clear H
    go_wp2
    go_meet
    case rel => exact ⟨_, (decide (a2 > 4)), (by first | rfl | (simp; done) | (simp [*]; done)), H', ⟨by first | omega | exact Nat.le_refl _⟩, ⟨by repeat (first | (with_reducible first | exact HB.out | apply below_alloc | apply pw_below_drewN | apply below_drew1) | exact HB.out)⟩⟩
  case rest =>
   clear HC6
   obtain ⟨kq, x24_5, rfl, HA, HJ5, HB⟩ := hcut
   cases kq with
   | zero => exact absurd HA.out (by simp [quittanceref05_Roll.j0])
   | succ kj5 =>
    have H := HA.out
    clear HA
    simp only [quittanceref05_Roll.j0] at H
    by_cases c8 : x24_5 = true
    ·subst c8
     have H1 : (some (0, 1)) = some (r1, r2) := by rw [if_pos rfl] at H; exact H
     clear H
     have H := H1
     clear H1
     simp only [Option.some.injEq, Prod.mk.injEq] at H
     obtain ⟨rfl, rfl⟩ := H
     go_wp2
     go_ret2
     exact ⟨by first | rfl | (simp [errW_none, errW_some] <;> rfl) | (simp [*, errW_none, errW_some] <;> rfl), by repeat (first | (with_reducible first | exact HB.out | apply below_alloc | apply pw_below_drewN | apply below_drew1) | exact HB.out)⟩
    ·replace c8 := Bool.eq_false_iff.mpr c8
     subst c8
     have H1 : (if a2 = 1 then (quittanceref05_Roll.j1 kj5 l0 a1 a2 true) else ((quittanceref05_Open.f l0 a1).bind fun t107 => (quittanceref05_Roll.j1 kj5 l0 a1 a2 t107))) = some (r1, r2) := by rw [if_neg (show ¬ (false = true) by decide)] at H; exact H
     clear H
     have H := H1
     clear H1
     have HC9 := Aside0.mk H
     clear H
     go_upto_region 5 with (fail)
     go_cut [31] (fun v31 wc => ∃ (kq : Nat) (x31_8 : Bool), v31 = .bool x31_8 ∧ Aside0 (quittanceref05_Roll.j1 kq l0 a1 a2 x31_8 = some (r1, r2)) ∧ Aside0 (kq ≤ kj5) ∧ Aside0 (Below w.heap.size w wc))
     case first =>
      have H := HC9.out
      clear HC9
      by_cases c10 : a2 = 1
      ·rw [if_pos c10] at H
       have c10b0 : (a2 == 1) = true := beq_iff_eq.mpr c10
       have c10b1 : (a2 != 1) = false := bne_eq_false_iff_eq.mpr c10
       clear c10
       (first | rw [c10b0] | (simp only [i64_w, i32_w]; rw [c10b0]) | skip)
       have H' := Aside0.mk H
       clear H
       go_wp2
       go_meet
       case rel => exact ⟨_, (true), (by first | rfl | (simp; done) | (simp [*]; done)), H', ⟨by have := HJ5.out; first | omega | exact Nat.le_refl _⟩, ⟨by repeat (first | (with_reducible first | exact HB.out | apply below_alloc | apply pw_below_drewN | apply below_drew1) | exact HB.out)⟩⟩
      ·rw [if_neg c10] at H
       have c10b0 : (a2 == 1) = false := beq_eq_false_iff_ne.mpr c10
       have c10b1 : (a2 != 1) = true := bne_iff_ne.mpr c10
       (first | rw [c10b0] | (simp only [i64_w, i32_w]; rw [c10b0]) | skip)
       replace H := Option.bind_eq_some_iff.mp H
       obtain ⟨t107, A110, H⟩ := H
       replace H : (quittanceref05_Roll.j1 kj5 l0 a1 a2 t107) = some (r1, r2) := H
       have A11 := Aside0.mk A110
       clear A110
       have H' := Aside0.mk H
       clear H
       go_wp2_with (first | (go_at_call 74; (with_reducible refine (quittanceref05_Open.calls _ _ l0 a1 t107 _ ?side1 ?side2 A11.out).mono ?_); (case side1 => repeat (first | exact (Kd.C_below HR0.out HB.out) | (with_reducible refine Kd.C_alloc ?_ _) | (with_reducible refine Kd.C_drewN ?_ _) | (with_reducible refine Kd.C_drew ?_))); (case side2 => exact HC0.out); rintro e w' ⟨rfl, ⟨nd, rfl⟩⟩))
       go_meet
       case rel => exact ⟨_, (t107), (by first | rfl | (simp; done) | (simp [*]; done)), H', ⟨by have := HJ5.out; first | omega | exact Nat.le_refl _⟩, ⟨by repeat (first | (with_reducible first | exact HB.out | apply below_alloc | apply pw_below_drewN | apply below_drew1) | exact HB.out)⟩⟩
     case rest =>
      clear HC9
      obtain ⟨kq, x31_8, rfl, HA, HJ8, HB⟩ := hcut
      cases kq with
      | zero => exact absurd HA.out (by simp [quittanceref05_Roll.j1])
      | succ kj8 =>
       have H := HA.out
       clear HA
       simp only [quittanceref05_Roll.j1] at H
       by_cases c12 : x31_8 = true
       ·subst c12
        have H1 : (some (a1, 0)) = some (r1, r2) := by rw [if_pos rfl] at H; exact H
        clear H
        have H := H1
        clear H1
        simp only [Option.some.injEq, Prod.mk.injEq] at H
        obtain ⟨rfl, rfl⟩ := H
        go_wp2
        go_ret2
        exact ⟨by first | rfl | (simp [errW_none, errW_some] <;> rfl) | (simp [*, errW_none, errW_some] <;> rfl), by repeat (first | (with_reducible first | exact HB.out | apply below_alloc | apply pw_below_drewN | apply below_drew1) | exact HB.out)⟩
       ·replace c12 := Bool.eq_false_iff.mpr c12
        subst c12
        have H1 : ((quittanceref05_seek.f kj8 l0 a1 1).bind fun bt108 => ((quittanceref05_seek.f kj8 l0 a1 (-1)).bind fun bt110 => (if a2 = 3 then ((quittanceref03_Date.f a1).bind fun bt112 => ((quittanceref03_Date.f bt108.1).bind fun bt117 => (if bt108.2 = true then (if bt112.2.1 = bt117.2.1 then (if bt112.1 = bt117.1 then (quittanceref05_Roll.j2 kj8 a2 bt108.1 bt108.2 bt110.1 bt110.2) else (quittanceref05_Roll.j2 kj8 4 bt108.1 bt108.2 bt110.1 bt110.2)) else (quittanceref05_Roll.j2 kj8 4 bt108.1 bt108.2 bt110.1 bt110.2)) else (quittanceref05_Roll.j2 kj8 4 bt108.1 bt108.2 bt110.1 bt110.2)))) else (quittanceref05_Roll.j2 kj8 a2 bt108.1 bt108.2 bt110.1 bt110.2)))) = some (r1, r2) := by rw [if_neg (show ¬ (false = true) by decide)] at H; exact H
        clear H
        have H := H1
        clear H1
        replace H := Option.bind_eq_some_iff.mp H
        obtain ⟨⟨t108, t109⟩, A130, H⟩ := H
        replace H : ((quittanceref05_seek.f kj8 l0 a1 (-1)).bind fun bt110 => (if a2 = 3 then ((quittanceref03_Date.f a1).bind fun bt112 => ((quittanceref03_Date.f t108).bind fun bt117 => (if t109 = true then (if bt112.2.1 = bt117.2.1 then (if bt112.1 = bt117.1 then (quittanceref05_Roll.j2 kj8 a2 t108 t109 bt110.1 bt110.2) else (quittanceref05_Roll.j2 kj8 4 t108 t109 bt110.1 bt110.2)) else (quittanceref05_Roll.j2 kj8 4 t108 t109 bt110.1 bt110.2)) else (quittanceref05_Roll.j2 kj8 4 t108 t109 bt110.1 bt110.2)))) else (quittanceref05_Roll.j2 kj8 a2 t108 t109 bt110.1 bt110.2))) = some (r1, r2) := H
        have A13 := Aside0.mk A130
        clear A130
        replace H := Option.bind_eq_some_iff.mp H
        obtain ⟨⟨t110, t111⟩, A140, H⟩ := H
        replace H : (if a2 = 3 then ((Go.Proofs.YtfmkdledofbhdaaGreat.H.quittanceref03_Date.f a1).bind fun bt112 => ((Go.Proofs.YtfmkdledofbhdaaGreat.H.quittanceref03_Date.f t108).bind fun bt117 => (if t109 = true then (if bt112.2.1 = bt117.2.1 then (if bt112.1 = bt117.1 then (quittanceref05_Roll.j2 kj8 a2 t108 t109 t110 t111) else (quittanceref05_Roll.j2 kj8 4 t108 t109 t110 t111)) else (quittanceref05_Roll.j2 kj8 4 t108 t109 t110 t111)) else (quittanceref05_Roll.j2 kj8 4 t108 t109 t110 t111)))) else (quittanceref05_Roll.j2 kj8 a2 t108 t109 t110 t111)) = some (r1, r2) := H
        have A14 := Aside0.mk A140
        clear A140
        have HC15 := Aside0.mk H
        clear H
        go_upto_if 46 with (first | ((with_reducible refine gate_callee (f := 75) rfl ?_); refine goesL_ (some 36) rfl rfl Tryz.func75 (by kernel_rfl) rfl #[.slice A0 l0.length c0, .int .i64 a1, .int .i64 1] rfl (by (try simp only [List.map_toArray, List.map_cons, List.map_nil]); first | done | rfl | (simp only [List.length_drop, List.length_take]; rfl)) ?_; (with_reducible refine (quittanceref05_seek.calls kj8 _ _ l0 a1 1 t108 t109 _ ?side1 ?side2 A13.out).mono ?_); (case side1 => repeat (first | exact (Kd.C_below HR0.out HB.out) | (with_reducible refine Kd.C_alloc ?_ _) | (with_reducible refine Kd.C_drewN ?_ _) | (with_reducible refine Kd.C_drew ?_))); (case side2 => exact HC0.out); rintro e w' ⟨rfl, ⟨nd, rfl⟩⟩; refine ⟨_, rfl, ?_⟩) | ((with_reducible refine gate_callee (f := 75) rfl ?_); refine goesL_ (some 42) rfl rfl Tryz.func75 (by kernel_rfl) rfl #[.slice A0 l0.length c0, .int .i64 a1, .int .i64 (-1)] rfl (by (try simp only [List.map_toArray, List.map_cons, List.map_nil]); first | done | rfl | (simp only [List.length_drop, List.length_take]; rfl)) ?_; (with_reducible refine (quittanceref05_seek.calls kj8 _ _ l0 a1 (-1) t110 t111 _ ?side1 ?side2 A14.out).mono ?_); (case side1 => repeat (first | exact (Kd.C_below HR0.out (by repeat (first | (with_reducible first | exact HB.out | apply below_alloc | apply pw_below_drewN | apply below_drew1) | exact HB.out))) | (with_reducible refine Kd.C_alloc ?_ _) | (with_reducible refine Kd.C_drewN ?_ _) | (with_reducible refine Kd.C_drew ?_))); (case side2 => exact HC0.out); rintro e w' ⟨rfl, ⟨nd, rfl⟩⟩; refine ⟨_, rfl, ?_⟩))
        (try simp only [Act.put, List.setIfInBounds_toArray, List.set_cons_zero, List.set_cons_succ])
        go_cut [2] (fun v2 wc => ∃ (kq : Nat) (x2_14 : Int), v2 = .int .i64 x2_14 ∧ Aside0 (quittanceref05_Roll.j2 kq x2_14 t108 t109 t110 t111 = some (r1, r2)) ∧ Aside0 (kq ≤ kj8) ∧ Aside0 (Below w.heap.size w wc))
        case first =>
         have H := HC15.out
         clear HC15
         by_cases c16 : a2 = 3
         ·rw [if_pos c16] at H
          have c16b0 : (a2 == 3) = true := beq_iff_eq.mpr c16
          have c16b1 : (a2 != 3) = false := bne_eq_false_iff_eq.mpr c16
          clear c16
          (first | rw [c16b0] | (simp only [i64_w, i32_w]; rw [c16b0]) | skip)
          replace H := Option.bind_eq_some_iff.mp H
          obtain ⟨⟨t112, t113, t114, t115⟩, A170, H⟩ := H
          replace H : ((quittanceref03_Date.f t108).bind fun bt117 => (if t109 = true then (if t113 = bt117.2.1 then (if t112 = bt117.1 then (quittanceref05_Roll.j2 kj8 a2 t108 t109 t110 t111) else (quittanceref05_Roll.j2 kj8 4 t108 t109 t110 t111)) else (quittanceref05_Roll.j2 kj8 4 t108 t109 t110 t111)) else (quittanceref05_Roll.j2 kj8 4 t108 t109 t110 t111))) = some (r1, r2) := H
          have A17 := Aside0.mk A170
          clear A170
          replace H := Option.bind_eq_some_iff.mp H
          obtain ⟨⟨t117, t118, t119, t120⟩, A180, H⟩ := H
          replace H : (if t109 = true then (if t113 = t118 then (if t112 = t117 then (quittanceref05_Roll.j2 kj8 a2 t108 t109 t110 t111) else (quittanceref05_Roll.j2 kj8 4 t108 t109 t110 t111)) else (quittanceref05_Roll.j2 kj8 4 t108 t109 t110 t111)) else (quittanceref05_Roll.j2 kj8 4 t108 t109 t110 t111)) = some (r1, r2) := H
          have A18 := Aside0.mk A180
          clear A180
          by_cases c19 : t109 = true
          ·subst c19
           have H1 : (if t113 = t118 then (if t112 = t117 then (quittanceref05_Roll.j2 kj8 a2 t108 true t110 t111) else (quittanceref05_Roll.j2 kj8 4 t108 true t110 t111)) else (quittanceref05_Roll.j2 kj8 4 t108 true t110 t111)) = some (r1, r2) := by rw [if_pos rfl] at H; exact H
           clear H
           have H := H1
           clear H1
           by_cases c20 : t113 = t118
           ·rw [if_pos c20] at H
            have c20b0 : (t113 == t118) = true := beq_iff_eq.mpr c20
            have c20b1 : (t113 != t118) = false := bne_eq_false_iff_eq.mpr c20
            clear c20
            by_cases c21 : t112 = t117
            ·rw [if_pos c21] at H
             have c21b0 : (t112 == t117) = true := beq_iff_eq.mpr c21
             have c21b1 : (t112 != t117) = false := bne_eq_false_iff_eq.mpr c21
             clear c21
             have H' := Aside0.mk H
             clear H
             go_wp2_with (first | ((with_reducible refine gate_callee (f := 76) rfl ?_); refine goesL_ (some 49) rfl rfl Tryz.func76 (by kernel_rfl) rfl #[.int .i64 a1] rfl (by (try simp only [List.map_toArray, List.map_cons, List.map_nil]); first | done | rfl | (simp only [List.length_drop, List.length_take]; rfl)) ?_; (with_reducible refine (quittanceref03_Date.calls a1 t112 t113 t114 t115 _ A17.out).mono ?_); rintro e w22 ⟨rfl, hb⟩; refine ⟨_, rfl, ?_⟩; have n0_ := Aside0.mk (below_step (by repeat (first | (with_reducible first | exact HB.out | apply below_alloc | apply pw_below_drewN | apply below_drew1) | exact HB.out)) hb); clear HB; have HB := n0_; clear n0_; (try clear hb)) | ((with_reducible refine gate_dst (N := 12) rfl ?_); refine box_event ?hg (N := 12) ?hd (cs := #[.int .i64 0, .int .i64 0, .int .i64 0]) (t := 127) ?hr ?_; (case hd => rfl); (case hg => rfl); (case hr => first | (go_simp; done) | (go_simp; rfl)); intro gb116 hg w23 hbox hb; have n0_ := Aside0.mk (below_step (by repeat (first | (with_reducible first | exact HB.out | apply below_alloc | apply pw_below_drewN | apply below_drew1) | exact HB.out)) hb); have n1_ := Aside0.mk (hbox); have n2_ := Aside0.mk ((by rw [hg]; exact (below_size (by repeat (first | (with_reducible first | exact HB.out | apply below_alloc | apply pw_below_drewN | apply below_drew1) | exact HB.out))) : w.heap.size ≤ gb116)); have n3_ := Aside0.mk ((by rw [hg]; exact (below_size (by repeat (first | (with_reducible first | exact HB.out | apply below_alloc | apply pw_below_drewN | apply below_drew1) | exact HB.out))) : w.heap.size ≤ gb116)); clear HB; have HB := n0_; have BK116 := n1_; have GW116 := n2_; have GE116 := n3_; clear n0_ n1_ n2_ n3_; clear hb hbox hg; (try have hu116_0 : w23.cell? ⟨gb116, 0, none⟩ = some (.int .i64 0) := (blk_cell BK116.out 0).trans rfl); (try have hu116_1 : w23.cell? ⟨gb116, 1, none⟩ = some (.int .i64 0) := (blk_cell BK116.out 1).trans rfl); (try have hu116_2 : w23.cell? ⟨gb116, 2, none⟩ = some (.int .i64 0) := (blk_cell BK116.out 2).trans rfl); (try have hv116_0 := blk_frozen BK116.out 0); (try have hv116_1 := blk_frozen BK116.out 1); (try have hv116_2 := blk_frozen BK116.out 2); have hcz24_0 : w23.cell? ⟨gb116, 0, none⟩ = some (.int .i64 0) := (blk_cell BK116.out 0).trans rfl; have hcz24_1 : w23.cell? ⟨gb116, 1, none⟩ = some (.int .i64 0) := (blk_cell BK116.out 1).trans rfl; have hcz24_2 : w23.cell? ⟨gb116, 2, none⟩ = some (.int .i64 0) := (blk_cell BK116.out 2).trans rfl; have hfz24_0 := blk_frozen BK116.out 0; have hfz24_1 := blk_frozen BK116.out 1; have hfz24_2 := blk_frozen BK116.out 2) | ((with_reducible refine gate_callee (f := 76) rfl ?_); refine goesL_ (some 54) rfl rfl Tryz.func76 (by kernel_rfl) rfl #[.int .i64 t108] rfl (by (try simp only [List.map_toArray, List.map_cons, List.map_nil]); first | done | rfl | (simp only [List.length_drop, List.length_take]; rfl)) ?_; (with_reducible refine (quittanceref03_Date.calls t108 t117 t118 t119 t120 _ A18.out).mono ?_); rintro e w25 ⟨rfl, hb⟩; refine ⟨_, rfl, ?_⟩; have n0_ := Aside0.mk (blk_below (g := gb116) (o := .cells #[.int .i64 t112, .int .i64 t113, .int .i64 t114] 127 (0, 0)) (by (with_reducible repeat (first | refine blk_drewN ?_ _ | refine blk_drew ?_ | refine blk_alloc ?_ _)); refine blk_put (cs := #[.int .i64 t112, .int .i64 t113, .int .i64 0]) ?_ 2 _ rfl; (with_reducible repeat (first | refine blk_drewN ?_ _ | refine blk_drew ?_ | refine blk_alloc ?_ _)); refine blk_put (cs := #[.int .i64 t112, .int .i64 0, .int .i64 0]) ?_ 1 _ rfl; (with_reducible repeat (first | refine blk_drewN ?_ _ | refine blk_drew ?_ | refine blk_alloc ?_ _)); refine blk_put (cs := #[.int .i64 0, .int .i64 0, .int .i64 0]) ?_ 0 _ rfl; (with_reducible repeat (first | refine blk_drewN ?_ _ | refine blk_drew ?_ | refine blk_alloc ?_ _)); exact BK116.out) hb); have n1_ := Aside0.mk (below_step (by repeat (first | (with_reducible first | exact HB.out | apply below_alloc | apply pw_below_drewN | apply below_drew1 | refine below_set ?_ GE116.out) | exact HB.out)) hb); clear BK116; clear HB; have BK116 := n0_; have HB := n1_; clear n0_ n1_; (try clear hb); (try have hu116_0 : w25.cell? ⟨gb116, 0, none⟩ = some (.int .i64 t112) := (blk_cell BK116.out 0).trans rfl); (try have hu116_1 : w25.cell? ⟨gb116, 1, none⟩ = some (.int .i64 t113) := (blk_cell BK116.out 1).trans rfl); (try have hu116_2 : w25.cell? ⟨gb116, 2, none⟩ = some (.int .i64 t114) := (blk_cell BK116.out 2).trans rfl); (try have hv116_0 := blk_frozen BK116.out 0); (try have hv116_1 := blk_frozen BK116.out 1); (try have hv116_2 := blk_frozen BK116.out 2)) | ((with_reducible refine gate_dst (N := 14) rfl ?_); refine box_event ?hg (N := 14) ?hd (cs := #[.int .i64 0, .int .i64 0, .int .i64 0]) (t := 127) ?hr ?_; (case hd => rfl); (case hg => rfl); (case hr => first | (go_simp; done) | (go_simp; rfl)); intro gb121 hg w26 hbox hb; have n0_ := Aside0.mk (blk_below (g := gb116) (o := .cells #[.int .i64 t112, .int .i64 t113, .int .i64 t114] 127 (0, 0)) (by (with_reducible repeat (first | refine blk_drewN ?_ _ | refine blk_drew ?_ | refine blk_alloc ?_ _)); exact BK116.out) hb); have n1_ := Aside0.mk (below_step (by repeat (first | (with_reducible first | exact HB.out | apply below_alloc | apply pw_below_drewN | apply below_drew1 | refine below_set ?_ GE116.out) | exact HB.out)) hb); have n2_ := Aside0.mk (hbox); have n3_ := Aside0.mk ((by rw [hg]; exact (below_size (by repeat (first | (with_reducible first | exact HB.out | apply below_alloc | apply pw_below_drewN | apply below_drew1 | refine below_set ?_ GE116.out) | exact HB.out))) : w.heap.size ≤ gb121)); have n4_ := Aside0.mk ((by rw [hg]; exact (below_size (by repeat (first | (with_reducible first | exact HB.out | apply below_alloc | apply pw_below_drewN | apply below_drew1 | refine below_set ?_ GE116.out) | exact HB.out))) : w.heap.size ≤ gb121)); have n5_ := Aside0.mk ((by rw [hg]; exact Nat.ne_of_lt (blk_lt (g := gb116) (o := .cells #[.int .i64 t112, .int .i64 t113, .int .i64 t114] 127 (0, 0)) (by (with_reducible repeat (first | refine blk_drewN ?_ _ | refine blk_drew ?_ | refine blk_alloc ?_ _)); exact BK116.out)) : gb116 ≠ gb121)); have n6_ := Aside0.mk ((by rw [hg]; exact Nat.ne_of_gt (blk_lt (g := gb116) (o := .cells #[.int .i64 t112, .int .i64 t113, .int .i64 t114] 127 (0, 0)) (by (with_reducible repeat (first | refine blk_drewN ?_ _ | refine blk_drew ?_ | refine blk_alloc ?_ _)); exact BK116.out)) : gb121 ≠ gb116)); clear BK116; clear HB; have BK116 := n0_; have HB := n1_; have BK121 := n2_; have GW121 := n3_; have GE121 := n4_; have NB116_121 := n5_; have NB121_116 := n6_; clear n0_ n1_ n2_ n3_ n4_ n5_ n6_; clear hb hbox hg; (try have hu116_0 : w26.cell? ⟨gb116, 0, none⟩ = some (.int .i64 t112) := (blk_cell BK116.out 0).trans rfl); (try have hu116_1 : w26.cell? ⟨gb116, 1, none⟩ = some (.int .i64 t113) := (blk_cell BK116.out 1).trans rfl); (try have hu116_2 : w26.cell? ⟨gb116, 2, none⟩ = some (.int .i64 t114) := (blk_cell BK116.out 2).trans rfl); (try have hv116_0 := blk_frozen BK116.out 0); (try have hv116_1 := blk_frozen BK116.out 1); (try have hv116_2 := blk_frozen BK116.out 2); (try have hu121_0 : w26.cell? ⟨gb121, 0, none⟩ = some (.int .i64 0) := (blk_cell BK121.out 0).trans rfl); (try have hu121_1 : w26.cell? ⟨gb121, 1, none⟩ = some (.int .i64 0) := (blk_cell BK121.out 1).trans rfl); (try have hu121_2 : w26.cell? ⟨gb121, 2, none⟩ = some (.int .i64 0) := (blk_cell BK121.out 2).trans rfl); (try have hv121_0 := blk_frozen BK121.out 0); (try have hv121_1 := blk_frozen BK121.out 1); (try have hv121_2 := blk_frozen BK121.out 2); have hnb27 := NB121_116.out; have hnc27 := NB116_121.out; have hcz28_0 : w26.cell? ⟨gb121, 0, none⟩ = some (.int .i64 0) := (blk_cell BK121.out 0).trans rfl; have hcz28_1 : w26.cell? ⟨gb121, 1, none⟩ = some (.int .i64 0) := (blk_cell BK121.out 1).trans rfl; have hcz28_2 : w26.cell? ⟨gb121, 2, none⟩ = some (.int .i64 0) := (blk_cell BK121.out 2).trans rfl; have hfz28_0 := blk_frozen BK121.out 0; have hfz28_1 := blk_frozen BK121.out 1; have hfz28_2 := blk_frozen BK121.out 2; have hcz29_0 : w26.cell? ⟨gb116, 0, none⟩ = some (.int .i64 t112) := (blk_cell BK116.out 0).trans rfl; have hcz29_1 : w26.cell? ⟨gb116, 1, none⟩ = some (.int .i64 t113) := (blk_cell BK116.out 1).trans rfl; have hcz29_2 : w26.cell? ⟨gb116, 2, none⟩ = some (.int .i64 t114) := (blk_cell BK116.out 2).trans rfl; have hfz29_0 := blk_frozen BK116.out 0; have hfz29_1 := blk_frozen BK116.out 1; have hfz29_2 := blk_frozen BK116.out 2))
             go_meet
             case rel => exact ⟨_, (a2), (by first | rfl | (simp; done) | (simp [*]; done)), H', ⟨by have := HJ5.out; have := HJ8.out; first | omega | exact Nat.le_refl _⟩, ⟨by repeat (first | (with_reducible first | exact HB.out | apply below_alloc | apply pw_below_drewN | apply below_drew1 | refine below_set ?_ GE116.out | refine below_set ?_ GE121.out) | exact HB.out)⟩⟩
            ·rw [if_neg c21] at H
             have c21b0 : (t112 == t117) = false := beq_eq_false_iff_ne.mpr c21
             have c21b1 : (t112 != t117) = true := bne_iff_ne.mpr c21
             have H' := Aside0.mk H
             clear H
             go_wp2_with (first | ((with_reducible refine gate_callee (f := 76) rfl ?_); refine goesL_ (some 49) rfl rfl Tryz.func76 (by kernel_rfl) rfl #[.int .i64 a1] rfl (by (try simp only [List.map_toArray, List.map_cons, List.map_nil]); first | done | rfl | (simp only [List.length_drop, List.length_take]; rfl)) ?_; (with_reducible refine (quittanceref03_Date.calls a1 t112 t113 t114 t115 _ A17.out).mono ?_); rintro e w30 ⟨rfl, hb⟩; refine ⟨_, rfl, ?_⟩; have n0_ := Aside0.mk (below_step (by repeat (first | (with_reducible first | exact HB.out | apply below_alloc | apply pw_below_drewN | apply below_drew1) | exact HB.out)) hb); clear HB; have HB := n0_; clear n0_; (try clear hb)) | ((with_reducible refine gate_dst (N := 12) rfl ?_); refine box_event ?hg (N := 12) ?hd (cs := #[.int .i64 0, .int .i64 0, .int .i64 0]) (t := 127) ?hr ?_; (case hd => rfl); (case hg => rfl); (case hr => first | (go_simp; done) | (go_simp; rfl)); intro gb116 hg w31 hbox hb; have n0_ := Aside0.mk (below_step (by repeat (first | (with_reducible first | exact HB.out | apply below_alloc | apply pw_below_drewN | apply below_drew1) | exact HB.out)) hb); have n1_ := Aside0.mk (hbox); have n2_ := Aside0.mk ((by rw [hg]; exact (below_size (by repeat (first | (with_reducible first | exact HB.out | apply below_alloc | apply pw_below_drewN | apply below_drew1) | exact HB.out))) : w.heap.size ≤ gb116)); have n3_ := Aside0.mk ((by rw [hg]; exact (below_size (by repeat (first | (with_reducible first | exact HB.out | apply below_alloc | apply pw_below_drewN | apply below_drew1) | exact HB.out))) : w.heap.size ≤ gb116)); clear HB; have HB := n0_; have BK116 := n1_; have GW116 := n2_; have GE116 := n3_; clear n0_ n1_ n2_ n3_; clear hb hbox hg; (try have hu116_0 : w31.cell? ⟨gb116, 0, none⟩ = some (.int .i64 0) := (blk_cell BK116.out 0).trans rfl); (try have hu116_1 : w31.cell? ⟨gb116, 1, none⟩ = some (.int .i64 0) := (blk_cell BK116.out 1).trans rfl); (try have hu116_2 : w31.cell? ⟨gb116, 2, none⟩ = some (.int .i64 0) := (blk_cell BK116.out 2).trans rfl); (try have hv116_0 := blk_frozen BK116.out 0); (try have hv116_1 := blk_frozen BK116.out 1); (try have hv116_2 := blk_frozen BK116.out 2); have hcz32_0 : w31.cell? ⟨gb116, 0, none⟩ = some (.int .i64 0) := (blk_cell BK116.out 0).trans rfl; have hcz32_1 : w31.cell? ⟨gb116, 1, none⟩ = some (.int .i64 0) := (blk_cell BK116.out 1).trans rfl; have hcz32_2 : w31.cell? ⟨gb116, 2, none⟩ = some (.int .i64 0) := (blk_cell BK116.out 2).trans rfl; have hfz32_0 := blk_frozen BK116.out 0; have hfz32_1 := blk_frozen BK116.out 1; have hfz32_2 := blk_frozen BK116.out 2) | ((with_reducible refine gate_callee (f := 76) rfl ?_); refine goesL_ (some 54) rfl rfl Tryz.func76 (by kernel_rfl) rfl #[.int .i64 t108] rfl (by (try simp only [List.map_toArray, List.map_cons, List.map_nil]); first | done | rfl | (simp only [List.length_drop, List.length_take]; rfl)) ?_; (with_reducible refine (quittanceref03_Date.calls t108 t117 t118 t119 t120 _ A18.out).mono ?_); rintro e w33 ⟨rfl, hb⟩; refine ⟨_, rfl, ?_⟩; have n0_ := Aside0.mk (blk_below (g := gb116) (o := .cells #[.int .i64 t112, .int .i64 t113, .int .i64 t114] 127 (0, 0)) (by (with_reducible repeat (first | refine blk_drewN ?_ _ | refine blk_drew ?_ | refine blk_alloc ?_ _)); refine blk_put (cs := #[.int .i64 t112, .int .i64 t113, .int .i64 0]) ?_ 2 _ rfl; (with_reducible repeat (first | refine blk_drewN ?_ _ | refine blk_drew ?_ | refine blk_alloc ?_ _)); refine blk_put (cs := #[.int .i64 t112, .int .i64 0, .int .i64 0]) ?_ 1 _ rfl; (with_reducible repeat (first | refine blk_drewN ?_ _ | refine blk_drew ?_ | refine blk_alloc ?_ _)); refine blk_put (cs := #[.int .i64 0, .int .i64 0, .int .i64 0]) ?_ 0 _ rfl; (with_reducible repeat (first | refine blk_drewN ?_ _ | refine blk_drew ?_ | refine blk_alloc ?_ _)); exact BK116.out) hb); have n1_ := Aside0.mk (below_step (by repeat (first | (with_reducible first | exact HB.out | apply below_alloc | apply pw_below_drewN | apply below_drew1 | refine below_set ?_ GE116.out) | exact HB.out)) hb); clear BK116; clear HB; have BK116 := n0_; have HB := n1_; clear n0_ n1_; (try clear hb); (try have hu116_0 : w33.cell? ⟨gb116, 0, none⟩ = some (.int .i64 t112) := (blk_cell BK116.out 0).trans rfl); (try have hu116_1 : w33.cell? ⟨gb116, 1, none⟩ = some (.int .i64 t113) := (blk_cell BK116.out 1).trans rfl); (try have hu116_2 : w33.cell? ⟨gb116, 2, none⟩ = some (.int .i64 t114) := (blk_cell BK116.out 2).trans rfl); (try have hv116_0 := blk_frozen BK116.out 0); (try have hv116_1 := blk_frozen BK116.out 1); (try have hv116_2 := blk_frozen BK116.out 2)) | ((with_reducible refine gate_dst (N := 14) rfl ?_); refine box_event ?hg (N := 14) ?hd (cs := #[.int .i64 0, .int .i64 0, .int .i64 0]) (t := 127) ?hr ?_; (case hd => rfl); (case hg => rfl); (case hr => first | (go_simp; done) | (go_simp; rfl)); intro gb121 hg w34 hbox hb; have n0_ := Aside0.mk (blk_below (g := gb116) (o := .cells #[.int .i64 t112, .int .i64 t113, .int .i64 t114] 127 (0, 0)) (by (with_reducible repeat (first | refine blk_drewN ?_ _ | refine blk_drew ?_ | refine blk_alloc ?_ _)); exact BK116.out) hb); have n1_ := Aside0.mk (below_step (by repeat (first | (with_reducible first | exact HB.out | apply below_alloc | apply pw_below_drewN | apply below_drew1 | refine below_set ?_ GE116.out) | exact HB.out)) hb); have n2_ := Aside0.mk (hbox); have n3_ := Aside0.mk ((by rw [hg]; exact (below_size (by repeat (first | (with_reducible first | exact HB.out | apply below_alloc | apply pw_below_drewN | apply below_drew1 | refine below_set ?_ GE116.out) | exact HB.out))) : w.heap.size ≤ gb121)); have n4_ := Aside0.mk ((by rw [hg]; exact (below_size (by repeat (first | (with_reducible first | exact HB.out | apply below_alloc | apply pw_below_drewN | apply below_drew1 | refine below_set ?_ GE116.out) | exact HB.out))) : w.heap.size ≤ gb121)); have n5_ := Aside0.mk ((by rw [hg]; exact Nat.ne_of_lt (blk_lt (g := gb116) (o := .cells #[.int .i64 t112, .int .i64 t113, .int .i64 t114] 127 (0, 0)) (by (with_reducible repeat (first | refine blk_drewN ?_ _ | refine blk_drew ?_ | refine blk_alloc ?_ _)); exact BK116.out)) : gb116 ≠ gb121)); have n6_ := Aside0.mk ((by rw [hg]; exact Nat.ne_of_gt (blk_lt (g := gb116) (o := .cells #[.int .i64 t112, .int .i64 t113, .int .i64 t114] 127 (0, 0)) (by (with_reducible repeat (first | refine blk_drewN ?_ _ | refine blk_drew ?_ | refine blk_alloc ?_ _)); exact BK116.out)) : gb121 ≠ gb116)); clear BK116; clear HB; have BK116 := n0_; have HB := n1_; have BK121 := n2_; have GW121 := n3_; have GE121 := n4_; have NB116_121 := n5_; have NB121_116 := n6_; clear n0_ n1_ n2_ n3_ n4_ n5_ n6_; clear hb hbox hg; (try have hu116_0 : w34.cell? ⟨gb116, 0, none⟩ = some (.int .i64 t112) := (blk_cell BK116.out 0).trans rfl); (try have hu116_1 : w34.cell? ⟨gb116, 1, none⟩ = some (.int .i64 t113) := (blk_cell BK116.out 1).trans rfl); (try have hu116_2 : w34.cell? ⟨gb116, 2, none⟩ = some (.int .i64 t114) := (blk_cell BK116.out 2).trans rfl); (try have hv116_0 := blk_frozen BK116.out 0); (try have hv116_1 := blk_frozen BK116.out 1); (try have hv116_2 := blk_frozen BK116.out 2); (try have hu121_0 : w34.cell? ⟨gb121, 0, none⟩ = some (.int .i64 0) := (blk_cell BK121.out 0).trans rfl); (try have hu121_1 : w34.cell? ⟨gb121, 1, none⟩ = some (.int .i64 0) := (blk_cell BK121.out 1).trans rfl); (try have hu121_2 : w34.cell? ⟨gb121, 2, none⟩ = some (.int .i64 0) := (blk_cell BK121.out 2).trans rfl); (try have hv121_0 := blk_frozen BK121.out 0); (try have hv121_1 := blk_frozen BK121.out 1); (try have hv121_2 := blk_frozen BK121.out 2); have hnb35 := NB121_116.out; have hnc35 := NB116_121.out; have hcz36_0 : w34.cell? ⟨gb121, 0, none⟩ = some (.int .i64 0) := (blk_cell BK121.out 0).trans rfl; have hcz36_1 : w34.cell? ⟨gb121, 1, none⟩ = some (.int .i64 0) := (blk_cell BK121.out 1).trans rfl; have hcz36_2 : w34.cell? ⟨gb121, 2, none⟩ = some (.int .i64 0) := (blk_cell BK121.out 2).trans rfl; have hfz36_0 := blk_frozen BK121.out 0; have hfz36_1 := blk_frozen BK121.out 1; have hfz36_2 := blk_frozen BK121.out 2; have hcz37_0 : w34.cell? ⟨gb116, 0, none⟩ = some (.int .i64 t112) := (blk_cell BK116.out 0).trans rfl; have hcz37_1 : w34.cell? ⟨gb116, 1, none⟩ = some (.int .i64 t113) := (blk_cell BK116.out 1).trans rfl; have hcz37_2 : w34.cell? ⟨gb116, 2, none⟩ = some (.int .i64 t114) := (blk_cell BK116.out 2).trans rfl; have hfz37_0 := blk_frozen BK116.out 0; have hfz37_1 := blk_frozen BK116.out 1; have hfz37_2 := blk_frozen BK116.out 2))
             go_meet
             case rel => exact ⟨_, (4), (by first | rfl | (simp; done) | (simp [*]; done)), H', ⟨by have := HJ5.out; have := HJ8.out; first | omega | exact Nat.le_refl _⟩, ⟨by repeat (first | (with_reducible first | exact HB.out | apply below_alloc | apply pw_below_drewN | apply below_drew1 | refine below_set ?_ GE116.out | refine below_set ?_ GE121.out) | exact HB.out)⟩⟩
           ·rw [if_neg c20] at H
            have c20b0 : (t113 == t118) = false := beq_eq_false_iff_ne.mpr c20
            have c20b1 : (t113 != t118) = true := bne_iff_ne.mpr c20
            have H' := Aside0.mk H
            clear H
            go_wp2_with (first | ((with_reducible refine gate_callee (f := 76) rfl ?_); refine goesL_ (some 49) rfl rfl Tryz.func76 (by kernel_rfl) rfl #[.int .i64 a1] rfl (by (try simp only [List.map_toArray, List.map_cons, List.map_nil]); first | done | rfl | (simp only [List.length_drop, List.length_take]; rfl)) ?_; (with_reducible refine (quittanceref03_Date.calls a1 t112 t113 t114 t115 _ A17.out).mono ?_); rintro e w38 ⟨rfl, hb⟩; refine ⟨_, rfl, ?_⟩; have n0_ := Aside0.mk (below_step (by repeat (first | (with_reducible first | exact HB.out | apply below_alloc | apply pw_below_drewN | apply below_drew1) | exact HB.out)) hb); clear HB; have HB := n0_; clear n0_; (try clear hb)) | ((with_reducible refine gate_dst (N := 12) rfl ?_); refine box_event ?hg (N := 12) ?hd (cs := #[.int .i64 0, .int .i64 0, .int .i64 0]) (t := 127) ?hr ?_; (case hd => rfl); (case hg => rfl); (case hr => first | (go_simp; done) | (go_simp; rfl)); intro gb116 hg w39 hbox hb; have n0_ := Aside0.mk (below_step (by repeat (first | (with_reducible first | exact HB.out | apply below_alloc | apply pw_below_drewN | apply below_drew1) | exact HB.out)) hb); have n1_ := Aside0.mk (hbox); have n2_ := Aside0.mk ((by rw [hg]; exact (below_size (by repeat (first | (with_reducible first | exact HB.out | apply below_alloc | apply pw_below_drewN | apply below_drew1) | exact HB.out))) : w.heap.size ≤ gb116)); have n3_ := Aside0.mk ((by rw [hg]; exact (below_size (by repeat (first | (with_reducible first | exact HB.out | apply below_alloc | apply pw_below_drewN | apply below_drew1) | exact HB.out))) : w.heap.size ≤ gb116)); clear HB; have HB := n0_; have BK116 := n1_; have GW116 := n2_; have GE116 := n3_; clear n0_ n1_ n2_ n3_; clear hb hbox hg; (try have hu116_0 : w39.cell? ⟨gb116, 0, none⟩ = some (.int .i64 0) := (blk_cell BK116.out 0).trans rfl); (try have hu116_1 : w39.cell? ⟨gb116, 1, none⟩ = some (.int .i64 0) := (blk_cell BK116.out 1).trans rfl); (try have hu116_2 : w39.cell? ⟨gb116, 2, none⟩ = some (.int .i64 0) := (blk_cell BK116.out 2).trans rfl); (try have hv116_0 := blk_frozen BK116.out 0); (try have hv116_1 := blk_frozen BK116.out 1); (try have hv116_2 := blk_frozen BK116.out 2); have hcz40_0 : w39.cell? ⟨gb116, 0, none⟩ = some (.int .i64 0) := (blk_cell BK116.out 0).trans rfl; have hcz40_1 : w39.cell? ⟨gb116, 1, none⟩ = some (.int .i64 0) := (blk_cell BK116.out 1).trans rfl; have hcz40_2 : w39.cell? ⟨gb116, 2, none⟩ = some (.int .i64 0) := (blk_cell BK116.out 2).trans rfl; have hfz40_0 := blk_frozen BK116.out 0; have hfz40_1 := blk_frozen BK116.out 1; have hfz40_2 := blk_frozen BK116.out 2) | ((with_reducible refine gate_callee (f := 76) rfl ?_); refine goesL_ (some 54) rfl rfl Tryz.func76 (by kernel_rfl) rfl #[.int .i64 t108] rfl (by (try simp only [List.map_toArray, List.map_cons, List.map_nil]); first | done | rfl | (simp only [List.length_drop, List.length_take]; rfl)) ?_; (with_reducible refine (quittanceref03_Date.calls t108 t117 t118 t119 t120 _ A18.out).mono ?_); rintro e w41 ⟨rfl, hb⟩; refine ⟨_, rfl, ?_⟩; have n0_ := Aside0.mk (blk_below (g := gb116) (o := .cells #[.int .i64 t112, .int .i64 t113, .int .i64 t114] 127 (0, 0)) (by (with_reducible repeat (first | refine blk_drewN ?_ _ | refine blk_drew ?_ | refine blk_alloc ?_ _)); refine blk_put (cs := #[.int .i64 t112, .int .i64 t113, .int .i64 0]) ?_ 2 _ rfl; (with_reducible repeat (first | refine blk_drewN ?_ _ | refine blk_drew ?_ | refine blk_alloc ?_ _)); refine blk_put (cs := #[.int .i64 t112, .int .i64 0, .int .i64 0]) ?_ 1 _ rfl; (with_reducible repeat (first | refine blk_drewN ?_ _ | refine blk_drew ?_ | refine blk_alloc ?_ _)); refine blk_put (cs := #[.int .i64 0, .int .i64 0, .int .i64 0]) ?_ 0 _ rfl; (with_reducible repeat (first | refine blk_drewN ?_ _ | refine blk_drew ?_ | refine blk_alloc ?_ _)); exact BK116.out) hb); have n1_ := Aside0.mk (below_step (by repeat (first | (with_reducible first | exact HB.out | apply below_alloc | apply pw_below_drewN | apply below_drew1 | refine below_set ?_ GE116.out) | exact HB.out)) hb); clear BK116; clear HB; have BK116 := n0_; have HB := n1_; clear n0_ n1_; (try clear hb); (try have hu116_0 : w41.cell? ⟨gb116, 0, none⟩ = some (.int .i64 t112) := (blk_cell BK116.out 0).trans rfl); (try have hu116_1 : w41.cell? ⟨gb116, 1, none⟩ = some (.int .i64 t113) := (blk_cell BK116.out 1).trans rfl); (try have hu116_2 : w41.cell? ⟨gb116, 2, none⟩ = some (.int .i64 t114) := (blk_cell BK116.out 2).trans rfl); (try have hv116_0 := blk_frozen BK116.out 0); (try have hv116_1 := blk_frozen BK116.out 1); (try have hv116_2 := blk_frozen BK116.out 2)) | ((with_reducible refine gate_dst (N := 14) rfl ?_); refine box_event ?hg (N := 14) ?hd (cs := #[.int .i64 0, .int .i64 0, .int .i64 0]) (t := 127) ?hr ?_; (case hd => rfl); (case hg => rfl); (case hr => first | (go_simp; done) | (go_simp; rfl)); intro gb121 hg w42 hbox hb; have n0_ := Aside0.mk (blk_below (g := gb116) (o := .cells #[.int .i64 t112, .int .i64 t113, .int .i64 t114] 127 (0, 0)) (by (with_reducible repeat (first | refine blk_drewN ?_ _ | refine blk_drew ?_ | refine blk_alloc ?_ _)); exact BK116.out) hb); have n1_ := Aside0.mk (below_step (by repeat (first | (with_reducible first | exact HB.out | apply below_alloc | apply pw_below_drewN | apply below_drew1 | refine below_set ?_ GE116.out) | exact HB.out)) hb); have n2_ := Aside0.mk (hbox); have n3_ := Aside0.mk ((by rw [hg]; exact (below_size (by repeat (first | (with_reducible first | exact HB.out | apply below_alloc | apply pw_below_drewN | apply below_drew1 | refine below_set ?_ GE116.out) | exact HB.out))) : w.heap.size ≤ gb121)); have n4_ := Aside0.mk ((by rw [hg]; exact (below_size (by repeat (first | (with_reducible first | exact HB.out | apply below_alloc | apply pw_below_drewN | apply below_drew1 | refine below_set ?_ GE116.out) | exact HB.out))) : w.heap.size ≤ gb121)); have n5_ := Aside0.mk ((by rw [hg]; exact Nat.ne_of_lt (blk_lt (g := gb116) (o := .cells #[.int .i64 t112, .int .i64 t113, .int .i64 t114] 127 (0, 0)) (by (with_reducible repeat (first | refine blk_drewN ?_ _ | refine blk_drew ?_ | refine blk_alloc ?_ _)); exact BK116.out)) : gb116 ≠ gb121)); have n6_ := Aside0.mk ((by rw [hg]; exact Nat.ne_of_gt (blk_lt (g := gb116) (o := .cells #[.int .i64 t112, .int .i64 t113, .int .i64 t114] 127 (0, 0)) (by (with_reducible repeat (first | refine blk_drewN ?_ _ | refine blk_drew ?_ | refine blk_alloc ?_ _)); exact BK116.out)) : gb121 ≠ gb116)); clear BK116; clear HB; have BK116 := n0_; have HB := n1_; have BK121 := n2_; have GW121 := n3_; have GE121 := n4_; have NB116_121 := n5_; have NB121_116 := n6_; clear n0_ n1_ n2_ n3_ n4_ n5_ n6_; clear hb hbox hg; (try have hu116_0 : w42.cell? ⟨gb116, 0, none⟩ = some (.int .i64 t112) := (blk_cell BK116.out 0).trans rfl); (try have hu116_1 : w42.cell? ⟨gb116, 1, none⟩ = some (.int .i64 t113) := (blk_cell BK116.out 1).trans rfl); (try have hu116_2 : w42.cell? ⟨gb116, 2, none⟩ = some (.int .i64 t114) := (blk_cell BK116.out 2).trans rfl); (try have hv116_0 := blk_frozen BK116.out 0); (try have hv116_1 := blk_frozen BK116.out 1); (try have hv116_2 := blk_frozen BK116.out 2); (try have hu121_0 : w42.cell? ⟨gb121, 0, none⟩ = some (.int .i64 0) := (blk_cell BK121.out 0).trans rfl); (try have hu121_1 : w42.cell? ⟨gb121, 1, none⟩ = some (.int .i64 0) := (blk_cell BK121.out 1).trans rfl); (try have hu121_2 : w42.cell? ⟨gb121, 2, none⟩ = some (.int .i64 0) := (blk_cell BK121.out 2).trans rfl); (try have hv121_0 := blk_frozen BK121.out 0); (try have hv121_1 := blk_frozen BK121.out 1); (try have hv121_2 := blk_frozen BK121.out 2); have hnb43 := NB121_116.out; have hnc43 := NB116_121.out; have hcz44_0 : w42.cell? ⟨gb121, 0, none⟩ = some (.int .i64 0) := (blk_cell BK121.out 0).trans rfl; have hcz44_1 : w42.cell? ⟨gb121, 1, none⟩ = some (.int .i64 0) := (blk_cell BK121.out 1).trans rfl; have hcz44_2 : w42.cell? ⟨gb121, 2, none⟩ = some (.int .i64 0) := (blk_cell BK121.out 2).trans rfl; have hfz44_0 := blk_frozen BK121.out 0; have hfz44_1 := blk_frozen BK121.out 1; have hfz44_2 := blk_frozen BK121.out 2; have hcz45_0 : w42.cell? ⟨gb116, 0, none⟩ = some (.int .i64 t112) := (blk_cell BK116.out 0).trans rfl; have hcz45_1 : w42.cell? ⟨gb116, 1, none⟩ = some (.int .i64 t113) := (blk_cell BK116.out 1).trans rfl; have hcz45_2 : w42.cell? ⟨gb116, 2, none⟩ = some (.int .i64 t114) := (blk_cell BK116.out 2).trans rfl; have hfz45_0 := blk_frozen BK116.out 0; have hfz45_1 := blk_frozen BK116.out 1; have hfz45_2 := blk_frozen BK116.out 2))
            go_meet
            case rel => exact ⟨_, (4), (by first | rfl | (simp; done) | (simp [*]; done)), H', ⟨by have := HJ5.out; have := HJ8.out; first | omega | exact Nat.le_refl _⟩, ⟨by repeat (first | (with_reducible first | exact HB.out | apply below_alloc | apply pw_below_drewN | apply below_drew1 | refine below_set ?_ GE116.out | refine below_set ?_ GE121.out) | exact HB.out)⟩⟩
          ·replace c19 := Bool.eq_false_iff.mpr c19
           subst c19
           have H1 : (quittanceref05_Roll.j2 kj8 4 t108 false t110 t111) = some (r1, r2) := by rw [if_neg (show ¬ (false = true) by decide)] at H; exact H
           clear H
           have H := H1
           clear H1
           have H' := Aside0.mk H
           clear H
           go_wp2_with (first | ((with_reducible refine gate_callee (f := 76) rfl ?_); refine goesL_ (some 49) rfl rfl Tryz.func76 (by kernel_rfl) rfl #[.int .i64 a1] rfl (by (try simp only [List.map_toArray, List.map_cons, List.map_nil]); first | done | rfl | (simp only [List.length_drop, List.length_take]; rfl)) ?_; (with_reducible refine (quittanceref03_Date.calls a1 t112 t113 t114 t115 _ A17.out).mono ?_); rintro e w46 ⟨rfl, hb⟩; refine ⟨_, rfl, ?_⟩; have n0_ := Aside0.mk (below_step (by repeat (first | (with_reducible first | exact HB.out | apply below_alloc | apply pw_below_drewN | apply below_drew1) | exact HB.out)) hb); clear HB; have HB := n0_; clear n0_; (try clear hb)) | ((with_reducible refine gate_dst (N := 12) rfl ?_); refine box_event ?hg (N := 12) ?hd (cs := #[.int .i64 0, .int .i64 0, .int .i64 0]) (t := 127) ?hr ?_; (case hd => rfl); (case hg => rfl); (case hr => first | (go_simp; done) | (go_simp; rfl)); intro gb116 hg w47 hbox hb; have n0_ := Aside0.mk (below_step (by repeat (first | (with_reducible first | exact HB.out | apply below_alloc | apply pw_below_drewN | apply below_drew1) | exact HB.out)) hb); have n1_ := Aside0.mk (hbox); have n2_ := Aside0.mk ((by rw [hg]; exact (below_size (by repeat (first | (with_reducible first | exact HB.out | apply below_alloc | apply pw_below_drewN | apply below_drew1) | exact HB.out))) : w.heap.size ≤ gb116)); have n3_ := Aside0.mk ((by rw [hg]; exact (below_size (by repeat (first | (with_reducible first | exact HB.out | apply below_alloc | apply pw_below_drewN | apply below_drew1) | exact HB.out))) : w.heap.size ≤ gb116)); clear HB; have HB := n0_; have BK116 := n1_; have GW116 := n2_; have GE116 := n3_; clear n0_ n1_ n2_ n3_; clear hb hbox hg; (try have hu116_0 : w47.cell? ⟨gb116, 0, none⟩ = some (.int .i64 0) := (blk_cell BK116.out 0).trans rfl); (try have hu116_1 : w47.cell? ⟨gb116, 1, none⟩ = some (.int .i64 0) := (blk_cell BK116.out 1).trans rfl); (try have hu116_2 : w47.cell? ⟨gb116, 2, none⟩ = some (.int .i64 0) := (blk_cell BK116.out 2).trans rfl); (try have hv116_0 := blk_frozen BK116.out 0); (try have hv116_1 := blk_frozen BK116.out 1); (try have hv116_2 := blk_frozen BK116.out 2); have hcz48_0 : w47.cell? ⟨gb116, 0, none⟩ = some (.int .i64 0) := (blk_cell BK116.out 0).trans rfl; have hcz48_1 : w47.cell? ⟨gb116, 1, none⟩ = some (.int .i64 0) := (blk_cell BK116.out 1).trans rfl; have hcz48_2 : w47.cell? ⟨gb116, 2, none⟩ = some (.int .i64 0) := (blk_cell BK116.out 2).trans rfl; have hfz48_0 := blk_frozen BK116.out 0; have hfz48_1 := blk_frozen BK116.out 1; have hfz48_2 := blk_frozen BK116.out 2) | ((with_reducible refine gate_callee (f := 76) rfl ?_); refine goesL_ (some 54) rfl rfl Tryz.func76 (by kernel_rfl) rfl #[.int .i64 t108] rfl (by (try simp only [List.map_toArray, List.map_cons, List.map_nil]); first | done | rfl | (simp only [List.length_drop, List.length_take]; rfl)) ?_; (with_reducible refine (quittanceref03_Date.calls t108 t117 t118 t119 t120 _ A18.out).mono ?_); rintro e w49 ⟨rfl, hb⟩; refine ⟨_, rfl, ?_⟩; have n0_ := Aside0.mk (blk_below (g := gb116) (o := .cells #[.int .i64 t112, .int .i64 t113, .int .i64 t114] 127 (0, 0)) (by (with_reducible repeat (first | refine blk_drewN ?_ _ | refine blk_drew ?_ | refine blk_alloc ?_ _)); refine blk_put (cs := #[.int .i64 t112, .int .i64 t113, .int .i64 0]) ?_ 2 _ rfl; (with_reducible repeat (first | refine blk_drewN ?_ _ | refine blk_drew ?_ | refine blk_alloc ?_ _)); refine blk_put (cs := #[.int .i64 t112, .int .i64 0, .int .i64 0]) ?_ 1 _ rfl; (with_reducible repeat (first | refine blk_drewN ?_ _ | refine blk_drew ?_ | refine blk_alloc ?_ _)); refine blk_put (cs := #[.int .i64 0, .int .i64 0, .int .i64 0]) ?_ 0 _ rfl; (with_reducible repeat (first | refine blk_drewN ?_ _ | refine blk_drew ?_ | refine blk_alloc ?_ _)); exact BK116.out) hb); have n1_ := Aside0.mk (below_step (by repeat (first | (with_reducible first | exact HB.out | apply below_alloc | apply pw_below_drewN | apply below_drew1 | refine below_set ?_ GE116.out) | exact HB.out)) hb); clear BK116; clear HB; have BK116 := n0_; have HB := n1_; clear n0_ n1_; (try clear hb); (try have hu116_0 : w49.cell? ⟨gb116, 0, none⟩ = some (.int .i64 t112) := (blk_cell BK116.out 0).trans rfl); (try have hu116_1 : w49.cell? ⟨gb116, 1, none⟩ = some (.int .i64 t113) := (blk_cell BK116.out 1).trans rfl); (try have hu116_2 : w49.cell? ⟨gb116, 2, none⟩ = some (.int .i64 t114) := (blk_cell BK116.out 2).trans rfl); (try have hv116_0 := blk_frozen BK116.out 0); (try have hv116_1 := blk_frozen BK116.out 1); (try have hv116_2 := blk_frozen BK116.out 2)) | ((with_reducible refine gate_dst (N := 14) rfl ?_); refine box_event ?hg (N := 14) ?hd (cs := #[.int .i64 0, .int .i64 0, .int .i64 0]) (t := 127) ?hr ?_; (case hd => rfl); (case hg => rfl); (case hr => first | (go_simp; done) | (go_simp; rfl)); intro gb121 hg w50 hbox hb; have n0_ := Aside0.mk (blk_below (g := gb116) (o := .cells #[.int .i64 t112, .int .i64 t113, .int .i64 t114] 127 (0, 0)) (by (with_reducible repeat (first | refine blk_drewN ?_ _ | refine blk_drew ?_ | refine blk_alloc ?_ _)); exact BK116.out) hb); have n1_ := Aside0.mk (below_step (by repeat (first | (with_reducible first | exact HB.out | apply below_alloc | apply pw_below_drewN | apply below_drew1 | refine below_set ?_ GE116.out) | exact HB.out)) hb); have n2_ := Aside0.mk (hbox); have n3_ := Aside0.mk ((by rw [hg]; exact (below_size (by repeat (first | (with_reducible first | exact HB.out | apply below_alloc | apply pw_below_drewN | apply below_drew1 | refine below_set ?_ GE116.out) | exact HB.out))) : w.heap.size ≤ gb121)); have n4_ := Aside0.mk ((by rw [hg]; exact (below_size (by repeat (first | (with_reducible first | exact HB.out | apply below_alloc | apply pw_below_drewN | apply below_drew1 | refine below_set ?_ GE116.out) | exact HB.out))) : w.heap.size ≤ gb121)); have n5_ := Aside0.mk ((by rw [hg]; exact Nat.ne_of_lt (blk_lt (g := gb116) (o := .cells #[.int .i64 t112, .int .i64 t113, .int .i64 t114] 127 (0, 0)) (by (with_reducible repeat (first | refine blk_drewN ?_ _ | refine blk_drew ?_ | refine blk_alloc ?_ _)); exact BK116.out)) : gb116 ≠ gb121)); have n6_ := Aside0.mk ((by rw [hg]; exact Nat.ne_of_gt (blk_lt (g := gb116) (o := .cells #[.int .i64 t112, .int .i64 t113, .int .i64 t114] 127 (0, 0)) (by (with_reducible repeat (first | refine blk_drewN ?_ _ | refine blk_drew ?_ | refine blk_alloc ?_ _)); exact BK116.out)) : gb121 ≠ gb116)); clear BK116; clear HB; have BK116 := n0_; have HB := n1_; have BK121 := n2_; have GW121 := n3_; have GE121 := n4_; have NB116_121 := n5_; have NB121_116 := n6_; clear n0_ n1_ n2_ n3_ n4_ n5_ n6_; clear hb hbox hg; (try have hu116_0 : w50.cell? ⟨gb116, 0, none⟩ = some (.int .i64 t112) := (blk_cell BK116.out 0).trans rfl); (try have hu116_1 : w50.cell? ⟨gb116, 1, none⟩ = some (.int .i64 t113) := (blk_cell BK116.out 1).trans rfl); (try have hu116_2 : w50.cell? ⟨gb116, 2, none⟩ = some (.int .i64 t114) := (blk_cell BK116.out 2).trans rfl); (try have hv116_0 := blk_frozen BK116.out 0); (try have hv116_1 := blk_frozen BK116.out 1); (try have hv116_2 := blk_frozen BK116.out 2); (try have hu121_0 : w50.cell? ⟨gb121, 0, none⟩ = some (.int .i64 0) := (blk_cell BK121.out 0).trans rfl); (try have hu121_1 : w50.cell? ⟨gb121, 1, none⟩ = some (.int .i64 0) := (blk_cell BK121.out 1).trans rfl); (try have hu121_2 : w50.cell? ⟨gb121, 2, none⟩ = some (.int .i64 0) := (blk_cell BK121.out 2).trans rfl); (try have hv121_0 := blk_frozen BK121.out 0); (try have hv121_1 := blk_frozen BK121.out 1); (try have hv121_2 := blk_frozen BK121.out 2); have hnb51 := NB121_116.out; have hnc51 := NB116_121.out; have hcz52_0 : w50.cell? ⟨gb121, 0, none⟩ = some (.int .i64 0) := (blk_cell BK121.out 0).trans rfl; have hcz52_1 : w50.cell? ⟨gb121, 1, none⟩ = some (.int .i64 0) := (blk_cell BK121.out 1).trans rfl; have hcz52_2 : w50.cell? ⟨gb121, 2, none⟩ = some (.int .i64 0) := (blk_cell BK121.out 2).trans rfl; have hfz52_0 := blk_frozen BK121.out 0; have hfz52_1 := blk_frozen BK121.out 1; have hfz52_2 := blk_frozen BK121.out 2))
           go_meet
           case rel => exact ⟨_, (4), (by first | rfl | (simp; done) | (simp [*]; done)), H', ⟨by have := HJ5.out; have := HJ8.out; first | omega | exact Nat.le_refl _⟩, ⟨by repeat (first | (with_reducible first | exact HB.out | apply below_alloc | apply pw_below_drewN | apply below_drew1 | refine below_set ?_ GE116.out | refine below_set ?_ GE121.out) | exact HB.out)⟩⟩
         ·rw [if_neg c16] at H
          have c16b0 : (a2 == 3) = false := beq_eq_false_iff_ne.mpr c16
          have c16b1 : (a2 != 3) = true := bne_iff_ne.mpr c16
          (first | rw [c16b0] | (simp only [i64_w, i32_w]; rw [c16b0]) | skip)
          have H' := Aside0.mk H
          clear H
          go_wp2
          go_meet
          case rel => exact ⟨_, (a2), (by first | rfl | (simp; done) | (simp [*]; done)), H', ⟨by have := HJ5.out; have := HJ8.out; first | omega | exact Nat.le_refl _⟩, ⟨by repeat (first | (with_reducible first | exact HB.out | apply below_alloc | apply pw_below_drewN | apply below_drew1) | exact HB.out)⟩⟩
        case rest =>
         clear HC15
         obtain ⟨kq, x2_14, rfl, HA, HJ14, HB⟩ := hcut
         cases kq with
         | zero => exact absurd HA.out (by simp [quittanceref05_Roll.j2])
         | succ kj14 =>
          have H := HA.out
          clear HA
          simp only [quittanceref05_Roll.j2] at H
          by_cases c53 : x2_14 = 4
          ·rw [if_pos c53] at H
           have c53b0 : (x2_14 == 4) = true := beq_iff_eq.mpr c53
           have c53b1 : (x2_14 != 4) = false := bne_eq_false_iff_eq.mpr c53
           clear c53
           by_cases c54 : t111 = true
           ·subst c54
            have H1 : (some (t110, 0)) = some (r1, r2) := by rw [if_pos rfl] at H; exact H
            clear H
            have H := H1
            clear H1
            simp only [Option.some.injEq, Prod.mk.injEq] at H
            obtain ⟨rfl, rfl⟩ := H
            go_wp2
            go_ret2
            exact ⟨by first | rfl | (simp [errW_none, errW_some] <;> rfl) | (simp [*, errW_none, errW_some] <;> rfl), by repeat (first | (with_reducible first | exact HB.out | apply below_alloc | apply pw_below_drewN | apply below_drew1) | exact HB.out)⟩
           ·replace c54 := Bool.eq_false_iff.mpr c54
            subst c54
            have H1 : (some (0, 5)) = some (r1, r2) := by rw [if_neg (show ¬ (false = true) by decide)] at H; exact H
            clear H
            have H := H1
            clear H1
            simp only [Option.some.injEq, Prod.mk.injEq] at H
            obtain ⟨rfl, rfl⟩ := H
            go_wp2
            go_ret2
            exact ⟨by first | rfl | (simp [errW_none, errW_some] <;> rfl) | (simp [*, errW_none, errW_some] <;> rfl), by repeat (first | (with_reducible first | exact HB.out | apply below_alloc | apply pw_below_drewN | apply below_drew1) | exact HB.out)⟩
          ·rw [if_neg c53] at H
           have c53b0 : (x2_14 == 4) = false := beq_eq_false_iff_ne.mpr c53
           have c53b1 : (x2_14 != 4) = true := bne_iff_ne.mpr c53
           by_cases c55 : t109 = true
           ·subst c55
            have H1 : (some (t108, 0)) = some (r1, r2) := by rw [if_pos rfl] at H; exact H
            clear H
            have H := H1
            clear H1
            simp only [Option.some.injEq, Prod.mk.injEq] at H
            obtain ⟨rfl, rfl⟩ := H
            go_wp2
            go_ret2
            exact ⟨by first | rfl | (simp [errW_none, errW_some] <;> rfl) | (simp [*, errW_none, errW_some] <;> rfl), by repeat (first | (with_reducible first | exact HB.out | apply below_alloc | apply pw_below_drewN | apply below_drew1) | exact HB.out)⟩
           ·replace c55 := Bool.eq_false_iff.mpr c55
            subst c55
            have H1 : (some (0, 5)) = some (r1, r2) := by rw [if_neg (show ¬ (false = true) by decide)] at H; exact H
            clear H
            have H := H1
            clear H1
            simp only [Option.some.injEq, Prod.mk.injEq] at H
            obtain ⟨rfl, rfl⟩ := H
            go_wp2
            go_ret2
            exact ⟨by first | rfl | (simp [errW_none, errW_some] <;> rfl) | (simp [*, errW_none, errW_some] <;> rfl), by repeat (first | (with_reducible first | exact HB.out | apply below_alloc | apply pw_below_drewN | apply below_drew1) | exact HB.out)⟩
 ·replace c5 := Bool.eq_false_iff.mpr c5
  subst c5
  have H1 : (some (0, 5)) = some (r1, r2) := by rw [if_neg (show ¬ (false = true) by decide)] at H; exact H
  clear H
  have H := H1
  clear H1
  simp only [Option.some.injEq, Prod.mk.injEq] at H
  obtain ⟨rfl, rfl⟩ := H
  go_enter Tryz.func50, Tryz.ntmps50
  go_wp2_with (first | ((with_reducible refine gate_callee (f := 53) rfl ?_); refine goesL_ (some 17) rfl rfl Tryz.func53 (by kernel_rfl) rfl #[.int .i64 a1] rfl (by (try simp only [List.map_toArray, List.map_cons, List.map_nil]); first | done | rfl | (simp only [List.length_drop, List.length_take]; rfl)) ?_; (with_reducible refine (quittanceref03_Is.calls a1 false _ A4.out).mono ?_); rintro e w' ⟨rfl, ⟨nd, rfl⟩⟩; refine ⟨_, rfl, ?_⟩))
  go_ret2
  exact ⟨by first | rfl | (simp [errW_none, errW_some] <;> rfl) | (simp [*, errW_none, errW_some] <;> rfl), by repeat (first | (with_reducible first | exact HB.out | apply below_alloc | apply pw_below_drewN | apply below_drew1) | exact HB.out)⟩
end Go.Proofs.YtfmkdledofbhdaaGreat.PBU
/- The document's calendar, in plain words. -/
namespace Go.Proofs.YtfmkdledofbhdaaGreat.H
open Go.RowKit Go.Proofs.YtfmkdledofbhdaaGreatW.PrintWords Go.Proofs.YtfmkdledofbhdaaGreatW.PrintLast Go.Proofs.YtfmkdledofbhdaaGreatW.PrintMore Go.Proofs.YtfmkdledofbhdaaGreat.HW
open Go.Proofs.YtfmkdledofbhdaaGreat.Math
set_option linter.unusedVariables false
set_option linter.unusedSimpArgs false
theorem rOpen (l : List Int) (hm : l.length ≤ 1000000000) (x : Int) : PBU.quittanceref05_Open.f l x = some (openB l x) := by
 unfold PBU.quittanceref05_Open.f openB quittanceref03_Is.f quittanceref03_Weekday.f help_In_int.f
 simp only [Option.bind_some]
 by_cases h1 : isDay x
 ·rw [decide_eq_true h1, if_pos rfl]
  by_cases h2 : weekday x < 5
  ·rw [if_pos h2, if_pos hm, decide_eq_true h2]; rfl
  ·rw [if_neg h2, decide_eq_false h2]; rfl
 ·rw [decide_eq_false h1, if_neg (by decide)]; rfl
theorem seekS_form (l : List Int) (step : Int) (k : Nat) : ∀ x, seekS l step k x = (0, 5) ∨ ∃ y, seekS l step k x = (y, 0) ∧ isDay y := by
 induction k with
 | zero => intro x; exact Or.inl rfl
 | succ k ih =>
  intro x
  rw [seekS_succ]
  by_cases h1 : isDay x
  ·rw [if_pos h1]
   by_cases h2 : openB l x = true
   ·rw [if_pos h2]; exact Or.inr ⟨x, rfl, h1⟩
   ·rw [if_neg h2]; exact ih _
  ·rw [if_neg h1]; exact Or.inl rfl
def seekR (p : Int × Int) : Int × Bool := if p.2 = 0 then (p.1, true) else (0, false)
theorem rSeek (l : List Int) (hm : l.length ≤ 1000000000) {step : Int} (hs : step = 1 ∨ step = -1) (d : Nat) : ∀ (k : Nat) (x : Int), -100000 ≤ x → x ≤ 100000 → (if step = 1 then 84371 - x else x + 25568) ≤ (d : Int) → d < k →
  PBU.quittanceref05_seek.l0 k l step x = some (seekR (seekS l step d x)) := by
 induction d with
 | zero =>
  intro k x b1 b2 h1 h2
  obtain ⟨k, rfl⟩ : ∃ m, k = m + 1 := ⟨k - 1, by omega⟩
  have hd : ¬ isDay x := by
   intro hd
   have := hd.1
   have := hd.2
   split at h1 <;> omega
  simp only [PBU.quittanceref05_seek.l0, quittanceref03_Is.f, Option.bind_some]
  rw [decide_eq_false hd, if_neg (by decide)]
  rfl
 | succ d ih =>
  intro k x b1 b2 h1 h2
  obtain ⟨k, rfl⟩ : ∃ m, k = m + 1 := ⟨k - 1, by omega⟩
  simp only [PBU.quittanceref05_seek.l0, quittanceref03_Is.f, Option.bind_some]
  rw [seekS_succ]
  by_cases hd : isDay x
  ·have := hd.1
   have := hd.2
   rw [decide_eq_true hd, if_pos rfl, rOpen l hm, if_pos hd]
   simp only [Option.bind_some]
   by_cases ho : openB l x = true
   ·rw [if_pos ho, if_pos ho]; rfl
   ·rw [if_neg ho, if_neg ho, w64 (by omega) (by omega), ih k (x + step) (by omega) (by omega) ?_ (by omega)]
    split at h1 <;> rename_i h3 <;> (first | rw [if_pos h3] | rw [if_neg h3]) <;> omega
  ·rw [decide_eq_false hd, if_neg (by decide), if_neg hd]; rfl
theorem rSeek_up (l : List Int) (hm : l.length ≤ 1000000000) (k : Nat) (hk : 200000 < k) {x : Int} (hd : isDay x) : PBU.quittanceref05_seek.f k l x 1 = some (seekR (seekS l 1 200000 x)) := by
 have := hd.1
 have := hd.2
 exact rSeek l hm (Or.inl rfl) 200000 k x (by omega) (by omega) (by rw [if_pos rfl]; omega) hk
theorem rSeek_down (l : List Int) (hm : l.length ≤ 1000000000) (k : Nat) (hk : 200000 < k) {x : Int} (hd : isDay x) : PBU.quittanceref05_seek.f k l x (-1) = some (seekR (seekS l (-1) 200000 x)) := by
 have := hd.1
 have := hd.2
 exact rSeek l hm (Or.inr rfl) 200000 k x (by omega) (by omega) (by rw [if_neg (by decide)]; omega) hk
theorem mon_eq {a b : Int} (ha : isDay a) (hb : isDay b) : mon a = mon b ↔ (date a).2.1 = (date b).2.1 ∧ (date a).1 = (date b).1 := by
 unfold mon
 obtain ⟨_, _, m1, m2, _, _⟩ := date_bd ha
 obtain ⟨_, _, m3, m4, _, _⟩ := date_bd hb
 rw [date_yes ha, date_yes hb]
 simp only
 omega
end Go.Proofs.YtfmkdledofbhdaaGreat.H
/- Words: all blocks but one are as1 they were; a row of numbers of one's own. -/
namespace Go.Proofs.YtfmkdledofbhdaaGreat.H
open Go.RowKit Go.Proofs.YtfmkdledofbhdaaGreatW.PrintWords Go.Proofs.YtfmkdledofbhdaaGreatW.PrintLast Go.Proofs.YtfmkdledofbhdaaGreatW.PrintMore
set_option linter.unusedVariables false
set_option linter.unusedSimpArgs false
structure But (gb : Nat) (w w' : World) : Prop where
 os : w'.os = w.os
 tape : w'.tape = w.tape
 output : w'.output = w.output
 size : w.heap.size ≤ w'.heap.size
 block : ∀ k, k < w.heap.size → k ≠ gb → w'.heap[k]? = w.heap[k]?
theorem But.of {gb : Nat} {w w' : World} (h : Below w.heap.size w w') : But gb w w' := ⟨h.os, h.tape, h.output, h.size, fun k hk _ => h.block k hk⟩
theorem But.below {B gb : Nat} {a w w' : World} (h : Below B a w) (hw : B ≤ w.heap.size) (hg : B ≤ gb) (hb : But gb w w') : Below B a w' :=
 h.trans ⟨hb.os, hb.tape, hb.output, hb.size, fun k hk => hb.block k (by omega) (by omega)⟩
theorem But.setCell {gb : Nat} {a w : World} (h : But gb a w) {p : Addr} (hp : p.block = gb ∨ a.heap.size ≤ p.block) (u : Value) : But gb a (w.setCell p u) :=
 ⟨h.os, h.tape, h.output, by have := h.size; simp [World.setCell]; omega, fun k hk hn => by rw [Below.heap_setCell _ _ _ _ (by omega)]; exact h.block k hk hn⟩
theorem But.cell {gb : Nat} {w w' : World} (h : But gb w w') {p : Addr} (hp : p.block < w.heap.size) (hn : p.block ≠ gb) : w'.cell? p = w.cell? p := World.cell?_of_block (w := w) (h.block p.block hp hn)
theorem But.frozen {gb : Nat} {w w' : World} (h : But gb w w') {p : Addr} (hp : p.block < w.heap.size) (hn : p.block ≠ gb) : w'.frozen? p = w.frozen? p := World.frozen?_of_block (w := w) (h.block p.block hp hn)
def Blk (w : World) (g : Nat) (e : TypeId) (vs : List Value) : Prop := w.heap[g]? = some (.cells vs.toArray e (0, 0))
theorem Blk.lt {w : World} {g : Nat} {e : TypeId} {vs : List Value} (h : Blk w g e vs) : g < w.heap.size := by
 rcases Nat.lt_or_ge g w.heap.size with h1 | h1
 ·exact h1
 ·unfold Blk at h; rw [Array.getElem?_eq_none h1] at h; cases h
theorem Blk.same {w w1 : World} {g : Nat} {e : TypeId} {vs : List Value} (h : Blk w g e vs) (hb : w1.heap[g]? = w.heap[g]?) : Blk w1 g e vs := hb.trans h
theorem Blk.below {w w1 : World} {g : Nat} {e : TypeId} {vs : List Value} (h : Blk w g e vs) (hb : Below w.heap.size w w1) : Blk w1 g e vs := h.same (hb.block g h.lt)
theorem Blk.but {w w1 : World} {g g2 : Nat} {e : TypeId} {vs : List Value} (h : Blk w g e vs) (hb : But g2 w w1) (hn : g ≠ g2) : Blk w1 g e vs := h.same (hb.block g h.lt hn)
theorem Blk.cell {w : World} {g : Nat} {e : TypeId} {vs : List Value} (h : Blk w g e vs) (j : Nat) : w.cell? ⟨g, j, none⟩ = vs[j]? := by
 rw [cell_of_row w g j _ e (0, 0) h]; simp
theorem Blk.frozen {w : World} {g : Nat} {e : TypeId} {vs : List Value} (h : Blk w g e vs) (j : Nat) : w.frozen? ⟨g, j, none⟩ = false := frozen_of_row w g j _ e h
theorem Blk.put {w : World} {g : Nat} {e : TypeId} {vs : List Value} (h : Blk w g e vs) (j : Nat) (u : Value) : Blk (w.setCell ⟨g, j, none⟩ u) g e (vs.set j u) := by
 have h1 := heap_setCell_same w g j _ e u h
 unfold Blk
 rw [h1]
 congr 2
 apply Array.ext'
 simp
theorem Blk.made (w : World) (e : TypeId) (vs : List Value) : Blk (w.alloc (.cells vs.toArray e)) w.heap.size e vs := heap_alloc_new w _
theorem Blk.ofOwn {w : World} {base B n cap : Nat} {e : TypeId} {size : Nat} {xs : List Value} (h : w.ownsRow base e size (.slice (some ⟨B, 0, none⟩) n cap) n xs) : ∃ t : List Value, t.length = (cap - n) * size ∧ Blk w B e (xs ++ t) ∧ n ≤ cap := by
 rcases h.2 with ⟨h, _⟩ | ⟨g', cap', cur, e', _, hh, h1, h2, h3, h4⟩
 ·cases h
 ·injection e' with e1 e2 e3
  injection e1 with e1
  injection e1 with e4
  subst e4
  subst e3
  have ee : cur.toList = xs ++ cur.toList.drop (n * size) := by rw [← h4, List.take_append_drop]
  refine ⟨cur.toList.drop (n * size), by rw [List.length_drop, Array.length_toList, h3, Nat.sub_mul], ?_, h1⟩
  unfold Blk
  rw [← ee, hh]
theorem Blk.reads {w : World} {g : Nat} {e : TypeId} {k : IntKind} {l : List Int} {t : List Value} (h : Blk w g e (nums k l ++ t)) (hm : l.length ≤ 9223372036854775807) : Kd.C (Kd.int k) w (some ⟨g, 0, none⟩) l.length l := by
 refine Kd.C_of_reads (d := (0 : Int)) ⟨rfl, hm, fun _ => ⟨_, rfl, fun j hj => ?_⟩⟩
 have e' : (⟨g, 0, none⟩ : Addr).add j = ⟨g, j, none⟩ := by simp [Addr.add]; try exact fun h => h.symm
 rw [e', h.cell j, List.getElem?_append_left (by rw [nums_length]; exact hj)]
 simp [nums, hj]
end Go.Proofs.YtfmkdledofbhdaaGreat.H
/- Plain: days rolled, rising; a list of one's own as1 a block of numbers. -/
namespace Go.Proofs.YtfmkdledofbhdaaGreat.Du
open Go.RowKit Go.Proofs.YtfmkdledofbhdaaGreatW.PrintWords Go.Proofs.YtfmkdledofbhdaaGreatW.PrintLast Go.Proofs.YtfmkdledofbhdaaGreatW.PrintMore
open Go.Proofs.YtfmkdledofbhdaaGreat.Math Go.Proofs.YtfmkdledofbhdaaGreat.H
set_option linter.unusedVariables false
set_option linter.unusedSimpArgs false
theorem rises_pm (l : List Int) : ∀ p, rises p l = Pm.holsOk p l := by
 induction l with
 | nil => intro p; rfl
 | cons a l ih =>
  intro p
  simp only [rises, Pm.holsOk, ih]
  rw [Bool.eq_iff_iff]
  simp only [Bool.and_eq_true, decide_eq_true_eq]
  constructor
  ·rintro ⟨⟨h1, h2⟩, h3, h4⟩; exact ⟨⟨h1, h2, h3⟩, h4⟩
  ·rintro ⟨⟨h1, h2, h3⟩, h4⟩; exact ⟨⟨h1, h2⟩, h3, h4⟩
def after (pre : List Int) (r : List Int × Int) : List Int × Int := if r.2 = 0 then (pre ++ r.1, 0) else ([], r.2)
theorem after_nil {r : List Int × Int} (h : r.2 ≠ 0 → r.1 = []) : after [] r = r := by
 unfold after
 obtain ⟨a, b⟩ := r
 by_cases e : b = 0
 ·subst e; simp
 ·simp only [] at h; simp [e, h e]
theorem after_after (pre : List Int) (x : Int) (r : List Int × Int) : after pre (after [x] r) = after (pre ++ [x]) r := by
 unfold after
 by_cases e : r.2 = 0
 ·simp [e]
 ·simp [e]
theorem after_err (pre : List Int) {e : Int} (h : e ≠ 0) : after pre ([], e) = ([], e) := by unfold after; simp [h]
def rollAll (hol : List Int) (how : Int) : List Int → List Int × Int
 | [] => ([], 0)
 | d :: r => if (rollS hol d how).2 = 0 then after [(rollS hol d how).1] (rollAll hol how r) else ([], (rollS hol d how).2)
theorem rollAll_err (hol : List Int) (how : Int) (l : List Int) : (rollAll hol how l).2 ≠ 0 → (rollAll hol how l).1 = [] := by
 cases l with
 | nil => intro h; exact absurd rfl h
 | cons d r =>
  rw [rollAll]
  split
  ·unfold after
   split
   ·intro h; exact absurd rfl h
   ·intro; rfl
  ·intro; rfl
theorem rollAll_len (hol : List Int) (how : Int) (l : List Int) : (rollAll hol how l).2 = 0 → (rollAll hol how l).1.length = l.length := by
 induction l with
 | nil => intro; rfl
 | cons d r ih =>
  rw [rollAll]
  split
  ·unfold after
   split
   ·rename_i h; intro; simp [ih h]
   ·rename_i h; intro e; exact absurd e h
  ·rename_i h; intro e; exact absurd e h
def rise : Int → List Int → Bool
 | _, [] => true
 | p, d :: r => decide (p < d) && rise d r
def daysP (p : Pm.Prod) (start : Int) : List Int × Int :=
 if Pm.ok p = true then
  if (datesP start p.every p.times).2 = 0 then
   if (rollAll p.hol p.roll (datesP start p.every p.times).1).2 = 0 then
    if rise start (rollAll p.hol p.roll (datesP start p.every p.times).1).1 = true then ((rollAll p.hol p.roll (datesP start p.every p.times).1).1, 0) else ([], 11)
   else ([], (rollAll p.hol p.roll (datesP start p.every p.times).1).2)
  else ([], (datesP start p.every p.times).2)
 else ([], 9)
def RowI (w : World) (B : Nat) (v : Value) (l : List Int) : Prop :=
 (v = .slice none 0 0 ∧ l = []) ∨ ∃ g c t, v = .slice (some ⟨g, 0, none⟩) l.length c ∧ B ≤ g ∧ l.length ≤ c ∧ H.Blk w g 3 (nums .i64 l ++ t)
theorem reps_nums (k : IntKind) (l : List Int) (inner : List Value) (h : Reps (fun x cs => cs = [Value.int k x]) 1 l inner) : inner = nums k l := by
 obtain ⟨h1, h2⟩ := h
 apply List.ext_getElem?
 intro j
 by_cases hj : j < l.length
 ·have e := h2 j l[j] (List.getElem?_eq_getElem hj)
  have e2 := congrArg (fun x => x[0]?) e
  simp only [Nat.mul_one, List.getElem?_take, List.getElem?_drop, Nat.add_zero] at e2
  simp only [Nat.zero_lt_one, if_true, List.getElem?_cons_zero] at e2
  rw [e2]
  simp [nums, hj]
 ·rw [List.getElem?_eq_none (by omega), List.getElem?_eq_none (by simp [nums]; omega)]
theorem row_of_R {w : World} {B : Nat} {ok : Nat → Prop} {v : Value} {l : List Int} (h : Kd.R (Kd.int .i64) 3 w B ok v l) : RowI w B v l := by
 obtain ⟨-, inner, ho, hr⟩ := h
 obtain rfl := reps_nums .i64 l inner hr
 have ho2 := ho.2
 rcases ho2 with ⟨hv, hn⟩ | ⟨g, cap, cur, hv, hg, hh, r⟩
 ·refine Or.inl ⟨hv, ?_⟩
  cases l with
  | nil => rfl
  | cons a r => simp at hn
 ·subst hv
  obtain ⟨t, -, hb, hc⟩ := H.Blk.ofOwn ho
  exact Or.inr ⟨g, cap, t, rfl, hg, hc, hb⟩
end Go.Proofs.YtfmkdledofbhdaaGreat.Du
/-
 DERIVED: THE SHELF's CONTRACTS AT THIS DUMP, IN PLAIN WORDS (tools/lay-plain.mjs out of 'TryzShelf.lean', which tools/lay-shelf.mjs wrote): THE SAME DECLARATIONS UNDER THE SAME NAMES: 'import', 'namespace', 'open', 'def', 'theorem' AND NOTHING ELSE: no command of the shelf's: FOR A HAND-IN. Each laying: the table of numbers ('.._ren') and one theorem, a field a fact of the dump's own or the kernel's comparison; each contract: ONE APPLICATION.
-/
namespace Go.Proofs
open Go.Shelf
def Tryz.lays134_ren : Go.Shelf.Ren := ⟨fun | 134 => 101 | 129 => 105 | n => n, fun | 53 => 31 | 3 => 3 | 4 => 4 | 46 => 30 | 5 => 5 | 9 => 9 | n => n, fun | n => n⟩
theorem Tryz.lays134 : Go.Proofs.Lays.n134 Tryz.prog Tryz.lays134_ren := {
 mixed := by kernel_rfl
 f129 := Tryz.func105.trans (congrArg some (by kernel_rfl))
 f134 := Tryz.func101.trans (congrArg some (by kernel_rfl))
 t3 := Tryz.underlying3
 a3 := Tryz.isAgg3
 z3 := Tryz.sizeOf3
 v3 := Tryz.zeroValue3
 t4 := Tryz.underlying4
 a4 := Tryz.isAgg4
 z4 := Tryz.sizeOf4
 v4 := Tryz.zeroValue4
 t5 := Tryz.underlying5
 a5 := Tryz.isAgg5
 z5 := Tryz.sizeOf5
 v5 := Tryz.zeroValue5
 t9 := Tryz.underlying9
 a9 := Tryz.isAgg9
 z9 := Tryz.sizeOf9
 v9 := Tryz.zeroValue9
 t46 := Tryz.underlying30
 a46 := Tryz.isAgg30
 z46 := Tryz.sizeOf30
 v46 := Tryz.zeroValue30
 t53 := Tryz.underlying31
 a53 := Tryz.isAgg31
 z53 := Tryz.sizeOf31
 v53 := Tryz.zeroValue31 }
theorem Tryz.bits_LeadingZeros64 (x : Int) (w : World) (h0 : 0 ≤ x) (h1 : x ≤ 18446744073709551615) :
  Calls Tryz.prog 101 #[.int .u64 x] w fun e w' => e = .returned (.int .i64 (64 - (Lib.bitLen x.toNat : Int))) ∧ w' = w := Any.bits_LeadingZeros64 Tryz.lays134 x w h0 h1
def Tryz.lays144_ren : Go.Shelf.Ren := ⟨fun | 144 => 96 | 143 => 102 | 219 => 106 | 217 => 108 | 225 => 109 | 224 => 110 | 267 => 111 | 266 => 112 | 314 => 113 | n => n, fun | 9 => 9 | 4 => 4 | 3 => 3 | 5 => 5 | 46 => 30 | 146 => 152 | 51 => 151 | n => n, fun | 1 => 2 | n => n⟩
theorem Tryz.lays144 : Go.Proofs.Lays.n144 Tryz.prog Tryz.lays144_ren := {
 mixed := by kernel_rfl
 f143 := Tryz.func102.trans (congrArg some (by kernel_rfl))
 f144 := Tryz.func96.trans (congrArg some (by kernel_rfl))
 f217 := Tryz.func108.trans (congrArg some (by kernel_rfl))
 f219 := Tryz.func106.trans (congrArg some (by kernel_rfl))
 f224 := Tryz.func110.trans (congrArg some (by kernel_rfl))
 f225 := Tryz.func109.trans (congrArg some (by kernel_rfl))
 f266 := Tryz.func112.trans (congrArg some (by kernel_rfl))
 f267 := Tryz.func111.trans (congrArg some (by kernel_rfl))
 f314 := Tryz.func113.trans (congrArg some (by kernel_rfl))
 t3 := Tryz.underlying3
 a3 := Tryz.isAgg3
 z3 := Tryz.sizeOf3
 v3 := Tryz.zeroValue3
 t4 := Tryz.underlying4
 a4 := Tryz.isAgg4
 z4 := Tryz.sizeOf4
 v4 := Tryz.zeroValue4
 t5 := Tryz.underlying5
 a5 := Tryz.isAgg5
 z5 := Tryz.sizeOf5
 v5 := Tryz.zeroValue5
 t9 := Tryz.underlying9
 a9 := Tryz.isAgg9
 z9 := Tryz.sizeOf9
 v9 := Tryz.zeroValue9
 t46 := Tryz.underlying30
 a46 := Tryz.isAgg30
 z46 := Tryz.sizeOf30
 v46 := Tryz.zeroValue30
 t51 := Tryz.underlying151
 a51 := Tryz.isAgg151
 z51 := Tryz.sizeOf151
 v51 := Tryz.zeroValue151
 t146 := Tryz.underlying152
 a146 := Tryz.isAgg152
 z146 := Tryz.sizeOf152
 v146 := Tryz.zeroValue152
 g1 := by kernel_rfl }
open Go.RowKit Go.Lib in
theorem Tryz.strings_Contains (s sub : ByteArray) (m : Int) (w : World) (hs : s.size < 4294967281) (hm : w.cell? ⟨2, 0, none⟩ = some (.int .i64 m)) :
  Calls Tryz.prog 96 #[.string s, .string sub] w fun e w' => e = .returned (.bool (Lib.contains s.data.toList sub.data.toList)) ∧ w' = w := Any.strings_Contains Tryz.lays144 s sub m w hs hm
def Tryz.lays264_ren : Go.Shelf.Ren := ⟨fun | 264 => 89 | n => n, fun | 53 => 31 | 46 => 30 | n => n, fun | n => n⟩
theorem Tryz.lays264 : Go.Proofs.Lays.n264 Tryz.prog Tryz.lays264_ren := {
 mixed := by kernel_rfl
 f264 := Tryz.func89.trans (congrArg some (by kernel_rfl))
 t46 := Tryz.underlying30
 a46 := Tryz.isAgg30
 z46 := Tryz.sizeOf30
 v46 := Tryz.zeroValue30
 t53 := Tryz.underlying31
 a53 := Tryz.isAgg31
 z53 := Tryz.sizeOf31
 v53 := Tryz.zeroValue31 }
open Go.RowKit Go.Lib in
theorem Tryz.bits_Mul64 (x y : Nat) (hx : x < 18446744073709551616) (hy : y < 18446744073709551616) (w : World) :
  Calls Tryz.prog 89 #[.int .u64 x, .int .u64 y] w fun e w' => e = .returned (.tuple #[.int .u64 ((x * y / 18446744073709551616 : Nat) : Int), .int .u64 ((x * y % 18446744073709551616 : Nat) : Int)]) ∧ w' = w := Any.bits_Mul64 Tryz.lays264 x y hx hy w
end Go.Proofs
/- Contracts by hand: a name. -/
namespace Go.Proofs.YtfmkdledofbhdaaGreat.Pd
open Go.RowKit Go.Proofs.YtfmkdledofbhdaaGreatW.PrintWords Go.Proofs.YtfmkdledofbhdaaGreatW.PrintLast Go.Proofs.YtfmkdledofbhdaaGreatW.PrintMore Go.Proofs.YtfmkdledofbhdaaGreat.HW
open Pm
set_option linter.unusedVariables false
set_option linter.unusedSimpArgs false
def GV (w : World) : Prop := ∃ m, w.cell? ⟨2, 0, none⟩ = some (.int .i64 m)
theorem GV.lt {w : World} (h : GV w) : 2 < w.heap.size := by
 obtain ⟨m, h⟩ := h
 rcases Nat.lt_or_ge 2 w.heap.size with h1 | h1
 ·exact h1
 ·exfalso
  have e : w.heap[2]? = none := Array.getElem?_eq_none h1
  simp [World.cell?, e] at h
theorem GV.below {w w1 : World} (h : GV w) (hb : Below w.heap.size w w1) : GV w1 := by
 have hl := h.lt
 obtain ⟨m, h⟩ := h
 exact ⟨m, by rw [hb.cell hl]; exact h⟩
theorem bytes_belowP (w : World) (t : ByteArray) : Below w.heap.size w (Lib.bytesWorld w 5 t) := by
 refine ⟨rfl, rfl, rfl, ?_, fun k hk => ?_⟩
 ·rw [Lib.bytesWorld_size]; omega
 ·exact Lib.bytesWorld_at_old _ _ _ k hk
set_option maxRecDepth 100000 in
theorem name_empty (s : ByteArray) (w : World) (h : s.size = 0) : Calls Tryz.prog 79 #[.string s] w fun e w' => e = .returned (.bool false) ∧ w = w' := by
 have h1 : s.size < 1 := by omega
 clear h
 go_enter Tryz.func79, Tryz.ntmps79
 go_wp2_with fail
 go_ret
 exact ⟨rfl, rfl⟩
set_option maxRecDepth 100000 in
theorem name_long (s : ByteArray) (w : World) (h : 20 < s.size) : Calls Tryz.prog 79 #[.string s] w fun e w' => e = .returned (.bool false) ∧ w = w' := by
 go_enter Tryz.func79, Tryz.ntmps79
 go_wp2_with fail
 go_ret
 exact ⟨rfl, rfl⟩
set_option maxRecDepth 100000 in
theorem name_head (s : ByteArray) (w : World) (h0 : 0 < s.size) (h20 : s.size ≤ 20) (hc : (s[0].toNat : Int) < 97 ∨ 122 < (s[0].toNat : Int)) : Calls Tryz.prog 79 #[.string s] w fun e w' => e = .returned (.bool false) ∧ w = w' := by
 have h1 : 1 ≤ s.size := h0
 rcases hc with hc | hc
 ·go_enter Tryz.func79, Tryz.ntmps79
  go_wp2_with fail
  go_ret
  exact ⟨rfl, rfl⟩
 ·have hc2 : 97 ≤ (s[0].toNat : Int) := by omega
  go_enter Tryz.func79, Tryz.ntmps79
  go_wp2_with fail
  go_ret
  exact ⟨rfl, rfl⟩
theorem getD_dropP (l : List UInt8) (k : Nat) (h : k < l.length) : l.drop k = l.getD k 0 :: l.drop (k + 1) := by
 rw [List.drop_eq_getElem_cons h, List.getD_eq_getElem?_getD, List.getElem?_eq_getElem h]; rfl
theorem letter_yes {c : UInt8} (h : letter c = true) : (97 ≤ (c.toNat : Int) ∧ (c.toNat : Int) ≤ 122) ∨ (48 ≤ (c.toNat : Int) ∧ (c.toNat : Int) ≤ 57) ∨ (c.toNat : Int) = 45 := by
 simpa [letter, small, other, Bool.or_eq_true, Bool.and_eq_true] using h
theorem letter_not {c : UInt8} (h : letter c = false) : ¬ ((97 ≤ (c.toNat : Int) ∧ (c.toNat : Int) ≤ 122) ∨ (48 ≤ (c.toNat : Int) ∧ (c.toNat : Int) ≤ 57) ∨ (c.toNat : Int) = 45) := by
 intro h2
 have : letter c = true := by simpa [letter, small, other, Bool.or_eq_true, Bool.and_eq_true] using h2
 rw [h] at this; cases this
theorem all_no {l : List UInt8} (h : l.all letter = true) : (32 : UInt8) ∉ l := by
 intro hm
 exact letter_no _ (List.all_eq_true.1 h _ hm) rfl
theorem words_is (s : ByteArray) (h : s.data.toList.all letter = true) : Lib.contains (joined wordsL) ((⟨#[32]⟩ : ByteArray) ++ s ++ (⟨#[32]⟩ : ByteArray)).data.toList = isWord s.data.toList := by
 have e : ((⟨#[32]⟩ : ByteArray) ++ s ++ (⟨#[32]⟩ : ByteArray)).data.toList = 32 :: (s.data.toList ++ [32]) := by simp
 rw [e]
 exact contains_word _ (all_no h)
theorem contains_is (ws s : ByteArray) {w : World} (hw : ws.data.toList = joined wordsL) (h : s.data.toList.all letter = true) (hg : GV w) :
  Calls Tryz.prog 96 #[.string ws, .string ((⟨#[32]⟩ : ByteArray) ++ s ++ (⟨#[32]⟩ : ByteArray))] w fun e w' => e = .returned (.bool (isWord s.data.toList)) ∧ w = w' := by
 obtain ⟨m, hm⟩ := hg
 have hsz : ws.size < 4294967281 := by
  have : ws.size = ws.data.toList.length := rfl
  rw [this, hw]; decide +kernel
 refine (Tryz.strings_Contains ws _ m w hsz hm).mono ?_
 rintro e w1 ⟨rfl, rfl⟩
 rw [hw, words_is s h]
 exact ⟨rfl, rfl⟩
set_option maxRecDepth 100000 in
set_option maxHeartbeats 1000000 in
theorem name_tail (s : ByteArray) (w : World) (hg : GV w) (h0 : 0 < s.size) (h20 : s.size ≤ 20) (hc0 : 97 ≤ (s[0].toNat : Int)) (hc1 : (s[0].toNat : Int) ≤ 122) : Calls Tryz.prog 79 #[.string s] w fun e w' => e = .returned (.bool (s.data.toList.all letter && !isWord s.data.toList)) ∧ Below w.heap.size w w' := by
 have h1 : 1 ≤ s.size := h0
 have HG := Aside0.mk hg
 have hcv := fun (W : World) (t : ByteArray) => Lib.run_convert_string_bytes (P := Tryz.prog) W 9 141 5 t Tryz.underlying9 Tryz.underlying141 Tryz.underlying5
 have hbel := Aside0.mk (bytes_belowP w s)
 have HC := Aside0.mk (fun j hj => Lib.bytesWorld_cell w 5 s j hj)
 obtain ⟨l, hl⟩ : ∃ l, s.data.toList = l := ⟨_, rfl⟩
 have hlen : l.length = s.size := by rw [← hl]; rfl
 have HL := Aside0.mk hlen
 have HLS := Aside0.mk hl
 obtain ⟨bb, hbb⟩ : ∃ bb, l.all letter = bb := ⟨_, rfl⟩
 have HBB := Aside0.mk hbb
 have hgoal : Aside0 ((s.data.toList.all letter && !isWord s.data.toList) = (bb && !isWord l)) := ⟨by rw [hl, hbb]⟩
 rw [hgoal.out]
 clear hlen hl hbb hg
 go_enter Tryz.func79, Tryz.ntmps79
 go_wp2_with fail
 clear hcv
 generalize hW : Lib.bytesWorld w 5 s = W at *
 clear hW
 go_loop [26] (fun i => ∃ (k : Nat), k ≤ s.size ∧ i = .int .i64 k ∧ Aside0 ((l.drop k).all letter = bb)) (fun i => s.size - (intOf i).toNat)
 case atStart => exact ⟨0, Nat.zero_le _, rfl, ⟨by simpa using HBB.out⟩⟩
 case round =>
  obtain ⟨k, hk, rfl, hd⟩ := hrel
  by_cases hlt : k < s.size
  ·have hc := HC.out k hlt
   rw [HLS.out, List.getD_eq_getElem?_getD] at hc
   have hdr := getD_dropP l k (by rw [HL.out]; exact hlt)
   rw [List.getD_eq_getElem?_getD] at hdr
   have hd2 := hd.out
   rw [hdr, List.all_cons] at hd2
   generalize l[k]?.getD 0 = c at *
   clear hdr hd
   have hb0 : 0 ≤ (c.toNat : Int) := by omega
   have hb1 : (c.toNat : Int) ≤ 255 := by have := c.toNat_lt; omega
   cases hcl : letter c with
   | true =>
    rw [hcl, Bool.true_and] at hd2
    have HD := Aside0.mk hd2
    clear hd2
    rcases letter_yes hcl with ⟨q1, q2⟩ | ⟨q1, q2⟩ | q1
    ·clear hcl
     go_wp2_with fail
     go_round
     case rel => exact ⟨k + 1, by omega, by go_num, HD⟩
     case measure => simp [intOf]; omega
    ·have q3 : (c.toNat : Int) < 97 := by omega
     clear hcl
     go_wp2_with fail
     go_round
     case rel => exact ⟨k + 1, by omega, by go_num, HD⟩
     case measure => simp [intOf]; omega
    ·have q3 : (c.toNat : Int) < 97 := by omega
     have q4 : (c.toNat : Int) < 48 := by omega
     have q5 : ((c.toNat : Int) != 45) = false := by rw [q1]; rfl
     have q6 : ((c.toNat : Int) == 45) = true := by rw [q1]; rfl
     clear hcl q1
     go_wp2_with fail
     go_round
     case rel => exact ⟨k + 1, by omega, by go_num, HD⟩
     case measure => simp [intOf]; omega
   | false =>
    rw [hcl, Bool.false_and] at hd2
    subst hd2
    have hno := letter_not hcl
    have q5 : ((c.toNat : Int) != 45) = true := by simp; omega
    have q6 : ((c.toNat : Int) == 45) = false := by simp; omega
    clear hcl
    rcases (by omega : (c.toNat : Int) < 48 ∨ (57 < (c.toNat : Int) ∧ (c.toNat : Int) < 97) ∨ (57 < (c.toNat : Int) ∧ 97 ≤ (c.toNat : Int) ∧ 122 < (c.toNat : Int))) with r | ⟨r, r2⟩ | ⟨r, r2, r3⟩
    ·have r4 : (c.toNat : Int) < 97 := by omega
     clear hno
     go_wp2_with fail
     go_ret
     exact ⟨rfl, hbel.out⟩
    ·have r4 : 48 ≤ (c.toNat : Int) := by omega
     clear hno
     go_wp2_with fail
     go_ret
     exact ⟨rfl, hbel.out⟩
    ·have r4 : 48 ≤ (c.toNat : Int) := by omega
     clear hno
     go_wp2_with fail
     go_ret
     exact ⟨rfl, hbel.out⟩
  ·have hk2 : k = s.size := by omega
   have hd2 := hd.out
   rw [List.drop_of_length_le (by rw [HL.out]; omega)] at hd2
   obtain rfl : true = bb := hd2
   clear hd
   have HBL := Aside0.mk hbel.out
   have HG2 := Aside0.mk (HG.out.below hbel.out)
   have HAL := Aside0.mk (show s.data.toList.all letter = true by rw [HLS.out]; exact HBB.out)
   have HLS2 := HLS
   go_wp2_with fail
   refine (contains_is _ s rfl HAL.out HG2.out).mono ?_
   rintro e w1 ⟨rfl, rfl⟩
   go_wp2_with fail
   go_ret
   exact ⟨by rw [HLS2.out]; simp, HBL.out⟩
theorem toList_head (s : ByteArray) (h0 : 0 < s.size) : ∃ l, s.data.toList = s[0] :: l := by
 obtain ⟨⟨l⟩⟩ := s
 match l, h0 with
 | c :: l, _ => exact ⟨l, rfl⟩
theorem small_letter {c : UInt8} (h : small c = true) : letter c = true := by unfold letter; rw [h]; rfl
theorem name_any (s : ByteArray) (w : World) (hg : GV w) : Calls Tryz.prog 79 #[.string s] w fun e w' => e = .returned (.bool (nameOk s.data.toList)) ∧ Below w.heap.size w w' := by
 have hsz : s.data.toList.length = s.size := rfl
 by_cases h0 : s.size = 0
 ·refine (name_empty s w h0).mono ?_
  rintro e w1 ⟨rfl, rfl⟩
  refine ⟨?_, Below.refl _ _⟩
  rw [show nameOk s.data.toList = false by unfold nameOk; rw [hsz, h0]; simp]
 ·by_cases h20 : 20 < s.size
  ·refine (name_long s w h20).mono ?_
   rintro e w1 ⟨rfl, rfl⟩
   refine ⟨?_, Below.refl _ _⟩
   rw [show nameOk s.data.toList = false by unfold nameOk; rw [hsz, decide_eq_false (show ¬ s.size ≤ 20 by omega)]; simp]
  ·have hp : 0 < s.size := by omega
   obtain ⟨l, hl⟩ := toList_head s hp
   have e1 : decide (1 ≤ s.data.toList.length) = true := decide_eq_true (by omega)
   have e2 : decide (s.data.toList.length ≤ 20) = true := decide_eq_true (by omega)
   cases hc : small s[0] with
   | true =>
    have hb : 97 ≤ (s[0].toNat : Int) ∧ (s[0].toNat : Int) ≤ 122 := by simpa [small] using hc
    refine (name_tail s w hg hp (by omega) hb.1 hb.2).mono ?_
    rintro e w1 ⟨rfl, hbl⟩
    refine ⟨?_, hbl⟩
    have : nameOk s.data.toList = (s.data.toList.all letter && !isWord s.data.toList) := by
     unfold nameOk
     rw [e1, e2, Bool.and_true, Bool.and_true]
     congr 1
     rw [hl]
     simp only [chars, List.all_cons, hc, small_letter hc]
    rw [this]
   | false =>
    have hb : (s[0].toNat : Int) < 97 ∨ 122 < (s[0].toNat : Int) := by
     have : ¬ (97 ≤ (s[0].toNat : Int) ∧ (s[0].toNat : Int) ≤ 122) := by
      intro h
      have : small s[0] = true := by simpa [small] using h
      rw [hc] at this; cases this
     omega
    refine (name_head s w hp (by omega) hb).mono ?_
    rintro e w1 ⟨rfl, rfl⟩
    refine ⟨?_, Below.refl _ _⟩
    rw [show nameOk s.data.toList = false by unfold nameOk; rw [show chars s.data.toList = false by rw [hl]; simp [chars, hc]]; simp]
end Go.Proofs.YtfmkdledofbhdaaGreat.Pd
/- Contracts by hand: a product's shape is looked at. -/
namespace Go.Proofs.YtfmkdledofbhdaaGreat.Pd
open Go.RowKit Go.Proofs.YtfmkdledofbhdaaGreatW.PrintWords Go.Proofs.YtfmkdledofbhdaaGreatW.PrintLast Go.Proofs.YtfmkdledofbhdaaGreatW.PrintMore Go.Proofs.YtfmkdledofbhdaaGreat.HW
open Pm
set_option linter.unusedVariables false
set_option linter.unusedSimpArgs false
set_option maxRecDepth 100000 in
set_option maxHeartbeats 1000000 in
theorem shape_0 (p : Prod) (A1 : Option Addr) (c1 : Nat) (A2 : Option Addr) (c2 : Nat) (A3 : Option Addr) (c3 : Nat) (w : World) (hg : GV w) (hn : nameOk p.name.data.toList = false) :
  Calls Tryz.prog 59 #[pv p A1 c1 A2 c2 A3 c3] w fun e w' => e = refusedE ∧ Below w.heap.size w w' := by
 have HG := Aside0.mk hg
 have HN := Aside0.mk hn
 clear hg hn
 go_enter Tryz.func59, Tryz.ntmps59
 go_wp2_with (first
  | ((with_reducible refine gate_dst (N := 1) rfl ?_); refine box_event ?hg (N := 1) ?hd (cs := pcs p A1 c1 A2 c2 A3 c3) (t := 110) ?hr ?_; (case hd => rfl); (case hg => rfl); (case hr => first | (go_simp; done) | (go_simp; rfl)); intro g1 hg w1 hb1 hbl1; clear hg)
  | ((with_reducible refine gate_dst (N := 4) rfl ?_); refine wpList_load_row rfl 27 (.tmp 3) rfl g1 rfl 110 _ (0, 0) _ hb1 Tryz.underlying27 rfl info_prod ?_)
  | ((with_reducible refine gate_dst (N := 2) rfl ?_); refine copy_event rfl (N := 2) rfl rfl rfl (t := 27) (v := .tmp 4) rfl (cs := pcs p A1 c1 A2 c2 A3 c3) (zs := pzs) ?hr rfl rfl info_prod ?hz (pcs_one _ _ _ _ _ _ _) ?_; (case hr => first | (go_simp; done) | (go_simp; rfl)); (case hz => rfl); intro g2 hg w2 hb2 hbl2; clear hg; have HB2 := Aside0.mk hb2; have BL2 := Aside0.mk (below_step hbl1 hbl2); clear hb1 hbl1 hbl2; have q0 := (pc_cells hb2).1; clear hb2))
 refine (name_any p.name _ (HG.out.below BL2.out)).mono ?_
 rw [HN.out]
 rintro e w3 ⟨rfl, hb⟩
 have BL := Aside0.mk (below_step BL2.out hb)
 obtain ⟨_, q1, q2, q3, q4, q5, q6, _⟩ := pc_cells (blk_below HB2.out hb)
 clear hb HB2 BL2 q0 HG
 go_wp2_with fail
 refine (must_no _).mono ?_
 rintro e w' ⟨rfl, rfl⟩
 exact ⟨rfl, rfl, BL.out⟩
set_option maxRecDepth 100000 in
set_option maxHeartbeats 1000000 in
theorem shape_1 (p : Prod) (A1 : Option Addr) (c1 : Nat) (A2 : Option Addr) (c2 : Nat) (A3 : Option Addr) (c3 : Nat) (w : World) (hg : GV w) (hn : nameOk p.name.data.toList = true) (ha : decide (1 ≤ p.count ∧ p.count ≤ 3) = false) :
  Calls Tryz.prog 59 #[pv p A1 c1 A2 c2 A3 c3] w fun e w' => e = refusedE ∧ Below w.heap.size w w' := by
 have HG := Aside0.mk hg
 have HN := Aside0.mk hn
 have HA := Aside0.mk ha
 clear hg hn ha
 go_enter Tryz.func59, Tryz.ntmps59
 go_wp2_with (first
  | ((with_reducible refine gate_dst (N := 1) rfl ?_); refine box_event ?hg (N := 1) ?hd (cs := pcs p A1 c1 A2 c2 A3 c3) (t := 110) ?hr ?_; (case hd => rfl); (case hg => rfl); (case hr => first | (go_simp; done) | (go_simp; rfl)); intro g1 hg w1 hb1 hbl1; clear hg)
  | ((with_reducible refine gate_dst (N := 4) rfl ?_); refine wpList_load_row rfl 27 (.tmp 3) rfl g1 rfl 110 _ (0, 0) _ hb1 Tryz.underlying27 rfl info_prod ?_)
  | ((with_reducible refine gate_dst (N := 2) rfl ?_); refine copy_event rfl (N := 2) rfl rfl rfl (t := 27) (v := .tmp 4) rfl (cs := pcs p A1 c1 A2 c2 A3 c3) (zs := pzs) ?hr rfl rfl info_prod ?hz (pcs_one _ _ _ _ _ _ _) ?_; (case hr => first | (go_simp; done) | (go_simp; rfl)); (case hz => rfl); intro g2 hg w2 hb2 hbl2; clear hg; have HB2 := Aside0.mk hb2; have BL2 := Aside0.mk (below_step hbl1 hbl2); clear hb1 hbl1 hbl2; have q0 := (pc_cells hb2).1; clear hb2))
 refine (name_any p.name _ (HG.out.below BL2.out)).mono ?_
 rw [HN.out]
 rintro e w3 ⟨rfl, hb⟩
 have BL := Aside0.mk (below_step BL2.out hb)
 obtain ⟨_, q1, q2, q3, q4, q5, q6, _⟩ := pc_cells (blk_below HB2.out hb)
 clear hb HB2 BL2 q0 HG
 go_wp2_with fail
 refine (within_i_is HA.out _).mono ?_
 rintro e w' ⟨rfl, rfl⟩
 go_wp2_with fail
 refine (must_no _).mono ?_
 rintro e w' ⟨rfl, rfl⟩
 exact ⟨rfl, rfl, BL.out⟩
set_option maxRecDepth 100000 in
set_option maxHeartbeats 1000000 in
theorem shape_2 (p : Prod) (A1 : Option Addr) (c1 : Nat) (A2 : Option Addr) (c2 : Nat) (A3 : Option Addr) (c3 : Nat) (w : World) (hg : GV w) (hn : nameOk p.name.data.toList = true) (ha : decide (1 ≤ p.count ∧ p.count ≤ 3) = true) (r1 : (p.round == 1) = false) (r3 : (p.round == 3) = false) :
  Calls Tryz.prog 59 #[pv p A1 c1 A2 c2 A3 c3] w fun e w' => e = refusedE ∧ Below w.heap.size w w' := by
 have HG := Aside0.mk hg
 have HN := Aside0.mk hn
 have HA := Aside0.mk ha
 clear hg hn ha
 go_enter Tryz.func59, Tryz.ntmps59
 go_wp2_with (first
  | ((with_reducible refine gate_dst (N := 1) rfl ?_); refine box_event ?hg (N := 1) ?hd (cs := pcs p A1 c1 A2 c2 A3 c3) (t := 110) ?hr ?_; (case hd => rfl); (case hg => rfl); (case hr => first | (go_simp; done) | (go_simp; rfl)); intro g1 hg w1 hb1 hbl1; clear hg)
  | ((with_reducible refine gate_dst (N := 4) rfl ?_); refine wpList_load_row rfl 27 (.tmp 3) rfl g1 rfl 110 _ (0, 0) _ hb1 Tryz.underlying27 rfl info_prod ?_)
  | ((with_reducible refine gate_dst (N := 2) rfl ?_); refine copy_event rfl (N := 2) rfl rfl rfl (t := 27) (v := .tmp 4) rfl (cs := pcs p A1 c1 A2 c2 A3 c3) (zs := pzs) ?hr rfl rfl info_prod ?hz (pcs_one _ _ _ _ _ _ _) ?_; (case hr => first | (go_simp; done) | (go_simp; rfl)); (case hz => rfl); intro g2 hg w2 hb2 hbl2; clear hg; have HB2 := Aside0.mk hb2; have BL2 := Aside0.mk (below_step hbl1 hbl2); clear hb1 hbl1 hbl2; have q0 := (pc_cells hb2).1; clear hb2))
 refine (name_any p.name _ (HG.out.below BL2.out)).mono ?_
 rw [HN.out]
 rintro e w3 ⟨rfl, hb⟩
 have BL := Aside0.mk (below_step BL2.out hb)
 obtain ⟨_, q1, q2, q3, q4, q5, q6, _⟩ := pc_cells (blk_below HB2.out hb)
 clear hb HB2 BL2 q0 HG
 go_wp2_with fail
 refine (within_i_is HA.out _).mono ?_
 rintro e w' ⟨rfl, rfl⟩
 go_wp2_with fail
 refine (must_no _).mono ?_
 rintro e w' ⟨rfl, rfl⟩
 exact ⟨rfl, rfl, BL.out⟩
set_option maxRecDepth 100000 in
set_option maxHeartbeats 1000000 in
theorem shape_3 (p : Prod) (A1 : Option Addr) (c1 : Nat) (A2 : Option Addr) (c2 : Nat) (A3 : Option Addr) (c3 : Nat) (w : World) (hg : GV w) (hn : nameOk p.name.data.toList = true) (ha : decide (1 ≤ p.count ∧ p.count ≤ 3) = true) (hr : ((p.round == 1) = true) ∨ ((p.round == 1) = false ∧ (p.round == 3) = true)) (hb : decide (1 ≤ p.kind ∧ p.kind ≤ 3) = false) :
  Calls Tryz.prog 59 #[pv p A1 c1 A2 c2 A3 c3] w fun e w' => e = refusedE ∧ Below w.heap.size w w' := by
 have HG := Aside0.mk hg
 have HN := Aside0.mk hn
 have HA := Aside0.mk ha
 have HB := Aside0.mk hb
 clear hg hn ha hb
 go_enter Tryz.func59, Tryz.ntmps59
 go_wp2_with (first
  | ((with_reducible refine gate_dst (N := 1) rfl ?_); refine box_event ?hg (N := 1) ?hd (cs := pcs p A1 c1 A2 c2 A3 c3) (t := 110) ?hr ?_; (case hd => rfl); (case hg => rfl); (case hr => first | (go_simp; done) | (go_simp; rfl)); intro g1 hg w1 hb1 hbl1; clear hg)
  | ((with_reducible refine gate_dst (N := 4) rfl ?_); refine wpList_load_row rfl 27 (.tmp 3) rfl g1 rfl 110 _ (0, 0) _ hb1 Tryz.underlying27 rfl info_prod ?_)
  | ((with_reducible refine gate_dst (N := 2) rfl ?_); refine copy_event rfl (N := 2) rfl rfl rfl (t := 27) (v := .tmp 4) rfl (cs := pcs p A1 c1 A2 c2 A3 c3) (zs := pzs) ?hr rfl rfl info_prod ?hz (pcs_one _ _ _ _ _ _ _) ?_; (case hr => first | (go_simp; done) | (go_simp; rfl)); (case hz => rfl); intro g2 hg w2 hb2 hbl2; clear hg; have HB2 := Aside0.mk hb2; have BL2 := Aside0.mk (below_step hbl1 hbl2); clear hb1 hbl1 hbl2; have q0 := (pc_cells hb2).1; clear hb2))
 refine (name_any p.name _ (HG.out.below BL2.out)).mono ?_
 rw [HN.out]
 rintro e w3 ⟨rfl, hb⟩
 have BL := Aside0.mk (below_step BL2.out hb)
 obtain ⟨_, q1, q2, q3, q4, q5, q6, _⟩ := pc_cells (blk_below HB2.out hb)
 clear hb HB2 BL2 q0 HG
 go_wp2_with fail
 refine (within_i_is HA.out _).mono ?_
 rintro e w' ⟨rfl, rfl⟩
 rcases hr with r1 | ⟨r1, r3⟩
 all_goals
  go_wp2_with fail
  refine (within_i_is HB.out _).mono ?_
  rintro e w' ⟨rfl, rfl⟩
  go_wp2_with fail
  refine (must_no _).mono ?_
  rintro e w' ⟨rfl, rfl⟩
  exact ⟨rfl, rfl, BL.out⟩
set_option maxRecDepth 100000 in
set_option maxHeartbeats 1000000 in
theorem shape_4 (p : Prod) (A1 : Option Addr) (c1 : Nat) (A2 : Option Addr) (c2 : Nat) (A3 : Option Addr) (c3 : Nat) (w : World) (hg : GV w) (hn : nameOk p.name.data.toList = true) (ha : decide (1 ≤ p.count ∧ p.count ≤ 3) = true) (hr : ((p.round == 1) = true) ∨ ((p.round == 1) = false ∧ (p.round == 3) = true)) (hb : decide (1 ≤ p.kind ∧ p.kind ≤ 3) = true) (e1 : (p.every == 1) = false) (e2 : (p.every == 2) = false) (e3 : (p.every == 3) = false) (e4 : (p.every == 4) = false) (e6 : (p.every == 6) = false) (e12 : (p.every == 12) = false) :
  Calls Tryz.prog 59 #[pv p A1 c1 A2 c2 A3 c3] w fun e w' => e = refusedE ∧ Below w.heap.size w w' := by
 have HG := Aside0.mk hg
 have HN := Aside0.mk hn
 have HA := Aside0.mk ha
 have HB := Aside0.mk hb
 clear hg hn ha hb
 go_enter Tryz.func59, Tryz.ntmps59
 go_wp2_with (first
  | ((with_reducible refine gate_dst (N := 1) rfl ?_); refine box_event ?hg (N := 1) ?hd (cs := pcs p A1 c1 A2 c2 A3 c3) (t := 110) ?hr ?_; (case hd => rfl); (case hg => rfl); (case hr => first | (go_simp; done) | (go_simp; rfl)); intro g1 hg w1 hb1 hbl1; clear hg)
  | ((with_reducible refine gate_dst (N := 4) rfl ?_); refine wpList_load_row rfl 27 (.tmp 3) rfl g1 rfl 110 _ (0, 0) _ hb1 Tryz.underlying27 rfl info_prod ?_)
  | ((with_reducible refine gate_dst (N := 2) rfl ?_); refine copy_event rfl (N := 2) rfl rfl rfl (t := 27) (v := .tmp 4) rfl (cs := pcs p A1 c1 A2 c2 A3 c3) (zs := pzs) ?hr rfl rfl info_prod ?hz (pcs_one _ _ _ _ _ _ _) ?_; (case hr => first | (go_simp; done) | (go_simp; rfl)); (case hz => rfl); intro g2 hg w2 hb2 hbl2; clear hg; have HB2 := Aside0.mk hb2; have BL2 := Aside0.mk (below_step hbl1 hbl2); clear hb1 hbl1 hbl2; have q0 := (pc_cells hb2).1; clear hb2))
 refine (name_any p.name _ (HG.out.below BL2.out)).mono ?_
 rw [HN.out]
 rintro e w3 ⟨rfl, hb⟩
 have BL := Aside0.mk (below_step BL2.out hb)
 obtain ⟨_, q1, q2, q3, q4, q5, q6, _⟩ := pc_cells (blk_below HB2.out hb)
 clear hb HB2 BL2 q0 HG
 go_wp2_with fail
 refine (within_i_is HA.out _).mono ?_
 rintro e w' ⟨rfl, rfl⟩
 rcases hr with r1 | ⟨r1, r3⟩
 all_goals
  go_wp2_with fail
  refine (within_i_is HB.out _).mono ?_
  rintro e w' ⟨rfl, rfl⟩
  go_wp2_with fail
  refine (must_yes _).mono ?_
  rintro e w' ⟨rfl, rfl⟩
  go_wp2_with fail
  refine (must_no _).mono ?_
  rintro e w' ⟨rfl, rfl⟩
  exact ⟨rfl, rfl, BL.out⟩
def Ev (x : Int) : Prop := (x == 1) = true ∨ ((x == 1) = false ∧ (x == 2) = true) ∨ ((x == 1) = false ∧ (x == 2) = false ∧ (x == 3) = true) ∨ ((x == 1) = false ∧ (x == 2) = false ∧ (x == 3) = false ∧ (x == 4) = true) ∨ ((x == 1) = false ∧ (x == 2) = false ∧ (x == 3) = false ∧ (x == 4) = false ∧ (x == 6) = true) ∨ ((x == 1) = false ∧ (x == 2) = false ∧ (x == 3) = false ∧ (x == 4) = false ∧ (x == 6) = false ∧ (x == 12) = true)
theorem ev_of {x : Int} (h : x = 1 ∨ x = 2 ∨ x = 3 ∨ x = 4 ∨ x = 6 ∨ x = 12) : Ev x := by
 unfold Ev
 rcases h with rfl | rfl | rfl | rfl | rfl | rfl <;> decide
set_option maxRecDepth 100000 in
set_option maxHeartbeats 1000000 in
theorem shape_5 (p : Prod) (A1 : Option Addr) (c1 : Nat) (A2 : Option Addr) (c2 : Nat) (A3 : Option Addr) (c3 : Nat) (w : World) (hg : GV w) (hn : nameOk p.name.data.toList = true) (ha : decide (1 ≤ p.count ∧ p.count ≤ 3) = true) (hr : ((p.round == 1) = true) ∨ ((p.round == 1) = false ∧ (p.round == 3) = true)) (hb : decide (1 ≤ p.kind ∧ p.kind ≤ 3) = true) (he : Ev p.every) (hc : decide (1 ≤ p.times ∧ p.times ≤ 600) = false) :
  Calls Tryz.prog 59 #[pv p A1 c1 A2 c2 A3 c3] w fun e w' => e = refusedE ∧ Below w.heap.size w w' := by
 have HG := Aside0.mk hg
 have HN := Aside0.mk hn
 have HA := Aside0.mk ha
 have HB := Aside0.mk hb
 have HC := Aside0.mk hc
 clear hg hn ha hb hc
 go_enter Tryz.func59, Tryz.ntmps59
 go_wp2_with (first
  | ((with_reducible refine gate_dst (N := 1) rfl ?_); refine box_event ?hg (N := 1) ?hd (cs := pcs p A1 c1 A2 c2 A3 c3) (t := 110) ?hr ?_; (case hd => rfl); (case hg => rfl); (case hr => first | (go_simp; done) | (go_simp; rfl)); intro g1 hg w1 hb1 hbl1; clear hg)
  | ((with_reducible refine gate_dst (N := 4) rfl ?_); refine wpList_load_row rfl 27 (.tmp 3) rfl g1 rfl 110 _ (0, 0) _ hb1 Tryz.underlying27 rfl info_prod ?_)
  | ((with_reducible refine gate_dst (N := 2) rfl ?_); refine copy_event rfl (N := 2) rfl rfl rfl (t := 27) (v := .tmp 4) rfl (cs := pcs p A1 c1 A2 c2 A3 c3) (zs := pzs) ?hr rfl rfl info_prod ?hz (pcs_one _ _ _ _ _ _ _) ?_; (case hr => first | (go_simp; done) | (go_simp; rfl)); (case hz => rfl); intro g2 hg w2 hb2 hbl2; clear hg; have HB2 := Aside0.mk hb2; have BL2 := Aside0.mk (below_step hbl1 hbl2); clear hb1 hbl1 hbl2; have q0 := (pc_cells hb2).1; clear hb2))
 refine (name_any p.name _ (HG.out.below BL2.out)).mono ?_
 rw [HN.out]
 rintro e w3 ⟨rfl, hb⟩
 have BL := Aside0.mk (below_step BL2.out hb)
 obtain ⟨_, q1, q2, q3, q4, q5, q6, _⟩ := pc_cells (blk_below HB2.out hb)
 clear hb HB2 BL2 q0 HG
 go_wp2_with fail
 refine (within_i_is HA.out _).mono ?_
 rintro e w' ⟨rfl, rfl⟩
 rcases hr with r1 | ⟨r1, r3⟩
 all_goals
  go_wp2_with fail
  refine (within_i_is HB.out _).mono ?_
  rintro e w' ⟨rfl, rfl⟩
  go_wp2_with fail
  refine (must_yes _).mono ?_
  rintro e w' ⟨rfl, rfl⟩
  rcases he with e1 | ⟨e1, e2⟩ | ⟨e1, e2, e3⟩ | ⟨e1, e2, e3, e4⟩ | ⟨e1, e2, e3, e4, e6⟩ | ⟨e1, e2, e3, e4, e6, e12⟩
  all_goals
   go_wp2_with fail
   refine (must_yes _).mono ?_
   rintro e w' ⟨rfl, rfl⟩
   go_wp2_with fail
   refine (within_i_is HC.out _).mono ?_
   rintro e w' ⟨rfl, rfl⟩
   go_wp2_with fail
   refine (must_no _).mono ?_
   rintro e w' ⟨rfl, rfl⟩
   exact ⟨rfl, rfl, BL.out⟩
set_option maxRecDepth 100000 in
set_option maxHeartbeats 1000000 in
theorem shape_6 (p : Prod) (A1 : Option Addr) (c1 : Nat) (A2 : Option Addr) (c2 : Nat) (A3 : Option Addr) (c3 : Nat) (w : World) (hg : GV w) (hn : nameOk p.name.data.toList = true) (ha : decide (1 ≤ p.count ∧ p.count ≤ 3) = true) (hr : ((p.round == 1) = true) ∨ ((p.round == 1) = false ∧ (p.round == 3) = true)) (hb : decide (1 ≤ p.kind ∧ p.kind ≤ 3) = true) (he : Ev p.every) (hc : decide (1 ≤ p.times ∧ p.times ≤ 600) = true) (t1 : 1 ≤ p.times) (t2 : p.times ≤ 600) (hd : decide (0 ≤ p.grace ∧ p.grace ≤ p.times - 1) = false) :
  Calls Tryz.prog 59 #[pv p A1 c1 A2 c2 A3 c3] w fun e w' => e = refusedE ∧ Below w.heap.size w w' := by
 have HG := Aside0.mk hg
 have HN := Aside0.mk hn
 have HA := Aside0.mk ha
 have HB := Aside0.mk hb
 have HC := Aside0.mk hc
 have HD := Aside0.mk hd
 clear hg hn ha hb hc hd
 go_enter Tryz.func59, Tryz.ntmps59
 go_wp2_with (first
  | ((with_reducible refine gate_dst (N := 1) rfl ?_); refine box_event ?hg (N := 1) ?hd (cs := pcs p A1 c1 A2 c2 A3 c3) (t := 110) ?hr ?_; (case hd => rfl); (case hg => rfl); (case hr => first | (go_simp; done) | (go_simp; rfl)); intro g1 hg w1 hb1 hbl1; clear hg)
  | ((with_reducible refine gate_dst (N := 4) rfl ?_); refine wpList_load_row rfl 27 (.tmp 3) rfl g1 rfl 110 _ (0, 0) _ hb1 Tryz.underlying27 rfl info_prod ?_)
  | ((with_reducible refine gate_dst (N := 2) rfl ?_); refine copy_event rfl (N := 2) rfl rfl rfl (t := 27) (v := .tmp 4) rfl (cs := pcs p A1 c1 A2 c2 A3 c3) (zs := pzs) ?hr rfl rfl info_prod ?hz (pcs_one _ _ _ _ _ _ _) ?_; (case hr => first | (go_simp; done) | (go_simp; rfl)); (case hz => rfl); intro g2 hg w2 hb2 hbl2; clear hg; have HB2 := Aside0.mk hb2; have BL2 := Aside0.mk (below_step hbl1 hbl2); clear hb1 hbl1 hbl2; have q0 := (pc_cells hb2).1; clear hb2))
 refine (name_any p.name _ (HG.out.below BL2.out)).mono ?_
 rw [HN.out]
 rintro e w3 ⟨rfl, hb⟩
 have BL := Aside0.mk (below_step BL2.out hb)
 obtain ⟨_, q1, q2, q3, q4, q5, q6, _⟩ := pc_cells (blk_below HB2.out hb)
 clear hb HB2 BL2 q0 HG
 go_wp2_with fail
 refine (within_i_is HA.out _).mono ?_
 rintro e w' ⟨rfl, rfl⟩
 rcases hr with r1 | ⟨r1, r3⟩
 all_goals
  go_wp2_with fail
  refine (within_i_is HB.out _).mono ?_
  rintro e w' ⟨rfl, rfl⟩
  go_wp2_with fail
  refine (must_yes _).mono ?_
  rintro e w' ⟨rfl, rfl⟩
  rcases he with e1 | ⟨e1, e2⟩ | ⟨e1, e2, e3⟩ | ⟨e1, e2, e3, e4⟩ | ⟨e1, e2, e3, e4, e6⟩ | ⟨e1, e2, e3, e4, e6, e12⟩
  all_goals
   go_wp2_with fail
   refine (must_yes _).mono ?_
   rintro e w' ⟨rfl, rfl⟩
   go_wp2_with fail
   refine (within_i_is HC.out _).mono ?_
   rintro e w' ⟨rfl, rfl⟩
   go_wp2_with fail
   refine (within_i_is HD.out _).mono ?_
   rintro e w' ⟨rfl, rfl⟩
   go_wp2_with fail
   refine (must_no _).mono ?_
   rintro e w' ⟨rfl, rfl⟩
   exact ⟨rfl, rfl, BL.out⟩
set_option maxRecDepth 100000 in
set_option maxHeartbeats 1000000 in
theorem shape_7 (p : Prod) (A1 : Option Addr) (c1 : Nat) (A2 : Option Addr) (c2 : Nat) (A3 : Option Addr) (c3 : Nat) (w : World) (hg : GV w) (hn : nameOk p.name.data.toList = true) (ha : decide (1 ≤ p.count ∧ p.count ≤ 3) = true) (hr : ((p.round == 1) = true) ∨ ((p.round == 1) = false ∧ (p.round == 3) = true)) (hb : decide (1 ≤ p.kind ∧ p.kind ≤ 3) = true) (he : Ev p.every) (hc : decide (1 ≤ p.times ∧ p.times ≤ 600) = true) (t1 : 1 ≤ p.times) (t2 : p.times ≤ 600) (hd : decide (0 ≤ p.grace ∧ p.grace ≤ p.times - 1) = true) (k1 : (p.kind != 3) = false) (g0 : (p.grace == 0) = false) :
  Calls Tryz.prog 59 #[pv p A1 c1 A2 c2 A3 c3] w fun e w' => e = refusedE ∧ Below w.heap.size w w' := by
 have HG := Aside0.mk hg
 have HN := Aside0.mk hn
 have HA := Aside0.mk ha
 have HB := Aside0.mk hb
 have HC := Aside0.mk hc
 have HD := Aside0.mk hd
 clear hg hn ha hb hc hd
 go_enter Tryz.func59, Tryz.ntmps59
 go_wp2_with (first
  | ((with_reducible refine gate_dst (N := 1) rfl ?_); refine box_event ?hg (N := 1) ?hd (cs := pcs p A1 c1 A2 c2 A3 c3) (t := 110) ?hr ?_; (case hd => rfl); (case hg => rfl); (case hr => first | (go_simp; done) | (go_simp; rfl)); intro g1 hg w1 hb1 hbl1; clear hg)
  | ((with_reducible refine gate_dst (N := 4) rfl ?_); refine wpList_load_row rfl 27 (.tmp 3) rfl g1 rfl 110 _ (0, 0) _ hb1 Tryz.underlying27 rfl info_prod ?_)
  | ((with_reducible refine gate_dst (N := 2) rfl ?_); refine copy_event rfl (N := 2) rfl rfl rfl (t := 27) (v := .tmp 4) rfl (cs := pcs p A1 c1 A2 c2 A3 c3) (zs := pzs) ?hr rfl rfl info_prod ?hz (pcs_one _ _ _ _ _ _ _) ?_; (case hr => first | (go_simp; done) | (go_simp; rfl)); (case hz => rfl); intro g2 hg w2 hb2 hbl2; clear hg; have HB2 := Aside0.mk hb2; have BL2 := Aside0.mk (below_step hbl1 hbl2); clear hb1 hbl1 hbl2; have q0 := (pc_cells hb2).1; clear hb2))
 refine (name_any p.name _ (HG.out.below BL2.out)).mono ?_
 rw [HN.out]
 rintro e w3 ⟨rfl, hb⟩
 have BL := Aside0.mk (below_step BL2.out hb)
 obtain ⟨_, q1, q2, q3, q4, q5, q6, _⟩ := pc_cells (blk_below HB2.out hb)
 clear hb HB2 BL2 q0 HG
 go_wp2_with fail
 refine (within_i_is HA.out _).mono ?_
 rintro e w' ⟨rfl, rfl⟩
 rcases hr with r1 | ⟨r1, r3⟩
 all_goals
  go_wp2_with fail
  refine (within_i_is HB.out _).mono ?_
  rintro e w' ⟨rfl, rfl⟩
  go_wp2_with fail
  refine (must_yes _).mono ?_
  rintro e w' ⟨rfl, rfl⟩
  rcases he with e1 | ⟨e1, e2⟩ | ⟨e1, e2, e3⟩ | ⟨e1, e2, e3, e4⟩ | ⟨e1, e2, e3, e4, e6⟩ | ⟨e1, e2, e3, e4, e6, e12⟩
  all_goals
   go_wp2_with fail
   refine (must_yes _).mono ?_
   rintro e w' ⟨rfl, rfl⟩
   go_wp2_with fail
   refine (within_i_is HC.out _).mono ?_
   rintro e w' ⟨rfl, rfl⟩
   go_wp2_with fail
   refine (within_i_is HD.out _).mono ?_
   rintro e w' ⟨rfl, rfl⟩
   go_wp2_with fail
   refine (must_no _).mono ?_
   rintro e w' ⟨rfl, rfl⟩
   exact ⟨rfl, rfl, BL.out⟩
set_option maxRecDepth 100000 in
set_option maxHeartbeats 1000000 in
theorem shape_8 (p : Prod) (A1 : Option Addr) (c1 : Nat) (A2 : Option Addr) (c2 : Nat) (A3 : Option Addr) (c3 : Nat) (w : World) (hg : GV w) (hn : nameOk p.name.data.toList = true) (ha : decide (1 ≤ p.count ∧ p.count ≤ 3) = true) (hr : ((p.round == 1) = true) ∨ ((p.round == 1) = false ∧ (p.round == 3) = true)) (hb : decide (1 ≤ p.kind ∧ p.kind ≤ 3) = true) (he : Ev p.every) (hc : decide (1 ≤ p.times ∧ p.times ≤ 600) = true) (t1 : 1 ≤ p.times) (t2 : p.times ≤ 600) (hd : decide (0 ≤ p.grace ∧ p.grace ≤ p.times - 1) = true) (hk : (p.kind != 3) = true ∨ ((p.kind != 3) = false ∧ (p.grace == 0) = true)) :
  Calls Tryz.prog 59 #[pv p A1 c1 A2 c2 A3 c3] w fun e w' => e = .returned (.tuple #[]) ∧ Below w.heap.size w w' := by
 have HG := Aside0.mk hg
 have HN := Aside0.mk hn
 have HA := Aside0.mk ha
 have HB := Aside0.mk hb
 have HC := Aside0.mk hc
 have HD := Aside0.mk hd
 clear hg hn ha hb hc hd
 go_enter Tryz.func59, Tryz.ntmps59
 go_wp2_with (first
  | ((with_reducible refine gate_dst (N := 1) rfl ?_); refine box_event ?hg (N := 1) ?hd (cs := pcs p A1 c1 A2 c2 A3 c3) (t := 110) ?hr ?_; (case hd => rfl); (case hg => rfl); (case hr => first | (go_simp; done) | (go_simp; rfl)); intro g1 hg w1 hb1 hbl1; clear hg)
  | ((with_reducible refine gate_dst (N := 4) rfl ?_); refine wpList_load_row rfl 27 (.tmp 3) rfl g1 rfl 110 _ (0, 0) _ hb1 Tryz.underlying27 rfl info_prod ?_)
  | ((with_reducible refine gate_dst (N := 2) rfl ?_); refine copy_event rfl (N := 2) rfl rfl rfl (t := 27) (v := .tmp 4) rfl (cs := pcs p A1 c1 A2 c2 A3 c3) (zs := pzs) ?hr rfl rfl info_prod ?hz (pcs_one _ _ _ _ _ _ _) ?_; (case hr => first | (go_simp; done) | (go_simp; rfl)); (case hz => rfl); intro g2 hg w2 hb2 hbl2; clear hg; have HB2 := Aside0.mk hb2; have BL2 := Aside0.mk (below_step hbl1 hbl2); clear hb1 hbl1 hbl2; have q0 := (pc_cells hb2).1; clear hb2))
 refine (name_any p.name _ (HG.out.below BL2.out)).mono ?_
 rw [HN.out]
 rintro e w3 ⟨rfl, hb⟩
 have BL := Aside0.mk (below_step BL2.out hb)
 obtain ⟨_, q1, q2, q3, q4, q5, q6, _⟩ := pc_cells (blk_below HB2.out hb)
 clear hb HB2 BL2 q0 HG
 go_wp2_with fail
 refine (within_i_is HA.out _).mono ?_
 rintro e w' ⟨rfl, rfl⟩
 rcases hr with r1 | ⟨r1, r3⟩
 all_goals
  go_wp2_with fail
  refine (within_i_is HB.out _).mono ?_
  rintro e w' ⟨rfl, rfl⟩
  go_wp2_with fail
  refine (must_yes _).mono ?_
  rintro e w' ⟨rfl, rfl⟩
  rcases he with e1 | ⟨e1, e2⟩ | ⟨e1, e2, e3⟩ | ⟨e1, e2, e3, e4⟩ | ⟨e1, e2, e3, e4, e6⟩ | ⟨e1, e2, e3, e4, e6, e12⟩
  all_goals
   go_wp2_with fail
   refine (must_yes _).mono ?_
   rintro e w' ⟨rfl, rfl⟩
   go_wp2_with fail
   refine (within_i_is HC.out _).mono ?_
   rintro e w' ⟨rfl, rfl⟩
   go_wp2_with fail
   refine (within_i_is HD.out _).mono ?_
   rintro e w' ⟨rfl, rfl⟩
   rcases hk with k1 | ⟨k1, g0⟩
   all_goals
    go_wp2_with fail
    refine (must_yes _).mono ?_
    rintro e w' ⟨rfl, rfl⟩
    go_wp2_with fail
    go_end0
    exact ⟨rfl, BL.out⟩
def LookE (b : Bool) (w : World) (e : Ending) (w' : World) : Prop := (b = true → e = .returned (.tuple #[])) ∧ (b = false → e = refusedE) ∧ Below w.heap.size w w'
theorem LookE.no {w : World} {e : Ending} {w' : World} (h : e = refusedE ∧ Below w.heap.size w w') : LookE false w e w' := ⟨fun h => by (cases h), fun _ => h.1, h.2⟩
theorem LookE.yes {w : World} {e : Ending} {w' : World} (h : e = .returned (.tuple #[]) ∧ Below w.heap.size w w') : LookE true w e w' := ⟨fun _ => h.1, fun h => by (cases h), h.2⟩
theorem beqf {x y : Int} (h : ¬ x = y) : (x == y) = false := by rw [beq_eq_false_iff_ne]; exact h
theorem beqt {x y : Int} (h : x = y) : (x == y) = true := by rw [beq_iff_eq]; exact h
theorem shape_any (p : Prod) (A1 : Option Addr) (c1 : Nat) (A2 : Option Addr) (c2 : Nat) (A3 : Option Addr) (c3 : Nat) (w : World) (hg : GV w) : Calls Tryz.prog 59 #[pv p A1 c1 A2 c2 A3 c3] w (LookE (shapeOk p) w) := by
 cases hn : nameOk p.name.data.toList with
 | false =>
  rw [show shapeOk p = false by unfold shapeOk; rw [hn]; rfl]
  exact (shape_0 p A1 c1 A2 c2 A3 c3 w hg hn).mono fun e w' h => LookE.no h
 | true =>
  unfold shapeOk
  rw [hn, Bool.true_and]
  by_cases ha : 1 ≤ p.count ∧ p.count ≤ 3
  case neg =>
   rw [decide_eq_false (fun h => ha h.1)]
   exact (shape_1 p A1 c1 A2 c2 A3 c3 w hg hn (decide_eq_false ha)).mono fun e w' h => LookE.no h
  by_cases hr : p.round = 1 ∨ p.round = 3
  case neg =>
   rw [decide_eq_false (fun h => hr h.2.1)]
   exact (shape_2 p A1 c1 A2 c2 A3 c3 w hg hn (decide_eq_true ha) (beqf (fun h => hr (Or.inl h))) (beqf (fun h => hr (Or.inr h)))).mono fun e w' h => LookE.no h
  have hr' : ((p.round == 1) = true) ∨ ((p.round == 1) = false ∧ (p.round == 3) = true) := by
   rcases hr with h | h
   ·exact Or.inl (beqt h)
   ·exact Or.inr ⟨beqf (by omega), beqt h⟩
  by_cases hb : 1 ≤ p.kind ∧ p.kind ≤ 3
  case neg =>
   rw [decide_eq_false (fun h => hb h.2.2.1)]
   exact (shape_3 p A1 c1 A2 c2 A3 c3 w hg hn (decide_eq_true ha) hr' (decide_eq_false hb)).mono fun e w' h => LookE.no h
  by_cases he : p.every = 1 ∨ p.every = 2 ∨ p.every = 3 ∨ p.every = 4 ∨ p.every = 6 ∨ p.every = 12
  case neg =>
   rw [decide_eq_false (fun h => he h.2.2.2.1)]
   exact (shape_4 p A1 c1 A2 c2 A3 c3 w hg hn (decide_eq_true ha) hr' (decide_eq_true hb) (beqf (by omega)) (beqf (by omega)) (beqf (by omega)) (beqf (by omega)) (beqf (by omega)) (beqf (by omega))).mono fun e w' h => LookE.no h
  by_cases hc : 1 ≤ p.times ∧ p.times ≤ 600
  case neg =>
   rw [decide_eq_false (fun h => hc h.2.2.2.2.1)]
   exact (shape_5 p A1 c1 A2 c2 A3 c3 w hg hn (decide_eq_true ha) hr' (decide_eq_true hb) (ev_of he) (decide_eq_false hc)).mono fun e w' h => LookE.no h
  by_cases hd : 0 ≤ p.grace ∧ p.grace ≤ p.times - 1
  case neg =>
   rw [decide_eq_false (fun h => hd h.2.2.2.2.2.1)]
   exact (shape_6 p A1 c1 A2 c2 A3 c3 w hg hn (decide_eq_true ha) hr' (decide_eq_true hb) (ev_of he) (decide_eq_true hc) hc.1 hc.2 (decide_eq_false hd)).mono fun e w' h => LookE.no h
  by_cases hk : p.kind = 3 → p.grace = 0
  case neg =>
   rw [decide_eq_false (fun h => hk h.2.2.2.2.2.2)]
   exact (shape_7 p A1 c1 A2 c2 A3 c3 w hg hn (decide_eq_true ha) hr' (decide_eq_true hb) (ev_of he) (decide_eq_true hc) hc.1 hc.2 (decide_eq_true hd) (by simp; omega) (beqf (by omega))).mono fun e w' h => LookE.no h
  rw [decide_eq_true (show _ from ⟨ha, hr, hb, he, hc, hd, hk⟩)]
  refine (shape_8 p A1 c1 A2 c2 A3 c3 w hg hn (decide_eq_true ha) hr' (decide_eq_true hb) (ev_of he) (decide_eq_true hc) hc.1 hc.2 (decide_eq_true hd) ?_).mono fun e w' h => LookE.yes h
  by_cases h3 : p.kind = 3
  ·exact Or.inr ⟨by simp [h3], beqt (hk h3)⟩
  ·exact Or.inl (by simpa using h3)
end Go.Proofs.YtfmkdledofbhdaaGreat.Pd
/- Words by hand: rows of two numbers; a new variable for each round. -/
namespace Go.Proofs.YtfmkdledofbhdaaGreat.Pd
open Go.RowKit Go.Proofs.YtfmkdledofbhdaaGreatW.PrintWords Go.Proofs.YtfmkdledofbhdaaGreatW.PrintLast Go.Proofs.YtfmkdledofbhdaaGreatW.PrintMore Go.Proofs.YtfmkdledofbhdaaGreat.HW
open Pm
set_option linter.unusedVariables false
set_option linter.unusedSimpArgs false
theorem cell_ltR {w : World} {ad : Addr} {v : Value} (h : w.cell? ad = some v) : ad.block < w.heap.size := by
 rcases Nat.lt_or_ge ad.block w.heap.size with h1 | h1
 ·exact h1
 ·exfalso
  have e : w.heap[ad.block]? = none := Array.getElem?_eq_none h1
  simp [World.cell?, e] at h
theorem add_fieldR (ad : Addr) (n j : Nat) (hj : 0 < j) : ad.add (n + j) = ⟨(ad.add n).block, (ad.add n).off + j, none⟩ := by
 simp only [Addr.add]
 rw [if_neg (by omega)]
 split
 ·rename_i h; subst h; simp
 ·simp; omega
theorem two_at {w : World} {A : Option Addr} {rows : List (List Int)} (h : Op.IntRows w A 2 rows) (k : Nat) (hk : k < rows.length) : ∃ ad x y, A = some ad ∧ rows[k]? = some [x, y] ∧ w.cell? (ad.add (k * 2)) = some (.int .i64 x) ∧ w.cell? ⟨(ad.add (k * 2)).block, (ad.add (k * 2)).off + 1, none⟩ = some (.int .i64 y) ∧ (Lit.int .i64 x).wf = true ∧ (Lit.int .i64 y).wf = true := by
 obtain ⟨h1, h2⟩ := h.1 _ (List.getElem_mem hk)
 obtain ⟨ad, e, hc⟩ := h.2 k _ (List.getElem?_eq_getElem hk)
 rw [List.getElem?_eq_getElem hk]
 generalize rows[k] = r at *
 match r, h1 with
 | [x, y], _ => exact ⟨ad, x, y, e, rfl, hc 0 x rfl, by rw [← add_fieldR _ _ _ (by decide)]; exact hc 1 y rfl, h2 x (by simp), h2 y (by simp)⟩
theorem drop_row {rows : List (List Int)} {k : Nat} {r : List Int} (h : rows[k]? = some r) : rows.drop k = r :: rows.drop (k + 1) := by
 obtain ⟨hk, rfl⟩ := List.getElem?_eq_some_iff.1 h
 exact List.drop_eq_getElem_cons hk
section
variable {P : Program} {ops : Array Oper} {rest : List Oper} {a : Act} {Q : Exit → Act → World → Prop}
theorem copy_event3 {W : World} {o1 om o2 : Oper} (hg1 : o1.guard = none) {N : Tmp} (hd1 : o1.dst = some N) (hgm : om.guard = none) (hg2 : o2.guard = none) (hd2 : o2.dst = none) {t : TypeId} {v : Operand} (ho2 : o2.op = .store t (.tmp N) v) {cs zs : Array Value} {vm : Value}
  (hrun : (execOp a.eval o1).run P W = .ok (.value (.pointer (some ⟨W.heap.size, 0, none⟩))) (W.alloc (.cells zs t (0, 0))))
  (hrm : ∀ W', (execOp (a.put o1.dst (.pointer (some ⟨W.heap.size, 0, none⟩))).eval om).run P W' = .ok (.value vm) W')
  (hp : ((a.put o1.dst (.pointer (some ⟨W.heap.size, 0, none⟩))).put om.dst vm).eval (.tmp N) = .pointer (some ⟨W.heap.size, 0, none⟩))
  (hv : ((a.put o1.dst (.pointer (some ⟨W.heap.size, 0, none⟩))).put om.dst vm).eval v = .agg cs)
  (hi : (P.info? t).map (·.size) = some cs.size) (hz : zs.size = cs.size) (h1 : cs.all (·.oneCell') = true)
  (h : ∀ g, g = W.heap.size → ∀ w1, w1.heap[g]? = some (.cells cs t (0, 0)) → Below W.heap.size W w1 → wpList P ops Q rest ((a.put o1.dst (.pointer (some ⟨g, 0, none⟩))).put om.dst vm) w1) : wpList P ops Q (o1 :: om :: o2 :: rest) a W := by
 refine Kd.event_run hg1 hrun ?_
 refine Kd.event_run hgm (hrm _) ?_
 refine wpList_store_row hg2 t (.tmp N) v ho2 W.heap.size cs hp hv t zs (heap_alloc_new W _) hi hz h1 ?_
 rw [hd2, World.setRow_alloc_new]
 exact h _ rfl _ (blk_new W _) (below_alloc (Below.refl _ _) _)
end
theorem within_i0 {v a b : Int} {r : Bool} (h : decide (a ≤ v ∧ v ≤ b) = r) (w : World) : Calls Tryz.prog 80 #[.int .i64 v, .int .i64 a, .int .i64 b] w fun e w' => e = .returned (.bool r) ∧ w' = w := (within_i_is h w).mono fun _ _ h => ⟨h.1, h.2.symm⟩
theorem within_l0 {v a b : Int} {r : Bool} (h : decide (a ≤ v ∧ v ≤ b) = r) (w : World) : Calls Tryz.prog 81 #[.int .i64 v, .int .i64 a, .int .i64 b] w fun e w' => e = .returned (.bool r) ∧ w' = w := (within_l_is h w).mono fun _ _ h => ⟨h.1, h.2.symm⟩
theorem info_reset : (Tryz.prog.info? 105).map (·.size) = some 2 := by kernel_rfl
theorem info_tier : (Tryz.prog.info? 107).map (·.size) = some 2 := by kernel_rfl
theorem two_one (x y : Int) : (#[Value.int .i64 x, Value.int .i64 y]).all (·.oneCell') = true := by simp [Value.oneCell']
theorem wf_bd {x : Int} (h : (Lit.int .i64 x).wf = true) : -9223372036854775808 ≤ x ∧ x ≤ 9223372036854775807 := by
 have h := (Bool.and_eq_true _ _).mp h
 exact ⟨of_decide_eq_true h.1, of_decide_eq_true h.2⟩
def prevOf (d : Int) (j : Nat) (rows : List (List Int)) (k : Nat) : Int := if k = 0 then d else (rows.getD (k - 1) []).getD j 0
theorem prevOf_succ {d : Int} {j : Nat} {rows : List (List Int)} {k : Nat} {r : List Int} (h : rows[k]? = some r) : prevOf d j rows (k + 1) = r.getD j 0 := by
 unfold prevOf
 rw [if_neg (by omega)]
 have e : rows.getD k [] = r := by rw [List.getD_eq_getElem?_getD, h]; rfl
 show (rows.getD k []).getD j 0 = _
 rw [e]
theorem prevOf_pos {d : Int} {j : Nat} {rows : List (List Int)} {k : Nat} (h0 : 0 < k) {r : List Int} (h : rows[k - 1]? = some r) : prevOf d j rows k = r.getD j 0 := by
 unfold prevOf
 have e : rows.getD (k - 1) [] = r := by rw [List.getD_eq_getElem?_getD, h]; rfl
 rw [if_neg (by omega), e]
end Go.Proofs.YtfmkdledofbhdaaGreat.Pd
/- Contracts by hand: a product's rates are looked at. -/
namespace Go.Proofs.YtfmkdledofbhdaaGreat.Pd
open Go.RowKit Go.Proofs.YtfmkdledofbhdaaGreatW.PrintWords Go.Proofs.YtfmkdledofbhdaaGreatW.PrintLast Go.Proofs.YtfmkdledofbhdaaGreatW.PrintMore Go.Proofs.YtfmkdledofbhdaaGreat.HW
open Pm
set_option linter.unusedVariables false
set_option linter.unusedSimpArgs false
set_option maxRecDepth 100000 in
set_option maxHeartbeats 2000000 in
theorem rates_1 (p : Prod) (A1 : Option Addr) (c1 : Nat) (A2 : Option Addr) (c2 : Nat) (A3 : Option Addr) (c3 : Nat) (w : World) (ha : decide (0 ≤ p.rate ∧ p.rate ≤ 1000000000) = false) :
  Calls Tryz.prog 60 #[pv p A1 c1 A2 c2 A3 c3] w (fun e w' => e = refusedE ∧ Below w.heap.size w w') := by
 have HA := Aside0.mk ha
 clear ha
 go_enter Tryz.func60, Tryz.ntmps60
 go_wp2_with (first
  | ((with_reducible refine gate_dst (N := 1) rfl ?_); refine box_event ?hg (N := 1) ?hd (cs := pcs p A1 c1 A2 c2 A3 c3) (t := 110) ?hr ?_; (case hd => rfl); (case hg => rfl); (case hr => first | (go_simp; done) | (go_simp; rfl)); intro g1 hg w1 hb1 hbl1; clear hg)
  | ((with_reducible refine gate_dst (N := 6) rfl ?_); refine wpList_load_row rfl 27 (.tmp 5) rfl g1 rfl 110 _ (0, 0) _ hb1 Tryz.underlying27 rfl info_prod ?_)
  | ((with_reducible refine gate_dst (N := 2) rfl ?_); refine copy_event rfl (N := 2) rfl rfl rfl (t := 27) (v := .tmp 6) rfl (cs := pcs p A1 c1 A2 c2 A3 c3) (zs := pzs) ?hr rfl rfl info_prod ?hz (pcs_one _ _ _ _ _ _ _) ?_; (case hr => first | (go_simp; done) | (go_simp; rfl)); (case hz => rfl); intro g2 hg w2 hb2 hbl2; have g2lt := blk_lt hb2; have g2ge := (show w.heap.size ≤ g2 by rw [hg]; exact hbl1.size); clear hg; have HB2 := Aside0.mk hb2; have BL2 := Aside0.mk (below_step hbl1 hbl2); clear hb1 hbl1 hbl2; have QQ := Aside0.mk (pc_cells hb2); clear hb2; obtain ⟨-, -, -, -, -, q5, -, q7, q8, q9, -⟩ := QQ.out))
 go_wp2_with fail
 refine (within_l_is HA.out _).mono ?_
 rintro e w' ⟨rfl, rfl⟩
 go_wp2_with fail
 refine (must_no _).mono ?_
 rintro e w' ⟨rfl, rfl⟩
 exact ⟨rfl, rfl, BL2.out⟩
set_option maxRecDepth 100000 in
set_option maxHeartbeats 2000000 in
theorem rates_2 (p : Prod) (A1 : Option Addr) (c1 : Nat) (A2 : Option Addr) (c2 : Nat) (A3 : Option Addr) (c3 : Nat) (w : World) (ha : decide (0 ≤ p.rate ∧ p.rate ≤ 1000000000) = true) (hb : decide (0 ≤ p.penalty ∧ p.penalty ≤ 1000000000) = false) :
  Calls Tryz.prog 60 #[pv p A1 c1 A2 c2 A3 c3] w (fun e w' => e = refusedE ∧ Below w.heap.size w w') := by
 have HA := Aside0.mk ha
 have HB := Aside0.mk hb
 clear ha hb
 go_enter Tryz.func60, Tryz.ntmps60
 go_wp2_with (first
  | ((with_reducible refine gate_dst (N := 1) rfl ?_); refine box_event ?hg (N := 1) ?hd (cs := pcs p A1 c1 A2 c2 A3 c3) (t := 110) ?hr ?_; (case hd => rfl); (case hg => rfl); (case hr => first | (go_simp; done) | (go_simp; rfl)); intro g1 hg w1 hb1 hbl1; clear hg)
  | ((with_reducible refine gate_dst (N := 6) rfl ?_); refine wpList_load_row rfl 27 (.tmp 5) rfl g1 rfl 110 _ (0, 0) _ hb1 Tryz.underlying27 rfl info_prod ?_)
  | ((with_reducible refine gate_dst (N := 2) rfl ?_); refine copy_event rfl (N := 2) rfl rfl rfl (t := 27) (v := .tmp 6) rfl (cs := pcs p A1 c1 A2 c2 A3 c3) (zs := pzs) ?hr rfl rfl info_prod ?hz (pcs_one _ _ _ _ _ _ _) ?_; (case hr => first | (go_simp; done) | (go_simp; rfl)); (case hz => rfl); intro g2 hg w2 hb2 hbl2; have g2lt := blk_lt hb2; have g2ge := (show w.heap.size ≤ g2 by rw [hg]; exact hbl1.size); clear hg; have HB2 := Aside0.mk hb2; have BL2 := Aside0.mk (below_step hbl1 hbl2); clear hb1 hbl1 hbl2; have QQ := Aside0.mk (pc_cells hb2); clear hb2; obtain ⟨-, -, -, -, -, q5, -, q7, q8, q9, -⟩ := QQ.out))
 go_wp2_with fail
 refine (within_l_is HA.out _).mono ?_
 rintro e w' ⟨rfl, rfl⟩
 go_wp2_with fail
 refine (within_l_is HB.out _).mono ?_
 rintro e w' ⟨rfl, rfl⟩
 go_wp2_with fail
 refine (must_no _).mono ?_
 rintro e w' ⟨rfl, rfl⟩
 exact ⟨rfl, rfl, BL2.out⟩
set_option maxRecDepth 100000 in
set_option maxHeartbeats 2000000 in
theorem rates_3 (p : Prod) (A1 : Option Addr) (c1 : Nat) (A2 : Option Addr) (c2 : Nat) (A3 : Option Addr) (c3 : Nat) (w : World) (ha : decide (0 ≤ p.rate ∧ p.rate ≤ 1000000000) = true) (hb : decide (0 ≤ p.penalty ∧ p.penalty ≤ 1000000000) = true) (hn : 20 < p.resets.length) (hm : p.resets.length ≤ 1000000) :
  Calls Tryz.prog 60 #[pv p A1 c1 A2 c2 A3 c3] w (fun e w' => e = refusedE ∧ Below w.heap.size w w') := by
 have HA := Aside0.mk ha
 have HB := Aside0.mk hb
 clear ha hb
 go_enter Tryz.func60, Tryz.ntmps60
 go_wp2_with (first
  | ((with_reducible refine gate_dst (N := 1) rfl ?_); refine box_event ?hg (N := 1) ?hd (cs := pcs p A1 c1 A2 c2 A3 c3) (t := 110) ?hr ?_; (case hd => rfl); (case hg => rfl); (case hr => first | (go_simp; done) | (go_simp; rfl)); intro g1 hg w1 hb1 hbl1; clear hg)
  | ((with_reducible refine gate_dst (N := 6) rfl ?_); refine wpList_load_row rfl 27 (.tmp 5) rfl g1 rfl 110 _ (0, 0) _ hb1 Tryz.underlying27 rfl info_prod ?_)
  | ((with_reducible refine gate_dst (N := 2) rfl ?_); refine copy_event rfl (N := 2) rfl rfl rfl (t := 27) (v := .tmp 6) rfl (cs := pcs p A1 c1 A2 c2 A3 c3) (zs := pzs) ?hr rfl rfl info_prod ?hz (pcs_one _ _ _ _ _ _ _) ?_; (case hr => first | (go_simp; done) | (go_simp; rfl)); (case hz => rfl); intro g2 hg w2 hb2 hbl2; have g2lt := blk_lt hb2; have g2ge := (show w.heap.size ≤ g2 by rw [hg]; exact hbl1.size); clear hg; have HB2 := Aside0.mk hb2; have BL2 := Aside0.mk (below_step hbl1 hbl2); clear hb1 hbl1 hbl2; have QQ := Aside0.mk (pc_cells hb2); clear hb2; obtain ⟨-, -, -, -, -, q5, -, q7, q8, q9, -⟩ := QQ.out))
 go_wp2_with fail
 refine (within_l_is HA.out _).mono ?_
 rintro e w' ⟨rfl, rfl⟩
 go_wp2_with fail
 refine (within_l_is HB.out _).mono ?_
 rintro e w' ⟨rfl, rfl⟩
 go_wp2_with fail
 refine (must_no_of (decide_eq_false (by omega)) _).mono ?_
 rintro e w' ⟨rfl, rfl⟩
 exact ⟨rfl, rfl, BL2.out⟩
set_option maxRecDepth 100000 in
set_option maxHeartbeats 2000000 in
theorem rates_4 (p : Prod) (A1 : Option Addr) (c1 : Nat) (A2 : Option Addr) (c2 : Nat) (A3 : Option Addr) (c3 : Nat) (w : World) (ha : decide (0 ≤ p.rate ∧ p.rate ≤ 1000000000) = true) (hb : decide (0 ≤ p.penalty ∧ p.penalty ≤ 1000000000) = true) (hn : p.resets.length ≤ 20) (t1 : 1 ≤ p.times) (t2 : p.times ≤ 600) (hr : Op.IntRows w A1 2 p.resets) (bb : Bool) (hbb : resetsOk p.times 0 p.resets = bb) :
  Calls Tryz.prog 60 #[pv p A1 c1 A2 c2 A3 c3] w (LookE bb w) := by
 have HA := Aside0.mk ha
 have HB := Aside0.mk hb
 have HR := Aside0.mk hr
 have HBB := Aside0.mk hbb
 clear ha hb hr hbb
 go_enter Tryz.func60, Tryz.ntmps60
 go_wp2_with (first
  | ((with_reducible refine gate_dst (N := 1) rfl ?_); refine box_event ?hg (N := 1) ?hd (cs := pcs p A1 c1 A2 c2 A3 c3) (t := 110) ?hr ?_; (case hd => rfl); (case hg => rfl); (case hr => first | (go_simp; done) | (go_simp; rfl)); intro g1 hg w1 hb1 hbl1; clear hg)
  | ((with_reducible refine gate_dst (N := 6) rfl ?_); refine wpList_load_row rfl 27 (.tmp 5) rfl g1 rfl 110 _ (0, 0) _ hb1 Tryz.underlying27 rfl info_prod ?_)
  | ((with_reducible refine gate_dst (N := 2) rfl ?_); refine copy_event rfl (N := 2) rfl rfl rfl (t := 27) (v := .tmp 6) rfl (cs := pcs p A1 c1 A2 c2 A3 c3) (zs := pzs) ?hr rfl rfl info_prod ?hz (pcs_one _ _ _ _ _ _ _) ?_; (case hr => first | (go_simp; done) | (go_simp; rfl)); (case hz => rfl); intro g2 hg w2 hb2 hbl2; have g2lt := blk_lt hb2; have g2ge := (show w.heap.size ≤ g2 by rw [hg]; exact hbl1.size); clear hg; have HB2 := Aside0.mk hb2; have BL2 := Aside0.mk (below_step hbl1 hbl2); clear hb1 hbl1 hbl2; have QQ := Aside0.mk (pc_cells hb2); clear hb2; obtain ⟨-, -, -, -, -, q5, -, q7, q8, q9, -⟩ := QQ.out))
 go_wp2_with fail
 refine (within_l_is HA.out _).mono ?_
 rintro e w' ⟨rfl, rfl⟩
 go_wp2_with fail
 refine (within_l_is HB.out _).mono ?_
 rintro e w' ⟨rfl, rfl⟩
 go_wp2_with fail
 refine (must_yes_of (decide_eq_true (by omega)) _).mono ?_
 rintro e w' ⟨rfl, rfl⟩
 go_wp2_with fail
 go_loopg [25] (p.resets.length + 1) (fun gq i w' => ∃ (k : Nat), k ≤ p.resets.length ∧ i = .int .i64 k ∧ Aside0 (gq = p.resets.length + 1 - k) ∧ Aside0 (resetsOk p.times (prevOf 0 0 p.resets k) (p.resets.drop k) = bb) ∧ Aside0 (Below w.heap.size w w' ∧ Below w2.heap.size w2 w'))
 case atStart => exact ⟨0, Nat.zero_le _, rfl, ⟨rfl⟩, ⟨by rw [← HBB.out]; rfl⟩, ⟨BL2.out, Below.refl _ _⟩⟩
 case round =>
  obtain ⟨k, hk, rfl, hgq, hq, hbl⟩ := hrel
  by_cases hlt : k < p.resets.length
  ·obtain ⟨ad, x, y, e0, hrow, q0', q1', wx, wy⟩ := two_at (HR.out.below hbl.out.1) k hlt
   subst e0
   have hcs := hq.out
   rw [drop_row hrow] at hcs
   simp only [resetsOk] at hcs
   simp only [List.getD_cons_zero, List.getD_cons_succ] at hcs
   have hprev := prevOf_succ (d := 0) (j := 0) hrow
   simp only [List.getD_cons_zero] at hprev
   have HPREV := Aside0.mk hprev
   have adlt := cell_ltR q0'
   obtain ⟨bx0, bx1⟩ := wf_bd wx
   obtain ⟨by0, by1⟩ := wf_bd wy
   have HB3 := Aside0.mk (blk_below HB2.out hbl.out.2)
   have g2l := blk_lt HB3.out
   have kk0 : (0 : Int) ≤ (k : Int) := by omega
   have kk1 : (k : Int) < (p.resets.length : Int) := by omega
   have QP : Aside0 (0 < k → ∃ x' y', p.resets[k - 1]? = some [x', y'] ∧ wr.cell? (ad.add ((k - 1) * 2)) = some (.int .i64 x')) := ⟨fun h0 => by
    obtain ⟨ad', x', y', e', hrow', c', _⟩ := two_at (HR.out.below hbl.out.1) (k - 1) (by omega)
    obtain rfl : ad = ad' := Option.some.inj e'
    exact ⟨x', y', hrow', c'⟩⟩
   clear hq hrow hprev wx wy q5 q7 q8 q9
   go_wp2_with ((with_reducible refine gate_dst (N := 4) rfl ?_); refine copy_event3 rfl (N := 4) rfl rfl rfl rfl (t := 105) (v := .tmp 29) rfl (cs := #[.int .i64 x, .int .i64 y]) (zs := #[.int .i64 0, .int .i64 0]) (vm := .int .i64 k) ?hr ?hrm rfl rfl info_reset ?hz (two_one _ _) ?_; (case hr => first | (go_simp; done) | (go_simp; rfl)); (case hrm => intro W'; first | (go_simp; done) | (go_simp; rfl)); (case hz => rfl); intro g4 hg w4 hb4 hbl4; have g4lt := blk_lt hb4; clear hg)
   go_frame
   have z0 : w4.cell? ⟨g4, 0, none⟩ = some (.int .i64 x) := (blk_cell hb4 0).trans rfl
   have z1 : w4.cell? ⟨g4, 1, none⟩ = some (.int .i64 y) := (blk_cell hb4 1).trans rfl
   have HB5 := Aside0.mk (blk_below HB3.out hbl4)
   obtain ⟨-, -, -, -, -, q5, -, -, q8, -⟩ := pc_cells HB5.out
   have QP4 : Aside0 (0 < k → ∃ x' y', p.resets[k - 1]? = some [x', y'] ∧ w4.cell? (ad.add ((k - 1) * 2)) = some (.int .i64 x')) := ⟨fun h0 => by
    obtain ⟨x', y', h1, h2⟩ := QP.out h0
    exact ⟨x', y', h1, by rw [hbl4.cell (cell_ltR h2)]; exact h2⟩⟩
   have BL4 := Aside0.mk (And.intro (below_step hbl.out.1 hbl4) (below_step hbl.out.2 hbl4))
   clear hb4 hbl4 hbl HB3 QP q0' q1'
   have ew1 : IntKind.i64.wrap (p.times - 1) = p.times - 1 := IntWalk.i64_in _ (by omega)
   by_cases h1 : 1 ≤ x ∧ x ≤ p.times - 1
   ·have H1 := Aside0.mk (decide_eq_true h1)
    by_cases h2 : 0 ≤ y ∧ y ≤ 1000000000
    ·have H2 := Aside0.mk (decide_eq_true h2)
     by_cases h0 : k = 0
     ·have hb2 : resetsOk p.times x (p.resets.drop (k + 1)) = bb := by
       rw [← hcs, decide_eq_true (show 1 ≤ x ∧ x ≤ p.times - 1 ∧ 0 ≤ y ∧ y ≤ 1000000000 ∧ prevOf 0 0 p.resets k < x from ⟨h1.1, h1.2, h2.1, h2.2, by have := h1.1; unfold prevOf; rw [if_pos h0]; omega⟩), Bool.true_and]
      have HB2' := Aside0.mk hb2
      have kz : ((k : Int) == 0) = true := by rw [h0]; rfl
      clear hcs hb2 h1 h2 h0
      go_quiet ((first
       | (go_at_call 80; refine (within_i_is H1.out _).mono ?_; rintro e w' ⟨rfl, rfl⟩; exact ⟨rfl, _, rfl⟩)
       | (go_at_call 81; refine (within_l_is H2.out _).mono ?_; rintro e w' ⟨rfl, rfl⟩; exact ⟨rfl, _, rfl⟩)
       | (go_at_call 78; refine (must_yes _).mono ?_; rintro e w' ⟨rfl, rfl⟩; exact ⟨rfl, _, rfl⟩)))
      go_wp2_with fail
      go_roundg (p.resets.length + 1 - (k + 1))
      case measure => have := hgq.out; omega
      case rel => exact ⟨k + 1, by omega, by simp, ⟨rfl⟩, ⟨by rw [HPREV.out]; exact HB2'.out⟩, ⟨pw_below_drewN BL4.out.1 _, pw_below_drewN BL4.out.2 _⟩⟩
     ·obtain ⟨x', y', hrow', c'⟩ := QP4.out (by omega)
      have hpv := prevOf_pos (d := 0) (j := 0) (Nat.pos_of_ne_zero h0) hrow'
      simp only [List.getD_cons_zero] at hpv
      have kz : ((k : Int) == 0) = false := by rw [beq_eq_false_iff_ne]; omega
      have ew2 : IntKind.i64.wrap ((k : Int) - 1) = (k : Int) - 1 := IntWalk.i64_in _ (by omega)
      have kk2 : (0 : Int) ≤ (k : Int) - 1 := by omega
      have kk3 : (k : Int) - 1 < (p.resets.length : Int) := by omega
      have kk4 : (1 : Int) ≤ (k : Int) := by omega
      have ek : ((k : Int) - 1).toNat = k - 1 := by omega
      by_cases h3 : x' < x
      ·have hb2 : resetsOk p.times x (p.resets.drop (k + 1)) = bb := by
        rw [← hcs, decide_eq_true (show 1 ≤ x ∧ x ≤ p.times - 1 ∧ 0 ≤ y ∧ y ≤ 1000000000 ∧ prevOf 0 0 p.resets k < x from ⟨h1.1, h1.2, h2.1, h2.2, by rw [hpv]; exact h3⟩), Bool.true_and]
       have HB2' := Aside0.mk hb2
       clear hcs hb2 h1 h2 h0 hpv hrow'
       go_quiet ((first
        | (go_at_call 80; refine (within_i_is H1.out _).mono ?_; rintro e w' ⟨rfl, rfl⟩; exact ⟨rfl, _, rfl⟩)
        | (go_at_call 81; refine (within_l_is H2.out _).mono ?_; rintro e w' ⟨rfl, rfl⟩; exact ⟨rfl, _, rfl⟩)
        | (go_at_call 78; refine (must_yes _).mono ?_; rintro e w' ⟨rfl, rfl⟩; exact ⟨rfl, _, rfl⟩)))
       clear ew1 ew2 ek
       go_wp2_with fail
       go_roundg (p.resets.length + 1 - (k + 1))
       case measure => have := hgq.out; omega
       case rel => exact ⟨k + 1, by omega, by simp, ⟨rfl⟩, ⟨by rw [HPREV.out]; exact HB2'.out⟩, ⟨pw_below_drewN BL4.out.1 _, pw_below_drewN BL4.out.2 _⟩⟩
      ·have hbf : bb = false := by
        rw [← hcs, decide_eq_false (fun h => h3 (by have := h.2.2.2.2; rw [hpv] at this; exact this)), Bool.false_and]
       subst hbf
       have h4 : x ≤ x' := by omega
       have h5 : decide (x' < x) = false := decide_eq_false h3
       clear hcs h1 h2 h0 hpv hrow' h3
       refine wp_region_still_tail 27 (by kernel_rfl) (by kernel_rfl) ?_
       simp only [List.take_succ_cons, List.take_zero, List.drop_succ_cons, List.drop_zero]
       iterate 5 ((with_reducible refine wpStill_step (fun K hK => ?_)); go_simp; (try simp only [undef, reduceCtorEq, if_false]); (with_reducible refine hK _ ?_); clear hK K)
       still_call (within_i0 H1.out _)
       iterate 3 ((with_reducible refine wpStill_step (fun K hK => ?_)); go_simp; (try simp only [undef, reduceCtorEq, if_false]); (with_reducible refine hK _ ?_); clear hK K)
       still_call (within_l0 H2.out _)
       iterate 17 ((with_reducible refine wpStill_step (fun K hK => ?_)); go_simp; (try simp only [undef, reduceCtorEq, if_false]); (with_reducible refine hK _ ?_); clear hK K)
       (with_reducible refine wpStill_nil ?_)
       go_wp2_with ((go_at_call 78; refine (must_no _).mono ?_; rintro e w' ⟨rfl, rfl⟩))
       exact ⟨rfl, LookE.no ⟨rfl, BL4.out.1.drew⟩⟩
    ·have hbf : bb = false := by
      rw [← hcs, decide_eq_false (fun h => h2 ⟨h.2.2.1, h.2.2.2.1⟩), Bool.false_and]
     subst hbf
     have H2 := Aside0.mk (decide_eq_false h2)
     clear hcs h1 h2
     refine wp_region_still_tail 27 (by kernel_rfl) (by kernel_rfl) ?_
     simp only [List.take_succ_cons, List.take_zero, List.drop_succ_cons, List.drop_zero]
     iterate 5 ((with_reducible refine wpStill_step (fun K hK => ?_)); go_simp; (try simp only [undef, reduceCtorEq, if_false]); (with_reducible refine hK _ ?_); clear hK K)
     still_call (within_i0 H1.out _)
     iterate 3 ((with_reducible refine wpStill_step (fun K hK => ?_)); go_simp; (try simp only [undef, reduceCtorEq, if_false]); (with_reducible refine hK _ ?_); clear hK K)
     still_call (within_l0 H2.out _)
     iterate 17 ((with_reducible refine wpStill_step (fun K hK => ?_)); go_simp; (try simp only [undef, reduceCtorEq, if_false]); (with_reducible refine hK _ ?_); clear hK K)
     (with_reducible refine wpStill_nil ?_)
     go_wp2_with ((go_at_call 78; refine (must_no _).mono ?_; rintro e w' ⟨rfl, rfl⟩))
     exact ⟨rfl, LookE.no ⟨rfl, BL4.out.1.drew⟩⟩
   ·have hbf : bb = false := by
     rw [← hcs, decide_eq_false (fun h => h1 ⟨h.1, h.2.1⟩), Bool.false_and]
    subst hbf
    have H1 := Aside0.mk (decide_eq_false h1)
    clear hcs h1
    refine wp_region_still_tail 27 (by kernel_rfl) (by kernel_rfl) ?_
    simp only [List.take_succ_cons, List.take_zero, List.drop_succ_cons, List.drop_zero]
    iterate 5 ((with_reducible refine wpStill_step (fun K hK => ?_)); go_simp; (try simp only [undef, reduceCtorEq, if_false]); (with_reducible refine hK _ ?_); clear hK K)
    still_call (within_i0 H1.out _)
    iterate 21 ((with_reducible refine wpStill_step (fun K hK => ?_)); go_simp; (try simp only [undef, reduceCtorEq, if_false]); (with_reducible refine hK _ ?_); clear hK K)
    (with_reducible refine wpStill_nil ?_)
    go_wp2_with ((go_at_call 78; refine (must_no _).mono ?_; rintro e w' ⟨rfl, rfl⟩))
    exact ⟨rfl, LookE.no ⟨rfl, BL4.out.1.drew⟩⟩
  ·have hk2 : k = p.resets.length := by omega
   subst hk2
   have hcs := hq.out
   rw [List.drop_length] at hcs
   obtain rfl : true = bb := hcs
   clear hq
   go_wp2_with fail
   go_end0
   exact LookE.yes ⟨rfl, hbl.out.1⟩
theorem rates_any (p : Prod) (A1 : Option Addr) (c1 : Nat) (A2 : Option Addr) (c2 : Nat) (A3 : Option Addr) (c3 : Nat) (w : World) (t1 : 1 ≤ p.times) (t2 : p.times ≤ 600) (hr : Op.IntRows w A1 2 p.resets) (hm : p.resets.length ≤ 1000000) :
  Calls Tryz.prog 60 #[pv p A1 c1 A2 c2 A3 c3] w (LookE (ratesOk p) w) := by
 unfold ratesOk
 by_cases ha : 0 ≤ p.rate ∧ p.rate ≤ 1000000000
 case neg =>
  rw [decide_eq_false (fun h => ha h.1), Bool.false_and]
  exact (rates_1 p A1 c1 A2 c2 A3 c3 w (decide_eq_false ha)).mono fun e w' h => LookE.no h
 by_cases hb : 0 ≤ p.penalty ∧ p.penalty ≤ 1000000000
 case neg =>
  rw [decide_eq_false (fun h => hb h.2.1), Bool.false_and]
  exact (rates_2 p A1 c1 A2 c2 A3 c3 w (decide_eq_true ha) (decide_eq_false hb)).mono fun e w' h => LookE.no h
 by_cases hn : p.resets.length ≤ 20
 case neg =>
  rw [decide_eq_false (fun h => hn h.2.2), Bool.false_and]
  exact (rates_3 p A1 c1 A2 c2 A3 c3 w (decide_eq_true ha) (decide_eq_true hb) (by omega) hm).mono fun e w' h => LookE.no h
 rw [decide_eq_true (show _ from ⟨ha, hb, hn⟩), Bool.true_and]
 exact rates_4 p A1 c1 A2 c2 A3 c3 w (decide_eq_true ha) (decide_eq_true hb) hn t1 t2 hr _ rfl
end Go.Proofs.YtfmkdledofbhdaaGreat.Pd
/- Contracts by hand: a product's order are looked at. -/
namespace Go.Proofs.YtfmkdledofbhdaaGreat.Pd
open Go.RowKit Go.Proofs.YtfmkdledofbhdaaGreatW.PrintWords Go.Proofs.YtfmkdledofbhdaaGreatW.PrintLast Go.Proofs.YtfmkdledofbhdaaGreatW.PrintMore Go.Proofs.YtfmkdledofbhdaaGreat.HW
open Pm
set_option linter.unusedVariables false
set_option linter.unusedSimpArgs false
abbrev seenC (l : List Int) : Array Value := #[.bool (l.contains 0), .bool (l.contains 1), .bool (l.contains 2), .bool (l.contains 3), .bool (l.contains 4)]
def ordR : List Int → List Int → Bool
 | _, [] => true
 | seen, o :: l => decide (1 ≤ o ∧ o ≤ 4) && (!seen.contains o && ordR (o :: seen) l)
theorem ordR_is (a b c d : Int) : ordR [] [a, b, c, d] = orderOk a b c d := by
 unfold orderOk
 simp only [ordR, List.contains_cons, List.contains_nil, Bool.or_false, Bool.not_false, Bool.true_and, Bool.and_true, Bool.not_or]
 rw [Bool.eq_iff_iff]
 simp only [Bool.and_eq_true, decide_eq_true_eq, Bool.not_eq_true', beq_eq_false_iff_ne]
 constructor
 ·rintro ⟨h1, h2, h3, h4, ⟨h5, h6⟩, h7, ⟨h8, h9, h10⟩⟩
  exact ⟨h1, h2, h4, h7, Ne.symm h3, Ne.symm h6, Ne.symm h10, Ne.symm h5, Ne.symm h9, Ne.symm h8⟩
 ·rintro ⟨h1, h2, h4, h7, h3, h6, h10, h5, h9, h8⟩
  exact ⟨h1, h2, Ne.symm h3, h4, ⟨Ne.symm h5, Ne.symm h6⟩, h7, ⟨Ne.symm h8, Ne.symm h9, Ne.symm h10⟩⟩
theorem index_ord (a b c d : Int) (k : Nat) (hk : k < 4) (w : World) : (Instr.index 23 (.agg #[.int .i64 a, .int .i64 b, .int .i64 c, .int .i64 d]) (.int .i64 k)).run Tryz.prog w = .ok (.int .i64 ([a, b, c, d].getD k 0)) w := by
 rcases (by omega : k = 0 ∨ k = 1 ∨ k = 2 ∨ k = 3) with rfl | rfl | rfl | rfl <;> kernel_rfl
set_option maxRecDepth 100000 in
set_option maxHeartbeats 2000000 in
theorem order_1 (p : Prod) (A1 : Option Addr) (c1 : Nat) (A2 : Option Addr) (c2 : Nat) (A3 : Option Addr) (c3 : Nat) (w : World) (ov : Bool) (bb : Bool) (hbb : ordR [] [p.o1, p.o2, p.o3, p.o4] = bb) (hv : bb = true → Aside0 (decide (1 ≤ p.over ∧ p.over ≤ 3) = ov)) :
  Calls Tryz.prog 61 #[pv p A1 c1 A2 c2 A3 c3] w (LookE (bb && ov) w) := by
 have HBB := Aside0.mk hbb
 have HV := Aside0.mk hv
 clear hbb hv
 go_enter Tryz.func61, Tryz.ntmps61
 go_wp2_with (first
  | ((with_reducible refine gate_dst (N := 1) rfl ?_); refine box_event ?hg (N := 1) ?hd (cs := pcs p A1 c1 A2 c2 A3 c3) (t := 110) ?hr ?_; (case hd => rfl); (case hg => rfl); (case hr => first | (go_simp; done) | (go_simp; rfl)); intro g1 hg w1 hb1 hbl1; clear hg; have HB1 := Aside0.mk hb1; have BL1 := Aside0.mk hbl1; clear hb1 hbl1)
  | ((with_reducible refine gate_dst (N := 2) rfl ?_); refine Hid.out ?_))
 refine Lib.hid ?_
 refine box_event ?hg (N := 2) ?hd (cs := #[.bool false, .bool false, .bool false, .bool false, .bool false]) (t := 132) ?hr ?_
 case hd => rfl
 case hg => rfl
 case hr => first | (go_simp; done) | (go_simp; rfl)
 intro g2 hg w2 hb2 hbl2
 have hg2 := hg; clear hg; have HB2 := Aside0.mk (show w2.heap[g2]? = some (.cells (seenC []) 132 (0, 0)) from hb2); have BL2 := Aside0.mk (below_step BL1.out hbl2); have BL12 := Aside0.mk hbl2; have g2ge : w1.heap.size ≤ g2 := (by omega); have HB3 := Aside0.mk (blk_below HB1.out hbl2); have g1l := blk_lt HB1.out; have g12 : g1 ≠ g2 := (by omega); clear hg2 g1l; obtain ⟨-, -, -, -, -, -, -, -, -, -, q10, q11, q12, q13, -⟩ := pc_cells HB3.out; clear hb2 hbl2
 go_wp2_with fail
 clear q10 q11 q12 q13
 obtain ⟨os, hos⟩ : ∃ os : List Int, [p.o1, p.o2, p.o3, p.o4] = os := ⟨_, rfl⟩
 have hidx0 := index_ord p.o1 p.o2 p.o3 p.o4
 rw [hos] at hidx0
 have hlen : os.length = 4 := by rw [← hos]; rfl
 have HIDX := Aside0.mk hidx0
 have HLEN := Aside0.mk hlen
 have HBO := Aside0.mk (show ordR [] os = bb by rw [← hos]; exact HBB.out)
 clear hidx0 hlen hos HBB
 go_loopg [8] 5 (fun gq i w' => ∃ (k : Nat), k ≤ 4 ∧ i = .int .i64 k ∧ Aside0 (gq = 5 - k) ∧ Aside0 (ordR (os.take k).reverse (os.drop k) = bb) ∧ Aside0 (w'.heap[g2]? = some (.cells (seenC (os.take k).reverse) 132 (0, 0))) ∧ Aside0 (Below w.heap.size w w' ∧ Below w1.heap.size w1 w'))
 case atStart => exact ⟨0, by omega, rfl, ⟨rfl⟩, ⟨by simpa using HBO.out⟩, HB2, ⟨BL2.out, BL12.out⟩⟩
 case round =>
  obtain ⟨k, hk, rfl, hgq, hq, hb, hbl⟩ := hrel
  by_cases hlt : k < 4
  ·have hidx := HIDX.out k hlt
   have hdr : os.drop k = os.getD k 0 :: os.drop (k + 1) := by
    rw [List.drop_eq_getElem_cons (by rw [HLEN.out]; exact hlt), List.getD_eq_getElem?_getD, List.getElem?_eq_getElem (by rw [HLEN.out]; exact hlt)]; rfl
   have htk : (os.take (k + 1)).reverse = os.getD k 0 :: (os.take k).reverse := by
    rw [List.take_succ_eq_append_getElem (by rw [HLEN.out]; exact hlt), List.reverse_append, List.getD_eq_getElem?_getD, List.getElem?_eq_getElem (by rw [HLEN.out]; exact hlt)]; rfl
   have HQ := hq.out
   rw [hdr] at HQ
   simp only [ordR] at HQ
   generalize os.getD k 0 = o at *
   generalize (os.take k).reverse = l at *
   have HTK := Aside0.mk htk
   clear hdr htk hq
   by_cases h1 : 1 ≤ o ∧ o ≤ 4
   ·rw [decide_eq_true h1, Bool.true_and] at HQ
    have H1 := Aside0.mk (decide_eq_true h1)
    have cs0 := fun j => blk_cell hb.out j
    rcases (by omega : o = 1 ∨ o = 2 ∨ o = 3 ∨ o = 4) with rfl | rfl | rfl | rfl
    ·clear h1
     have fz := frozen_of_row wr g2 1 _ _ hb.out
     cases hc : l.contains 1 with
     | true =>
      rw [hc, Bool.not_true, Bool.false_and] at HQ
      subst HQ
      have cj : wr.cell? ⟨g2, 1, none⟩ = some (.bool true) := (blk_cell hb.out 1).trans (by show some (Value.bool (l.contains 1)) = _; rw [hc])
      clear hc cs0
      go_wp2_with (first
       | (go_at_call 80; refine (within_i_is H1.out _).mono ?_; rintro e w' ⟨rfl, rfl⟩)
       | (go_at_call 78; refine (must_no _).mono ?_; rintro e w' ⟨rfl, rfl⟩))
      exact ⟨rfl, LookE.no ⟨rfl, hbl.out.1⟩⟩
     | false =>
      rw [hc, Bool.not_false, Bool.true_and] at HQ
      have cj : wr.cell? ⟨g2, 1, none⟩ = some (.bool false) := (blk_cell hb.out 1).trans (by show some (Value.bool (l.contains 1)) = _; rw [hc])
      have HQ2 := Aside0.mk HQ
      clear hc cs0 HQ
      go_wp2_with (first
       | (go_at_call 80; refine (within_i_is H1.out _).mono ?_; rintro e w' ⟨rfl, rfl⟩)
       | (go_at_call 78; refine (must_yes _).mono ?_; rintro e w' ⟨rfl, rfl⟩))
      go_roundg (5 - (k + 1))
      case measure => have := hgq.out; omega
      case rel => exact ⟨k + 1, by omega, by simp, ⟨rfl⟩, ⟨by rw [HTK.out]; exact HQ2.out⟩, ⟨by rw [heap_setCell_same _ _ _ _ _ _ hb.out, HTK.out]; simp⟩, ⟨hbl.out.1.setCell (by have := BL1.out.size; simp; omega) _, hbl.out.2.setCell (by simp; omega) _⟩⟩
    ·clear h1
     have fz := frozen_of_row wr g2 2 _ _ hb.out
     cases hc : l.contains 2 with
     | true =>
      rw [hc, Bool.not_true, Bool.false_and] at HQ
      subst HQ
      have cj : wr.cell? ⟨g2, 2, none⟩ = some (.bool true) := (blk_cell hb.out 2).trans (by show some (Value.bool (l.contains 2)) = _; rw [hc])
      clear hc cs0
      go_wp2_with (first
       | (go_at_call 80; refine (within_i_is H1.out _).mono ?_; rintro e w' ⟨rfl, rfl⟩)
       | (go_at_call 78; refine (must_no _).mono ?_; rintro e w' ⟨rfl, rfl⟩))
      exact ⟨rfl, LookE.no ⟨rfl, hbl.out.1⟩⟩
     | false =>
      rw [hc, Bool.not_false, Bool.true_and] at HQ
      have cj : wr.cell? ⟨g2, 2, none⟩ = some (.bool false) := (blk_cell hb.out 2).trans (by show some (Value.bool (l.contains 2)) = _; rw [hc])
      have HQ2 := Aside0.mk HQ
      clear hc cs0 HQ
      go_wp2_with (first
       | (go_at_call 80; refine (within_i_is H1.out _).mono ?_; rintro e w' ⟨rfl, rfl⟩)
       | (go_at_call 78; refine (must_yes _).mono ?_; rintro e w' ⟨rfl, rfl⟩))
      go_roundg (5 - (k + 1))
      case measure => have := hgq.out; omega
      case rel => exact ⟨k + 1, by omega, by simp, ⟨rfl⟩, ⟨by rw [HTK.out]; exact HQ2.out⟩, ⟨by rw [heap_setCell_same _ _ _ _ _ _ hb.out, HTK.out]; simp⟩, ⟨hbl.out.1.setCell (by have := BL1.out.size; simp; omega) _, hbl.out.2.setCell (by simp; omega) _⟩⟩
    ·clear h1
     have fz := frozen_of_row wr g2 3 _ _ hb.out
     cases hc : l.contains 3 with
     | true =>
      rw [hc, Bool.not_true, Bool.false_and] at HQ
      subst HQ
      have cj : wr.cell? ⟨g2, 3, none⟩ = some (.bool true) := (blk_cell hb.out 3).trans (by show some (Value.bool (l.contains 3)) = _; rw [hc])
      clear hc cs0
      go_wp2_with (first
       | (go_at_call 80; refine (within_i_is H1.out _).mono ?_; rintro e w' ⟨rfl, rfl⟩)
       | (go_at_call 78; refine (must_no _).mono ?_; rintro e w' ⟨rfl, rfl⟩))
      exact ⟨rfl, LookE.no ⟨rfl, hbl.out.1⟩⟩
     | false =>
      rw [hc, Bool.not_false, Bool.true_and] at HQ
      have cj : wr.cell? ⟨g2, 3, none⟩ = some (.bool false) := (blk_cell hb.out 3).trans (by show some (Value.bool (l.contains 3)) = _; rw [hc])
      have HQ2 := Aside0.mk HQ
      clear hc cs0 HQ
      go_wp2_with (first
       | (go_at_call 80; refine (within_i_is H1.out _).mono ?_; rintro e w' ⟨rfl, rfl⟩)
       | (go_at_call 78; refine (must_yes _).mono ?_; rintro e w' ⟨rfl, rfl⟩))
      go_roundg (5 - (k + 1))
      case measure => have := hgq.out; omega
      case rel => exact ⟨k + 1, by omega, by simp, ⟨rfl⟩, ⟨by rw [HTK.out]; exact HQ2.out⟩, ⟨by rw [heap_setCell_same _ _ _ _ _ _ hb.out, HTK.out]; simp⟩, ⟨hbl.out.1.setCell (by have := BL1.out.size; simp; omega) _, hbl.out.2.setCell (by simp; omega) _⟩⟩
    ·clear h1
     have fz := frozen_of_row wr g2 4 _ _ hb.out
     cases hc : l.contains 4 with
     | true =>
      rw [hc, Bool.not_true, Bool.false_and] at HQ
      subst HQ
      have cj : wr.cell? ⟨g2, 4, none⟩ = some (.bool true) := (blk_cell hb.out 4).trans (by show some (Value.bool (l.contains 4)) = _; rw [hc])
      clear hc cs0
      go_wp2_with (first
       | (go_at_call 80; refine (within_i_is H1.out _).mono ?_; rintro e w' ⟨rfl, rfl⟩)
       | (go_at_call 78; refine (must_no _).mono ?_; rintro e w' ⟨rfl, rfl⟩))
      exact ⟨rfl, LookE.no ⟨rfl, hbl.out.1⟩⟩
     | false =>
      rw [hc, Bool.not_false, Bool.true_and] at HQ
      have cj : wr.cell? ⟨g2, 4, none⟩ = some (.bool false) := (blk_cell hb.out 4).trans (by show some (Value.bool (l.contains 4)) = _; rw [hc])
      have HQ2 := Aside0.mk HQ
      clear hc cs0 HQ
      go_wp2_with (first
       | (go_at_call 80; refine (within_i_is H1.out _).mono ?_; rintro e w' ⟨rfl, rfl⟩)
       | (go_at_call 78; refine (must_yes _).mono ?_; rintro e w' ⟨rfl, rfl⟩))
      go_roundg (5 - (k + 1))
      case measure => have := hgq.out; omega
      case rel => exact ⟨k + 1, by omega, by simp, ⟨rfl⟩, ⟨by rw [HTK.out]; exact HQ2.out⟩, ⟨by rw [heap_setCell_same _ _ _ _ _ _ hb.out, HTK.out]; simp⟩, ⟨hbl.out.1.setCell (by have := BL1.out.size; simp; omega) _, hbl.out.2.setCell (by simp; omega) _⟩⟩
   ·rw [decide_eq_false h1, Bool.false_and] at HQ
    subst HQ
    have H1 := Aside0.mk (decide_eq_false h1)
    clear h1
    go_wp2_with (first
     | (go_at_call 80; refine (within_i_is H1.out _).mono ?_; rintro e w' ⟨rfl, rfl⟩)
     | (go_at_call 78; refine (must_no _).mono ?_; rintro e w' ⟨rfl, rfl⟩))
    exact ⟨rfl, LookE.no ⟨rfl, hbl.out.1⟩⟩
  ·have hk4 : k = 4 := by omega
   subst hk4
   have HQ := hq.out
   rw [List.drop_of_length_le (by rw [HLEN.out]; omega)] at HQ
   obtain rfl : true = bb := HQ
   obtain ⟨-, -, -, -, -, -, -, -, -, -, -, -, -, -, q14, -⟩ := pc_cells (blk_below HB1.out hbl.out.2)
   have H1 := HV.out rfl
   clear hq hb
   cases ov with
   | true =>
    go_wp2_with (first
     | (go_at_call 80; refine (within_i_is H1.out _).mono ?_; rintro e w' ⟨rfl, rfl⟩)
     | (go_at_call 78; refine (must_yes _).mono ?_; rintro e w' ⟨rfl, rfl⟩))
    go_end0
    exact LookE.yes ⟨rfl, hbl.out.1⟩
   | false =>
    go_wp2_with (first
     | (go_at_call 80; refine (within_i_is H1.out _).mono ?_; rintro e w' ⟨rfl, rfl⟩)
     | (go_at_call 78; refine (must_no _).mono ?_; rintro e w' ⟨rfl, rfl⟩))
    exact ⟨rfl, LookE.no ⟨rfl, hbl.out.1⟩⟩
theorem order_any (p : Prod) (A1 : Option Addr) (c1 : Nat) (A2 : Option Addr) (c2 : Nat) (A3 : Option Addr) (c3 : Nat) (w : World) :
  Calls Tryz.prog 61 #[pv p A1 c1 A2 c2 A3 c3] w (LookE (ordOk p) w) := by
 unfold ordOk
 rw [← ordR_is]
 exact order_1 p A1 c1 A2 c2 A3 c3 w _ _ rfl (fun _ => ⟨rfl⟩)
end Go.Proofs.YtfmkdledofbhdaaGreat.Pd
/- Contracts by hand: a product's late fees are looked at. -/
namespace Go.Proofs.YtfmkdledofbhdaaGreat.Pd
open Go.RowKit Go.Proofs.YtfmkdledofbhdaaGreatW.PrintWords Go.Proofs.YtfmkdledofbhdaaGreatW.PrintLast Go.Proofs.YtfmkdledofbhdaaGreatW.PrintMore Go.Proofs.YtfmkdledofbhdaaGreat.HW
open Pm
set_option linter.unusedVariables false
set_option linter.unusedSimpArgs false
set_option maxRecDepth 100000 in
set_option maxHeartbeats 2000000 in
theorem late_1 (p : Prod) (A1 : Option Addr) (c1 : Nat) (A2 : Option Addr) (c2 : Nat) (A3 : Option Addr) (c3 : Nat) (w : World) (q8 : decide ((p.late.length : Int) ≤ 8) = false) :
  Calls Tryz.prog 62 #[pv p A1 c1 A2 c2 A3 c3] w (fun e w' => e = refusedE ∧ Below w.heap.size w w') := by
 go_enter Tryz.func62, Tryz.ntmps62
 go_wp2_with (first
  | ((with_reducible refine gate_dst (N := 1) rfl ?_); refine box_event ?hg (N := 1) ?hd (cs := pcs p A1 c1 A2 c2 A3 c3) (t := 110) ?hr ?_; (case hd => rfl); (case hg => rfl); (case hr => first | (go_simp; done) | (go_simp; rfl)); intro g1 hg w1 hb1 hbl1; clear hg)
  | ((with_reducible refine gate_dst (N := 6) rfl ?_); refine wpList_load_row rfl 27 (.tmp 5) rfl g1 rfl 110 _ (0, 0) _ hb1 Tryz.underlying27 rfl info_prod ?_)
  | ((with_reducible refine gate_dst (N := 2) rfl ?_); refine copy_event rfl (N := 2) rfl rfl rfl (t := 27) (v := .tmp 6) rfl (cs := pcs p A1 c1 A2 c2 A3 c3) (zs := pzs) ?hr rfl rfl info_prod ?hz (pcs_one _ _ _ _ _ _ _) ?_; (case hr => first | (go_simp; done) | (go_simp; rfl)); (case hz => rfl); intro g2 hg w2 hb2 hbl2; have g2lt := blk_lt hb2; have g2ge := (show w.heap.size ≤ g2 by rw [hg]; exact hbl1.size); clear hg; have HB2 := Aside0.mk hb2; have BL2 := Aside0.mk (below_step hbl1 hbl2); clear hb1 hbl1 hbl2; have QQ := Aside0.mk (pc_cells hb2); clear hb2; obtain ⟨-, -, -, -, -, -, -, -, -, -, -, -, -, -, -, q15, q16, -⟩ := QQ.out))
 go_wp2_with fail
 refine (must_no _).mono ?_
 rintro e w' ⟨rfl, rfl⟩
 exact ⟨rfl, rfl, BL2.out⟩
set_option maxRecDepth 100000 in
set_option maxHeartbeats 2000000 in
theorem late_2 (p : Prod) (A1 : Option Addr) (c1 : Nat) (A2 : Option Addr) (c2 : Nat) (A3 : Option Addr) (c3 : Nat) (w : World) (q8 : decide ((p.late.length : Int) ≤ 8) = true) (hn : p.late.length ≤ 8) (ha : decide (0 ≤ p.cap ∧ p.cap ≤ 10000000000000) = false) :
  Calls Tryz.prog 62 #[pv p A1 c1 A2 c2 A3 c3] w (fun e w' => e = refusedE ∧ Below w.heap.size w w') := by
 have HA := Aside0.mk ha
 clear ha
 go_enter Tryz.func62, Tryz.ntmps62
 go_wp2_with (first
  | ((with_reducible refine gate_dst (N := 1) rfl ?_); refine box_event ?hg (N := 1) ?hd (cs := pcs p A1 c1 A2 c2 A3 c3) (t := 110) ?hr ?_; (case hd => rfl); (case hg => rfl); (case hr => first | (go_simp; done) | (go_simp; rfl)); intro g1 hg w1 hb1 hbl1; clear hg)
  | ((with_reducible refine gate_dst (N := 6) rfl ?_); refine wpList_load_row rfl 27 (.tmp 5) rfl g1 rfl 110 _ (0, 0) _ hb1 Tryz.underlying27 rfl info_prod ?_)
  | ((with_reducible refine gate_dst (N := 2) rfl ?_); refine copy_event rfl (N := 2) rfl rfl rfl (t := 27) (v := .tmp 6) rfl (cs := pcs p A1 c1 A2 c2 A3 c3) (zs := pzs) ?hr rfl rfl info_prod ?hz (pcs_one _ _ _ _ _ _ _) ?_; (case hr => first | (go_simp; done) | (go_simp; rfl)); (case hz => rfl); intro g2 hg w2 hb2 hbl2; have g2lt := blk_lt hb2; have g2ge := (show w.heap.size ≤ g2 by rw [hg]; exact hbl1.size); clear hg; have HB2 := Aside0.mk hb2; have BL2 := Aside0.mk (below_step hbl1 hbl2); clear hb1 hbl1 hbl2; have QQ := Aside0.mk (pc_cells hb2); clear hb2; obtain ⟨-, -, -, -, -, -, -, -, -, -, -, -, -, -, -, q15, q16, -⟩ := QQ.out))
 go_wp2_with fail
 refine (within_l_is HA.out _).mono ?_
 rintro e w' ⟨rfl, rfl⟩
 go_wp2_with fail
 refine (must_no _).mono ?_
 rintro e w' ⟨rfl, rfl⟩
 exact ⟨rfl, rfl, BL2.out⟩
set_option maxRecDepth 100000 in
set_option maxHeartbeats 2000000 in
theorem late_3 (p : Prod) (A1 : Option Addr) (c1 : Nat) (A2 : Option Addr) (c2 : Nat) (A3 : Option Addr) (c3 : Nat) (w : World) (q8 : decide ((p.late.length : Int) ≤ 8) = true) (hn : p.late.length ≤ 8) (ha : decide (0 ≤ p.cap ∧ p.cap ≤ 10000000000000) = true) (q0 : p.late.length = 0) (q1 : (p.cap == 0) = false) :
  Calls Tryz.prog 62 #[pv p A1 c1 A2 c2 A3 c3] w (fun e w' => e = refusedE ∧ Below w.heap.size w w') := by
 have HA := Aside0.mk ha
 have HQ0 := Aside0.mk q0
 clear ha q0
 go_enter Tryz.func62, Tryz.ntmps62
 go_wp2_with (first
  | ((with_reducible refine gate_dst (N := 1) rfl ?_); refine box_event ?hg (N := 1) ?hd (cs := pcs p A1 c1 A2 c2 A3 c3) (t := 110) ?hr ?_; (case hd => rfl); (case hg => rfl); (case hr => first | (go_simp; done) | (go_simp; rfl)); intro g1 hg w1 hb1 hbl1; clear hg)
  | ((with_reducible refine gate_dst (N := 6) rfl ?_); refine wpList_load_row rfl 27 (.tmp 5) rfl g1 rfl 110 _ (0, 0) _ hb1 Tryz.underlying27 rfl info_prod ?_)
  | ((with_reducible refine gate_dst (N := 2) rfl ?_); refine copy_event rfl (N := 2) rfl rfl rfl (t := 27) (v := .tmp 6) rfl (cs := pcs p A1 c1 A2 c2 A3 c3) (zs := pzs) ?hr rfl rfl info_prod ?hz (pcs_one _ _ _ _ _ _ _) ?_; (case hr => first | (go_simp; done) | (go_simp; rfl)); (case hz => rfl); intro g2 hg w2 hb2 hbl2; have g2lt := blk_lt hb2; have g2ge := (show w.heap.size ≤ g2 by rw [hg]; exact hbl1.size); clear hg; have HB2 := Aside0.mk hb2; have BL2 := Aside0.mk (below_step hbl1 hbl2); clear hb1 hbl1 hbl2; have QQ := Aside0.mk (pc_cells hb2); clear hb2; obtain ⟨-, -, -, -, -, -, -, -, -, -, -, -, -, -, -, q15, q16, -⟩ := QQ.out))
 go_wp2_with fail
 refine (within_l_is HA.out _).mono ?_
 rintro e w' ⟨rfl, rfl⟩
 have q0 := HQ0.out
 go_wp2_with fail
 refine (must_no _).mono ?_
 rintro e w' ⟨rfl, rfl⟩
 exact ⟨rfl, rfl, BL2.out⟩
set_option maxRecDepth 100000 in
set_option maxHeartbeats 2000000 in
theorem late_4 (p : Prod) (A1 : Option Addr) (c1 : Nat) (A2 : Option Addr) (c2 : Nat) (A3 : Option Addr) (c3 : Nat) (w : World) (q8 : decide ((p.late.length : Int) ≤ 8) = true) (hn : p.late.length ≤ 8) (ha : decide (0 ≤ p.cap ∧ p.cap ≤ 10000000000000) = true) (q0 : 0 < p.late.length) (hr : Op.IntRows w A2 2 p.late) (bb : Bool) (hbb : tiersOk 0 0 p.late = bb) :
  Calls Tryz.prog 62 #[pv p A1 c1 A2 c2 A3 c3] w (LookE bb w) := by
 have HA := Aside0.mk ha
 have HR := Aside0.mk hr
 have HBB := Aside0.mk hbb
 clear ha hr hbb
 go_enter Tryz.func62, Tryz.ntmps62
 go_wp2_with (first
  | ((with_reducible refine gate_dst (N := 1) rfl ?_); refine box_event ?hg (N := 1) ?hd (cs := pcs p A1 c1 A2 c2 A3 c3) (t := 110) ?hr ?_; (case hd => rfl); (case hg => rfl); (case hr => first | (go_simp; done) | (go_simp; rfl)); intro g1 hg w1 hb1 hbl1; clear hg)
  | ((with_reducible refine gate_dst (N := 6) rfl ?_); refine wpList_load_row rfl 27 (.tmp 5) rfl g1 rfl 110 _ (0, 0) _ hb1 Tryz.underlying27 rfl info_prod ?_)
  | ((with_reducible refine gate_dst (N := 2) rfl ?_); refine copy_event rfl (N := 2) rfl rfl rfl (t := 27) (v := .tmp 6) rfl (cs := pcs p A1 c1 A2 c2 A3 c3) (zs := pzs) ?hr rfl rfl info_prod ?hz (pcs_one _ _ _ _ _ _ _) ?_; (case hr => first | (go_simp; done) | (go_simp; rfl)); (case hz => rfl); intro g2 hg w2 hb2 hbl2; have g2lt := blk_lt hb2; have g2ge := (show w.heap.size ≤ g2 by rw [hg]; exact hbl1.size); clear hg; have HB2 := Aside0.mk hb2; have BL2 := Aside0.mk (below_step hbl1 hbl2); clear hb1 hbl1 hbl2; have QQ := Aside0.mk (pc_cells hb2); clear hb2; obtain ⟨-, -, -, -, -, -, -, -, -, -, -, -, -, -, -, q15, q16, -⟩ := QQ.out))
 go_wp2_with fail
 refine (within_l_is HA.out _).mono ?_
 rintro e w' ⟨rfl, rfl⟩
 all_goals
  go_wp2_with fail
  refine (must_yes _).mono ?_
  rintro e w' ⟨rfl, rfl⟩
  go_wp2_with fail
  go_loopg [31] (p.late.length + 1) (fun gq i w' => ∃ (k : Nat), k ≤ p.late.length ∧ i = .int .i64 k ∧ Aside0 (gq = p.late.length + 1 - k) ∧ Aside0 (tiersOk (prevOf 0 0 p.late k) (prevOf 0 1 p.late k) (p.late.drop k) = bb) ∧ Aside0 (Below w.heap.size w w' ∧ Below w2.heap.size w2 w'))
  case atStart => exact ⟨0, Nat.zero_le _, rfl, ⟨rfl⟩, ⟨by rw [← HBB.out]; rfl⟩, ⟨BL2.out, Below.refl _ _⟩⟩
  case round =>
   obtain ⟨k, hk, rfl, hgq, hq, hbl⟩ := hrel
   by_cases hlt : k < p.late.length
   ·obtain ⟨ad, x, y, e0, hrow, q0', q1', wx, wy⟩ := two_at (HR.out.below hbl.out.1) k hlt
    subst e0
    have hcs := hq.out
    rw [drop_row hrow] at hcs
    simp only [tiersOk] at hcs
    simp only [List.getD_cons_zero, List.getD_cons_succ] at hcs
    have hprev := prevOf_succ (d := 0) (j := 0) hrow
    have hprev1 := prevOf_succ (d := 0) (j := 1) hrow
    simp only [List.getD_cons_zero, List.getD_cons_succ] at hprev hprev1
    have HPREV := Aside0.mk hprev
    have HPREV1 := Aside0.mk hprev1
    have adlt := cell_ltR q0'
    obtain ⟨bx0, bx1⟩ := wf_bd wx
    obtain ⟨by0, by1⟩ := wf_bd wy
    have HB3 := Aside0.mk (blk_below HB2.out hbl.out.2)
    have g2l := blk_lt HB3.out
    have kk0 : (0 : Int) ≤ (k : Int) := by omega
    have kk1 : (k : Int) < (p.late.length : Int) := by omega
    have QP : Aside0 (0 < k → ∃ x' y', p.late[k - 1]? = some [x', y'] ∧ wr.cell? (ad.add ((k - 1) * 2)) = some (.int .i64 x') ∧ wr.cell? ⟨(ad.add ((k - 1) * 2)).block, (ad.add ((k - 1) * 2)).off + 1, none⟩ = some (.int .i64 y')) := ⟨fun h0 => by
     obtain ⟨ad', x', y', e', hrow', c', d', _⟩ := two_at (HR.out.below hbl.out.1) (k - 1) (by omega)
     obtain rfl : ad = ad' := Option.some.inj e'
     exact ⟨x', y', hrow', c', d'⟩⟩
    clear hq hrow hprev hprev1 wx wy q15 q16
    by_cases h1 : 1 ≤ x ∧ x ≤ 365
    ·have H1 := Aside0.mk (decide_eq_true h1)
     by_cases h2 : 0 ≤ y ∧ y ≤ 10000000000000
     ·have H2 := Aside0.mk (decide_eq_true h2)
      go_wp2_with (first
       | ((with_reducible refine gate_dst (N := 4) rfl ?_); refine copy_event3 rfl (N := 4) rfl rfl rfl rfl (t := 107) (v := .tmp 35) rfl (cs := #[.int .i64 x, .int .i64 y]) (zs := #[.int .i64 0, .int .i64 0]) (vm := .int .i64 k) ?hr ?hrm rfl rfl info_tier ?hz (two_one _ _) ?_; (case hr => first | (go_simp; done) | (go_simp; rfl)); (case hrm => intro W'; first | (go_simp; done) | (go_simp; rfl)); (case hz => rfl); intro g4 hg w4 hb4 hbl4; have g4lt := blk_lt hb4; clear hg; have z0 : w4.cell? ⟨g4, 0, none⟩ = some (.int .i64 x) := (blk_cell hb4 0).trans rfl; have z1 : w4.cell? ⟨g4, 1, none⟩ = some (.int .i64 y) := (blk_cell hb4 1).trans rfl; have HB5 := Aside0.mk (blk_below HB3.out hbl4); have BL4 := Aside0.mk (And.intro (below_step hbl.out.1 hbl4) (below_step hbl.out.2 hbl4)); have HBL4 := Aside0.mk hbl4; clear hb4 hbl4)
       | (go_at_call 80; refine (within_i_is H1.out _).mono ?_; rintro e w' ⟨rfl, rfl⟩)
       | (go_at_call 81; refine (within_l_is H2.out _).mono ?_; rintro e w' ⟨rfl, rfl⟩)
       | (go_at_call 78; refine (must_yes _).mono ?_; rintro e w' ⟨rfl, rfl⟩))
      obtain ⟨-, -, -, -, -, -, -, -, -, -, -, -, -, -, -, q15, -⟩ := pc_cells HB5.out
      by_cases h0 : k = 0
      ·have hb2 : tiersOk x y (p.late.drop (k + 1)) = bb := by
        rw [← hcs, decide_eq_true (show 1 ≤ x ∧ x ≤ 365 ∧ 0 ≤ y ∧ y ≤ 10000000000000 ∧ prevOf 0 0 p.late k < x ∧ prevOf 0 1 p.late k ≤ y from ⟨h1.1, h1.2, h2.1, h2.2, by have := h1.1; unfold prevOf; rw [if_pos h0]; omega, by have := h2.1; unfold prevOf; rw [if_pos h0]; omega⟩), Bool.true_and]
       have HB2' := Aside0.mk hb2
       have kz : ((k : Int) == 0) = true := by rw [h0]; rfl
       clear hcs hb2 h1 h2 h0
       go_quiet ((go_at_call 78; refine (must_yes _).mono ?_; rintro e w' ⟨rfl, rfl⟩; exact ⟨rfl, _, rfl⟩))
       go_wp2_with fail
       go_roundg (p.late.length + 1 - (k + 1))
       case measure => have := hgq.out; omega
       case rel => exact ⟨k + 1, by omega, by simp, ⟨rfl⟩, ⟨by rw [HPREV.out, HPREV1.out]; exact HB2'.out⟩, ⟨pw_below_drewN BL4.out.1 _, pw_below_drewN BL4.out.2 _⟩⟩
      ·obtain ⟨x', y', hrow', c0', d0'⟩ := QP.out (by omega)
       have c' : w4.cell? (ad.add ((k - 1) * 2)) = some (.int .i64 x') := by rw [HBL4.out.cell (cell_ltR c0')]; exact c0'
       have d' : w4.cell? ⟨(ad.add ((k - 1) * 2)).block, (ad.add ((k - 1) * 2)).off + 1, none⟩ = some (.int .i64 y') := by rw [HBL4.out.cell (cell_ltR d0')]; exact d0'
       have hpv := prevOf_pos (d := 0) (j := 0) (Nat.pos_of_ne_zero h0) hrow'
       have hpw := prevOf_pos (d := 0) (j := 1) (Nat.pos_of_ne_zero h0) hrow'
       simp only [List.getD_cons_zero, List.getD_cons_succ] at hpv hpw
       have kz : ((k : Int) == 0) = false := by rw [beq_eq_false_iff_ne]; omega
       have ew2 : IntKind.i64.wrap ((k : Int) - 1) = (k : Int) - 1 := IntWalk.i64_in _ (by omega)
       have kk2 : (0 : Int) ≤ (k : Int) - 1 := by omega
       have kk3 : (k : Int) - 1 < (p.late.length : Int) := by omega
       have kk4 : (1 : Int) ≤ (k : Int) := by omega
       have ek : ((k : Int) - 1).toNat = k - 1 := by omega
       clear c0' d0'
       by_cases h3 : x' < x
       ·have h3d : decide (x' < x) = true := decide_eq_true h3
        by_cases h4 : y' ≤ y
        ·have h4d : decide (y' ≤ y) = true := decide_eq_true h4
         have hb2 : tiersOk x y (p.late.drop (k + 1)) = bb := by
          rw [← hcs, decide_eq_true (show 1 ≤ x ∧ x ≤ 365 ∧ 0 ≤ y ∧ y ≤ 10000000000000 ∧ prevOf 0 0 p.late k < x ∧ prevOf 0 1 p.late k ≤ y from ⟨h1.1, h1.2, h2.1, h2.2, by rw [hpv]; exact h3, by rw [hpw]; exact h4⟩), Bool.true_and]
         have HB2' := Aside0.mk hb2
         clear hcs hb2 h1 h2 h0 hpv hpw hrow'
         go_quiet ((go_at_call 78; refine (must_yes _).mono ?_; rintro e w' ⟨rfl, rfl⟩; exact ⟨rfl, _, rfl⟩))
         clear ew2 ek
         go_wp2_with fail
         go_roundg (p.late.length + 1 - (k + 1))
         case measure => have := hgq.out; omega
         case rel => exact ⟨k + 1, by omega, by simp, ⟨rfl⟩, ⟨by rw [HPREV.out, HPREV1.out]; exact HB2'.out⟩, ⟨pw_below_drewN BL4.out.1 _, pw_below_drewN BL4.out.2 _⟩⟩
        ·have h4d : decide (y' ≤ y) = false := decide_eq_false h4
         have hbf : bb = false := by
          rw [← hcs, decide_eq_false (fun h => h4 (by have := h.2.2.2.2.2; rw [hpw] at this; exact this)), Bool.false_and]
         subst hbf
         have h5 : y < y' := by omega
         clear hcs h1 h2 h0 hpv hpw hrow' h4
         refine wp_region_still_tail 26 (by kernel_rfl) (by kernel_rfl) ?_
         simp only [List.take_succ_cons, List.take_zero, List.drop_succ_cons, List.drop_zero]
         iterate 26 ((with_reducible refine wpStill_step (fun K hK => ?_)); go_simp; (try simp only [undef, reduceCtorEq, if_false]); (with_reducible refine hK _ ?_); clear hK K)
         (with_reducible refine wpStill_nil ?_)
         go_wp2_with ((go_at_call 78; refine (must_no _).mono ?_; rintro e w' ⟨rfl, rfl⟩))
         exact ⟨rfl, LookE.no ⟨rfl, BL4.out.1.drew⟩⟩
       ·have h3d : decide (x' < x) = false := decide_eq_false h3
        have hbf : bb = false := by
         rw [← hcs, decide_eq_false (fun h => h3 (by have := h.2.2.2.2.1; rw [hpv] at this; exact this)), Bool.false_and]
        subst hbf
        have h5 : x ≤ x' := by omega
        clear hcs h1 h2 h0 hpv hpw hrow' h3
        refine wp_region_still_tail 26 (by kernel_rfl) (by kernel_rfl) ?_
        simp only [List.take_succ_cons, List.take_zero, List.drop_succ_cons, List.drop_zero]
        iterate 26 ((with_reducible refine wpStill_step (fun K hK => ?_)); go_simp; (try simp only [undef, reduceCtorEq, if_false]); (with_reducible refine hK _ ?_); clear hK K)
        (with_reducible refine wpStill_nil ?_)
        go_wp2_with ((go_at_call 78; refine (must_no _).mono ?_; rintro e w' ⟨rfl, rfl⟩))
        exact ⟨rfl, LookE.no ⟨rfl, BL4.out.1.drew⟩⟩
     ·have hbf : bb = false := by
       rw [← hcs, decide_eq_false (fun h => h2 ⟨h.2.2.1, h.2.2.2.1⟩), Bool.false_and]
      subst hbf
      have H2 := Aside0.mk (decide_eq_false h2)
      clear hcs h1 h2
      go_wp2_with (first
       | ((with_reducible refine gate_dst (N := 4) rfl ?_); refine copy_event3 rfl (N := 4) rfl rfl rfl rfl (t := 107) (v := .tmp 35) rfl (cs := #[.int .i64 x, .int .i64 y]) (zs := #[.int .i64 0, .int .i64 0]) (vm := .int .i64 k) ?hr ?hrm rfl rfl info_tier ?hz (two_one _ _) ?_; (case hr => first | (go_simp; done) | (go_simp; rfl)); (case hrm => intro W'; first | (go_simp; done) | (go_simp; rfl)); (case hz => rfl); intro g4 hg w4 hb4 hbl4; have g4lt := blk_lt hb4; clear hg; have z0 : w4.cell? ⟨g4, 0, none⟩ = some (.int .i64 x) := (blk_cell hb4 0).trans rfl; have z1 : w4.cell? ⟨g4, 1, none⟩ = some (.int .i64 y) := (blk_cell hb4 1).trans rfl; have HB5 := Aside0.mk (blk_below HB3.out hbl4); have BL4 := Aside0.mk (And.intro (below_step hbl.out.1 hbl4) (below_step hbl.out.2 hbl4)); have HBL4 := Aside0.mk hbl4; clear hb4 hbl4)
       | (go_at_call 80; refine (within_i_is H1.out _).mono ?_; rintro e w' ⟨rfl, rfl⟩)
       | (go_at_call 81; refine (within_l_is H2.out _).mono ?_; rintro e w' ⟨rfl, rfl⟩)
       | (go_at_call 78; refine (must_no _).mono ?_; rintro e w' ⟨rfl, rfl⟩))
      exact ⟨rfl, LookE.no ⟨rfl, BL4.out.1⟩⟩
    ·have hbf : bb = false := by
      rw [← hcs, decide_eq_false (fun h => h1 ⟨h.1, h.2.1⟩), Bool.false_and]
     subst hbf
     have H1 := Aside0.mk (decide_eq_false h1)
     clear hcs h1
     go_wp2_with (first
      | ((with_reducible refine gate_dst (N := 4) rfl ?_); refine copy_event3 rfl (N := 4) rfl rfl rfl rfl (t := 107) (v := .tmp 35) rfl (cs := #[.int .i64 x, .int .i64 y]) (zs := #[.int .i64 0, .int .i64 0]) (vm := .int .i64 k) ?hr ?hrm rfl rfl info_tier ?hz (two_one _ _) ?_; (case hr => first | (go_simp; done) | (go_simp; rfl)); (case hrm => intro W'; first | (go_simp; done) | (go_simp; rfl)); (case hz => rfl); intro g4 hg w4 hb4 hbl4; have g4lt := blk_lt hb4; clear hg; have z0 : w4.cell? ⟨g4, 0, none⟩ = some (.int .i64 x) := (blk_cell hb4 0).trans rfl; have z1 : w4.cell? ⟨g4, 1, none⟩ = some (.int .i64 y) := (blk_cell hb4 1).trans rfl; have HB5 := Aside0.mk (blk_below HB3.out hbl4); have BL4 := Aside0.mk (And.intro (below_step hbl.out.1 hbl4) (below_step hbl.out.2 hbl4)); have HBL4 := Aside0.mk hbl4; clear hb4 hbl4)
      | (go_at_call 80; refine (within_i_is H1.out _).mono ?_; rintro e w' ⟨rfl, rfl⟩)
      | (go_at_call 81; refine (within_l_is H1.out _).mono ?_; rintro e w' ⟨rfl, rfl⟩)
      | (go_at_call 78; refine (must_no _).mono ?_; rintro e w' ⟨rfl, rfl⟩))
     exact ⟨rfl, LookE.no ⟨rfl, BL4.out.1⟩⟩
   ·have hk2 : k = p.late.length := by omega
    subst hk2
    have hcs := hq.out
    rw [List.drop_length] at hcs
    obtain rfl : true = bb := hcs
    clear hq
    go_wp2_with fail
    go_end0
    exact LookE.yes ⟨rfl, hbl.out.1⟩
set_option maxRecDepth 100000 in
set_option maxHeartbeats 1000000 in
theorem late_5 (p : Prod) (A1 : Option Addr) (c1 : Nat) (A2 : Option Addr) (c2 : Nat) (A3 : Option Addr) (c3 : Nat) (w : World) (q8 : decide ((p.late.length : Int) ≤ 8) = true) (hn : p.late.length ≤ 8) (ha : decide (0 ≤ p.cap ∧ p.cap ≤ 10000000000000) = true) (q0 : p.late.length = 0) (q1 : (p.cap == 0) = true) :
  Calls Tryz.prog 62 #[pv p A1 c1 A2 c2 A3 c3] w (fun e w' => e = .returned (.tuple #[]) ∧ Below w.heap.size w w') := by
 have HA := Aside0.mk ha
 have HQ0 := Aside0.mk q0
 clear ha q0
 go_enter Tryz.func62, Tryz.ntmps62
 go_wp2_with (first
  | ((with_reducible refine gate_dst (N := 1) rfl ?_); refine box_event ?hg (N := 1) ?hd (cs := pcs p A1 c1 A2 c2 A3 c3) (t := 110) ?hr ?_; (case hd => rfl); (case hg => rfl); (case hr => first | (go_simp; done) | (go_simp; rfl)); intro g1 hg w1 hb1 hbl1; clear hg)
  | ((with_reducible refine gate_dst (N := 6) rfl ?_); refine wpList_load_row rfl 27 (.tmp 5) rfl g1 rfl 110 _ (0, 0) _ hb1 Tryz.underlying27 rfl info_prod ?_)
  | ((with_reducible refine gate_dst (N := 2) rfl ?_); refine copy_event rfl (N := 2) rfl rfl rfl (t := 27) (v := .tmp 6) rfl (cs := pcs p A1 c1 A2 c2 A3 c3) (zs := pzs) ?hr rfl rfl info_prod ?hz (pcs_one _ _ _ _ _ _ _) ?_; (case hr => first | (go_simp; done) | (go_simp; rfl)); (case hz => rfl); intro g2 hg w2 hb2 hbl2; have g2lt := blk_lt hb2; have g2ge := (show w.heap.size ≤ g2 by rw [hg]; exact hbl1.size); clear hg; have HB2 := Aside0.mk hb2; have BL2 := Aside0.mk (below_step hbl1 hbl2); clear hb1 hbl1 hbl2; have QQ := Aside0.mk (pc_cells hb2); clear hb2; obtain ⟨-, -, -, -, -, -, -, -, -, -, -, -, -, -, -, q15, q16, -⟩ := QQ.out))
 go_wp2_with fail
 refine (within_l_is HA.out _).mono ?_
 rintro e w' ⟨rfl, rfl⟩
 have q0 := HQ0.out
 go_wp2_with fail
 refine (must_yes _).mono ?_
 rintro e w' ⟨rfl, rfl⟩
 go_wp2_with fail
 go_loopg [31] 1 (fun gq i w' => i = .int .i64 0 ∧ w' = w2)
 case atStart => exact ⟨rfl, rfl⟩
 case round =>
  obtain ⟨rfl, rfl⟩ := hrel
  go_wp2_with fail
  go_end0
  exact ⟨rfl, BL2.out⟩
theorem late_any (p : Prod) (A1 : Option Addr) (c1 : Nat) (A2 : Option Addr) (c2 : Nat) (A3 : Option Addr) (c3 : Nat) (w : World) (hr : Op.IntRows w A2 2 p.late) (hm : p.late.length ≤ 1000000) :
  Calls Tryz.prog 62 #[pv p A1 c1 A2 c2 A3 c3] w (LookE (lateOk p) w) := by
 unfold lateOk
 by_cases hn : p.late.length ≤ 8
 case neg =>
  rw [decide_eq_false (fun h => hn h.1), Bool.false_and]
  exact (late_1 p A1 c1 A2 c2 A3 c3 w (decide_eq_false (by omega))).mono fun e w' h => LookE.no h
 have hn' : decide ((p.late.length : Int) ≤ 8) = true := decide_eq_true (by omega)
 by_cases ha : 0 ≤ p.cap ∧ p.cap ≤ 10000000000000
 case neg =>
  rw [decide_eq_false (fun h => ha h.2.1), Bool.false_and]
  exact (late_2 p A1 c1 A2 c2 A3 c3 w hn' hn (decide_eq_false ha)).mono fun e w' h => LookE.no h
 by_cases hb : p.late = [] → p.cap = 0
 case neg =>
  rw [decide_eq_false (fun h => hb h.2.2), Bool.false_and]
  have h1 : p.late = [] := by
   cases hl : p.late with
   | nil => rfl
   | cons a l => exact absurd (fun h => by rw [hl] at h; cases h) hb
  have h2 : ¬ p.cap = 0 := fun h => hb (fun _ => h)
  exact (late_3 p A1 c1 A2 c2 A3 c3 w hn' hn (decide_eq_true ha) (by rw [h1]; rfl) (beqf h2)).mono fun e w' h => LookE.no h
 rw [decide_eq_true (show _ from ⟨hn, ha, hb⟩), Bool.true_and]
 by_cases h0 : p.late.length = 0
 ·have h1 : p.late = [] := List.eq_nil_of_length_eq_zero h0
  have e1 : tiersOk 0 0 p.late = true := by rw [h1]; rfl
  rw [e1]
  exact (late_5 p A1 c1 A2 c2 A3 c3 w hn' hn (decide_eq_true ha) h0 (beqt (hb h1))).mono fun e w' h => LookE.yes h
 ·exact late_4 p A1 c1 A2 c2 A3 c3 w hn' hn (decide_eq_true ha) (by omega) hr _ rfl
end Go.Proofs.YtfmkdledofbhdaaGreat.Pd
/- Contracts by hand: a product's days are looked at. -/
namespace Go.Proofs.YtfmkdledofbhdaaGreat.Pd
open Go.RowKit Go.Proofs.YtfmkdledofbhdaaGreatW.PrintWords Go.Proofs.YtfmkdledofbhdaaGreatW.PrintLast Go.Proofs.YtfmkdledofbhdaaGreatW.PrintMore Go.Proofs.YtfmkdledofbhdaaGreat.HW
open Pm
set_option linter.unusedVariables false
set_option linter.unusedSimpArgs false
set_option maxRecDepth 100000 in
set_option maxHeartbeats 2000000 in
theorem days_1 (p : Prod) (A1 : Option Addr) (c1 : Nat) (A2 : Option Addr) (c2 : Nat) (A3 : Option Addr) (c3 : Nat) (w : World) (hr : Kd.C (Kd.int .i64) w A3 p.hol.length p.hol) (hl : p.hol.length ≤ c3) (hn0 : A3 = none → c3 = 0) (hm : p.hol.length ≤ 1000000) (he : (if (decide (p.hol.length ≤ 200) && holsOk (-25568) p.hol) = true then (0 : Int) else 1) = 1) :
  Calls Tryz.prog 63 #[pv p A1 c1 A2 c2 A3 c3] w fun e w' => e = refusedE ∧ Below w.heap.size w w' := by
 have HR := Aside0.mk hr
 have HE := Aside0.mk he
 clear hr he
 go_enter Tryz.func63, Tryz.ntmps63
 go_wp2_with ((with_reducible refine gate_dst (N := 1) rfl ?_); refine box_event ?hg (N := 1) ?hd (cs := pcs p A1 c1 A2 c2 A3 c3) (t := 110) ?hr ?_; (case hd => rfl); (case hg => rfl); (case hr => first | (go_simp; done) | (go_simp; rfl)); intro g1 hg w1 hb1 hbl1; have g1lt := blk_lt hb1; clear hg; have HB1 := Aside0.mk hb1; have BL1 := Aside0.mk hbl1; clear hbl1; have q18 := (pc_cells hb1).2.2.2.2.2.2.2.2.2.2.2.2.2.2.2.2.2.2; clear hb1)
 refine (Nw.new_any A3 c3 p.hol _ (Kd.C_below HR.out BL1.out) hl hn0 hm).mono ?_
 rintro e w3 ⟨hb, q, rfl⟩
 rw [HE.out]
 have BL3 := Aside0.mk (below_step BL1.out hb)
 obtain ⟨-, -, -, -, -, -, -, -, -, -, -, -, -, -, -, -, -, q17, q18'⟩ := pc_cells (blk_below HB1.out hb)
 clear hb BL1 HB1 q18
 go_wp2_with fail
 refine (must_no _).mono ?_
 rintro e w' ⟨rfl, rfl⟩
 exact ⟨rfl, rfl, BL3.out⟩
set_option maxRecDepth 100000 in
set_option maxHeartbeats 2000000 in
theorem days_2 (p : Prod) (A1 : Option Addr) (c1 : Nat) (A2 : Option Addr) (c2 : Nat) (A3 : Option Addr) (c3 : Nat) (w : World) (hr : Kd.C (Kd.int .i64) w A3 p.hol.length p.hol) (hl : p.hol.length ≤ c3) (hn0 : A3 = none → c3 = 0) (hm : p.hol.length ≤ 1000000) (he : (if (decide (p.hol.length ≤ 200) && holsOk (-25568) p.hol) = true then (0 : Int) else 1) = 0) (ha : decide (1 ≤ p.roll ∧ p.roll ≤ 4) = false) :
  Calls Tryz.prog 63 #[pv p A1 c1 A2 c2 A3 c3] w fun e w' => e = refusedE ∧ Below w.heap.size w w' := by
 have HR := Aside0.mk hr
 have HE := Aside0.mk he
 have HA := Aside0.mk ha
 clear hr he ha
 go_enter Tryz.func63, Tryz.ntmps63
 go_wp2_with ((with_reducible refine gate_dst (N := 1) rfl ?_); refine box_event ?hg (N := 1) ?hd (cs := pcs p A1 c1 A2 c2 A3 c3) (t := 110) ?hr ?_; (case hd => rfl); (case hg => rfl); (case hr => first | (go_simp; done) | (go_simp; rfl)); intro g1 hg w1 hb1 hbl1; have g1lt := blk_lt hb1; clear hg; have HB1 := Aside0.mk hb1; have BL1 := Aside0.mk hbl1; clear hbl1; have q18 := (pc_cells hb1).2.2.2.2.2.2.2.2.2.2.2.2.2.2.2.2.2.2; clear hb1)
 refine (Nw.new_any A3 c3 p.hol _ (Kd.C_below HR.out BL1.out) hl hn0 hm).mono ?_
 rintro e w3 ⟨hb, q, rfl⟩
 rw [HE.out]
 have BL3 := Aside0.mk (below_step BL1.out hb)
 obtain ⟨-, -, -, -, -, -, -, -, -, -, -, -, -, -, -, -, -, q17, q18'⟩ := pc_cells (blk_below HB1.out hb)
 clear hb BL1 HB1 q18
 go_wp2_with fail
 refine (within_i_is HA.out _).mono ?_
 rintro e w' ⟨rfl, rfl⟩
 go_wp2_with fail
 refine (must_no _).mono ?_
 rintro e w' ⟨rfl, rfl⟩
 exact ⟨rfl, rfl, BL3.out⟩
set_option maxRecDepth 100000 in
set_option maxHeartbeats 2000000 in
theorem days_3 (p : Prod) (A1 : Option Addr) (c1 : Nat) (A2 : Option Addr) (c2 : Nat) (A3 : Option Addr) (c3 : Nat) (w : World) (hr : Kd.C (Kd.int .i64) w A3 p.hol.length p.hol) (hl : p.hol.length ≤ c3) (hn0 : A3 = none → c3 = 0) (hm : p.hol.length ≤ 1000000) (he : (if (decide (p.hol.length ≤ 200) && holsOk (-25568) p.hol) = true then (0 : Int) else 1) = 0) (ha : decide (1 ≤ p.roll ∧ p.roll ≤ 4) = true) (r1 : (p.roll != 1) = true) :
  Calls Tryz.prog 63 #[pv p A1 c1 A2 c2 A3 c3] w fun e w' => e = .returned (.tuple #[]) ∧ Below w.heap.size w w' := by
 have HR := Aside0.mk hr
 have HE := Aside0.mk he
 have HA := Aside0.mk ha
 clear hr he ha
 go_enter Tryz.func63, Tryz.ntmps63
 go_wp2_with ((with_reducible refine gate_dst (N := 1) rfl ?_); refine box_event ?hg (N := 1) ?hd (cs := pcs p A1 c1 A2 c2 A3 c3) (t := 110) ?hr ?_; (case hd => rfl); (case hg => rfl); (case hr => first | (go_simp; done) | (go_simp; rfl)); intro g1 hg w1 hb1 hbl1; have g1lt := blk_lt hb1; clear hg; have HB1 := Aside0.mk hb1; have BL1 := Aside0.mk hbl1; clear hbl1; have q18 := (pc_cells hb1).2.2.2.2.2.2.2.2.2.2.2.2.2.2.2.2.2.2; clear hb1)
 refine (Nw.new_any A3 c3 p.hol _ (Kd.C_below HR.out BL1.out) hl hn0 hm).mono ?_
 rintro e w3 ⟨hb, q, rfl⟩
 rw [HE.out]
 have BL3 := Aside0.mk (below_step BL1.out hb)
 obtain ⟨-, -, -, -, -, -, -, -, -, -, -, -, -, -, -, -, -, q17, q18'⟩ := pc_cells (blk_below HB1.out hb)
 clear hb BL1 HB1 q18
 go_wp2_with fail
 refine (within_i_is HA.out _).mono ?_
 rintro e w' ⟨rfl, rfl⟩
 go_wp2_with fail
 refine (must_yes _).mono ?_
 rintro e w' ⟨rfl, rfl⟩
 go_wp2_with fail
 go_end0
 exact ⟨rfl, BL3.out⟩
set_option maxRecDepth 100000 in
set_option maxHeartbeats 2000000 in
theorem days_4 (p : Prod) (A1 : Option Addr) (c1 : Nat) (A2 : Option Addr) (c2 : Nat) (A3 : Option Addr) (c3 : Nat) (w : World) (hr : Kd.C (Kd.int .i64) w A3 p.hol.length p.hol) (hl : p.hol.length ≤ c3) (hn0 : A3 = none → c3 = 0) (hm : p.hol.length ≤ 1000000) (he : (if (decide (p.hol.length ≤ 200) && holsOk (-25568) p.hol) = true then (0 : Int) else 1) = 0) (ha : decide (1 ≤ p.roll ∧ p.roll ≤ 4) = true) (r1 : (p.roll != 1) = false) (hz : p.hol.length = 0) :
  Calls Tryz.prog 63 #[pv p A1 c1 A2 c2 A3 c3] w fun e w' => e = .returned (.tuple #[]) ∧ Below w.heap.size w w' := by
 have HR := Aside0.mk hr
 have HE := Aside0.mk he
 have HA := Aside0.mk ha
 have HZ := Aside0.mk hz
 clear hr he ha hz
 go_enter Tryz.func63, Tryz.ntmps63
 go_wp2_with ((with_reducible refine gate_dst (N := 1) rfl ?_); refine box_event ?hg (N := 1) ?hd (cs := pcs p A1 c1 A2 c2 A3 c3) (t := 110) ?hr ?_; (case hd => rfl); (case hg => rfl); (case hr => first | (go_simp; done) | (go_simp; rfl)); intro g1 hg w1 hb1 hbl1; have g1lt := blk_lt hb1; clear hg; have HB1 := Aside0.mk hb1; have BL1 := Aside0.mk hbl1; clear hbl1; have q18 := (pc_cells hb1).2.2.2.2.2.2.2.2.2.2.2.2.2.2.2.2.2.2; clear hb1)
 refine (Nw.new_any A3 c3 p.hol _ (Kd.C_below HR.out BL1.out) hl hn0 hm).mono ?_
 rintro e w3 ⟨hb, q, rfl⟩
 rw [HE.out]
 have BL3 := Aside0.mk (below_step BL1.out hb)
 obtain ⟨-, -, -, -, -, -, -, -, -, -, -, -, -, -, -, -, -, q17, q18'⟩ := pc_cells (blk_below HB1.out hb)
 clear hb BL1 HB1 q18
 go_wp2_with fail
 refine (within_i_is HA.out _).mono ?_
 rintro e w' ⟨rfl, rfl⟩
 have hz := HZ.out
 go_wp2_with fail
 refine (must_yes _).mono ?_
 rintro e w' ⟨rfl, rfl⟩
 go_wp2_with fail
 go_end0
 exact ⟨rfl, BL3.out⟩
set_option maxRecDepth 100000 in
set_option maxHeartbeats 2000000 in
theorem days_5 (p : Prod) (A1 : Option Addr) (c1 : Nat) (A2 : Option Addr) (c2 : Nat) (A3 : Option Addr) (c3 : Nat) (w : World) (hr : Kd.C (Kd.int .i64) w A3 p.hol.length p.hol) (hl : p.hol.length ≤ c3) (hn0 : A3 = none → c3 = 0) (hm : p.hol.length ≤ 1000000) (he : (if (decide (p.hol.length ≤ 200) && holsOk (-25568) p.hol) = true then (0 : Int) else 1) = 0) (ha : decide (1 ≤ p.roll ∧ p.roll ≤ 4) = true) (r1 : (p.roll != 1) = false) (hz : ((p.hol.length : Int) == 0) = false) :
  Calls Tryz.prog 63 #[pv p A1 c1 A2 c2 A3 c3] w fun e w' => e = refusedE ∧ Below w.heap.size w w' := by
 have HR := Aside0.mk hr
 have HE := Aside0.mk he
 have HA := Aside0.mk ha
 have HZ := Aside0.mk hz
 clear hr he ha hz
 go_enter Tryz.func63, Tryz.ntmps63
 go_wp2_with ((with_reducible refine gate_dst (N := 1) rfl ?_); refine box_event ?hg (N := 1) ?hd (cs := pcs p A1 c1 A2 c2 A3 c3) (t := 110) ?hr ?_; (case hd => rfl); (case hg => rfl); (case hr => first | (go_simp; done) | (go_simp; rfl)); intro g1 hg w1 hb1 hbl1; have g1lt := blk_lt hb1; clear hg; have HB1 := Aside0.mk hb1; have BL1 := Aside0.mk hbl1; clear hbl1; have q18 := (pc_cells hb1).2.2.2.2.2.2.2.2.2.2.2.2.2.2.2.2.2.2; clear hb1)
 refine (Nw.new_any A3 c3 p.hol _ (Kd.C_below HR.out BL1.out) hl hn0 hm).mono ?_
 rintro e w3 ⟨hb, q, rfl⟩
 rw [HE.out]
 have BL3 := Aside0.mk (below_step BL1.out hb)
 obtain ⟨-, -, -, -, -, -, -, -, -, -, -, -, -, -, -, -, -, q17, q18'⟩ := pc_cells (blk_below HB1.out hb)
 clear hb BL1 HB1 q18
 go_wp2_with fail
 refine (within_i_is HA.out _).mono ?_
 rintro e w' ⟨rfl, rfl⟩
 have hz := HZ.out
 go_wp2_with fail
 refine (must_no _).mono ?_
 rintro e w' ⟨rfl, rfl⟩
 exact ⟨rfl, rfl, BL3.out⟩
theorem days_any (p : Prod) (A1 : Option Addr) (c1 : Nat) (A2 : Option Addr) (c2 : Nat) (A3 : Option Addr) (c3 : Nat) (w : World) (hr : Kd.C (Kd.int .i64) w A3 p.hol.length p.hol) (hl : p.hol.length ≤ c3) (hn : A3 = none → c3 = 0) (hm : p.hol.length ≤ 1000000) :
  Calls Tryz.prog 63 #[pv p A1 c1 A2 c2 A3 c3] w (LookE (daysOk p) w) := by
 cases hb : (decide (p.hol.length ≤ 200) && holsOk (-25568) p.hol) with
 | false =>
  have e1 : daysOk p = false := by
   rw [Bool.and_eq_false_iff] at hb
   unfold daysOk
   rcases hb with h | h
   ·rw [decide_eq_false (fun h2 => by rw [decide_eq_true h2.1] at h; cases h), Bool.false_and]
   ·rw [h, Bool.and_false]
  rw [e1]
  exact (days_1 p A1 c1 A2 c2 A3 c3 w hr hl hn hm (by rw [hb]; rfl)).mono fun e w' h => LookE.no h
 | true =>
  have he : (if (decide (p.hol.length ≤ 200) && holsOk (-25568) p.hol) = true then (0 : Int) else 1) = 0 := by rw [hb]; rfl
  rw [Bool.and_eq_true] at hb
  have h200 := of_decide_eq_true hb.1
  unfold daysOk
  rw [hb.2, Bool.and_true]
  by_cases ha : 1 ≤ p.roll ∧ p.roll ≤ 4
  case neg =>
   rw [decide_eq_false (fun h => ha h.2.1)]
   exact (days_2 p A1 c1 A2 c2 A3 c3 w hr hl hn hm he (decide_eq_false ha)).mono fun e w' h => LookE.no h
  by_cases h1 : p.roll = 1
  ·have r1 : (p.roll != 1) = false := by rw [h1]; rfl
   by_cases hz : p.hol.length = 0
   ·rw [decide_eq_true (show _ from ⟨h200, ha, fun _ => List.eq_nil_of_length_eq_zero hz⟩)]
    exact (days_4 p A1 c1 A2 c2 A3 c3 w hr hl hn hm he (decide_eq_true ha) r1 hz).mono fun e w' h => LookE.yes h
   ·rw [decide_eq_false (fun h => hz (by rw [h.2.2 h1]; rfl))]
    exact (days_5 p A1 c1 A2 c2 A3 c3 w hr hl hn hm he (decide_eq_true ha) r1 (beqf (by omega))).mono fun e w' h => LookE.no h
  ·rw [decide_eq_true (show _ from ⟨h200, ha, fun h => absurd h h1⟩)]
   exact (days_3 p A1 c1 A2 c2 A3 c3 w hr hl hn hm he (decide_eq_true ha) (by simpa using h1)).mono fun e w' h => LookE.yes h
end Go.Proofs.YtfmkdledofbhdaaGreat.Pd
/- Contracts by hand: a product is looked at. -/
namespace Go.Proofs.YtfmkdledofbhdaaGreat.Pd
open Go.RowKit Go.Proofs.YtfmkdledofbhdaaGreatW.PrintWords Go.Proofs.YtfmkdledofbhdaaGreatW.PrintLast Go.Proofs.YtfmkdledofbhdaaGreatW.PrintMore Go.Proofs.YtfmkdledofbhdaaGreat.HW
open Pm
set_option linter.unusedVariables false
set_option linter.unusedSimpArgs false
theorem rest_plainP {P : Program} {c : Code} {Q0 : Exit → Act → List Frame → World → Prop} {a : Act} {cs : List Frame} {w : World}
  (h : ∀ Q : Exit → Act → World → Prop, Aside0 (∀ e a' w', Q0 e a' cs w' → Q e a' w') → c.wp P Q a w) : c.wpS P Q0 a cs w :=
 wpS_of_wp (h _ ⟨fun _ _ _ x => x⟩)
theorem check_idle (pe : Addr) (w : World) :
  CallsD Tryz.prog 58 #[.pointer (some pe)] .returning w fun e u' w' => e = .returned (.tuple #[]) ∧ u' = .returning ∧ w' = w := by
 refine callsD_of_wpS Tryz.func58 rfl fun c₀ cs hu => ?_
 simp only [Tryz.ntmps58, List.size_toArray, List.length_cons, List.length_nil, Nat.reduceAdd, Nat.reduceSub, Array.replicate_succ, Array.replicate_zero, List.push_toArray, List.append_toArray, List.nil_append, List.cons_append]
 apply wpS_seq
 apply wpS_region
 simp [wpOpsS, go_sem, recoverD, hu, Exit.thenS]
 refine rest_plainP fun Q HQ => ?_
 go_wp2
 refine HQ.out _ _ _ ?_
 clear HQ
 simp [bodyPostS, results, Tryz.results58, hu]
 cases c₀
 simp_all
theorem check_thrown (pe : Addr) (y : Int) (older : List PanicEntry) (w : World) (hy : w.cell? pe = some (.int .i64 y)) (fy : w.frozen? pe = false) :
  CallsD Tryz.prog 58 #[.pointer (some pe)] (.panicking ({ v := .iface 108 (.agg #[]), recovered := false } :: older)) w fun e u' w' =>
   e = .returned (.tuple #[]) ∧ u' = .panicking ({ v := .iface 108 (.agg #[]), recovered := true } :: older) ∧ w' = (w.alloc (.cells #[] 108)).setCell pe (.int .i64 9) := by
 refine callsD_of_wpS Tryz.func58 rfl fun c₀ cs hu => ?_
 simp only [Tryz.ntmps58, List.size_toArray, List.length_cons, List.length_nil, Nat.reduceAdd, Nat.reduceSub, Array.replicate_succ, Array.replicate_zero, List.push_toArray, List.append_toArray, List.nil_append, List.cons_append]
 apply wpS_seq
 apply wpS_region
 simp [wpOpsS, go_sem, recoverD, hu, Exit.thenS]
 refine rest_plainP fun Q HQ => ?_
 have hta : ∀ w, (Instr.typeAssert (.iface 108 (.agg #[])) 20 108 true).run Tryz.prog w = .ok (.tuple #[.agg #[], .bool true]) w := fun _ => by kernel_rfl
 have hlt := cell_ltR hy
 have hb := (Below.refl w.heap.size w).alloc (Nat.le_refl _) (.cells #[] 108)
 have hy2 : (w.alloc (.cells #[] 108)).cell? pe = some (.int .i64 y) := by rw [hb.cell hlt]; exact hy
 have fy2 : (w.alloc (.cells #[] 108)).frozen? pe = false := by rw [hb.frozen hlt]; exact fy
 clear hb
 go_wp2
 refine HQ.out _ _ _ ?_
 clear HQ
 simp [bodyPostS, results, Tryz.results58, hu]
structure Res1 (w W : World) (g : Nat) (x : Value) : Prop where
 below : Below w.heap.size w W
 ge : w.heap.size ≤ g
 c0 : W.cell? ⟨g, 0, none⟩ = some x
 f0 : W.frozen? ⟨g, 0, none⟩ = false
theorem Res1.lt {w W : World} {g : Nat} {x : Value} (h : Res1 w W g x) : g < W.heap.size := cell_ltR h.c0
theorem Res1.step {w W W' : World} {g : Nat} {x : Value} (h : Res1 w W g x) (hb : Below W.heap.size W W') : Res1 w W' g x :=
 ⟨below_step h.below hb, h.ge, by rw [hb.cell (by exact h.lt)]; exact h.c0, by rw [hb.frozen (by exact h.lt)]; exact h.f0⟩
theorem Res1.of {w W : World} {g : Nat} {cs : Array Value} {x : Value} {t : TypeId} (hb : Below w.heap.size w W) (hg : w.heap.size ≤ g) (h : W.heap[g]? = some (.cells cs t (0, 0))) (hx : cs[0]? = some x) : Res1 w W g x :=
 ⟨hb, hg, (blk_cell h 0).trans hx, frozen_of_row W g 0 _ _ h⟩
theorem built_looks (p : Prod) (A1 : Option Addr) (c1 : Nat) (A2 : Option Addr) (c2 : Nat) (A3 : Option Addr) (c3 : Nat) :
  Tryz.prog.built 110 [(0, .agg (pcs p A1 c1 A2 c2 A3 c3))] = some (pcs p A1 c1 A2 c2 A3 c3) := by kernel_rfl
section
variable {P : Program} {ops : Array Oper} {rest : List Oper} {a : Act} {Q : Exit → Act → World → Prop}
theorem build_event {W : World} {o : Oper} (hg : o.guard = none) {t : TypeId} {parts : Array (Nat × Operand)} (ho : o.op = .build t parts) {cs : Array Value}
  (hb : P.built t ((parts.map fun (i, x) => (i, a.eval x)).toList) = some cs) (h : wpList P ops Q rest (a.put o.dst (.agg cs)) W) : wpList P ops Q (o :: rest) a W :=
 wpList_build hg t parts ho (by rw [hb]; rfl) (by rw [hb]; exact h)
end
end Go.Proofs.YtfmkdledofbhdaaGreat.Pd
/- Contracts by hand: a product is looked at, all of it. -/
namespace Go.Proofs.YtfmkdledofbhdaaGreat.Pd
open Go.RowKit Go.Proofs.YtfmkdledofbhdaaGreatW.PrintWords Go.Proofs.YtfmkdledofbhdaaGreatW.PrintLast Go.Proofs.YtfmkdledofbhdaaGreatW.PrintMore Go.Proofs.YtfmkdledofbhdaaGreat.HW
open Pm
set_option linter.unusedVariables false
set_option linter.unusedSimpArgs false
theorem times_of {p : Prod} (h : shapeOk p = true) : 1 ≤ p.times ∧ p.times ≤ 600 := by
 unfold shapeOk at h
 rw [Bool.and_eq_true] at h
 exact (of_decide_eq_true h.2).2.2.2.2.1
theorem put_cell {w W : World} {g : Nat} {x : Value} (R : Res1 w W g x) (v : Value) (t : TypeId) : ((W.alloc (.cells #[] t)).setCell ⟨g, 0, none⟩ v).cell? ⟨g, 0, none⟩ = some v :=
 World.cell?_setCell_same _ _ _ (by rw [((Below.refl W.heap.size W).alloc (Nat.le_refl _) (.cells #[] t)).cell (by exact R.lt)]; exact R.c0)
theorem put_below {w W : World} {g : Nat} {x : Value} (R : Res1 w W g x) (v : Value) (t : TypeId) : Below w.heap.size w ((W.alloc (.cells #[] t)).setCell ⟨g, 0, none⟩ v) :=
 (R.below.alloc R.below.size _).setCell (by exact R.ge) _
abbrev lookC (p : Prod) (A1 : Option Addr) (c1 : Nat) (A2 : Option Addr) (c2 : Nat) (A3 : Option Addr) (c3 : Nat) : Array Value :=
 #[.func (.func 59) #[.agg (pcs p A1 c1 A2 c2 A3 c3)] #[], .func (.func 60) #[.agg (pcs p A1 c1 A2 c2 A3 c3)] #[], .func (.func 61) #[.agg (pcs p A1 c1 A2 c2 A3 c3)] #[], .func (.func 62) #[.agg (pcs p A1 c1 A2 c2 A3 c3)] #[], .func (.func 63) #[.agg (pcs p A1 c1 A2 c2 A3 c3)] #[]]
set_option maxRecDepth 100000 in
set_option maxHeartbeats 2000000 in
theorem check_any (p : Prod) (A1 : Option Addr) (c1 : Nat) (A2 : Option Addr) (c2 : Nat) (A3 : Option Addr) (c3 : Nat) (w : World) (hg : GV w) (hp : ProdAt w p A1 c1 A2 c2 A3 c3) (hs : Small p) :
  Calls Tryz.prog 37 #[pv p A1 c1 A2 c2 A3 c3] w fun e w' => e = .returned (.int .i64 (err p)) ∧ Below w.heap.size w w' := by
 have HG := Aside0.mk hg
 have HP := Aside0.mk hp
 have HS := Aside0.mk hs
 clear hg hp hs
 go_enter_defers Tryz.func37, Tryz.ntmps37
 go_wp2_with (first
  | ((with_reducible refine gate_dst (N := 1) rfl ?_); refine box_event ?hg (N := 1) ?hd (cs := pcs p A1 c1 A2 c2 A3 c3) (t := 27) ?hr ?_; (case hd => rfl); (case hg => rfl); (case hr => first | (go_simp; done) | (go_simp; rfl)); intro g1 hg w1 hb1 hbl1; clear hg; have HB1 := Aside0.mk hb1; have BL1 := Aside0.mk hbl1; clear hb1 hbl1)
  | ((with_reducible refine gate_dst (N := 2) rfl ?_); refine box_event ?hg (N := 2) ?hd (cs := #[.int .i64 0]) (t := 33) ?hr ?_; (case hd => rfl); (case hg => rfl); (case hr => first | (go_simp; done) | (go_simp; rfl)); intro g2 hg w2 hb2 hbl2; have g2ge := (show w.heap.size ≤ g2 by rw [hg]; exact BL1.out.size); clear hg; have R2 := Aside0.mk (Res1.of (below_step BL1.out hbl2) g2ge hb2 rfl); have HB2 := blk_below HB1.out hbl2; clear HB1 BL1 hb2 hbl2)
  | ((with_reducible refine gate_dst (N := 7) rfl ?_); refine wpList_load_row rfl 27 (.tmp 1) rfl g1 rfl 27 _ (0, 0) _ HB2 Tryz.underlying27 rfl info_prod ?_; clear HB2)
  | ((with_reducible refine gate_dst (N := 8) rfl ?_); refine build_event rfl (t := 110) rfl (cs := pcs p A1 c1 A2 c2 A3 c3) ?hb ?_; (case hb => simp only [List.map_toArray, List.map_cons, List.map_nil]; exact built_looks p A1 c1 A2 c2 A3 c3))
  | ((with_reducible refine gate_dst (N := 3) rfl ?_); refine copy_event rfl (N := 3) rfl rfl rfl (t := 110) (v := .tmp 8) rfl (cs := pcs p A1 c1 A2 c2 A3 c3) (zs := pzs) ?hr rfl rfl info_looks ?hz (pcs_one _ _ _ _ _ _ _) ?_; (case hr => first | (go_simp; done) | (go_simp; rfl)); (case hz => rfl); intro g3 hg w3 HB3 hbl3; clear hg; have R3 := Aside0.mk (R2.out.step hbl3); clear hbl3 R2)
  | ((with_reducible refine gate_dst (N := 9) rfl ?_); refine wpList_load_row rfl 110 (.tmp 3) rfl g3 rfl 110 _ (0, 0) _ HB3 Tryz.underlying110 rfl info_looks ?_)
  | ((with_reducible refine gate_dst (N := 11) rfl ?_); refine wpList_load_row rfl 110 (.tmp 3) rfl g3 rfl 110 _ (0, 0) _ HB3 Tryz.underlying110 rfl info_looks ?_)
  | ((with_reducible refine gate_dst (N := 13) rfl ?_); refine wpList_load_row rfl 110 (.tmp 3) rfl g3 rfl 110 _ (0, 0) _ HB3 Tryz.underlying110 rfl info_looks ?_)
  | ((with_reducible refine gate_dst (N := 15) rfl ?_); refine wpList_load_row rfl 110 (.tmp 3) rfl g3 rfl 110 _ (0, 0) _ HB3 Tryz.underlying110 rfl info_looks ?_)
  | ((with_reducible refine gate_dst (N := 17) rfl ?_); refine wpList_load_row rfl 110 (.tmp 3) rfl g3 rfl 110 _ (0, 0) _ HB3 Tryz.underlying110 rfl info_looks ?_)
  | ((with_reducible refine gate_dst (N := 19) rfl ?_); refine Hid.out ?_))
 refine Lib.hid ?_
 clear HB3
 refine Kd.event_run rfl (v := .slice (some ⟨w3.heap.size, 0, none⟩) 5 5) (w1 := w3.alloc (.cells (lookC p A1 c1 A2 c2 A3 c3) 1 (0, 0))) ?hr ?_
 case hr => first | (go_simp; done) | (go_simp; rfl)
 go_frame
 obtain ⟨g4, w4, hg4, hw4⟩ : ∃ g4 w4, g4 = w3.heap.size ∧ w4 = w3.alloc (.cells (lookC p A1 c1 A2 c2 A3 c3) 1 (0, 0)) := ⟨_, _, rfl, rfl⟩
 rw [← hg4, ← hw4]
 have hb4 : w4.heap[g4]? = some (.cells (lookC p A1 c1 A2 c2 A3 c3) 1 (0, 0)) := by rw [hg4, hw4]; exact heap_alloc_new _ _
 have hbl4 : Below w3.heap.size w3 w4 := by rw [hw4]; exact (Below.refl _ _).alloc (Nat.le_refl _) _
 have R := Aside0.mk (R3.out.step hbl4)
 have HB := Aside0.mk hb4
 have q0 : w4.cell? ⟨g4, 0, none⟩ = some (.func (.func 59) #[.agg (pcs p A1 c1 A2 c2 A3 c3)] #[]) := (blk_cell hb4 0).trans rfl
 clear hg4 hw4 hb4 hbl4 R3
 go_wp2_with fail
 refine wp_loop_rounds 6 ?_
 rw [rounds_succ]
 go_wp2_with fail
 refine (shape_any p A1 c1 A2 c2 A3 c3 _ (HG.out.below R.out.below)).mono ?_
 rintro e v0 ⟨hy, hn, hb⟩
 have RN := Aside0.mk (R.out.step hb)
 have HBN := Aside0.mk (blk_below HB.out hb)
 clear R HB
 have R := RN
 have HB := HBN
 clear RN HBN hb q0
 cases hk0 : shapeOk p with
 | false =>
  obtain rfl := hn hk0
  clear hy hn
  have c0 := R.out.c0
  have f0 := R.out.f0
  have e9 : err p = 9 := by unfold err ok; rw [hk0]; simp
  have E9 := Aside0.mk e9
  clear e9
  refine leaves_cons (f := 58) (args := #[.pointer (some ⟨g2, 0, none⟩)]) (by simp) (by simp [go_sem]) ?_
  refine (check_thrown ⟨g2, 0, none⟩ 0 [] _ c0 f0).mono ?_
  rintro e u' w'' ⟨rfl, rfl, rfl⟩
  have c9 := put_cell R.out (.int .i64 9) 108
  simp [Leaves, settle, results, Tryz.results37, go_sem, c9, E9.out]
  exact put_below R.out _ _
 | true =>
  obtain rfl := hy hk0
  clear hy hn
  have q1 : v0.cell? ⟨g4, 1, none⟩ = some (.func (.func 60) #[.agg (pcs p A1 c1 A2 c2 A3 c3)] #[]) := (blk_cell HB.out 1).trans rfl
  obtain ⟨t1, t2⟩ := times_of hk0
  go_wp2_with fail
  rw [rounds_succ]
  go_wp2_with fail
  refine (rates_any p A1 c1 A2 c2 A3 c3 _ t1 t2 (HP.out.below R.out.below).r1 HS.out.s1).mono ?_
  rintro e v1 ⟨hy, hn, hb⟩
  have RN := Aside0.mk (R.out.step hb)
  have HBN := Aside0.mk (blk_below HB.out hb)
  clear R HB
  have R := RN
  have HB := HBN
  clear RN HBN hb q1
  cases hk1 : ratesOk p with
  | false =>
   obtain rfl := hn hk1
   clear hy hn
   have c0 := R.out.c0
   have f0 := R.out.f0
   have e9 : err p = 9 := by unfold err ok; rw [hk1]; simp
   have E9 := Aside0.mk e9
   clear e9
   refine leaves_cons (f := 58) (args := #[.pointer (some ⟨g2, 0, none⟩)]) (by simp) (by simp [go_sem]) ?_
   refine (check_thrown ⟨g2, 0, none⟩ 0 [] _ c0 f0).mono ?_
   rintro e u' w'' ⟨rfl, rfl, rfl⟩
   have c9 := put_cell R.out (.int .i64 9) 108
   simp [Leaves, settle, results, Tryz.results37, go_sem, c9, E9.out]
   exact put_below R.out _ _
  | true =>
   obtain rfl := hy hk1
   clear hy hn
   have q2 : v1.cell? ⟨g4, 2, none⟩ = some (.func (.func 61) #[.agg (pcs p A1 c1 A2 c2 A3 c3)] #[]) := (blk_cell HB.out 2).trans rfl
   go_wp2_with fail
   rw [rounds_succ]
   go_wp2_with fail
   refine (order_any p A1 c1 A2 c2 A3 c3 _).mono ?_
   rintro e v2 ⟨hy, hn, hb⟩
   have RN := Aside0.mk (R.out.step hb)
   have HBN := Aside0.mk (blk_below HB.out hb)
   clear R HB
   have R := RN
   have HB := HBN
   clear RN HBN hb q2
   cases hk2 : ordOk p with
   | false =>
    obtain rfl := hn hk2
    clear hy hn
    have c0 := R.out.c0
    have f0 := R.out.f0
    have e9 : err p = 9 := by unfold err ok; rw [hk2]; simp
    have E9 := Aside0.mk e9
    clear e9
    refine leaves_cons (f := 58) (args := #[.pointer (some ⟨g2, 0, none⟩)]) (by simp) (by simp [go_sem]) ?_
    refine (check_thrown ⟨g2, 0, none⟩ 0 [] _ c0 f0).mono ?_
    rintro e u' w'' ⟨rfl, rfl, rfl⟩
    have c9 := put_cell R.out (.int .i64 9) 108
    simp [Leaves, settle, results, Tryz.results37, go_sem, c9, E9.out]
    exact put_below R.out _ _
   | true =>
    obtain rfl := hy hk2
    clear hy hn
    have q3 : v2.cell? ⟨g4, 3, none⟩ = some (.func (.func 62) #[.agg (pcs p A1 c1 A2 c2 A3 c3)] #[]) := (blk_cell HB.out 3).trans rfl
    go_wp2_with fail
    rw [rounds_succ]
    go_wp2_with fail
    refine (late_any p A1 c1 A2 c2 A3 c3 _ (HP.out.below R.out.below).r2 HS.out.s2).mono ?_
    rintro e v3 ⟨hy, hn, hb⟩
    have RN := Aside0.mk (R.out.step hb)
    have HBN := Aside0.mk (blk_below HB.out hb)
    clear R HB
    have R := RN
    have HB := HBN
    clear RN HBN hb q3
    cases hk3 : lateOk p with
    | false =>
     obtain rfl := hn hk3
     clear hy hn
     have c0 := R.out.c0
     have f0 := R.out.f0
     have e9 : err p = 9 := by unfold err ok; rw [hk3]; simp
     have E9 := Aside0.mk e9
     clear e9
     refine leaves_cons (f := 58) (args := #[.pointer (some ⟨g2, 0, none⟩)]) (by simp) (by simp [go_sem]) ?_
     refine (check_thrown ⟨g2, 0, none⟩ 0 [] _ c0 f0).mono ?_
     rintro e u' w'' ⟨rfl, rfl, rfl⟩
     have c9 := put_cell R.out (.int .i64 9) 108
     simp [Leaves, settle, results, Tryz.results37, go_sem, c9, E9.out]
     exact put_below R.out _ _
    | true =>
     obtain rfl := hy hk3
     clear hy hn
     have q4 : v3.cell? ⟨g4, 4, none⟩ = some (.func (.func 63) #[.agg (pcs p A1 c1 A2 c2 A3 c3)] #[]) := (blk_cell HB.out 4).trans rfl
     go_wp2_with fail
     rw [rounds_succ]
     go_wp2_with fail
     refine (days_any p A1 c1 A2 c2 A3 c3 _ (HP.out.below R.out.below).r3 (HP.out.below R.out.below).l3 (HP.out.below R.out.below).n3 HS.out.s3).mono ?_
     rintro e v4 ⟨hy, hn, hb⟩
     have RN := Aside0.mk (R.out.step hb)
     have HBN := Aside0.mk (blk_below HB.out hb)
     clear R HB
     have R := RN
     have HB := HBN
     clear RN HBN hb q4
     cases hk4 : daysOk p with
     | false =>
      obtain rfl := hn hk4
      clear hy hn
      have c0 := R.out.c0
      have f0 := R.out.f0
      have e9 : err p = 9 := by unfold err ok; rw [hk4]; simp
      have E9 := Aside0.mk e9
      clear e9
      refine leaves_cons (f := 58) (args := #[.pointer (some ⟨g2, 0, none⟩)]) (by simp) (by simp [go_sem]) ?_
      refine (check_thrown ⟨g2, 0, none⟩ 0 [] _ c0 f0).mono ?_
      rintro e u' w'' ⟨rfl, rfl, rfl⟩
      have c9 := put_cell R.out (.int .i64 9) 108
      simp [Leaves, settle, results, Tryz.results37, go_sem, c9, E9.out]
      exact put_below R.out _ _
     | true =>
      obtain rfl := hy hk4
      clear hy hn
      go_wp2_with fail
      rw [rounds_succ]
      have c0 := R.out.c0
      have f0 := R.out.f0
      have e0 : err p = 0 := by unfold err ok; rw [hk0, hk1, hk2, hk3, hk4]; rfl
      have E0 := Aside0.mk e0
      clear e0
      go_wp2_with fail
      refine leaves_cons (f := 58) (args := #[.pointer (some ⟨g2, 0, none⟩)]) (by simp) (by simp [go_sem]) ?_
      refine (check_idle ⟨g2, 0, none⟩ _).mono ?_
      rintro e u' w'' ⟨rfl, rfl, rfl⟩
      have c9 := World.cell?_setCell_same v4 ⟨g2, 0, none⟩ (.int .i64 0) c0
      simp [Leaves, settle, results, Tryz.results37, go_sem, c9, E0.out]
      exact R.out.below.setCell (by exact R.out.ge) _
end Go.Proofs.YtfmkdledofbhdaaGreat.Pd
