/- Texts of this claim, joined in build order. -/
import Derived.RowKit
import Derived.Below
import Derived.Deep.Draws
import Derived.Deep.AppendLies
import Derived.Maps.AppendAt
import Derived.OwnWalk
import Derived.Laws.BytesArg
import Derived.Laws.MakeOwn
import Derived.Laws.OwnMore
import Derived.Tactics
import Derived.Lib.ConvBytes
import Derived.Laws.Slices
import Derived.WalkKit
import Derived.KernelRfl
import Derived.RowKit3
import Derived.Deep.LoopGhost
import Derived.Deep.QuietTactic
import Derived.BigQuiet
import Derived.WideLaws
import Derived.Deep.DeepCutAuto
import Derived.Deep.CutBlock
import Derived.Deep.RegionHeld3
import Derived.Lib.AppendStr
import Derived.ArgAppend
import Derived.Laws.IdiomCopy
import Derived.OrdersHeld
import Derived.Laws.BitsLemmas
import Derived.Test.YtcfpkkgdofblfaaProg
import Derived.WalkLawsBesides
import Derived.WalkSpells
import Derived.Lib.IndexMore
import Derived.Deep.Slices
import Derived.Deep.Fields
import Derived.ChangeSame
import Derived.Lib.SmallJoins
import Derived.ProofKit
import Derived.Defers
import Derived.Laws.Tables
import Derived.Deep.WholeRow
import Derived.Recover
import Derived.StillTailTactics
import Derived.Shelf.Small.Bits
import Derived.Shelf.Strconv.Itoa0
import Derived.Shelf.Strings.Search1
import Derived.Shelf.Strings.Search2
import Derived.Shelf.Strings.Search3
import Derived.Shelf.LaysM
import Derived.Shelf.Strings.Shaped
import Derived.Shelf.Bits.Mul64
import Derived.Lib.SlBytesConst
import Derived.Deep.RegionWith
import Derived.IntWalk
import Derived.Lib.Hide
import Derived.BigFrame
import Derived.Laws.StructEq
import Derived.Lib.BitFns
import Derived.Laws.BitsAllLaws
import Derived.Laws.Externs
import Derived.RegionTactic
import Derived.Deep.MidRow
import Derived.OpenShut
import Derived.ShutString
import Derived.ChangeOld
import Derived.Laws.IdiomArrays
import Derived.SizedLaws
import Derived.HandedShaped
import Derived.Shelf.Vars
import Derived.Test.YtcfpkkgdofblfaaJT1
import Derived.Test.YtcfpkkgdofblfaaJT2
import Derived.Test.YtcfpkkgdofblfaaJT3
import Derived.Test.YtcfpkkgdofblfaaJT4
import Derived.Test.YtcfpkkgdofblfaaJT5
import Derived.Test.YtcfpkkgdofblfaaJT6
set_option linter.unusedVariables false
set_option linter.unusedSimpArgs false
namespace Go.Proofs.Ytcfpkkgdofblfaa.PBU
open Go.RowKit Go.Proofs.YtcfpkkgdofblfaaW.PrintWords Go.Proofs.YtcfpkkgdofblfaaW.PrintLast Go.Proofs.YtcfpkkgdofblfaaW.PrintMore Go.Proofs.Ytcfpkkgdofblfaa.HW
attribute [local go_sem] run_makeFunc_ max2_int min2_int max_two min_two max_three min_three max_four min_four   -- for this text's walks alone
set_option linter.unusedVariables false
set_option linter.unusedSimpArgs false
/-! ### quittanceref05_Open: function 20 -/
def quittanceref05_Open.f (l0 : List Int) (a1 : Int) : Option (Bool) := (Go.Proofs.Ytcfpkkgdofblfaa.H.quittanceref03_Is.f a1).bind fun t101 => (if t101 = true then ((Go.Proofs.Ytcfpkkgdofblfaa.H.quittanceref03_Weekday.f a1).bind fun t102 => (if t102 < 5 then ((Go.Proofs.Ytcfpkkgdofblfaa.H.help_In_int.f l0 a1).bind fun t103 => (some (!t103))) else (some false))) else (some false))
set_option maxHeartbeats 8000000 in
set_option maxRecDepth 100000 in
theorem quittanceref05_Open.calls (A0 : Option Addr) (c0 : Nat) (l0 : List Int) (a1 : Int) (r : Bool) (w : World) (hr0 : Kd.C (Kd.int .i64) w A0 l0.length l0) (hc0 : l0.length ≤ c0) (h : quittanceref05_Open.f l0 a1 = some r) :
  Calls Try.prog 20 #[.slice A0 l0.length c0, .int .i64 a1] w fun e w' => e = .returned (.bool r) ∧ Drawn0 w w' := by
 have HR0 := Aside0.mk hr0
 have HC0 := Aside0.mk hc0
 clear hr0 hc0
 have H : ((Go.Proofs.Ytcfpkkgdofblfaa.H.quittanceref03_Is.f a1).bind fun t101 => (if t101 = true then ((Go.Proofs.Ytcfpkkgdofblfaa.H.quittanceref03_Weekday.f a1).bind fun t102 => (if t102 < 5 then ((Go.Proofs.Ytcfpkkgdofblfaa.H.help_In_int.f l0 a1).bind fun t103 => (some (!t103))) else (some false))) else (some false))) = some r := h
 clear h
 replace H := Option.bind_eq_some_iff.mp H
 obtain ⟨t101, A30, H⟩ := H
 replace H : (if t101 = true then ((Go.Proofs.Ytcfpkkgdofblfaa.H.quittanceref03_Weekday.f a1).bind fun t102 => (if t102 < 5 then ((Go.Proofs.Ytcfpkkgdofblfaa.H.help_In_int.f l0 a1).bind fun t103 => (some (!t103))) else (some false))) else (some false)) = some r := H
 have A3 := Aside0.mk A30
 clear A30
 by_cases c4 : t101 = true
 ·subst c4
  have H1 : ((Go.Proofs.Ytcfpkkgdofblfaa.H.quittanceref03_Weekday.f a1).bind fun t102 => (if t102 < 5 then ((Go.Proofs.Ytcfpkkgdofblfaa.H.help_In_int.f l0 a1).bind fun t103 => (some (!t103))) else (some false))) = some r := by rw [if_pos rfl] at H; exact H
  clear H
  have H := H1
  clear H1
  replace H := Option.bind_eq_some_iff.mp H
  obtain ⟨t102, A50, H⟩ := H
  replace H : (if t102 < 5 then ((Go.Proofs.Ytcfpkkgdofblfaa.H.help_In_int.f l0 a1).bind fun t103 => (some (!t103))) else (some false)) = some r := H
  have A5 := Aside0.mk A50
  clear A50
  by_cases c6 : t102 < 5
  ·rw [if_pos c6] at H
   have c6b0 : decide (t102 < 5) = true := decide_eq_true c6
   clear c6
   replace H := Option.bind_eq_some_iff.mp H
   obtain ⟨t103, A70, H⟩ := H
   replace H : (some (!t103)) = some r := H
   have A7 := Aside0.mk A70
   clear A70
   obtain rfl := Option.some.inj H
   go_enter Try.func20, Try.ntmps20
   go_wp2_with (first | ((with_reducible refine gate_callee (f := 31) rfl ?_); refine goesL_ (some 6) rfl rfl Try.func31 (by kernel_rfl) rfl #[.int .i64 a1] rfl (by (try simp only [List.map_toArray, List.map_cons, List.map_nil]); first | done | rfl | (simp only [List.length_drop, List.length_take]; rfl)) ?_; (with_reducible refine (Go.Proofs.Ytcfpkkgdofblfaa.H.quittanceref03_Is.calls a1 true _ A3.out).mono ?_); rintro e w' ⟨rfl, ⟨nd, rfl⟩⟩; refine ⟨_, rfl, ?_⟩) | (go_at_call 43; (with_reducible refine (Go.Proofs.Ytcfpkkgdofblfaa.H.quittanceref03_Weekday.calls a1 t102 _ A5.out).mono ?_); rintro e w' ⟨rfl, ⟨nd, rfl⟩⟩) | (go_at_call 44; (with_reducible refine (Go.Proofs.Ytcfpkkgdofblfaa.H.help_In_int.calls _ _ l0 a1 t103 _ ?side1 ?side2 A7.out).mono ?_); (case side1 => repeat (first | exact HR0.out | (with_reducible refine Kd.C_alloc ?_ _) | (with_reducible refine Kd.C_drewN ?_ _) | (with_reducible refine Kd.C_drew ?_))); (case side2 => exact HC0.out); rintro e w' ⟨rfl, ⟨nd, rfl⟩⟩))
   go_ret
   exact ⟨by first | rfl | (simp; done) | (simp [*]; done), by repeat (first | exact Drawn0.refl _ | apply Drawn0.step)⟩
  ·rw [if_neg c6] at H
   have c6b0 : decide (t102 < 5) = false := decide_eq_false c6
   clear c6
   obtain rfl := Option.some.inj H
   go_enter Try.func20, Try.ntmps20
   go_wp2_with (first | ((with_reducible refine gate_callee (f := 31) rfl ?_); refine goesL_ (some 6) rfl rfl Try.func31 (by kernel_rfl) rfl #[.int .i64 a1] rfl (by (try simp only [List.map_toArray, List.map_cons, List.map_nil]); first | done | rfl | (simp only [List.length_drop, List.length_take]; rfl)) ?_; (with_reducible refine (Go.Proofs.Ytcfpkkgdofblfaa.H.quittanceref03_Is.calls a1 true _ A3.out).mono ?_); rintro e w' ⟨rfl, ⟨nd, rfl⟩⟩; refine ⟨_, rfl, ?_⟩) | (go_at_call 43; (with_reducible refine (Go.Proofs.Ytcfpkkgdofblfaa.H.quittanceref03_Weekday.calls a1 t102 _ A5.out).mono ?_); rintro e w' ⟨rfl, ⟨nd, rfl⟩⟩))
   go_ret
   exact ⟨by first | rfl | (simp; done) | (simp [*]; done), by repeat (first | exact Drawn0.refl _ | apply Drawn0.step)⟩
 ·replace c4 := Bool.eq_false_iff.mpr c4
  subst c4
  have H1 : (some false) = some r := by rw [if_neg (show ¬ (false = true) by decide)] at H; exact H
  clear H
  have H := H1
  clear H1
  obtain rfl := Option.some.inj H
  go_enter Try.func20, Try.ntmps20
  go_wp2_with (first | ((with_reducible refine gate_callee (f := 31) rfl ?_); refine goesL_ (some 6) rfl rfl Try.func31 (by kernel_rfl) rfl #[.int .i64 a1] rfl (by (try simp only [List.map_toArray, List.map_cons, List.map_nil]); first | done | rfl | (simp only [List.length_drop, List.length_take]; rfl)) ?_; (with_reducible refine (Go.Proofs.Ytcfpkkgdofblfaa.H.quittanceref03_Is.calls a1 false _ A3.out).mono ?_); rintro e w' ⟨rfl, ⟨nd, rfl⟩⟩; refine ⟨_, rfl, ?_⟩))
  go_ret
  exact ⟨by first | rfl | (simp; done) | (simp [*]; done), by repeat (first | exact Drawn0.refl _ | apply Drawn0.step)⟩
/-! ### quittanceref05_seek: function 69 -/
def quittanceref05_seek.l0 : Nat → List Int → Int → Int → Option (Int × Bool)
 | 0, _, _, _ => none
 | k + 1, x0, x2, x8 => (Go.Proofs.Ytcfpkkgdofblfaa.H.quittanceref03_Is.f x8).bind fun t104 => (if t104 = true then ((quittanceref05_Open.f x0 x8).bind fun t105 => (if t105 = true then (some (x8, true)) else (quittanceref05_seek.l0 k x0 x2 (wrap64 (x8 + x2))))) else (some (0, false)))
def quittanceref05_seek.f (k : Nat) (l0 : List Int) (a1 : Int) (a2 : Int) : Option (Int × Bool) := quittanceref05_seek.l0 k l0 a2 a1
theorem quittanceref05_seek.mono_l : ∀ k, (∀ y0 y1 y2, LeO (quittanceref05_seek.l0 k y0 y1 y2) (quittanceref05_seek.l0 (k + 1) y0 y1 y2))
 | 0 => fun _ _ _ r h => by simp [quittanceref05_seek.l0] at h
 | k + 1 => by
  have ih0 := quittanceref05_seek.mono_l k
  ·intro y0 y1 y2
   unfold quittanceref05_seek.l0
   repeat' first
   | (with_reducible exact ih0 _ _ _)
   | (with_reducible exact LeO.refl _)
   | (with_reducible exact LeO.none _)
   | (with_reducible refine LeO.ite ?_ ?_)
   | (with_reducible refine LeO.bind ?_ (fun _ => ?_))
   | exact ih0 _ _ _
   | exact LeO.none _
   | refine LeO.ite ?_ ?_
   | refine LeO.bind ?_ (fun _ => ?_)
theorem quittanceref05_seek.mono : ∀ a0 a1 a2 k, LeO (quittanceref05_seek.f k a0 a1 a2) (quittanceref05_seek.f (k + 1) a0 a1 a2) := by
 intro a0 a1 a2 k
 have ih0 := quittanceref05_seek.mono_l k
 unfold quittanceref05_seek.f
 repeat' first
   | (with_reducible exact ih0 _ _ _)
   | (with_reducible exact LeO.refl _)
   | (with_reducible exact LeO.none _)
   | (with_reducible refine LeO.ite ?_ ?_)
   | (with_reducible refine LeO.bind ?_ (fun _ => ?_))
   | exact ih0 _ _ _
   | exact LeO.none _
   | refine LeO.ite ?_ ?_
   | refine LeO.bind ?_ (fun _ => ?_)
set_option maxHeartbeats 8000000 in
set_option maxRecDepth 100000 in
theorem quittanceref05_seek.calls (k : Nat) (A0 : Option Addr) (c0 : Nat) (l0 : List Int) (a1 : Int) (a2 : Int) (r1 : Int) (r2 : Bool) (w : World) (hr0 : Kd.C (Kd.int .i64) w A0 l0.length l0) (hc0 : l0.length ≤ c0) (h : quittanceref05_seek.f k l0 a1 a2 = some (r1, r2)) :
  Calls Try.prog 69 #[.slice A0 l0.length c0, .int .i64 a1, .int .i64 a2] w fun e w' => e = .returned (.tuple #[.int .i64 r1, .bool r2]) ∧ Drawn0 w w' := by
 have HR0 := Aside0.mk hr0
 have HC0 := Aside0.mk hc0
 clear hr0 hc0
 have H : (quittanceref05_seek.l0 k l0 a2 a1) = some (r1, r2) := h
 clear h
 have H' := Aside0.mk H
 clear H
 go_enter Try.func69, Try.ntmps69
 go_wp2
 go_loopg [8] k (fun kq v8 w' => ∃ (x8_1 : Int), v8 = .int .i64 x8_1 ∧ Aside0 (quittanceref05_seek.l0 kq l0 a2 x8_1 = some (r1, r2)) ∧ Aside0 (kq ≤ k) ∧ Drawn0 w w')
 case atStart => exact ⟨(a1), (by first | rfl | (simp; done) | (simp [*]; done)), H', ⟨Nat.le_refl _⟩, by repeat (first | exact Drawn0.refl _ | apply Drawn0.step)⟩
 case round =>
  clear H'
  try clear p2
  obtain ⟨x8_1, rfl, HA, HK1, ⟨m1, rfl⟩⟩ := hrel
  cases gk with
  | zero => exact absurd HA.out (by simp [quittanceref05_seek.l0])
  | succ k1 =>
   have H := HA.out
   clear HA
   simp only [quittanceref05_seek.l0] at H
   replace H := Option.bind_eq_some_iff.mp H
   obtain ⟨t104, A40, H⟩ := H
   replace H : (if t104 = true then ((quittanceref05_Open.f l0 x8_1).bind fun t105 => (if t105 = true then (some (x8_1, true)) else (quittanceref05_seek.l0 k1 l0 a2 (wrap64 (x8_1 + a2))))) else (some (0, false))) = some (r1, r2) := H
   have A4 := Aside0.mk A40
   clear A40
   by_cases c5 : t104 = true
   ·subst c5
    have H1 : ((quittanceref05_Open.f l0 x8_1).bind fun t105 => (if t105 = true then (some (x8_1, true)) else (quittanceref05_seek.l0 k1 l0 a2 (wrap64 (x8_1 + a2))))) = some (r1, r2) := by rw [if_pos rfl] at H; exact H
    clear H
    have H := H1
    clear H1
    replace H := Option.bind_eq_some_iff.mp H
    obtain ⟨t105, A60, H⟩ := H
    replace H : (if t105 = true then (some (x8_1, true)) else (quittanceref05_seek.l0 k1 l0 a2 (wrap64 (x8_1 + a2)))) = some (r1, r2) := H
    have A6 := Aside0.mk A60
    clear A60
    by_cases c7 : t105 = true
    ·subst c7
     have H1 : (some (x8_1, true)) = some (r1, r2) := by rw [if_pos rfl] at H; exact H
     clear H
     have H := H1
     clear H1
     simp only [Option.some.injEq, Prod.mk.injEq] at H
     obtain ⟨rfl, rfl⟩ := H
     go_wp2_with (first | ((with_reducible refine gate_callee (f := 31) rfl ?_); refine goesL_ (some 11) rfl rfl Try.func31 (by kernel_rfl) rfl #[.int .i64 x8_1] rfl (by (try simp only [List.map_toArray, List.map_cons, List.map_nil]); first | done | rfl | (simp only [List.length_drop, List.length_take]; rfl)) ?_; (with_reducible refine (Go.Proofs.Ytcfpkkgdofblfaa.H.quittanceref03_Is.calls x8_1 true _ A4.out).mono ?_); rintro e w' ⟨rfl, ⟨nd, rfl⟩⟩; refine ⟨_, rfl, ?_⟩) | ((with_reducible refine gate_callee (f := 20) rfl ?_); refine goesL_ (some 17) rfl rfl Try.func20 (by kernel_rfl) rfl #[.slice A0 l0.length c0, .int .i64 x8_1] rfl (by (try simp only [List.map_toArray, List.map_cons, List.map_nil]); first | done | rfl | (simp only [List.length_drop, List.length_take]; rfl)) ?_; (with_reducible refine (quittanceref05_Open.calls _ _ l0 x8_1 true _ ?side1 ?side2 A6.out).mono ?_); (case side1 => repeat (first | exact HR0.out | (with_reducible refine Kd.C_alloc ?_ _) | (with_reducible refine Kd.C_drewN ?_ _) | (with_reducible refine Kd.C_drew ?_))); (case side2 => exact HC0.out); rintro e w' ⟨rfl, ⟨nd, rfl⟩⟩; refine ⟨_, rfl, ?_⟩))
     go_ret2
     exact ⟨by first | rfl | (simp; done) | (simp [*]; done), by repeat (first | exact Drawn0.refl _ | apply Drawn0.step)⟩
    ·replace c7 := Bool.eq_false_iff.mpr c7
     subst c7
     have H1 : (quittanceref05_seek.l0 k1 l0 a2 (wrap64 (x8_1 + a2))) = some (r1, r2) := by rw [if_neg (show ¬ (false = true) by decide)] at H; exact H
     clear H
     have H := H1
     clear H1
     have H' := Aside0.mk H
     clear H
     go_wp2_with (first | ((with_reducible refine gate_callee (f := 31) rfl ?_); refine goesL_ (some 11) rfl rfl Try.func31 (by kernel_rfl) rfl #[.int .i64 x8_1] rfl (by (try simp only [List.map_toArray, List.map_cons, List.map_nil]); first | done | rfl | (simp only [List.length_drop, List.length_take]; rfl)) ?_; (with_reducible refine (Go.Proofs.Ytcfpkkgdofblfaa.H.quittanceref03_Is.calls x8_1 true _ A4.out).mono ?_); rintro e w' ⟨rfl, ⟨nd, rfl⟩⟩; refine ⟨_, rfl, ?_⟩) | ((with_reducible refine gate_callee (f := 20) rfl ?_); refine goesL_ (some 17) rfl rfl Try.func20 (by kernel_rfl) rfl #[.slice A0 l0.length c0, .int .i64 x8_1] rfl (by (try simp only [List.map_toArray, List.map_cons, List.map_nil]); first | done | rfl | (simp only [List.length_drop, List.length_take]; rfl)) ?_; (with_reducible refine (quittanceref05_Open.calls _ _ l0 x8_1 false _ ?side1 ?side2 A6.out).mono ?_); (case side1 => repeat (first | exact HR0.out | (with_reducible refine Kd.C_alloc ?_ _) | (with_reducible refine Kd.C_drewN ?_ _) | (with_reducible refine Kd.C_drew ?_))); (case side2 => exact HC0.out); rintro e w' ⟨rfl, ⟨nd, rfl⟩⟩; refine ⟨_, rfl, ?_⟩))
     go_roundg k1
     case measure => have := HK1.out; omega
     case rel => exact ⟨(wrap64 (x8_1 + a2)), (by first | rfl | (simp; done) | (simp [*]; done)), H', ⟨by have := HK1.out; omega⟩, by repeat (first | exact Drawn0.refl _ | apply Drawn0.step)⟩
   ·replace c5 := Bool.eq_false_iff.mpr c5
    subst c5
    have H1 : (some (0, false)) = some (r1, r2) := by rw [if_neg (show ¬ (false = true) by decide)] at H; exact H
    clear H
    have H := H1
    clear H1
    simp only [Option.some.injEq, Prod.mk.injEq] at H
    obtain ⟨rfl, rfl⟩ := H
    go_wp2_with (first | ((with_reducible refine gate_callee (f := 31) rfl ?_); refine goesL_ (some 11) rfl rfl Try.func31 (by kernel_rfl) rfl #[.int .i64 x8_1] rfl (by (try simp only [List.map_toArray, List.map_cons, List.map_nil]); first | done | rfl | (simp only [List.length_drop, List.length_take]; rfl)) ?_; (with_reducible refine (Go.Proofs.Ytcfpkkgdofblfaa.H.quittanceref03_Is.calls x8_1 false _ A4.out).mono ?_); rintro e w' ⟨rfl, ⟨nd, rfl⟩⟩; refine ⟨_, rfl, ?_⟩))
    go_ret2
    exact ⟨by first | rfl | (simp; done) | (simp [*]; done), by repeat (first | exact Drawn0.refl _ | apply Drawn0.step)⟩
/-! ### quittanceref05_Roll: function 37 -/
mutual
def quittanceref05_Roll.j0 : Nat → List Int → Int → Int → Bool → Option (Int × Int)
 | 0, _, _, _, _ => none
 | k + 1, x0, x1, x2, x24 => if x24 = true then (some (0, 1)) else (if x2 = 1 then (quittanceref05_Roll.j1 k x0 x1 x2 true) else ((quittanceref05_Open.f x0 x1).bind fun t107 => (quittanceref05_Roll.j1 k x0 x1 x2 t107)))
def quittanceref05_Roll.j1 : Nat → List Int → Int → Int → Bool → Option (Int × Int)
 | 0, _, _, _, _ => none
 | k + 1, x0, x1, x2, x31 => if x31 = true then (some (x1, 0)) else ((quittanceref05_seek.f k x0 x1 1).bind fun bt108 => ((quittanceref05_seek.f k x0 x1 (-1)).bind fun bt110 => (if x2 = 3 then ((Go.Proofs.Ytcfpkkgdofblfaa.H.quittanceref03_Date.f x1).bind fun bt112 => ((Go.Proofs.Ytcfpkkgdofblfaa.H.quittanceref03_Date.f bt108.1).bind fun bt117 => (if bt108.2 = true then (if bt112.2.1 = bt117.2.1 then (if bt112.1 = bt117.1 then (quittanceref05_Roll.j2 k x2 bt108.1 bt108.2 bt110.1 bt110.2) else (quittanceref05_Roll.j2 k 4 bt108.1 bt108.2 bt110.1 bt110.2)) else (quittanceref05_Roll.j2 k 4 bt108.1 bt108.2 bt110.1 bt110.2)) else (quittanceref05_Roll.j2 k 4 bt108.1 bt108.2 bt110.1 bt110.2)))) else (quittanceref05_Roll.j2 k x2 bt108.1 bt108.2 bt110.1 bt110.2))))
def quittanceref05_Roll.j2 : Nat → Int → Int → Bool → Int → Bool → Option (Int × Int)
 | 0, _, _, _, _, _ => none
 | k + 1, x2, x8, x9, x10, x11 => if x2 = 4 then (if x11 = true then (some (x10, 0)) else (some (0, 5))) else (if x9 = true then (some (x8, 0)) else (some (0, 5)))
end
def quittanceref05_Roll.f (k : Nat) (l0 : List Int) (a1 : Int) (a2 : Int) : Option (Int × Int) := (Go.Proofs.Ytcfpkkgdofblfaa.H.quittanceref03_Is.f a1).bind fun t106 => (if t106 = true then (if a2 < 1 then (quittanceref05_Roll.j0 k l0 a1 a2 true) else (quittanceref05_Roll.j0 k l0 a1 a2 (decide (a2 > 4)))) else (some (0, 5)))
theorem quittanceref05_Roll.mono_l : ∀ k, (∀ y0 y1 y2 y3, LeO (quittanceref05_Roll.j0 k y0 y1 y2 y3) (quittanceref05_Roll.j0 (k + 1) y0 y1 y2 y3)) ∧ (∀ y0 y1 y2 y3, LeO (quittanceref05_Roll.j1 k y0 y1 y2 y3) (quittanceref05_Roll.j1 (k + 1) y0 y1 y2 y3)) ∧ (∀ y0 y1 y2 y3 y4, LeO (quittanceref05_Roll.j2 k y0 y1 y2 y3 y4) (quittanceref05_Roll.j2 (k + 1) y0 y1 y2 y3 y4))
 | 0 => ⟨fun _ _ _ _ r h => by simp [quittanceref05_Roll.j0] at h, fun _ _ _ _ r h => by simp [quittanceref05_Roll.j1] at h, fun _ _ _ _ _ r h => by simp [quittanceref05_Roll.j2] at h⟩
 | k + 1 => by
  obtain ⟨ih0, ih1, ih2⟩ := quittanceref05_Roll.mono_l k
  refine ⟨?_, ?_, ?_⟩
  ·intro y0 y1 y2 y3
   unfold quittanceref05_Roll.j0
   repeat' first
   | (with_reducible exact ih0 _ _ _ _)
   | (with_reducible exact ih1 _ _ _ _)
   | (with_reducible exact ih2 _ _ _ _ _)
   | (with_reducible exact quittanceref05_seek.mono _ _ _ _)
   | (with_reducible exact LeO.refl _)
   | (with_reducible exact LeO.none _)
   | (with_reducible refine LeO.ite ?_ ?_)
   | (with_reducible refine LeO.bind ?_ (fun _ => ?_))
   | exact ih0 _ _ _ _
   | exact ih1 _ _ _ _
   | exact ih2 _ _ _ _ _
   | exact quittanceref05_seek.mono _ _ _ _
   | exact LeO.none _
   | refine LeO.ite ?_ ?_
   | refine LeO.bind ?_ (fun _ => ?_)
  ·intro y0 y1 y2 y3
   unfold quittanceref05_Roll.j1
   repeat' first
   | (with_reducible exact ih0 _ _ _ _)
   | (with_reducible exact ih1 _ _ _ _)
   | (with_reducible exact ih2 _ _ _ _ _)
   | (with_reducible exact quittanceref05_seek.mono _ _ _ _)
   | (with_reducible exact LeO.refl _)
   | (with_reducible exact LeO.none _)
   | (with_reducible refine LeO.ite ?_ ?_)
   | (with_reducible refine LeO.bind ?_ (fun _ => ?_))
   | exact ih0 _ _ _ _
   | exact ih1 _ _ _ _
   | exact ih2 _ _ _ _ _
   | exact quittanceref05_seek.mono _ _ _ _
   | exact LeO.none _
   | refine LeO.ite ?_ ?_
   | refine LeO.bind ?_ (fun _ => ?_)
  ·intro y0 y1 y2 y3 y4
   unfold quittanceref05_Roll.j2
   repeat' first
   | (with_reducible exact ih0 _ _ _ _)
   | (with_reducible exact ih1 _ _ _ _)
   | (with_reducible exact ih2 _ _ _ _ _)
   | (with_reducible exact quittanceref05_seek.mono _ _ _ _)
   | (with_reducible exact LeO.refl _)
   | (with_reducible exact LeO.none _)
   | (with_reducible refine LeO.ite ?_ ?_)
   | (with_reducible refine LeO.bind ?_ (fun _ => ?_))
   | exact ih0 _ _ _ _
   | exact ih1 _ _ _ _
   | exact ih2 _ _ _ _ _
   | exact quittanceref05_seek.mono _ _ _ _
   | exact LeO.none _
   | refine LeO.ite ?_ ?_
   | refine LeO.bind ?_ (fun _ => ?_)
theorem quittanceref05_Roll.mono : ∀ a0 a1 a2 k, LeO (quittanceref05_Roll.f k a0 a1 a2) (quittanceref05_Roll.f (k + 1) a0 a1 a2) := by
 intro a0 a1 a2 k
 obtain ⟨ih0, ih1, ih2⟩ := quittanceref05_Roll.mono_l k
 unfold quittanceref05_Roll.f
 repeat' first
   | (with_reducible exact ih0 _ _ _ _)
   | (with_reducible exact ih1 _ _ _ _)
   | (with_reducible exact ih2 _ _ _ _ _)
   | (with_reducible exact quittanceref05_seek.mono _ _ _ _)
   | (with_reducible exact LeO.refl _)
   | (with_reducible exact LeO.none _)
   | (with_reducible refine LeO.ite ?_ ?_)
   | (with_reducible refine LeO.bind ?_ (fun _ => ?_))
   | exact ih0 _ _ _ _
   | exact ih1 _ _ _ _
   | exact ih2 _ _ _ _ _
   | exact quittanceref05_seek.mono _ _ _ _
   | exact LeO.none _
   | refine LeO.ite ?_ ?_
   | refine LeO.bind ?_ (fun _ => ?_)
set_option maxHeartbeats 8000000 in
set_option maxRecDepth 100000 in
theorem quittanceref05_Roll.calls (k : Nat) (A0 : Option Addr) (c0 : Nat) (l0 : List Int) (a1 : Int) (a2 : Int) (r1 : Int) (r2 : Int) (w : World) (hr0 : Kd.C (Kd.int .i64) w A0 l0.length l0) (hc0 : l0.length ≤ c0) (h : quittanceref05_Roll.f k l0 a1 a2 = some (r1, r2)) :
  Calls Try.prog 37 #[.slice A0 l0.length c0, .int .i64 a1, .int .i64 a2] w fun e w' => e = .returned (.tuple #[.int .i64 r1, .int .i64 r2]) ∧ Below w.heap.size w w' := by
 have hu99 := Try.underlying99
 have HR0 := Aside0.mk hr0
 have HC0 := Aside0.mk hc0
 clear hr0 hc0
 have HB := Aside0.mk (Below.refl w.heap.size w)
 have H : ((Go.Proofs.Ytcfpkkgdofblfaa.H.quittanceref03_Is.f a1).bind fun t106 => (if t106 = true then (if a2 < 1 then (quittanceref05_Roll.j0 k l0 a1 a2 true) else (quittanceref05_Roll.j0 k l0 a1 a2 (decide (a2 > 4)))) else (some (0, 5)))) = some (r1, r2) := h
 clear h
 replace H := Option.bind_eq_some_iff.mp H
 obtain ⟨t106, A40, H⟩ := H
 replace H : (if t106 = true then (if a2 < 1 then (quittanceref05_Roll.j0 k l0 a1 a2 true) else (quittanceref05_Roll.j0 k l0 a1 a2 (decide (a2 > 4)))) else (some (0, 5))) = some (r1, r2) := H
 have A4 := Aside0.mk A40
 clear A40
 by_cases c5 : t106 = true
 ·subst c5
  have H1 : (if a2 < 1 then (quittanceref05_Roll.j0 k l0 a1 a2 true) else (quittanceref05_Roll.j0 k l0 a1 a2 (decide (a2 > 4)))) = some (r1, r2) := by rw [if_pos rfl] at H; exact H
  clear H
  have H := H1
  clear H1
  have HC6 := Aside0.mk H
  clear H
  go_enter Try.func37, Try.ntmps37
  go_upto_region 3 with (first | ((with_reducible refine gate_callee (f := 31) rfl ?_); refine goesL_ (some 17) rfl rfl Try.func31 (by kernel_rfl) rfl #[.int .i64 a1] rfl (by (try simp only [List.map_toArray, List.map_cons, List.map_nil]); first | done | rfl | (simp only [List.length_drop, List.length_take]; rfl)) ?_; (with_reducible refine (Go.Proofs.Ytcfpkkgdofblfaa.H.quittanceref03_Is.calls a1 true _ A4.out).mono ?_); rintro e w' ⟨rfl, ⟨nd, rfl⟩⟩; refine ⟨_, rfl, ?_⟩))
  (try simp only [Act.put, List.setIfInBounds_toArray, List.set_cons_zero, List.set_cons_succ])
  go_cut [24] (fun v24 wc => ∃ (kq : Nat) (x24_5 : Bool), v24 = .bool x24_5 ∧ Aside0 (quittanceref05_Roll.j0 kq l0 a1 a2 x24_5 = some (r1, r2)) ∧ Aside0 (kq ≤ k) ∧ Aside0 (Below w.heap.size w wc))
  case first =>
   have H := HC6.out
   clear HC6
   by_cases c7 : a2 < 1
   ·rw [if_pos c7] at H
    have c7b0 : decide (a2 < 1) = true := decide_eq_true c7
    clear c7
    (first | rw [c7b0] | (simp only [i64_w, i32_w]; rw [c7b0]) | skip)
    have H' := Aside0.mk H
    clear H
    go_wp2
    go_meet
    case rel => exact ⟨_, (true), (by first | rfl | (simp; done) | (simp [*]; done)), H', ⟨by first | omega | exact Nat.le_refl _⟩, ⟨by repeat (first | (with_reducible first | exact HB.out | apply below_alloc | apply pw_below_drewN | apply below_drew1) | exact HB.out)⟩⟩
   ·rw [if_neg c7] at H
    have c7b0 : decide (a2 < 1) = false := decide_eq_false c7
    clear c7
    (first | rw [c7b0] | (simp only [i64_w, i32_w]; rw [c7b0]) | skip)
    have H' := Aside0.mk H
    clear H
    go_wp2
    go_meet
    case rel => exact ⟨_, (decide (a2 > 4)), (by first | rfl | (simp; done) | (simp [*]; done)), H', ⟨by first | omega | exact Nat.le_refl _⟩, ⟨by repeat (first | (with_reducible first | exact HB.out | apply below_alloc | apply pw_below_drewN | apply below_drew1) | exact HB.out)⟩⟩
  case rest =>
   clear HC6
   try clear p2
   try clear c3
   try clear c5
   try clear c7
   try clear c7b0
   obtain ⟨kq, x24_5, rfl, HA, HJ5, HB⟩ := hcut
   cases kq with
   | zero => exact absurd HA.out (by simp [quittanceref05_Roll.j0])
   | succ kj5 =>
    have H := HA.out
    clear HA
    simp only [quittanceref05_Roll.j0] at H
    by_cases c8 : x24_5 = true
    ·subst c8
     have H1 : (some (0, 1)) = some (r1, r2) := by rw [if_pos rfl] at H; exact H
     clear H
     have H := H1
     clear H1
     simp only [Option.some.injEq, Prod.mk.injEq] at H
     obtain ⟨rfl, rfl⟩ := H
     go_wp2
     go_ret2
     exact ⟨by first | rfl | (simp [errW_none, errW_some] <;> rfl) | (simp [*, errW_none, errW_some] <;> rfl), by repeat (first | (with_reducible first | exact HB.out | apply below_alloc | apply pw_below_drewN | apply below_drew1) | exact HB.out)⟩
    ·replace c8 := Bool.eq_false_iff.mpr c8
     subst c8
     have H1 : (if a2 = 1 then (quittanceref05_Roll.j1 kj5 l0 a1 a2 true) else ((quittanceref05_Open.f l0 a1).bind fun t107 => (quittanceref05_Roll.j1 kj5 l0 a1 a2 t107))) = some (r1, r2) := by rw [if_neg (show ¬ (false = true) by decide)] at H; exact H
     clear H
     have H := H1
     clear H1
     have HC9 := Aside0.mk H
     clear H
     go_upto_region 5 with (fail)
     go_cut [31] (fun v31 wc => ∃ (kq : Nat) (x31_8 : Bool), v31 = .bool x31_8 ∧ Aside0 (quittanceref05_Roll.j1 kq l0 a1 a2 x31_8 = some (r1, r2)) ∧ Aside0 (kq ≤ kj5) ∧ Aside0 (Below w.heap.size w wc))
     case first =>
      have H := HC9.out
      clear HC9
      by_cases c10 : a2 = 1
      ·rw [if_pos c10] at H
       have c10b0 : (a2 == 1) = true := beq_iff_eq.mpr c10
       have c10b1 : (a2 != 1) = false := bne_eq_false_iff_eq.mpr c10
       clear c10
       (first | rw [c10b0] | (simp only [i64_w, i32_w]; rw [c10b0]) | skip)
       have H' := Aside0.mk H
       clear H
       go_wp2
       go_meet
       case rel => exact ⟨_, (true), (by first | rfl | (simp; done) | (simp [*]; done)), H', ⟨by have := HJ5.out; first | omega | exact Nat.le_refl _⟩, ⟨by repeat (first | (with_reducible first | exact HB.out | apply below_alloc | apply pw_below_drewN | apply below_drew1) | exact HB.out)⟩⟩
      ·rw [if_neg c10] at H
       have c10b0 : (a2 == 1) = false := beq_eq_false_iff_ne.mpr c10
       have c10b1 : (a2 != 1) = true := bne_iff_ne.mpr c10
       (first | rw [c10b0] | (simp only [i64_w, i32_w]; rw [c10b0]) | skip)
       replace H := Option.bind_eq_some_iff.mp H
       obtain ⟨t107, A110, H⟩ := H
       replace H : (quittanceref05_Roll.j1 kj5 l0 a1 a2 t107) = some (r1, r2) := H
       have A11 := Aside0.mk A110
       clear A110
       have H' := Aside0.mk H
       clear H
       go_wp2_with (first | (go_at_call 20; (with_reducible refine (quittanceref05_Open.calls _ _ l0 a1 t107 _ ?side1 ?side2 A11.out).mono ?_); (case side1 => repeat (first | exact (Kd.C_below HR0.out HB.out) | (with_reducible refine Kd.C_alloc ?_ _) | (with_reducible refine Kd.C_drewN ?_ _) | (with_reducible refine Kd.C_drew ?_))); (case side2 => exact HC0.out); rintro e w' ⟨rfl, ⟨nd, rfl⟩⟩))
       go_meet
       case rel => exact ⟨_, (t107), (by first | rfl | (simp; done) | (simp [*]; done)), H', ⟨by have := HJ5.out; first | omega | exact Nat.le_refl _⟩, ⟨by repeat (first | (with_reducible first | exact HB.out | apply below_alloc | apply pw_below_drewN | apply below_drew1) | exact HB.out)⟩⟩
     case rest =>
      clear HC9
      try clear c1
      try clear p2
      try clear c3
      try clear c5
      try clear c7
      try clear c7b0
      try clear c8
      try clear c10
      try clear c10b0
      try clear c10b1
      try clear p2
      obtain ⟨kq, x31_8, rfl, HA, HJ8, HB⟩ := hcut
      cases kq with
      | zero => exact absurd HA.out (by simp [quittanceref05_Roll.j1])
      | succ kj8 =>
       have H := HA.out
       clear HA
       simp only [quittanceref05_Roll.j1] at H
       by_cases c12 : x31_8 = true
       ·subst c12
        have H1 : (some (a1, 0)) = some (r1, r2) := by rw [if_pos rfl] at H; exact H
        clear H
        have H := H1
        clear H1
        simp only [Option.some.injEq, Prod.mk.injEq] at H
        obtain ⟨rfl, rfl⟩ := H
        go_wp2
        go_ret2
        exact ⟨by first | rfl | (simp [errW_none, errW_some] <;> rfl) | (simp [*, errW_none, errW_some] <;> rfl), by repeat (first | (with_reducible first | exact HB.out | apply below_alloc | apply pw_below_drewN | apply below_drew1) | exact HB.out)⟩
       ·replace c12 := Bool.eq_false_iff.mpr c12
        subst c12
        have H1 : ((quittanceref05_seek.f kj8 l0 a1 1).bind fun bt108 => ((quittanceref05_seek.f kj8 l0 a1 (-1)).bind fun bt110 => (if a2 = 3 then ((Go.Proofs.Ytcfpkkgdofblfaa.H.quittanceref03_Date.f a1).bind fun bt112 => ((Go.Proofs.Ytcfpkkgdofblfaa.H.quittanceref03_Date.f bt108.1).bind fun bt117 => (if bt108.2 = true then (if bt112.2.1 = bt117.2.1 then (if bt112.1 = bt117.1 then (quittanceref05_Roll.j2 kj8 a2 bt108.1 bt108.2 bt110.1 bt110.2) else (quittanceref05_Roll.j2 kj8 4 bt108.1 bt108.2 bt110.1 bt110.2)) else (quittanceref05_Roll.j2 kj8 4 bt108.1 bt108.2 bt110.1 bt110.2)) else (quittanceref05_Roll.j2 kj8 4 bt108.1 bt108.2 bt110.1 bt110.2)))) else (quittanceref05_Roll.j2 kj8 a2 bt108.1 bt108.2 bt110.1 bt110.2)))) = some (r1, r2) := by rw [if_neg (show ¬ (false = true) by decide)] at H; exact H
        clear H
        have H := H1
        clear H1
        replace H := Option.bind_eq_some_iff.mp H
        obtain ⟨⟨t108, t109⟩, A130, H⟩ := H
        replace H : ((quittanceref05_seek.f kj8 l0 a1 (-1)).bind fun bt110 => (if a2 = 3 then ((Go.Proofs.Ytcfpkkgdofblfaa.H.quittanceref03_Date.f a1).bind fun bt112 => ((Go.Proofs.Ytcfpkkgdofblfaa.H.quittanceref03_Date.f t108).bind fun bt117 => (if t109 = true then (if bt112.2.1 = bt117.2.1 then (if bt112.1 = bt117.1 then (quittanceref05_Roll.j2 kj8 a2 t108 t109 bt110.1 bt110.2) else (quittanceref05_Roll.j2 kj8 4 t108 t109 bt110.1 bt110.2)) else (quittanceref05_Roll.j2 kj8 4 t108 t109 bt110.1 bt110.2)) else (quittanceref05_Roll.j2 kj8 4 t108 t109 bt110.1 bt110.2)))) else (quittanceref05_Roll.j2 kj8 a2 t108 t109 bt110.1 bt110.2))) = some (r1, r2) := H
        have A13 := Aside0.mk A130
        clear A130
        replace H := Option.bind_eq_some_iff.mp H
        obtain ⟨⟨t110, t111⟩, A140, H⟩ := H
        replace H : (if a2 = 3 then ((Go.Proofs.Ytcfpkkgdofblfaa.H.quittanceref03_Date.f a1).bind fun bt112 => ((Go.Proofs.Ytcfpkkgdofblfaa.H.quittanceref03_Date.f t108).bind fun bt117 => (if t109 = true then (if bt112.2.1 = bt117.2.1 then (if bt112.1 = bt117.1 then (quittanceref05_Roll.j2 kj8 a2 t108 t109 t110 t111) else (quittanceref05_Roll.j2 kj8 4 t108 t109 t110 t111)) else (quittanceref05_Roll.j2 kj8 4 t108 t109 t110 t111)) else (quittanceref05_Roll.j2 kj8 4 t108 t109 t110 t111)))) else (quittanceref05_Roll.j2 kj8 a2 t108 t109 t110 t111)) = some (r1, r2) := H
        have A14 := Aside0.mk A140
        clear A140
        have HC15 := Aside0.mk H
        clear H
        go_upto_if 46 with (first | ((with_reducible refine gate_callee (f := 69) rfl ?_); refine goesL_ (some 36) rfl rfl Try.func69 (by kernel_rfl) rfl #[.slice A0 l0.length c0, .int .i64 a1, .int .i64 1] rfl (by (try simp only [List.map_toArray, List.map_cons, List.map_nil]); first | done | rfl | (simp only [List.length_drop, List.length_take]; rfl)) ?_; (with_reducible refine (quittanceref05_seek.calls kj8 _ _ l0 a1 1 t108 t109 _ ?side1 ?side2 A13.out).mono ?_); (case side1 => repeat (first | exact (Kd.C_below HR0.out HB.out) | (with_reducible refine Kd.C_alloc ?_ _) | (with_reducible refine Kd.C_drewN ?_ _) | (with_reducible refine Kd.C_drew ?_))); (case side2 => exact HC0.out); rintro e w' ⟨rfl, ⟨nd, rfl⟩⟩; refine ⟨_, rfl, ?_⟩) | ((with_reducible refine gate_callee (f := 69) rfl ?_); refine goesL_ (some 42) rfl rfl Try.func69 (by kernel_rfl) rfl #[.slice A0 l0.length c0, .int .i64 a1, .int .i64 (-1)] rfl (by (try simp only [List.map_toArray, List.map_cons, List.map_nil]); first | done | rfl | (simp only [List.length_drop, List.length_take]; rfl)) ?_; (with_reducible refine (quittanceref05_seek.calls kj8 _ _ l0 a1 (-1) t110 t111 _ ?side1 ?side2 A14.out).mono ?_); (case side1 => repeat (first | exact (Kd.C_below HR0.out (by repeat (first | (with_reducible first | exact HB.out | apply below_alloc | apply pw_below_drewN | apply below_drew1) | exact HB.out))) | (with_reducible refine Kd.C_alloc ?_ _) | (with_reducible refine Kd.C_drewN ?_ _) | (with_reducible refine Kd.C_drew ?_))); (case side2 => exact HC0.out); rintro e w' ⟨rfl, ⟨nd, rfl⟩⟩; refine ⟨_, rfl, ?_⟩))
        (try simp only [Act.put, List.setIfInBounds_toArray, List.set_cons_zero, List.set_cons_succ])
        go_cut [2] (fun v2 wc => ∃ (kq : Nat) (x2_14 : Int), v2 = .int .i64 x2_14 ∧ Aside0 (quittanceref05_Roll.j2 kq x2_14 t108 t109 t110 t111 = some (r1, r2)) ∧ Aside0 (kq ≤ kj8) ∧ Aside0 (Below w.heap.size w wc))
        case first =>
         have H := HC15.out
         clear HC15
         by_cases c16 : a2 = 3
         ·rw [if_pos c16] at H
          have c16b0 : (a2 == 3) = true := beq_iff_eq.mpr c16
          have c16b1 : (a2 != 3) = false := bne_eq_false_iff_eq.mpr c16
          clear c16
          (first | rw [c16b0] | (simp only [i64_w, i32_w]; rw [c16b0]) | skip)
          replace H := Option.bind_eq_some_iff.mp H
          obtain ⟨⟨t112, t113, t114, t115⟩, A170, H⟩ := H
          replace H : ((Go.Proofs.Ytcfpkkgdofblfaa.H.quittanceref03_Date.f t108).bind fun bt117 => (if t109 = true then (if t113 = bt117.2.1 then (if t112 = bt117.1 then (quittanceref05_Roll.j2 kj8 a2 t108 t109 t110 t111) else (quittanceref05_Roll.j2 kj8 4 t108 t109 t110 t111)) else (quittanceref05_Roll.j2 kj8 4 t108 t109 t110 t111)) else (quittanceref05_Roll.j2 kj8 4 t108 t109 t110 t111))) = some (r1, r2) := H
          have A17 := Aside0.mk A170
          clear A170
          replace H := Option.bind_eq_some_iff.mp H
          obtain ⟨⟨t117, t118, t119, t120⟩, A180, H⟩ := H
          replace H : (if t109 = true then (if t113 = t118 then (if t112 = t117 then (quittanceref05_Roll.j2 kj8 a2 t108 t109 t110 t111) else (quittanceref05_Roll.j2 kj8 4 t108 t109 t110 t111)) else (quittanceref05_Roll.j2 kj8 4 t108 t109 t110 t111)) else (quittanceref05_Roll.j2 kj8 4 t108 t109 t110 t111)) = some (r1, r2) := H
          have A18 := Aside0.mk A180
          clear A180
          by_cases c19 : t109 = true
          ·subst c19
           have H1 : (if t113 = t118 then (if t112 = t117 then (quittanceref05_Roll.j2 kj8 a2 t108 true t110 t111) else (quittanceref05_Roll.j2 kj8 4 t108 true t110 t111)) else (quittanceref05_Roll.j2 kj8 4 t108 true t110 t111)) = some (r1, r2) := by rw [if_pos rfl] at H; exact H
           clear H
           have H := H1
           clear H1
           by_cases c20 : t113 = t118
           ·rw [if_pos c20] at H
            have c20b0 : (t113 == t118) = true := beq_iff_eq.mpr c20
            have c20b1 : (t113 != t118) = false := bne_eq_false_iff_eq.mpr c20
            clear c20
            by_cases c21 : t112 = t117
            ·rw [if_pos c21] at H
             have c21b0 : (t112 == t117) = true := beq_iff_eq.mpr c21
             have c21b1 : (t112 != t117) = false := bne_eq_false_iff_eq.mpr c21
             clear c21
             have H' := Aside0.mk H
             clear H
             go_wp2_with (first | ((with_reducible refine gate_callee (f := 70) rfl ?_); refine goesL_ (some 49) rfl rfl Try.func70 (by kernel_rfl) rfl #[.int .i64 a1] rfl (by (try simp only [List.map_toArray, List.map_cons, List.map_nil]); first | done | rfl | (simp only [List.length_drop, List.length_take]; rfl)) ?_; (with_reducible refine (Go.Proofs.Ytcfpkkgdofblfaa.H.quittanceref03_Date.calls a1 t112 t113 t114 t115 _ A17.out).mono ?_); rintro e w22 ⟨rfl, hb⟩; refine ⟨_, rfl, ?_⟩; have n0_ := Aside0.mk (below_step (by repeat (first | (with_reducible first | exact HB.out | apply below_alloc | apply pw_below_drewN | apply below_drew1) | exact HB.out)) hb); clear HB; have HB := n0_; clear n0_; (try clear hb); (try clear hb2); (try clear hk); (try clear hi)) | ((with_reducible refine gate_dst (N := 12) rfl ?_); refine box_event ?hg (N := 12) ?hd (cs := #[.int .i64 0, .int .i64 0, .int .i64 0]) (t := 99) ?hr ?_; (case hd => rfl); (case hg => rfl); (case hr => first | (go_simp; done) | (go_simp; rfl)); intro gb116 hg w23 hbox hb; have n0_ := Aside0.mk (below_step (by repeat (first | (with_reducible first | exact HB.out | apply below_alloc | apply pw_below_drewN | apply below_drew1) | exact HB.out)) hb); have n1_ := Aside0.mk (hbox); have n2_ := Aside0.mk ((by rw [hg]; exact (below_size (by repeat (first | (with_reducible first | exact HB.out | apply below_alloc | apply pw_below_drewN | apply below_drew1) | exact HB.out))) : w.heap.size ≤ gb116)); have n3_ := Aside0.mk ((by rw [hg]; exact (below_size (by repeat (first | (with_reducible first | exact HB.out | apply below_alloc | apply pw_below_drewN | apply below_drew1) | exact HB.out))) : w.heap.size ≤ gb116)); clear HB; have HB := n0_; have BK116 := n1_; have GW116 := n2_; have GE116 := n3_; clear n0_ n1_ n2_ n3_; clear hb hbox hg; (try have hu116_0 : w23.cell? ⟨gb116, 0, none⟩ = some (.int .i64 0) := (blk_cell BK116.out 0).trans rfl); (try have hu116_1 : w23.cell? ⟨gb116, 1, none⟩ = some (.int .i64 0) := (blk_cell BK116.out 1).trans rfl); (try have hu116_2 : w23.cell? ⟨gb116, 2, none⟩ = some (.int .i64 0) := (blk_cell BK116.out 2).trans rfl); (try have hv116_0 := blk_frozen BK116.out 0); (try have hv116_1 := blk_frozen BK116.out 1); (try have hv116_2 := blk_frozen BK116.out 2); have hcz24_0 : w23.cell? ⟨gb116, 0, none⟩ = some (.int .i64 0) := (blk_cell BK116.out 0).trans rfl; have hcz24_1 : w23.cell? ⟨gb116, 1, none⟩ = some (.int .i64 0) := (blk_cell BK116.out 1).trans rfl; have hcz24_2 : w23.cell? ⟨gb116, 2, none⟩ = some (.int .i64 0) := (blk_cell BK116.out 2).trans rfl; have hfz24_0 := blk_frozen BK116.out 0; have hfz24_1 := blk_frozen BK116.out 1; have hfz24_2 := blk_frozen BK116.out 2) | ((with_reducible refine gate_callee (f := 70) rfl ?_); refine goesL_ (some 54) rfl rfl Try.func70 (by kernel_rfl) rfl #[.int .i64 t108] rfl (by (try simp only [List.map_toArray, List.map_cons, List.map_nil]); first | done | rfl | (simp only [List.length_drop, List.length_take]; rfl)) ?_; (with_reducible refine (Go.Proofs.Ytcfpkkgdofblfaa.H.quittanceref03_Date.calls t108 t117 t118 t119 t120 _ A18.out).mono ?_); rintro e w25 ⟨rfl, hb⟩; refine ⟨_, rfl, ?_⟩; have n0_ := Aside0.mk (blk_below (g := gb116) (o := .cells #[.int .i64 t112, .int .i64 t113, .int .i64 t114] 99 (0, 0)) (by (with_reducible repeat (first | refine blk_drewN ?_ _ | refine blk_drew ?_ | refine blk_alloc ?_ _)); refine blk_put (cs := #[.int .i64 t112, .int .i64 t113, .int .i64 0]) ?_ 2 _ rfl; (with_reducible repeat (first | refine blk_drewN ?_ _ | refine blk_drew ?_ | refine blk_alloc ?_ _)); refine blk_put (cs := #[.int .i64 t112, .int .i64 0, .int .i64 0]) ?_ 1 _ rfl; (with_reducible repeat (first | refine blk_drewN ?_ _ | refine blk_drew ?_ | refine blk_alloc ?_ _)); refine blk_put (cs := #[.int .i64 0, .int .i64 0, .int .i64 0]) ?_ 0 _ rfl; (with_reducible repeat (first | refine blk_drewN ?_ _ | refine blk_drew ?_ | refine blk_alloc ?_ _)); exact BK116.out) hb); have n1_ := Aside0.mk (below_step (by repeat (first | (with_reducible first | exact HB.out | apply below_alloc | apply pw_below_drewN | apply below_drew1 | refine below_set ?_ GE116.out) | exact HB.out)) hb); clear BK116; clear HB; have BK116 := n0_; have HB := n1_; clear n0_ n1_; (try clear hb); (try clear hb2); (try clear hk); (try clear hi); (try have hu116_0 : w25.cell? ⟨gb116, 0, none⟩ = some (.int .i64 t112) := (blk_cell BK116.out 0).trans rfl); (try have hu116_1 : w25.cell? ⟨gb116, 1, none⟩ = some (.int .i64 t113) := (blk_cell BK116.out 1).trans rfl); (try have hu116_2 : w25.cell? ⟨gb116, 2, none⟩ = some (.int .i64 t114) := (blk_cell BK116.out 2).trans rfl); (try have hv116_0 := blk_frozen BK116.out 0); (try have hv116_1 := blk_frozen BK116.out 1); (try have hv116_2 := blk_frozen BK116.out 2)) | ((with_reducible refine gate_dst (N := 14) rfl ?_); refine box_event ?hg (N := 14) ?hd (cs := #[.int .i64 0, .int .i64 0, .int .i64 0]) (t := 99) ?hr ?_; (case hd => rfl); (case hg => rfl); (case hr => first | (go_simp; done) | (go_simp; rfl)); intro gb121 hg w26 hbox hb; have n0_ := Aside0.mk (blk_below (g := gb116) (o := .cells #[.int .i64 t112, .int .i64 t113, .int .i64 t114] 99 (0, 0)) (by (with_reducible repeat (first | refine blk_drewN ?_ _ | refine blk_drew ?_ | refine blk_alloc ?_ _)); exact BK116.out) hb); have n1_ := Aside0.mk (below_step (by repeat (first | (with_reducible first | exact HB.out | apply below_alloc | apply pw_below_drewN | apply below_drew1 | refine below_set ?_ GE116.out) | exact HB.out)) hb); have n2_ := Aside0.mk (hbox); have n3_ := Aside0.mk ((by rw [hg]; exact (below_size (by repeat (first | (with_reducible first | exact HB.out | apply below_alloc | apply pw_below_drewN | apply below_drew1 | refine below_set ?_ GE116.out) | exact HB.out))) : w.heap.size ≤ gb121)); have n4_ := Aside0.mk ((by rw [hg]; exact (below_size (by repeat (first | (with_reducible first | exact HB.out | apply below_alloc | apply pw_below_drewN | apply below_drew1 | refine below_set ?_ GE116.out) | exact HB.out))) : w.heap.size ≤ gb121)); have n5_ := Aside0.mk ((by rw [hg]; exact Nat.ne_of_lt (blk_lt (g := gb116) (o := .cells #[.int .i64 t112, .int .i64 t113, .int .i64 t114] 99 (0, 0)) (by (with_reducible repeat (first | refine blk_drewN ?_ _ | refine blk_drew ?_ | refine blk_alloc ?_ _)); exact BK116.out)) : gb116 ≠ gb121)); have n6_ := Aside0.mk ((by rw [hg]; exact Nat.ne_of_gt (blk_lt (g := gb116) (o := .cells #[.int .i64 t112, .int .i64 t113, .int .i64 t114] 99 (0, 0)) (by (with_reducible repeat (first | refine blk_drewN ?_ _ | refine blk_drew ?_ | refine blk_alloc ?_ _)); exact BK116.out)) : gb121 ≠ gb116)); clear BK116; clear HB; have BK116 := n0_; have HB := n1_; have BK121 := n2_; have GW121 := n3_; have GE121 := n4_; have NB116_121 := n5_; have NB121_116 := n6_; clear n0_ n1_ n2_ n3_ n4_ n5_ n6_; clear hb hbox hg; (try have hu116_0 : w26.cell? ⟨gb116, 0, none⟩ = some (.int .i64 t112) := (blk_cell BK116.out 0).trans rfl); (try have hu116_1 : w26.cell? ⟨gb116, 1, none⟩ = some (.int .i64 t113) := (blk_cell BK116.out 1).trans rfl); (try have hu116_2 : w26.cell? ⟨gb116, 2, none⟩ = some (.int .i64 t114) := (blk_cell BK116.out 2).trans rfl); (try have hv116_0 := blk_frozen BK116.out 0); (try have hv116_1 := blk_frozen BK116.out 1); (try have hv116_2 := blk_frozen BK116.out 2); (try have hu121_0 : w26.cell? ⟨gb121, 0, none⟩ = some (.int .i64 0) := (blk_cell BK121.out 0).trans rfl); (try have hu121_1 : w26.cell? ⟨gb121, 1, none⟩ = some (.int .i64 0) := (blk_cell BK121.out 1).trans rfl); (try have hu121_2 : w26.cell? ⟨gb121, 2, none⟩ = some (.int .i64 0) := (blk_cell BK121.out 2).trans rfl); (try have hv121_0 := blk_frozen BK121.out 0); (try have hv121_1 := blk_frozen BK121.out 1); (try have hv121_2 := blk_frozen BK121.out 2); have hnb27 := NB121_116.out; have hnc27 := NB116_121.out; have hcz28_0 : w26.cell? ⟨gb121, 0, none⟩ = some (.int .i64 0) := (blk_cell BK121.out 0).trans rfl; have hcz28_1 : w26.cell? ⟨gb121, 1, none⟩ = some (.int .i64 0) := (blk_cell BK121.out 1).trans rfl; have hcz28_2 : w26.cell? ⟨gb121, 2, none⟩ = some (.int .i64 0) := (blk_cell BK121.out 2).trans rfl; have hfz28_0 := blk_frozen BK121.out 0; have hfz28_1 := blk_frozen BK121.out 1; have hfz28_2 := blk_frozen BK121.out 2; have hcz29_0 : w26.cell? ⟨gb116, 0, none⟩ = some (.int .i64 t112) := (blk_cell BK116.out 0).trans rfl; have hcz29_1 : w26.cell? ⟨gb116, 1, none⟩ = some (.int .i64 t113) := (blk_cell BK116.out 1).trans rfl; have hcz29_2 : w26.cell? ⟨gb116, 2, none⟩ = some (.int .i64 t114) := (blk_cell BK116.out 2).trans rfl; have hfz29_0 := blk_frozen BK116.out 0; have hfz29_1 := blk_frozen BK116.out 1; have hfz29_2 := blk_frozen BK116.out 2))
             go_meet
             case rel => exact ⟨_, (a2), (by first | rfl | (simp; done) | (simp [*]; done)), H', ⟨by have := HJ5.out; have := HJ8.out; first | omega | exact Nat.le_refl _⟩, ⟨by repeat (first | (with_reducible first | exact HB.out | apply below_alloc | apply pw_below_drewN | apply below_drew1 | refine below_set ?_ GE116.out | refine below_set ?_ GE121.out) | exact HB.out)⟩⟩
            ·rw [if_neg c21] at H
             have c21b0 : (t112 == t117) = false := beq_eq_false_iff_ne.mpr c21
             have c21b1 : (t112 != t117) = true := bne_iff_ne.mpr c21
             have H' := Aside0.mk H
             clear H
             go_wp2_with (first | ((with_reducible refine gate_callee (f := 70) rfl ?_); refine goesL_ (some 49) rfl rfl Try.func70 (by kernel_rfl) rfl #[.int .i64 a1] rfl (by (try simp only [List.map_toArray, List.map_cons, List.map_nil]); first | done | rfl | (simp only [List.length_drop, List.length_take]; rfl)) ?_; (with_reducible refine (Go.Proofs.Ytcfpkkgdofblfaa.H.quittanceref03_Date.calls a1 t112 t113 t114 t115 _ A17.out).mono ?_); rintro e w30 ⟨rfl, hb⟩; refine ⟨_, rfl, ?_⟩; have n0_ := Aside0.mk (below_step (by repeat (first | (with_reducible first | exact HB.out | apply below_alloc | apply pw_below_drewN | apply below_drew1) | exact HB.out)) hb); clear HB; have HB := n0_; clear n0_; (try clear hb); (try clear hb2); (try clear hk); (try clear hi)) | ((with_reducible refine gate_dst (N := 12) rfl ?_); refine box_event ?hg (N := 12) ?hd (cs := #[.int .i64 0, .int .i64 0, .int .i64 0]) (t := 99) ?hr ?_; (case hd => rfl); (case hg => rfl); (case hr => first | (go_simp; done) | (go_simp; rfl)); intro gb116 hg w31 hbox hb; have n0_ := Aside0.mk (below_step (by repeat (first | (with_reducible first | exact HB.out | apply below_alloc | apply pw_below_drewN | apply below_drew1) | exact HB.out)) hb); have n1_ := Aside0.mk (hbox); have n2_ := Aside0.mk ((by rw [hg]; exact (below_size (by repeat (first | (with_reducible first | exact HB.out | apply below_alloc | apply pw_below_drewN | apply below_drew1) | exact HB.out))) : w.heap.size ≤ gb116)); have n3_ := Aside0.mk ((by rw [hg]; exact (below_size (by repeat (first | (with_reducible first | exact HB.out | apply below_alloc | apply pw_below_drewN | apply below_drew1) | exact HB.out))) : w.heap.size ≤ gb116)); clear HB; have HB := n0_; have BK116 := n1_; have GW116 := n2_; have GE116 := n3_; clear n0_ n1_ n2_ n3_; clear hb hbox hg; (try have hu116_0 : w31.cell? ⟨gb116, 0, none⟩ = some (.int .i64 0) := (blk_cell BK116.out 0).trans rfl); (try have hu116_1 : w31.cell? ⟨gb116, 1, none⟩ = some (.int .i64 0) := (blk_cell BK116.out 1).trans rfl); (try have hu116_2 : w31.cell? ⟨gb116, 2, none⟩ = some (.int .i64 0) := (blk_cell BK116.out 2).trans rfl); (try have hv116_0 := blk_frozen BK116.out 0); (try have hv116_1 := blk_frozen BK116.out 1); (try have hv116_2 := blk_frozen BK116.out 2); have hcz32_0 : w31.cell? ⟨gb116, 0, none⟩ = some (.int .i64 0) := (blk_cell BK116.out 0).trans rfl; have hcz32_1 : w31.cell? ⟨gb116, 1, none⟩ = some (.int .i64 0) := (blk_cell BK116.out 1).trans rfl; have hcz32_2 : w31.cell? ⟨gb116, 2, none⟩ = some (.int .i64 0) := (blk_cell BK116.out 2).trans rfl; have hfz32_0 := blk_frozen BK116.out 0; have hfz32_1 := blk_frozen BK116.out 1; have hfz32_2 := blk_frozen BK116.out 2) | ((with_reducible refine gate_callee (f := 70) rfl ?_); refine goesL_ (some 54) rfl rfl Try.func70 (by kernel_rfl) rfl #[.int .i64 t108] rfl (by (try simp only [List.map_toArray, List.map_cons, List.map_nil]); first | done | rfl | (simp only [List.length_drop, List.length_take]; rfl)) ?_; (with_reducible refine (Go.Proofs.Ytcfpkkgdofblfaa.H.quittanceref03_Date.calls t108 t117 t118 t119 t120 _ A18.out).mono ?_); rintro e w33 ⟨rfl, hb⟩; refine ⟨_, rfl, ?_⟩; have n0_ := Aside0.mk (blk_below (g := gb116) (o := .cells #[.int .i64 t112, .int .i64 t113, .int .i64 t114] 99 (0, 0)) (by (with_reducible repeat (first | refine blk_drewN ?_ _ | refine blk_drew ?_ | refine blk_alloc ?_ _)); refine blk_put (cs := #[.int .i64 t112, .int .i64 t113, .int .i64 0]) ?_ 2 _ rfl; (with_reducible repeat (first | refine blk_drewN ?_ _ | refine blk_drew ?_ | refine blk_alloc ?_ _)); refine blk_put (cs := #[.int .i64 t112, .int .i64 0, .int .i64 0]) ?_ 1 _ rfl; (with_reducible repeat (first | refine blk_drewN ?_ _ | refine blk_drew ?_ | refine blk_alloc ?_ _)); refine blk_put (cs := #[.int .i64 0, .int .i64 0, .int .i64 0]) ?_ 0 _ rfl; (with_reducible repeat (first | refine blk_drewN ?_ _ | refine blk_drew ?_ | refine blk_alloc ?_ _)); exact BK116.out) hb); have n1_ := Aside0.mk (below_step (by repeat (first | (with_reducible first | exact HB.out | apply below_alloc | apply pw_below_drewN | apply below_drew1 | refine below_set ?_ GE116.out) | exact HB.out)) hb); clear BK116; clear HB; have BK116 := n0_; have HB := n1_; clear n0_ n1_; (try clear hb); (try clear hb2); (try clear hk); (try clear hi); (try have hu116_0 : w33.cell? ⟨gb116, 0, none⟩ = some (.int .i64 t112) := (blk_cell BK116.out 0).trans rfl); (try have hu116_1 : w33.cell? ⟨gb116, 1, none⟩ = some (.int .i64 t113) := (blk_cell BK116.out 1).trans rfl); (try have hu116_2 : w33.cell? ⟨gb116, 2, none⟩ = some (.int .i64 t114) := (blk_cell BK116.out 2).trans rfl); (try have hv116_0 := blk_frozen BK116.out 0); (try have hv116_1 := blk_frozen BK116.out 1); (try have hv116_2 := blk_frozen BK116.out 2)) | ((with_reducible refine gate_dst (N := 14) rfl ?_); refine box_event ?hg (N := 14) ?hd (cs := #[.int .i64 0, .int .i64 0, .int .i64 0]) (t := 99) ?hr ?_; (case hd => rfl); (case hg => rfl); (case hr => first | (go_simp; done) | (go_simp; rfl)); intro gb121 hg w34 hbox hb; have n0_ := Aside0.mk (blk_below (g := gb116) (o := .cells #[.int .i64 t112, .int .i64 t113, .int .i64 t114] 99 (0, 0)) (by (with_reducible repeat (first | refine blk_drewN ?_ _ | refine blk_drew ?_ | refine blk_alloc ?_ _)); exact BK116.out) hb); have n1_ := Aside0.mk (below_step (by repeat (first | (with_reducible first | exact HB.out | apply below_alloc | apply pw_below_drewN | apply below_drew1 | refine below_set ?_ GE116.out) | exact HB.out)) hb); have n2_ := Aside0.mk (hbox); have n3_ := Aside0.mk ((by rw [hg]; exact (below_size (by repeat (first | (with_reducible first | exact HB.out | apply below_alloc | apply pw_below_drewN | apply below_drew1 | refine below_set ?_ GE116.out) | exact HB.out))) : w.heap.size ≤ gb121)); have n4_ := Aside0.mk ((by rw [hg]; exact (below_size (by repeat (first | (with_reducible first | exact HB.out | apply below_alloc | apply pw_below_drewN | apply below_drew1 | refine below_set ?_ GE116.out) | exact HB.out))) : w.heap.size ≤ gb121)); have n5_ := Aside0.mk ((by rw [hg]; exact Nat.ne_of_lt (blk_lt (g := gb116) (o := .cells #[.int .i64 t112, .int .i64 t113, .int .i64 t114] 99 (0, 0)) (by (with_reducible repeat (first | refine blk_drewN ?_ _ | refine blk_drew ?_ | refine blk_alloc ?_ _)); exact BK116.out)) : gb116 ≠ gb121)); have n6_ := Aside0.mk ((by rw [hg]; exact Nat.ne_of_gt (blk_lt (g := gb116) (o := .cells #[.int .i64 t112, .int .i64 t113, .int .i64 t114] 99 (0, 0)) (by (with_reducible repeat (first | refine blk_drewN ?_ _ | refine blk_drew ?_ | refine blk_alloc ?_ _)); exact BK116.out)) : gb121 ≠ gb116)); clear BK116; clear HB; have BK116 := n0_; have HB := n1_; have BK121 := n2_; have GW121 := n3_; have GE121 := n4_; have NB116_121 := n5_; have NB121_116 := n6_; clear n0_ n1_ n2_ n3_ n4_ n5_ n6_; clear hb hbox hg; (try have hu116_0 : w34.cell? ⟨gb116, 0, none⟩ = some (.int .i64 t112) := (blk_cell BK116.out 0).trans rfl); (try have hu116_1 : w34.cell? ⟨gb116, 1, none⟩ = some (.int .i64 t113) := (blk_cell BK116.out 1).trans rfl); (try have hu116_2 : w34.cell? ⟨gb116, 2, none⟩ = some (.int .i64 t114) := (blk_cell BK116.out 2).trans rfl); (try have hv116_0 := blk_frozen BK116.out 0); (try have hv116_1 := blk_frozen BK116.out 1); (try have hv116_2 := blk_frozen BK116.out 2); (try have hu121_0 : w34.cell? ⟨gb121, 0, none⟩ = some (.int .i64 0) := (blk_cell BK121.out 0).trans rfl); (try have hu121_1 : w34.cell? ⟨gb121, 1, none⟩ = some (.int .i64 0) := (blk_cell BK121.out 1).trans rfl); (try have hu121_2 : w34.cell? ⟨gb121, 2, none⟩ = some (.int .i64 0) := (blk_cell BK121.out 2).trans rfl); (try have hv121_0 := blk_frozen BK121.out 0); (try have hv121_1 := blk_frozen BK121.out 1); (try have hv121_2 := blk_frozen BK121.out 2); have hnb35 := NB121_116.out; have hnc35 := NB116_121.out; have hcz36_0 : w34.cell? ⟨gb121, 0, none⟩ = some (.int .i64 0) := (blk_cell BK121.out 0).trans rfl; have hcz36_1 : w34.cell? ⟨gb121, 1, none⟩ = some (.int .i64 0) := (blk_cell BK121.out 1).trans rfl; have hcz36_2 : w34.cell? ⟨gb121, 2, none⟩ = some (.int .i64 0) := (blk_cell BK121.out 2).trans rfl; have hfz36_0 := blk_frozen BK121.out 0; have hfz36_1 := blk_frozen BK121.out 1; have hfz36_2 := blk_frozen BK121.out 2; have hcz37_0 : w34.cell? ⟨gb116, 0, none⟩ = some (.int .i64 t112) := (blk_cell BK116.out 0).trans rfl; have hcz37_1 : w34.cell? ⟨gb116, 1, none⟩ = some (.int .i64 t113) := (blk_cell BK116.out 1).trans rfl; have hcz37_2 : w34.cell? ⟨gb116, 2, none⟩ = some (.int .i64 t114) := (blk_cell BK116.out 2).trans rfl; have hfz37_0 := blk_frozen BK116.out 0; have hfz37_1 := blk_frozen BK116.out 1; have hfz37_2 := blk_frozen BK116.out 2))
             go_meet
             case rel => exact ⟨_, (4), (by first | rfl | (simp; done) | (simp [*]; done)), H', ⟨by have := HJ5.out; have := HJ8.out; first | omega | exact Nat.le_refl _⟩, ⟨by repeat (first | (with_reducible first | exact HB.out | apply below_alloc | apply pw_below_drewN | apply below_drew1 | refine below_set ?_ GE116.out | refine below_set ?_ GE121.out) | exact HB.out)⟩⟩
           ·rw [if_neg c20] at H
            have c20b0 : (t113 == t118) = false := beq_eq_false_iff_ne.mpr c20
            have c20b1 : (t113 != t118) = true := bne_iff_ne.mpr c20
            have H' := Aside0.mk H
            clear H
            go_wp2_with (first | ((with_reducible refine gate_callee (f := 70) rfl ?_); refine goesL_ (some 49) rfl rfl Try.func70 (by kernel_rfl) rfl #[.int .i64 a1] rfl (by (try simp only [List.map_toArray, List.map_cons, List.map_nil]); first | done | rfl | (simp only [List.length_drop, List.length_take]; rfl)) ?_; (with_reducible refine (Go.Proofs.Ytcfpkkgdofblfaa.H.quittanceref03_Date.calls a1 t112 t113 t114 t115 _ A17.out).mono ?_); rintro e w38 ⟨rfl, hb⟩; refine ⟨_, rfl, ?_⟩; have n0_ := Aside0.mk (below_step (by repeat (first | (with_reducible first | exact HB.out | apply below_alloc | apply pw_below_drewN | apply below_drew1) | exact HB.out)) hb); clear HB; have HB := n0_; clear n0_; (try clear hb); (try clear hb2); (try clear hk); (try clear hi)) | ((with_reducible refine gate_dst (N := 12) rfl ?_); refine box_event ?hg (N := 12) ?hd (cs := #[.int .i64 0, .int .i64 0, .int .i64 0]) (t := 99) ?hr ?_; (case hd => rfl); (case hg => rfl); (case hr => first | (go_simp; done) | (go_simp; rfl)); intro gb116 hg w39 hbox hb; have n0_ := Aside0.mk (below_step (by repeat (first | (with_reducible first | exact HB.out | apply below_alloc | apply pw_below_drewN | apply below_drew1) | exact HB.out)) hb); have n1_ := Aside0.mk (hbox); have n2_ := Aside0.mk ((by rw [hg]; exact (below_size (by repeat (first | (with_reducible first | exact HB.out | apply below_alloc | apply pw_below_drewN | apply below_drew1) | exact HB.out))) : w.heap.size ≤ gb116)); have n3_ := Aside0.mk ((by rw [hg]; exact (below_size (by repeat (first | (with_reducible first | exact HB.out | apply below_alloc | apply pw_below_drewN | apply below_drew1) | exact HB.out))) : w.heap.size ≤ gb116)); clear HB; have HB := n0_; have BK116 := n1_; have GW116 := n2_; have GE116 := n3_; clear n0_ n1_ n2_ n3_; clear hb hbox hg; (try have hu116_0 : w39.cell? ⟨gb116, 0, none⟩ = some (.int .i64 0) := (blk_cell BK116.out 0).trans rfl); (try have hu116_1 : w39.cell? ⟨gb116, 1, none⟩ = some (.int .i64 0) := (blk_cell BK116.out 1).trans rfl); (try have hu116_2 : w39.cell? ⟨gb116, 2, none⟩ = some (.int .i64 0) := (blk_cell BK116.out 2).trans rfl); (try have hv116_0 := blk_frozen BK116.out 0); (try have hv116_1 := blk_frozen BK116.out 1); (try have hv116_2 := blk_frozen BK116.out 2); have hcz40_0 : w39.cell? ⟨gb116, 0, none⟩ = some (.int .i64 0) := (blk_cell BK116.out 0).trans rfl; have hcz40_1 : w39.cell? ⟨gb116, 1, none⟩ = some (.int .i64 0) := (blk_cell BK116.out 1).trans rfl; have hcz40_2 : w39.cell? ⟨gb116, 2, none⟩ = some (.int .i64 0) := (blk_cell BK116.out 2).trans rfl; have hfz40_0 := blk_frozen BK116.out 0; have hfz40_1 := blk_frozen BK116.out 1; have hfz40_2 := blk_frozen BK116.out 2) | ((with_reducible refine gate_callee (f := 70) rfl ?_); refine goesL_ (some 54) rfl rfl Try.func70 (by kernel_rfl) rfl #[.int .i64 t108] rfl (by (try simp only [List.map_toArray, List.map_cons, List.map_nil]); first | done | rfl | (simp only [List.length_drop, List.length_take]; rfl)) ?_; (with_reducible refine (Go.Proofs.Ytcfpkkgdofblfaa.H.quittanceref03_Date.calls t108 t117 t118 t119 t120 _ A18.out).mono ?_); rintro e w41 ⟨rfl, hb⟩; refine ⟨_, rfl, ?_⟩; have n0_ := Aside0.mk (blk_below (g := gb116) (o := .cells #[.int .i64 t112, .int .i64 t113, .int .i64 t114] 99 (0, 0)) (by (with_reducible repeat (first | refine blk_drewN ?_ _ | refine blk_drew ?_ | refine blk_alloc ?_ _)); refine blk_put (cs := #[.int .i64 t112, .int .i64 t113, .int .i64 0]) ?_ 2 _ rfl; (with_reducible repeat (first | refine blk_drewN ?_ _ | refine blk_drew ?_ | refine blk_alloc ?_ _)); refine blk_put (cs := #[.int .i64 t112, .int .i64 0, .int .i64 0]) ?_ 1 _ rfl; (with_reducible repeat (first | refine blk_drewN ?_ _ | refine blk_drew ?_ | refine blk_alloc ?_ _)); refine blk_put (cs := #[.int .i64 0, .int .i64 0, .int .i64 0]) ?_ 0 _ rfl; (with_reducible repeat (first | refine blk_drewN ?_ _ | refine blk_drew ?_ | refine blk_alloc ?_ _)); exact BK116.out) hb); have n1_ := Aside0.mk (below_step (by repeat (first | (with_reducible first | exact HB.out | apply below_alloc | apply pw_below_drewN | apply below_drew1 | refine below_set ?_ GE116.out) | exact HB.out)) hb); clear BK116; clear HB; have BK116 := n0_; have HB := n1_; clear n0_ n1_; (try clear hb); (try clear hb2); (try clear hk); (try clear hi); (try have hu116_0 : w41.cell? ⟨gb116, 0, none⟩ = some (.int .i64 t112) := (blk_cell BK116.out 0).trans rfl); (try have hu116_1 : w41.cell? ⟨gb116, 1, none⟩ = some (.int .i64 t113) := (blk_cell BK116.out 1).trans rfl); (try have hu116_2 : w41.cell? ⟨gb116, 2, none⟩ = some (.int .i64 t114) := (blk_cell BK116.out 2).trans rfl); (try have hv116_0 := blk_frozen BK116.out 0); (try have hv116_1 := blk_frozen BK116.out 1); (try have hv116_2 := blk_frozen BK116.out 2)) | ((with_reducible refine gate_dst (N := 14) rfl ?_); refine box_event ?hg (N := 14) ?hd (cs := #[.int .i64 0, .int .i64 0, .int .i64 0]) (t := 99) ?hr ?_; (case hd => rfl); (case hg => rfl); (case hr => first | (go_simp; done) | (go_simp; rfl)); intro gb121 hg w42 hbox hb; have n0_ := Aside0.mk (blk_below (g := gb116) (o := .cells #[.int .i64 t112, .int .i64 t113, .int .i64 t114] 99 (0, 0)) (by (with_reducible repeat (first | refine blk_drewN ?_ _ | refine blk_drew ?_ | refine blk_alloc ?_ _)); exact BK116.out) hb); have n1_ := Aside0.mk (below_step (by repeat (first | (with_reducible first | exact HB.out | apply below_alloc | apply pw_below_drewN | apply below_drew1 | refine below_set ?_ GE116.out) | exact HB.out)) hb); have n2_ := Aside0.mk (hbox); have n3_ := Aside0.mk ((by rw [hg]; exact (below_size (by repeat (first | (with_reducible first | exact HB.out | apply below_alloc | apply pw_below_drewN | apply below_drew1 | refine below_set ?_ GE116.out) | exact HB.out))) : w.heap.size ≤ gb121)); have n4_ := Aside0.mk ((by rw [hg]; exact (below_size (by repeat (first | (with_reducible first | exact HB.out | apply below_alloc | apply pw_below_drewN | apply below_drew1 | refine below_set ?_ GE116.out) | exact HB.out))) : w.heap.size ≤ gb121)); have n5_ := Aside0.mk ((by rw [hg]; exact Nat.ne_of_lt (blk_lt (g := gb116) (o := .cells #[.int .i64 t112, .int .i64 t113, .int .i64 t114] 99 (0, 0)) (by (with_reducible repeat (first | refine blk_drewN ?_ _ | refine blk_drew ?_ | refine blk_alloc ?_ _)); exact BK116.out)) : gb116 ≠ gb121)); have n6_ := Aside0.mk ((by rw [hg]; exact Nat.ne_of_gt (blk_lt (g := gb116) (o := .cells #[.int .i64 t112, .int .i64 t113, .int .i64 t114] 99 (0, 0)) (by (with_reducible repeat (first | refine blk_drewN ?_ _ | refine blk_drew ?_ | refine blk_alloc ?_ _)); exact BK116.out)) : gb121 ≠ gb116)); clear BK116; clear HB; have BK116 := n0_; have HB := n1_; have BK121 := n2_; have GW121 := n3_; have GE121 := n4_; have NB116_121 := n5_; have NB121_116 := n6_; clear n0_ n1_ n2_ n3_ n4_ n5_ n6_; clear hb hbox hg; (try have hu116_0 : w42.cell? ⟨gb116, 0, none⟩ = some (.int .i64 t112) := (blk_cell BK116.out 0).trans rfl); (try have hu116_1 : w42.cell? ⟨gb116, 1, none⟩ = some (.int .i64 t113) := (blk_cell BK116.out 1).trans rfl); (try have hu116_2 : w42.cell? ⟨gb116, 2, none⟩ = some (.int .i64 t114) := (blk_cell BK116.out 2).trans rfl); (try have hv116_0 := blk_frozen BK116.out 0); (try have hv116_1 := blk_frozen BK116.out 1); (try have hv116_2 := blk_frozen BK116.out 2); (try have hu121_0 : w42.cell? ⟨gb121, 0, none⟩ = some (.int .i64 0) := (blk_cell BK121.out 0).trans rfl); (try have hu121_1 : w42.cell? ⟨gb121, 1, none⟩ = some (.int .i64 0) := (blk_cell BK121.out 1).trans rfl); (try have hu121_2 : w42.cell? ⟨gb121, 2, none⟩ = some (.int .i64 0) := (blk_cell BK121.out 2).trans rfl); (try have hv121_0 := blk_frozen BK121.out 0); (try have hv121_1 := blk_frozen BK121.out 1); (try have hv121_2 := blk_frozen BK121.out 2); have hnb43 := NB121_116.out; have hnc43 := NB116_121.out; have hcz44_0 : w42.cell? ⟨gb121, 0, none⟩ = some (.int .i64 0) := (blk_cell BK121.out 0).trans rfl; have hcz44_1 : w42.cell? ⟨gb121, 1, none⟩ = some (.int .i64 0) := (blk_cell BK121.out 1).trans rfl; have hcz44_2 : w42.cell? ⟨gb121, 2, none⟩ = some (.int .i64 0) := (blk_cell BK121.out 2).trans rfl; have hfz44_0 := blk_frozen BK121.out 0; have hfz44_1 := blk_frozen BK121.out 1; have hfz44_2 := blk_frozen BK121.out 2; have hcz45_0 : w42.cell? ⟨gb116, 0, none⟩ = some (.int .i64 t112) := (blk_cell BK116.out 0).trans rfl; have hcz45_1 : w42.cell? ⟨gb116, 1, none⟩ = some (.int .i64 t113) := (blk_cell BK116.out 1).trans rfl; have hcz45_2 : w42.cell? ⟨gb116, 2, none⟩ = some (.int .i64 t114) := (blk_cell BK116.out 2).trans rfl; have hfz45_0 := blk_frozen BK116.out 0; have hfz45_1 := blk_frozen BK116.out 1; have hfz45_2 := blk_frozen BK116.out 2))
            go_meet
            case rel => exact ⟨_, (4), (by first | rfl | (simp; done) | (simp [*]; done)), H', ⟨by have := HJ5.out; have := HJ8.out; first | omega | exact Nat.le_refl _⟩, ⟨by repeat (first | (with_reducible first | exact HB.out | apply below_alloc | apply pw_below_drewN | apply below_drew1 | refine below_set ?_ GE116.out | refine below_set ?_ GE121.out) | exact HB.out)⟩⟩
          ·replace c19 := Bool.eq_false_iff.mpr c19
           subst c19
           have H1 : (quittanceref05_Roll.j2 kj8 4 t108 false t110 t111) = some (r1, r2) := by rw [if_neg (show ¬ (false = true) by decide)] at H; exact H
           clear H
           have H := H1
           clear H1
           have H' := Aside0.mk H
           clear H
           go_wp2_with (first | ((with_reducible refine gate_callee (f := 70) rfl ?_); refine goesL_ (some 49) rfl rfl Try.func70 (by kernel_rfl) rfl #[.int .i64 a1] rfl (by (try simp only [List.map_toArray, List.map_cons, List.map_nil]); first | done | rfl | (simp only [List.length_drop, List.length_take]; rfl)) ?_; (with_reducible refine (Go.Proofs.Ytcfpkkgdofblfaa.H.quittanceref03_Date.calls a1 t112 t113 t114 t115 _ A17.out).mono ?_); rintro e w46 ⟨rfl, hb⟩; refine ⟨_, rfl, ?_⟩; have n0_ := Aside0.mk (below_step (by repeat (first | (with_reducible first | exact HB.out | apply below_alloc | apply pw_below_drewN | apply below_drew1) | exact HB.out)) hb); clear HB; have HB := n0_; clear n0_; (try clear hb); (try clear hb2); (try clear hk); (try clear hi)) | ((with_reducible refine gate_dst (N := 12) rfl ?_); refine box_event ?hg (N := 12) ?hd (cs := #[.int .i64 0, .int .i64 0, .int .i64 0]) (t := 99) ?hr ?_; (case hd => rfl); (case hg => rfl); (case hr => first | (go_simp; done) | (go_simp; rfl)); intro gb116 hg w47 hbox hb; have n0_ := Aside0.mk (below_step (by repeat (first | (with_reducible first | exact HB.out | apply below_alloc | apply pw_below_drewN | apply below_drew1) | exact HB.out)) hb); have n1_ := Aside0.mk (hbox); have n2_ := Aside0.mk ((by rw [hg]; exact (below_size (by repeat (first | (with_reducible first | exact HB.out | apply below_alloc | apply pw_below_drewN | apply below_drew1) | exact HB.out))) : w.heap.size ≤ gb116)); have n3_ := Aside0.mk ((by rw [hg]; exact (below_size (by repeat (first | (with_reducible first | exact HB.out | apply below_alloc | apply pw_below_drewN | apply below_drew1) | exact HB.out))) : w.heap.size ≤ gb116)); clear HB; have HB := n0_; have BK116 := n1_; have GW116 := n2_; have GE116 := n3_; clear n0_ n1_ n2_ n3_; clear hb hbox hg; (try have hu116_0 : w47.cell? ⟨gb116, 0, none⟩ = some (.int .i64 0) := (blk_cell BK116.out 0).trans rfl); (try have hu116_1 : w47.cell? ⟨gb116, 1, none⟩ = some (.int .i64 0) := (blk_cell BK116.out 1).trans rfl); (try have hu116_2 : w47.cell? ⟨gb116, 2, none⟩ = some (.int .i64 0) := (blk_cell BK116.out 2).trans rfl); (try have hv116_0 := blk_frozen BK116.out 0); (try have hv116_1 := blk_frozen BK116.out 1); (try have hv116_2 := blk_frozen BK116.out 2); have hcz48_0 : w47.cell? ⟨gb116, 0, none⟩ = some (.int .i64 0) := (blk_cell BK116.out 0).trans rfl; have hcz48_1 : w47.cell? ⟨gb116, 1, none⟩ = some (.int .i64 0) := (blk_cell BK116.out 1).trans rfl; have hcz48_2 : w47.cell? ⟨gb116, 2, none⟩ = some (.int .i64 0) := (blk_cell BK116.out 2).trans rfl; have hfz48_0 := blk_frozen BK116.out 0; have hfz48_1 := blk_frozen BK116.out 1; have hfz48_2 := blk_frozen BK116.out 2) | ((with_reducible refine gate_callee (f := 70) rfl ?_); refine goesL_ (some 54) rfl rfl Try.func70 (by kernel_rfl) rfl #[.int .i64 t108] rfl (by (try simp only [List.map_toArray, List.map_cons, List.map_nil]); first | done | rfl | (simp only [List.length_drop, List.length_take]; rfl)) ?_; (with_reducible refine (Go.Proofs.Ytcfpkkgdofblfaa.H.quittanceref03_Date.calls t108 t117 t118 t119 t120 _ A18.out).mono ?_); rintro e w49 ⟨rfl, hb⟩; refine ⟨_, rfl, ?_⟩; have n0_ := Aside0.mk (blk_below (g := gb116) (o := .cells #[.int .i64 t112, .int .i64 t113, .int .i64 t114] 99 (0, 0)) (by (with_reducible repeat (first | refine blk_drewN ?_ _ | refine blk_drew ?_ | refine blk_alloc ?_ _)); refine blk_put (cs := #[.int .i64 t112, .int .i64 t113, .int .i64 0]) ?_ 2 _ rfl; (with_reducible repeat (first | refine blk_drewN ?_ _ | refine blk_drew ?_ | refine blk_alloc ?_ _)); refine blk_put (cs := #[.int .i64 t112, .int .i64 0, .int .i64 0]) ?_ 1 _ rfl; (with_reducible repeat (first | refine blk_drewN ?_ _ | refine blk_drew ?_ | refine blk_alloc ?_ _)); refine blk_put (cs := #[.int .i64 0, .int .i64 0, .int .i64 0]) ?_ 0 _ rfl; (with_reducible repeat (first | refine blk_drewN ?_ _ | refine blk_drew ?_ | refine blk_alloc ?_ _)); exact BK116.out) hb); have n1_ := Aside0.mk (below_step (by repeat (first | (with_reducible first | exact HB.out | apply below_alloc | apply pw_below_drewN | apply below_drew1 | refine below_set ?_ GE116.out) | exact HB.out)) hb); clear BK116; clear HB; have BK116 := n0_; have HB := n1_; clear n0_ n1_; (try clear hb); (try clear hb2); (try clear hk); (try clear hi); (try have hu116_0 : w49.cell? ⟨gb116, 0, none⟩ = some (.int .i64 t112) := (blk_cell BK116.out 0).trans rfl); (try have hu116_1 : w49.cell? ⟨gb116, 1, none⟩ = some (.int .i64 t113) := (blk_cell BK116.out 1).trans rfl); (try have hu116_2 : w49.cell? ⟨gb116, 2, none⟩ = some (.int .i64 t114) := (blk_cell BK116.out 2).trans rfl); (try have hv116_0 := blk_frozen BK116.out 0); (try have hv116_1 := blk_frozen BK116.out 1); (try have hv116_2 := blk_frozen BK116.out 2)) | ((with_reducible refine gate_dst (N := 14) rfl ?_); refine box_event ?hg (N := 14) ?hd (cs := #[.int .i64 0, .int .i64 0, .int .i64 0]) (t := 99) ?hr ?_; (case hd => rfl); (case hg => rfl); (case hr => first | (go_simp; done) | (go_simp; rfl)); intro gb121 hg w50 hbox hb; have n0_ := Aside0.mk (blk_below (g := gb116) (o := .cells #[.int .i64 t112, .int .i64 t113, .int .i64 t114] 99 (0, 0)) (by (with_reducible repeat (first | refine blk_drewN ?_ _ | refine blk_drew ?_ | refine blk_alloc ?_ _)); exact BK116.out) hb); have n1_ := Aside0.mk (below_step (by repeat (first | (with_reducible first | exact HB.out | apply below_alloc | apply pw_below_drewN | apply below_drew1 | refine below_set ?_ GE116.out) | exact HB.out)) hb); have n2_ := Aside0.mk (hbox); have n3_ := Aside0.mk ((by rw [hg]; exact (below_size (by repeat (first | (with_reducible first | exact HB.out | apply below_alloc | apply pw_below_drewN | apply below_drew1 | refine below_set ?_ GE116.out) | exact HB.out))) : w.heap.size ≤ gb121)); have n4_ := Aside0.mk ((by rw [hg]; exact (below_size (by repeat (first | (with_reducible first | exact HB.out | apply below_alloc | apply pw_below_drewN | apply below_drew1 | refine below_set ?_ GE116.out) | exact HB.out))) : w.heap.size ≤ gb121)); have n5_ := Aside0.mk ((by rw [hg]; exact Nat.ne_of_lt (blk_lt (g := gb116) (o := .cells #[.int .i64 t112, .int .i64 t113, .int .i64 t114] 99 (0, 0)) (by (with_reducible repeat (first | refine blk_drewN ?_ _ | refine blk_drew ?_ | refine blk_alloc ?_ _)); exact BK116.out)) : gb116 ≠ gb121)); have n6_ := Aside0.mk ((by rw [hg]; exact Nat.ne_of_gt (blk_lt (g := gb116) (o := .cells #[.int .i64 t112, .int .i64 t113, .int .i64 t114] 99 (0, 0)) (by (with_reducible repeat (first | refine blk_drewN ?_ _ | refine blk_drew ?_ | refine blk_alloc ?_ _)); exact BK116.out)) : gb121 ≠ gb116)); clear BK116; clear HB; have BK116 := n0_; have HB := n1_; have BK121 := n2_; have GW121 := n3_; have GE121 := n4_; have NB116_121 := n5_; have NB121_116 := n6_; clear n0_ n1_ n2_ n3_ n4_ n5_ n6_; clear hb hbox hg; (try have hu116_0 : w50.cell? ⟨gb116, 0, none⟩ = some (.int .i64 t112) := (blk_cell BK116.out 0).trans rfl); (try have hu116_1 : w50.cell? ⟨gb116, 1, none⟩ = some (.int .i64 t113) := (blk_cell BK116.out 1).trans rfl); (try have hu116_2 : w50.cell? ⟨gb116, 2, none⟩ = some (.int .i64 t114) := (blk_cell BK116.out 2).trans rfl); (try have hv116_0 := blk_frozen BK116.out 0); (try have hv116_1 := blk_frozen BK116.out 1); (try have hv116_2 := blk_frozen BK116.out 2); (try have hu121_0 : w50.cell? ⟨gb121, 0, none⟩ = some (.int .i64 0) := (blk_cell BK121.out 0).trans rfl); (try have hu121_1 : w50.cell? ⟨gb121, 1, none⟩ = some (.int .i64 0) := (blk_cell BK121.out 1).trans rfl); (try have hu121_2 : w50.cell? ⟨gb121, 2, none⟩ = some (.int .i64 0) := (blk_cell BK121.out 2).trans rfl); (try have hv121_0 := blk_frozen BK121.out 0); (try have hv121_1 := blk_frozen BK121.out 1); (try have hv121_2 := blk_frozen BK121.out 2); have hnb51 := NB121_116.out; have hnc51 := NB116_121.out; have hcz52_0 : w50.cell? ⟨gb121, 0, none⟩ = some (.int .i64 0) := (blk_cell BK121.out 0).trans rfl; have hcz52_1 : w50.cell? ⟨gb121, 1, none⟩ = some (.int .i64 0) := (blk_cell BK121.out 1).trans rfl; have hcz52_2 : w50.cell? ⟨gb121, 2, none⟩ = some (.int .i64 0) := (blk_cell BK121.out 2).trans rfl; have hfz52_0 := blk_frozen BK121.out 0; have hfz52_1 := blk_frozen BK121.out 1; have hfz52_2 := blk_frozen BK121.out 2))
           go_meet
           case rel => exact ⟨_, (4), (by first | rfl | (simp; done) | (simp [*]; done)), H', ⟨by have := HJ5.out; have := HJ8.out; first | omega | exact Nat.le_refl _⟩, ⟨by repeat (first | (with_reducible first | exact HB.out | apply below_alloc | apply pw_below_drewN | apply below_drew1 | refine below_set ?_ GE116.out | refine below_set ?_ GE121.out) | exact HB.out)⟩⟩
         ·rw [if_neg c16] at H
          have c16b0 : (a2 == 3) = false := beq_eq_false_iff_ne.mpr c16
          have c16b1 : (a2 != 3) = true := bne_iff_ne.mpr c16
          (first | rw [c16b0] | (simp only [i64_w, i32_w]; rw [c16b0]) | skip)
          have H' := Aside0.mk H
          clear H
          go_wp2
          go_meet
          case rel => exact ⟨_, (a2), (by first | rfl | (simp; done) | (simp [*]; done)), H', ⟨by have := HJ5.out; have := HJ8.out; first | omega | exact Nat.le_refl _⟩, ⟨by repeat (first | (with_reducible first | exact HB.out | apply below_alloc | apply pw_below_drewN | apply below_drew1) | exact HB.out)⟩⟩
        case rest =>
         clear HC15
         try clear c1
         try clear c2
         try clear p2
         try clear c3
         try clear c4
         try clear c5
         try clear c6
         try clear c7
         try clear c7b0
         try clear c8
         try clear c10
         try clear c10b0
         try clear c10b1
         try clear c12
         try clear c16
         try clear c16b0
         try clear c16b1
         try clear c19
         try clear c20
         try clear c20b0
         try clear c20b1
         try clear c21
         try clear c21b0
         try clear c21b1
         try clear c27
         try clear c31
         try clear c35
         try clear c37
         try clear c43
         try clear c51
         try clear hcz24_0
         try clear hcz24_1
         try clear hcz24_2
         try clear hcz28_0
         try clear hcz28_1
         try clear hcz28_2
         try clear hcz29_0
         try clear hcz29_1
         try clear hcz29_2
         try clear hcz32_0
         try clear hcz32_1
         try clear hcz32_2
         try clear hcz36_0
         try clear hcz36_1
         try clear hcz36_2
         try clear hcz37_0
         try clear hcz37_1
         try clear hcz37_2
         try clear hcz40_0
         try clear hcz40_1
         try clear hcz40_2
         try clear hcz44_0
         try clear hcz44_1
         try clear hcz44_2
         try clear hcz45_0
         try clear hcz45_1
         try clear hcz45_2
         try clear hcz48_0
         try clear hcz48_1
         try clear hcz48_2
         try clear hcz52_0
         try clear hcz52_1
         try clear hcz52_2
         try clear hfz24_0
         try clear hfz24_1
         try clear hfz24_2
         try clear hfz28_0
         try clear hfz28_1
         try clear hfz28_2
         try clear hfz29_0
         try clear hfz29_1
         try clear hfz29_2
         try clear hfz32_0
         try clear hfz32_1
         try clear hfz32_2
         try clear hfz36_0
         try clear hfz36_1
         try clear hfz36_2
         try clear hfz37_0
         try clear hfz37_1
         try clear hfz37_2
         try clear hfz40_0
         try clear hfz40_1
         try clear hfz40_2
         try clear hfz44_0
         try clear hfz44_1
         try clear hfz44_2
         try clear hfz45_0
         try clear hfz45_1
         try clear hfz45_2
         try clear hfz48_0
         try clear hfz48_1
         try clear hfz48_2
         try clear hfz52_0
         try clear hfz52_1
         try clear hfz52_2
         try clear p2
         obtain ⟨kq, x2_14, rfl, HA, HJ14, HB⟩ := hcut
         cases kq with
         | zero => exact absurd HA.out (by simp [quittanceref05_Roll.j2])
         | succ kj14 =>
          have H := HA.out
          clear HA
          simp only [quittanceref05_Roll.j2] at H
          by_cases c53 : x2_14 = 4
          ·rw [if_pos c53] at H
           have c53b0 : (x2_14 == 4) = true := beq_iff_eq.mpr c53
           have c53b1 : (x2_14 != 4) = false := bne_eq_false_iff_eq.mpr c53
           clear c53
           by_cases c54 : t111 = true
           ·subst c54
            have H1 : (some (t110, 0)) = some (r1, r2) := by rw [if_pos rfl] at H; exact H
            clear H
            have H := H1
            clear H1
            simp only [Option.some.injEq, Prod.mk.injEq] at H
            obtain ⟨rfl, rfl⟩ := H
            go_wp2
            go_ret2
            exact ⟨by first | rfl | (simp [errW_none, errW_some] <;> rfl) | (simp [*, errW_none, errW_some] <;> rfl), by repeat (first | (with_reducible first | exact HB.out | apply below_alloc | apply pw_below_drewN | apply below_drew1) | exact HB.out)⟩
           ·replace c54 := Bool.eq_false_iff.mpr c54
            subst c54
            have H1 : (some (0, 5)) = some (r1, r2) := by rw [if_neg (show ¬ (false = true) by decide)] at H; exact H
            clear H
            have H := H1
            clear H1
            simp only [Option.some.injEq, Prod.mk.injEq] at H
            obtain ⟨rfl, rfl⟩ := H
            go_wp2
            go_ret2
            exact ⟨by first | rfl | (simp [errW_none, errW_some] <;> rfl) | (simp [*, errW_none, errW_some] <;> rfl), by repeat (first | (with_reducible first | exact HB.out | apply below_alloc | apply pw_below_drewN | apply below_drew1) | exact HB.out)⟩
          ·rw [if_neg c53] at H
           have c53b0 : (x2_14 == 4) = false := beq_eq_false_iff_ne.mpr c53
           have c53b1 : (x2_14 != 4) = true := bne_iff_ne.mpr c53
           by_cases c55 : t109 = true
           ·subst c55
            have H1 : (some (t108, 0)) = some (r1, r2) := by rw [if_pos rfl] at H; exact H
            clear H
            have H := H1
            clear H1
            simp only [Option.some.injEq, Prod.mk.injEq] at H
            obtain ⟨rfl, rfl⟩ := H
            go_wp2
            go_ret2
            exact ⟨by first | rfl | (simp [errW_none, errW_some] <;> rfl) | (simp [*, errW_none, errW_some] <;> rfl), by repeat (first | (with_reducible first | exact HB.out | apply below_alloc | apply pw_below_drewN | apply below_drew1) | exact HB.out)⟩
           ·replace c55 := Bool.eq_false_iff.mpr c55
            subst c55
            have H1 : (some (0, 5)) = some (r1, r2) := by rw [if_neg (show ¬ (false = true) by decide)] at H; exact H
            clear H
            have H := H1
            clear H1
            simp only [Option.some.injEq, Prod.mk.injEq] at H
            obtain ⟨rfl, rfl⟩ := H
            go_wp2
            go_ret2
            exact ⟨by first | rfl | (simp [errW_none, errW_some] <;> rfl) | (simp [*, errW_none, errW_some] <;> rfl), by repeat (first | (with_reducible first | exact HB.out | apply below_alloc | apply pw_below_drewN | apply below_drew1) | exact HB.out)⟩
 ·replace c5 := Bool.eq_false_iff.mpr c5
  subst c5
  have H1 : (some (0, 5)) = some (r1, r2) := by rw [if_neg (show ¬ (false = true) by decide)] at H; exact H
  clear H
  have H := H1
  clear H1
  simp only [Option.some.injEq, Prod.mk.injEq] at H
  obtain ⟨rfl, rfl⟩ := H
  go_enter Try.func37, Try.ntmps37
  go_wp2_with (first | ((with_reducible refine gate_callee (f := 31) rfl ?_); refine goesL_ (some 17) rfl rfl Try.func31 (by kernel_rfl) rfl #[.int .i64 a1] rfl (by (try simp only [List.map_toArray, List.map_cons, List.map_nil]); first | done | rfl | (simp only [List.length_drop, List.length_take]; rfl)) ?_; (with_reducible refine (Go.Proofs.Ytcfpkkgdofblfaa.H.quittanceref03_Is.calls a1 false _ A4.out).mono ?_); rintro e w' ⟨rfl, ⟨nd, rfl⟩⟩; refine ⟨_, rfl, ?_⟩))
  go_ret2
  exact ⟨by first | rfl | (simp [errW_none, errW_some] <;> rfl) | (simp [*, errW_none, errW_some] <;> rfl), by repeat (first | (with_reducible first | exact HB.out | apply below_alloc | apply pw_below_drewN | apply below_drew1) | exact HB.out)⟩
end Go.Proofs.Ytcfpkkgdofblfaa.PBU
/- The document's calendar, in plain words. -/
namespace Go.Proofs.Ytcfpkkgdofblfaa.H
open Go.RowKit Go.Proofs.YtcfpkkgdofblfaaW.PrintWords Go.Proofs.YtcfpkkgdofblfaaW.PrintLast Go.Proofs.YtcfpkkgdofblfaaW.PrintMore Go.Proofs.Ytcfpkkgdofblfaa.HW
open Go.Proofs.Ytcfpkkgdofblfaa.Math
set_option linter.unusedVariables false
set_option linter.unusedSimpArgs false
theorem rOpen (l : List Int) (hm : l.length ≤ 1000000000) (x : Int) : PBU.quittanceref05_Open.f l x = some (openB l x) := by
 unfold PBU.quittanceref05_Open.f openB quittanceref03_Is.f quittanceref03_Weekday.f help_In_int.f
 simp only [Option.bind_some]
 by_cases h1 : isDay x
 ·rw [decide_eq_true h1, if_pos rfl]
  by_cases h2 : weekday x < 5
  ·rw [if_pos h2, if_pos hm, decide_eq_true h2]; rfl
  ·rw [if_neg h2, decide_eq_false h2]; rfl
 ·rw [decide_eq_false h1, if_neg (by decide)]; rfl
theorem seekS_form (l : List Int) (step : Int) (k : Nat) : ∀ x, seekS l step k x = (0, 5) ∨ ∃ y, seekS l step k x = (y, 0) ∧ isDay y := by
 induction k with
 | zero => intro x; exact Or.inl rfl
 | succ k ih =>
  intro x
  rw [seekS_succ]
  by_cases h1 : isDay x
  ·rw [if_pos h1]
   by_cases h2 : openB l x = true
   ·rw [if_pos h2]; exact Or.inr ⟨x, rfl, h1⟩
   ·rw [if_neg h2]; exact ih _
  ·rw [if_neg h1]; exact Or.inl rfl
def seekR (p : Int × Int) : Int × Bool := if p.2 = 0 then (p.1, true) else (0, false)
theorem rSeek (l : List Int) (hm : l.length ≤ 1000000000) {step : Int} (hs : step = 1 ∨ step = -1) (d : Nat) : ∀ (k : Nat) (x : Int), -100000 ≤ x → x ≤ 100000 → (if step = 1 then 84371 - x else x + 25568) ≤ (d : Int) → d < k →
  PBU.quittanceref05_seek.l0 k l step x = some (seekR (seekS l step d x)) := by
 induction d with
 | zero =>
  intro k x b1 b2 h1 h2
  obtain ⟨k, rfl⟩ : ∃ m, k = m + 1 := ⟨k - 1, by omega⟩
  have hd : ¬ isDay x := by
   intro hd
   have := hd.1
   have := hd.2
   split at h1 <;> omega
  simp only [PBU.quittanceref05_seek.l0, quittanceref03_Is.f, Option.bind_some]
  rw [decide_eq_false hd, if_neg (by decide)]
  rfl
 | succ d ih =>
  intro k x b1 b2 h1 h2
  obtain ⟨k, rfl⟩ : ∃ m, k = m + 1 := ⟨k - 1, by omega⟩
  simp only [PBU.quittanceref05_seek.l0, quittanceref03_Is.f, Option.bind_some]
  rw [seekS_succ]
  by_cases hd : isDay x
  ·have := hd.1
   have := hd.2
   rw [decide_eq_true hd, if_pos rfl, rOpen l hm, if_pos hd]
   simp only [Option.bind_some]
   by_cases ho : openB l x = true
   ·rw [if_pos ho, if_pos ho]; rfl
   ·rw [if_neg ho, if_neg ho, w64 (by omega) (by omega), ih k (x + step) (by omega) (by omega) ?_ (by omega)]
    split at h1 <;> rename_i h3 <;> (first | rw [if_pos h3] | rw [if_neg h3]) <;> omega
  ·rw [decide_eq_false hd, if_neg (by decide), if_neg hd]; rfl
theorem rSeek_up (l : List Int) (hm : l.length ≤ 1000000000) (k : Nat) (hk : 200000 < k) {x : Int} (hd : isDay x) : PBU.quittanceref05_seek.f k l x 1 = some (seekR (seekS l 1 200000 x)) := by
 have := hd.1
 have := hd.2
 exact rSeek l hm (Or.inl rfl) 200000 k x (by omega) (by omega) (by rw [if_pos rfl]; omega) hk
theorem rSeek_down (l : List Int) (hm : l.length ≤ 1000000000) (k : Nat) (hk : 200000 < k) {x : Int} (hd : isDay x) : PBU.quittanceref05_seek.f k l x (-1) = some (seekR (seekS l (-1) 200000 x)) := by
 have := hd.1
 have := hd.2
 exact rSeek l hm (Or.inr rfl) 200000 k x (by omega) (by omega) (by rw [if_neg (by decide)]; omega) hk
theorem rRoll_j2 (k : Nat) (how : Int) (p q : Int × Int) (hp : p = (0, 5) ∨ ∃ y, p = (y, 0) ∧ isDay y) (hq : q = (0, 5) ∨ ∃ y, q = (y, 0) ∧ isDay y) : PBU.quittanceref05_Roll.j2 (k + 1) how (seekR p).1 (seekR p).2 (seekR q).1 (seekR q).2 = some (if how = 4 then q else p) := by
 simp only [PBU.quittanceref05_Roll.j2]
 by_cases h : how = 4
 ·rw [if_pos h, if_pos h]
  rcases hq with rfl | ⟨y, rfl, _⟩
  ·rw [if_neg (by decide)]
  ·rw [if_pos (by simp [seekR])]; rfl
 ·rw [if_neg h, if_neg h]
  rcases hp with rfl | ⟨y, rfl, _⟩
  ·rw [if_neg (by decide)]
  ·rw [if_pos (by simp [seekR])]; rfl
theorem mon_eq {a b : Int} (ha : isDay a) (hb : isDay b) : mon a = mon b ↔ (date a).2.1 = (date b).2.1 ∧ (date a).1 = (date b).1 := by
 unfold mon
 obtain ⟨_, _, m1, m2, _, _⟩ := date_bd ha
 obtain ⟨_, _, m3, m4, _, _⟩ := date_bd hb
 rw [date_yes ha, date_yes hb]
 simp only
 omega
theorem rRoll (l : List Int) (hm : l.length ≤ 1000000000) (day how : Int) : PBU.quittanceref05_Roll.f 200010 l day how = some (rollS l day how) := by
 unfold PBU.quittanceref05_Roll.f rollS quittanceref03_Is.f
 simp only [Option.bind_some]
 by_cases hd : isDay day
 ·rw [decide_eq_true hd, if_pos rfl, if_neg (show ¬ ¬ isDay day from fun h => h hd)]
  by_cases h1 : how < 1 ∨ 4 < how
  ·rw [if_pos h1]
   by_cases h2 : how < 1
   ·rw [if_pos h2]; rfl
   ·rw [if_neg h2, decide_eq_true (show how > 4 by omega)]; rfl
  ·rw [if_neg h1, if_neg (show ¬ how < 1 by omega), decide_eq_false (show ¬ how > 4 by omega)]
   show PBU.quittanceref05_Roll.j0 (200009 + 1) l day how false = _
   rw [PBU.quittanceref05_Roll.j0, if_neg (by decide)]
   have hj1 : PBU.quittanceref05_Roll.j1 (200008 + 1) l day how true = some (day, 0) := by rw [PBU.quittanceref05_Roll.j1, if_pos rfl]
   by_cases h2 : how = 1
   ·rw [if_pos h2, if_pos h2, hj1]
   ·rw [if_neg h2, if_neg h2, rOpen l hm]
    simp only [Option.bind_some]
    by_cases ho : openB l day = true
    ·rw [ho, hj1, seek_self ho, seek_self ho]
     by_cases h4 : how = 4
     ·rw [if_pos h4]
     ·rw [if_neg h4, if_neg (by rintro ⟨_, h | h⟩ <;> exact h rfl)]
    ·rw [show openB l day = false by simpa using ho]
     show PBU.quittanceref05_Roll.j1 (200008 + 1) l day how false = _
     rw [PBU.quittanceref05_Roll.j1, if_neg (by decide), rSeek_up l hm _ (by omega) hd, rSeek_down l hm _ (by omega) hd]
     simp only [Option.bind_some]
     have hu := seekS_form l 1 200000 day
     have hw := seekS_form l (-1) 200000 day
     generalize seekS l 1 200000 day = p at *
     generalize seekS l (-1) 200000 day = q at *
     by_cases h3 : how = 3
     ·subst h3
      rw [if_pos rfl, if_neg (show ¬ (3 : Int) = 4 by decide)]
      simp only [quittanceref03_Date.f, Option.bind_some]
      rcases hu with rfl | ⟨y, rfl, hy⟩
      ·rw [if_neg (by decide), rRoll_j2 _ 4 _ _ (Or.inl rfl) hw, if_pos rfl, if_pos ⟨trivial, Or.inl (by decide)⟩]
      ·have e1 : (seekR (y, 0)).1 = y := by simp [seekR]
       have e2 : (seekR (y, 0)).2 = true := by simp [seekR]
       rw [if_pos e2]
       by_cases hmon : mon y = mon day
       ·obtain ⟨g1, g2⟩ := (mon_eq hy hd).1 hmon
        rw [e1, if_pos g1.symm, if_pos g2.symm]
        have := rRoll_j2 200007 3 (y, 0) q (Or.inr ⟨y, rfl, hy⟩) hw
        rw [e1] at this
        rw [this, if_neg (by decide), if_neg]
        rintro ⟨_, h | h⟩
        ·exact h rfl
        ·exact h hmon
       ·have := rRoll_j2 200007 4 (y, 0) q (Or.inr ⟨y, rfl, hy⟩) hw
        rw [e1] at this
        rw [e1, if_pos (show True ∧ ((y, (0 : Int)).2 ≠ 0 ∨ mon (y, (0 : Int)).1 ≠ mon day) from ⟨trivial, Or.inr hmon⟩)]
        by_cases g1 : (date day).2.1 = (date y).2.1
        ·rw [if_pos g1]
         by_cases g2 : (date day).1 = (date y).1
         ·exact absurd ((mon_eq hy hd).2 ⟨g1.symm, g2.symm⟩) hmon
         ·rw [if_neg g2, this, if_pos rfl]
        ·rw [if_neg g1, this, if_pos rfl]
     ·rw [if_neg h3, rRoll_j2 _ how _ _ hu hw]
      congr 1
      by_cases h4 : how = 4
      ·rw [if_pos h4, if_pos h4]
      ·rw [if_neg h4, if_neg h4, if_neg (fun h => h3 h.1)]
 ·rw [decide_eq_false hd, if_neg (by decide), if_pos hd]
end Go.Proofs.Ytcfpkkgdofblfaa.H
/- Plain: days rolled, rising; a list of one's own as1 a block of numbers. -/
namespace Go.Proofs.Ytcfpkkgdofblfaa.Du
open Go.RowKit Go.Proofs.YtcfpkkgdofblfaaW.PrintWords Go.Proofs.YtcfpkkgdofblfaaW.PrintLast Go.Proofs.YtcfpkkgdofblfaaW.PrintMore
open Go.Proofs.Ytcfpkkgdofblfaa.Math Go.Proofs.Ytcfpkkgdofblfaa.H
set_option linter.unusedVariables false
set_option linter.unusedSimpArgs false
theorem rises_pm (l : List Int) : ∀ p, rises p l = Pm.holsOk p l := by
 induction l with
 | nil => intro p; rfl
 | cons a l ih =>
  intro p
  simp only [rises, Pm.holsOk, ih]
  rw [Bool.eq_iff_iff]
  simp only [Bool.and_eq_true, decide_eq_true_eq]
  constructor
  ·rintro ⟨⟨h1, h2⟩, h3, h4⟩; exact ⟨⟨h1, h2, h3⟩, h4⟩
  ·rintro ⟨⟨h1, h2, h3⟩, h4⟩; exact ⟨⟨h1, h2⟩, h3, h4⟩
def after (pre : List Int) (r : List Int × Int) : List Int × Int := if r.2 = 0 then (pre ++ r.1, 0) else ([], r.2)
theorem after_nil {r : List Int × Int} (h : r.2 ≠ 0 → r.1 = []) : after [] r = r := by
 unfold after
 obtain ⟨a, b⟩ := r
 by_cases e : b = 0
 ·subst e; simp
 ·simp only [] at h; simp [e, h e]
theorem after_after (pre : List Int) (x : Int) (r : List Int × Int) : after pre (after [x] r) = after (pre ++ [x]) r := by
 unfold after
 by_cases e : r.2 = 0
 ·simp [e]
 ·simp [e]
theorem after_err (pre : List Int) {e : Int} (h : e ≠ 0) : after pre ([], e) = ([], e) := by unfold after; simp [h]
def rollAll (hol : List Int) (how : Int) : List Int → List Int × Int
 | [] => ([], 0)
 | d :: r => if (rollS hol d how).2 = 0 then after [(rollS hol d how).1] (rollAll hol how r) else ([], (rollS hol d how).2)
theorem rollAll_err (hol : List Int) (how : Int) (l : List Int) : (rollAll hol how l).2 ≠ 0 → (rollAll hol how l).1 = [] := by
 cases l with
 | nil => intro h; exact absurd rfl h
 | cons d r =>
  rw [rollAll]
  split
  ·unfold after
   split
   ·intro h; exact absurd rfl h
   ·intro; rfl
  ·intro; rfl
theorem rollAll_len (hol : List Int) (how : Int) (l : List Int) : (rollAll hol how l).2 = 0 → (rollAll hol how l).1.length = l.length := by
 induction l with
 | nil => intro; rfl
 | cons d r ih =>
  rw [rollAll]
  split
  ·unfold after
   split
   ·rename_i h; intro; simp [ih h]
   ·rename_i h; intro e; exact absurd e h
  ·rename_i h; intro e; exact absurd e h
def rise : Int → List Int → Bool
 | _, [] => true
 | p, d :: r => decide (p < d) && rise d r
def daysP (p : Pm.Prod) (start : Int) : List Int × Int :=
 if Pm.ok p = true then
  if (datesP start p.every p.times).2 = 0 then
   if (rollAll p.hol p.roll (datesP start p.every p.times).1).2 = 0 then
    if rise start (rollAll p.hol p.roll (datesP start p.every p.times).1).1 = true then ((rollAll p.hol p.roll (datesP start p.every p.times).1).1, 0) else ([], 11)
   else ([], (rollAll p.hol p.roll (datesP start p.every p.times).1).2)
  else ([], (datesP start p.every p.times).2)
 else ([], 9)
def RowI (w : World) (B : Nat) (v : Value) (l : List Int) : Prop :=
 (v = .slice none 0 0 ∧ l = []) ∨ ∃ g c t, v = .slice (some ⟨g, 0, none⟩) l.length c ∧ B ≤ g ∧ l.length ≤ c ∧ H.Blk w g 3 (nums .i64 l ++ t)
theorem reps_nums (k : IntKind) (l : List Int) (inner : List Value) (h : Reps (fun x cs => cs = [Value.int k x]) 1 l inner) : inner = nums k l := by
 obtain ⟨h1, h2⟩ := h
 apply List.ext_getElem?
 intro j
 by_cases hj : j < l.length
 ·have e := h2 j l[j] (List.getElem?_eq_getElem hj)
  have e2 := congrArg (fun x => x[0]?) e
  simp only [Nat.mul_one, List.getElem?_take, List.getElem?_drop, Nat.add_zero] at e2
  simp only [Nat.zero_lt_one, if_true, List.getElem?_cons_zero] at e2
  rw [e2]
  simp [nums, hj]
 ·rw [List.getElem?_eq_none (by omega), List.getElem?_eq_none (by simp [nums]; omega)]
theorem row_of_R {w : World} {B : Nat} {ok : Nat → Prop} {v : Value} {l : List Int} (h : Kd.R (Kd.int .i64) 3 w B ok v l) : RowI w B v l := by
 obtain ⟨-, inner, ho, hr⟩ := h
 obtain rfl := reps_nums .i64 l inner hr
 have ho2 := ho.2
 rcases ho2 with ⟨hv, hn⟩ | ⟨g, cap, cur, hv, hg, hh, r⟩
 ·refine Or.inl ⟨hv, ?_⟩
  cases l with
  | nil => rfl
  | cons a r => simp at hn
 ·subst hv
  obtain ⟨t, -, hb, hc⟩ := H.Blk.ofOwn ho
  exact Or.inr ⟨g, cap, t, rfl, hg, hc, hb⟩
end Go.Proofs.Ytcfpkkgdofblfaa.Du
/- dues.Days: the days on which instalments are due. -/
namespace Go.Proofs.Ytcfpkkgdofblfaa.Du
open Go.RowKit Go.Proofs.YtcfpkkgdofblfaaW.PrintWords Go.Proofs.YtcfpkkgdofblfaaW.PrintLast Go.Proofs.YtcfpkkgdofblfaaW.PrintMore Go.Proofs.Ytcfpkkgdofblfaa.HW
open Go.Proofs.Ytcfpkkgdofblfaa.Math Go.Proofs.Ytcfpkkgdofblfaa.H Go.Proofs.Ytcfpkkgdofblfaa.Pd Pm
attribute [local go_sem] run_makeFunc_
set_option linter.unusedVariables false
set_option linter.unusedSimpArgs false
theorem cell_lt {w : World} {ad : Addr} {v : Value} (h : w.cell? ad = some v) : ad.block < w.heap.size := by
 rcases Nat.lt_or_ge ad.block w.heap.size with h1 | h1
 ·exact h1
 ·exfalso
  have e : w.heap[ad.block]? = none := Array.getElem?_eq_none h1
  simp [World.cell?, e] at h
theorem C_but {w w1 : World} {A : Option Addr} {n g : Nat} {l : List Int} {k : IntKind} (h : Kd.C (Kd.int k) w A n l) (hb : But g w w1) (hA : ∀ ad, A = some ad → ad.block ≠ g) : Kd.C (Kd.int k) w1 A n l := by
 have h' := Kd.reads_of_C (d := (0 : Int)) h
 refine Kd.C_of_reads (d := (0 : Int)) ⟨h'.1, h'.2.1, fun hn => ?_⟩
 obtain ⟨ad, e, hc⟩ := h'.2.2 hn
 refine ⟨ad, e, fun j hj => ?_⟩
 have hj' := hc j hj
 have hlt := cell_lt hj'
 rw [hb.cell hlt (by have := hA ad e; simp only [Addr.add]; split <;> exact this)]
 exact hj'
theorem CalIn.but {B : Nat} {w w1 : World} {gb g : Nat} {l : List Int} (h : CalIn B w gb l) (hb : But g w w1) (h1 : gb ≠ g) (h2 : g < B) : CalIn B w1 gb l := by
 obtain ⟨A, c, c1, c2, c3, c4, c5, c6, c7⟩ := h
 exact ⟨A, c, by rw [hb.cell (by exact c6) (by exact h1)]; exact c1, C_but c2 hb (fun ad e => by have := c7 ad e; omega), c3, c4, c5, Nat.lt_of_lt_of_le c6 hb.size, c7⟩
theorem CalIn.below {B : Nat} {w w1 : World} {gb : Nat} {l : List Int} (h : CalIn B w gb l) (hb : Below w.heap.size w w1) : CalIn B w1 gb l := by
 obtain ⟨A, c, h1, h2, h3, h4, h5, h6, h7⟩ := h
 exact ⟨A, c, by rw [hb.cell (by exact h6)]; exact h1, Kd.C_below h2 hb, h3, h4, h5, Nat.lt_of_lt_of_le h6 hb.size, h7⟩
theorem roller_any {gb : Nat} {l : List Int} {day how r1 r2 : Int} {w : World} (h : CalAt w gb l) (hr : rollS l day how = (r1, r2)) :
  Calls Try.prog 35 #[.agg #[.pointer (some ⟨gb, 0, none⟩), .int .i64 how], .int .i64 day] w fun e w' => e = .returned (.tuple #[.int .i64 r1, .int .i64 r2]) ∧ Below w.heap.size w w' := by
 have HA := Aside0.mk h
 have HR := Aside0.mk hr
 clear h hr
 have HB := Aside0.mk (below_alloc (Below.refl w.heap.size w) (.cells #[.pointer (some ⟨gb, 0, none⟩), .int .i64 how] 64))
 go_enter Try.func35, Try.ntmps35
 go_wp2_with (go_at_call 67; (with_reducible refine (roll_any (HA.out.below HB.out) HR.out).mono ?_); rintro e w2 ⟨rfl, hb⟩; have HB2 := Aside0.mk (below_step HB.out hb); clear hb)
 go_ret2
 exact ⟨rfl, HB2.out⟩
def Listed (r : List Int × Int) (w : World) (e : Ending) (w' : World) : Prop := ∃ v, e = .returned (.tuple #[v, .int .i64 r.2]) ∧ RowI w' w.heap.size v r.1 ∧ Below w.heap.size w w'
theorem dates_any (n e t : Int) (w : World) : Calls Try.prog 33 #[.int .i64 n, .int .i64 e, .int .i64 t] w (Listed (datesP n e t) w) := by
 refine (PDA.monthly_Dates.calls (t.toNat + 2) n e t _ _ w civ_dates.2.1).mono ?_
 rintro e w' ⟨v, he, hr, hb⟩
 exact ⟨v, he, row_of_R hr, hb⟩
theorem dates_full : ∀ (m : Nat) (n e i : Int) (l : List Int), (dates m n e i l).2 = 0 → (dates m n e i l).1.length = l.length + m
 | 0, n, e, i, l => by simp [dates]
 | m + 1, n, e, i, l => by
  unfold dates
  split
  ·intro h
   have := dates_full m n e (i + 1) (l ++ [(add n ((i + 1) * e)).1]) h
   simp at this ⊢
   omega
  ·rename_i h; intro h2; exact absurd h2 h
theorem datesP_full {n e t : Int} (h : (datesP n e t).2 = 0) : ((datesP n e t).1.length : Int) = t ∧ 1 ≤ t ∧ t ≤ 600 := by
 unfold datesP at h ⊢
 split at h
 ·rename_i hc
  rw [if_pos hc]
  have := dates_full t.toNat n e 0 [] h
  simp at this
  omega
 ·cases h
set_option maxRecDepth 100000 in
set_option maxHeartbeats 2000000 in
theorem days_refused (p : Prod) (A1 : Option Addr) (c1 : Nat) (A2 : Option Addr) (c2 : Nat) (A3 : Option Addr) (c3 : Nat) (start : Int) (w : World) (hg : GV w) (hp : ProdAt w p A1 c1 A2 c2 A3 c3) (hs : Small p) (ho : ok p = false) :
  Calls Try.prog 14 #[pv p A1 c1 A2 c2 A3 c3, .int .i64 start] w (Listed (daysP p start) w) := by
 have er : err p = 9 := by unfold err; rw [ho]; rfl
 have ed : daysP p start = ([], 9) := by unfold daysP; rw [ho]; rfl
 rw [ed]
 have HG := Aside0.mk hg
 have HP := Aside0.mk hp
 have CK := Aside0.mk (fun w1 (hb : Below w.heap.size w w1) => check_any p A1 c1 A2 c2 A3 c3 w1 (HG.out.below hb) (HP.out.below hb) hs)
 rw [er] at CK
 clear hg hp ed er ho hs
 go_enter Try.func14, Try.ntmps14
 go_wp2_with ((with_reducible refine gate_dst (N := 2) rfl ?_); refine box_event ?hg (N := 2) ?hd (cs := pcs p A1 c1 A2 c2 A3 c3) (t := 27) ?hr ?_; (case hd => rfl); (case hg => rfl); (case hr => first | (go_simp; done) | (go_simp; rfl)); intro g2 hg v0 hb1 hbl1; clear hg; have G2 := Aside0.mk hb1; have HB := Aside0.mk hbl1; clear hb1 hbl1; refine Hid.out ?_)
 refine Lib.hid ?_
 go_wp2_with (first
  | ((with_reducible refine gate_dst (N := 16) rfl ?_); refine wpList_load_row rfl 27 (.tmp 2) rfl g2 rfl 27 _ (0, 0) _ G2.out Try.underlying27 rfl info_prod ?_)
  | (go_at_call 32; (with_reducible refine (CK.out _ HB.out).mono ?_); rintro e w2 ⟨rfl, hb⟩; have HB := Aside0.mk (below_step HB.out hb); have G2 := Aside0.mk (Pd.blk_below G2.out hb); clear hb; obtain ⟨-, -, -, -, q4, q5, -, -, -, -, -, -, -, -, -, -, -, q17, q18⟩ := pc_cells G2.out))
 go_ret2
 exact ⟨_, rfl, Or.inl ⟨rfl, rfl⟩, HB.out⟩
set_option maxRecDepth 100000 in
set_option maxHeartbeats 2000000 in
theorem days_none (p : Prod) (A1 : Option Addr) (c1 : Nat) (A2 : Option Addr) (c2 : Nat) (A3 : Option Addr) (c3 : Nat) (start : Int) (w : World) (hg : GV w) (hp : ProdAt w p A1 c1 A2 c2 A3 c3) (hs : Small p) (ho : ok p = true) (hd : (datesP start p.every p.times).2 ≠ 0) :
  Calls Try.prog 14 #[pv p A1 c1 A2 c2 A3 c3, .int .i64 start] w (Listed (daysP p start) w) := by
 have er : err p = 0 := by unfold err; rw [ho]; rfl
 have ed : daysP p start = ([], (datesP start p.every p.times).2) := by unfold daysP; rw [if_pos ho, if_neg hd]
 rw [ed]
 have HG := Aside0.mk hg
 have HP := Aside0.mk hp
 have CK := Aside0.mk (fun w1 (hb : Below w.heap.size w w1) => check_any p A1 c1 A2 c2 A3 c3 w1 (HG.out.below hb) (HP.out.below hb) hs)
 rw [er] at CK
 have dt := fun w => dates_any start p.every p.times w
 generalize datesP start p.every p.times = D at dt hd ⊢
 obtain ⟨l, e0⟩ := D
 have DT := Aside0.mk dt
 have he : (e0 != 0) = true := by simpa using hd
 clear hg hp ed er ho hs dt hd
 go_enter Try.func14, Try.ntmps14
 go_wp2_with ((with_reducible refine gate_dst (N := 2) rfl ?_); refine box_event ?hg (N := 2) ?hd (cs := pcs p A1 c1 A2 c2 A3 c3) (t := 27) ?hr ?_; (case hd => rfl); (case hg => rfl); (case hr => first | (go_simp; done) | (go_simp; rfl)); intro g2 hg v0 hb1 hbl1; clear hg; have G2 := Aside0.mk hb1; have HB := Aside0.mk hbl1; clear hb1 hbl1; refine Hid.out ?_)
 refine Lib.hid ?_
 go_wp2_with (first
  | ((with_reducible refine gate_dst (N := 16) rfl ?_); refine wpList_load_row rfl 27 (.tmp 2) rfl g2 rfl 27 _ (0, 0) _ G2.out Try.underlying27 rfl info_prod ?_)
  | (go_at_call 32; (with_reducible refine (CK.out _ HB.out).mono ?_); rintro e w2 ⟨rfl, hb⟩; have HB := Aside0.mk (below_step HB.out hb); have G2 := Aside0.mk (Pd.blk_below G2.out hb); clear hb; obtain ⟨-, -, -, -, q4, q5, -, -, -, -, -, -, -, -, -, -, -, q17, q18⟩ := pc_cells G2.out)
  | (go_at_call 33; (with_reducible refine (DT.out _).mono ?_); rintro e w3 ⟨v, rfl, hr, hb⟩; have RW := Aside0.mk hr; have HB := Aside0.mk (below_step HB.out hb); have G2 := Aside0.mk (Pd.blk_below G2.out hb); clear hr hb; obtain ⟨-, -, -, -, q4, q5, -, -, -, -, -, -, -, -, -, -, -, q17, q18⟩ := pc_cells G2.out))
 go_ret2
 exact ⟨_, rfl, Or.inl ⟨rfl, rfl⟩, HB.out⟩
end Go.Proofs.Ytcfpkkgdofblfaa.Du
/- dues.Days, where all may be: each day rolled, and whether they rise. -/
namespace Go.Proofs.Ytcfpkkgdofblfaa.Du
open Go.RowKit Go.Proofs.YtcfpkkgdofblfaaW.PrintWords Go.Proofs.YtcfpkkgdofblfaaW.PrintLast Go.Proofs.YtcfpkkgdofblfaaW.PrintMore Go.Proofs.Ytcfpkkgdofblfaa.HW
open Go.Proofs.Ytcfpkkgdofblfaa.Math Go.Proofs.Ytcfpkkgdofblfaa.H Go.Proofs.Ytcfpkkgdofblfaa.Pd Pm
attribute [local go_sem] run_makeFunc_
set_option linter.unusedVariables false
set_option linter.unusedSimpArgs false
theorem nums_at (pre : List Int) (d : Int) (r : List Int) (t : List Value) (k : Nat) (h : pre.length = k) : (nums .i64 (pre ++ d :: r) ++ t)[k]? = some (.int .i64 d) := by
 subst h
 simp [nums]
theorem nums_set (pre : List Int) (d x : Int) (r : List Int) (t : List Value) (k : Nat) (h : pre.length = k) : (nums .i64 (pre ++ d :: r) ++ t).set k (.int .i64 x) = nums .i64 (pre ++ [x] ++ r) ++ t := by
 subst h
 simp [nums, List.set_append]
theorem ok_days {p : Prod} (h : ok p = true) : p.hol.length ≤ 200 ∧ holsOk (-25568) p.hol = true ∧ 1 ≤ p.roll ∧ p.roll ≤ 4 := by
 simp only [ok, daysOk, Bool.and_eq_true, decide_eq_true_eq] at h
 exact ⟨h.2.1.1, h.2.2, h.2.1.2.1.1, h.2.1.2.1.2⟩
def Made1 (l : List Int) (w : World) (e : Ending) (w' : World) : Prop := ∃ gb, e = .returned (.tuple #[.pointer (some ⟨gb, 0, none⟩), .int .i64 0]) ∧ w.heap.size ≤ gb ∧ CalIn w.heap.size w' gb l ∧ Below w.heap.size w w'
theorem new_ok (p : Prod) (A1 : Option Addr) (c1 : Nat) (A2 : Option Addr) (c2 : Nat) (A3 : Option Addr) (c3 : Nat) (w : World) (hp : ProdAt w p A1 c1 A2 c2 A3 c3) (ho : ok p = true) : Calls Try.prog 34 #[.slice A3 p.hol.length c3] w (Made1 p.hol w) := by
 obtain ⟨h1, h2, -, -⟩ := ok_days ho
 refine (new_few2 A3 c3 p.hol true w hp.r3 hp.l3 hp.n3 h1 ((rises_pm _ _).trans h2)).mono ?_
 rintro e w' ⟨hb, -, h⟩
 obtain ⟨gb, hge, he, hc⟩ := h rfl
 exact ⟨gb, he, hge, hc, hb⟩
def Listed1 (l : List Int) (w : World) (e : Ending) (w' : World) : Prop := ∃ g c t, e = .returned (.tuple #[.slice (some ⟨g, 0, none⟩) l.length c, .int .i64 0]) ∧ w.heap.size ≤ g ∧ l.length ≤ c ∧ H.Blk w' g 3 (nums .i64 l ++ t) ∧ Below w.heap.size w w'
theorem Listed.one {l : List Int} {w w' : World} {e : Ending} (h : Listed (l, 0) w e w') (hl : l ≠ []) : Listed1 l w e w' := by
 obtain ⟨v, he, hr, hb⟩ := h
 rcases hr with ⟨-, h⟩ | ⟨g, c, t, rfl, hg, hc, hk⟩
 ·exact absurd h hl
 ·exact ⟨g, c, t, he, hg, hc, hk, hb⟩
def risen (start : Int) (r : List Int × Int) : List Int × Int := if r.2 = 0 then if rise start r.1 = true then (r.1, 0) else ([], 11) else ([], r.2)
set_option maxRecDepth 100000 in
set_option maxHeartbeats 4000000 in
theorem days_main (p : Prod) (A1 : Option Addr) (c1 : Nat) (A2 : Option Addr) (c2 : Nat) (A3 : Option Addr) (c3 : Nat) (start : Int) (w : World) (hg : GV w) (hp : ProdAt w p A1 c1 A2 c2 A3 c3) (hs : Small p) (ho : ok p = true) (l : List Int) (hd : datesP start p.every p.times = (l, 0)) :
  Calls Try.prog 14 #[pv p A1 c1 A2 c2 A3 c3, .int .i64 start] w (Listed (risen start (rollAll p.hol p.roll l)) w) := by
 generalize hR : risen start (rollAll p.hol p.roll l) = R
 have RR := Aside0.mk hR
 clear hR
 have er : err p = 0 := by unfold err; rw [ho]; rfl
 have hfull := datesP_full (n := start) (e := p.every) (t := p.times) (by rw [hd])
 rw [hd] at hfull
 have hne : l ≠ [] := fun e => by rw [e] at hfull; have := hfull.1; simp at this; omega
 have hln : l.length ≤ 600 := by have := hfull.1; simp only [] at this; omega
 have HG := Aside0.mk hg
 have HP := Aside0.mk hp
 have CK := Aside0.mk (fun w1 (hb : Below w.heap.size w w1) => check_any p A1 c1 A2 c2 A3 c3 w1 (HG.out.below hb) (HP.out.below hb) hs)
 rw [er] at CK
 have DT := Aside0.mk (fun w => show Calls Try.prog 33 #[.int .i64 start, .int .i64 p.every, .int .i64 p.times] w (Listed1 l w) from (dates_any start p.every p.times w).mono fun e w' h => by rw [hd] at h; exact h.one hne)
 have NW := Aside0.mk (fun w1 (hb : Below w.heap.size w w1) => new_ok p A1 c1 A2 c2 A3 c3 w1 (HP.out.below hb) ho)
 have hlp : 0 < l.length := by cases l with | nil => exact absurd rfl hne | cons a r => simp
 clear hg hp er ho hs hd hfull hne
 go_enter Try.func14, Try.ntmps14
 go_wp2_with ((with_reducible refine gate_dst (N := 2) rfl ?_); refine box_event ?hg (N := 2) ?hd (cs := pcs p A1 c1 A2 c2 A3 c3) (t := 27) ?hr ?_; (case hd => rfl); (case hg => rfl); (case hr => first | (go_simp; done) | (go_simp; rfl)); intro g2 hg v0 hb1 hbl1; clear hg; have G2 := Aside0.mk hb1; have HB := Aside0.mk hbl1; clear hb1 hbl1; refine Hid.out ?_)
 refine Lib.hid ?_
 go_wp2_with (first
  | ((with_reducible refine gate_dst (N := 16) rfl ?_); refine wpList_load_row rfl 27 (.tmp 2) rfl g2 rfl 27 _ (0, 0) _ G2.out Try.underlying27 rfl info_prod ?_)
  | (go_at_call 32; (with_reducible refine (CK.out _ HB.out).mono ?_); rintro e w2 ⟨rfl, hb⟩; have HB := Aside0.mk (below_step HB.out hb); have G2 := Aside0.mk (Pd.blk_below G2.out hb); clear hb; obtain ⟨-, -, -, -, q4, q5, -, -, -, -, -, -, -, -, -, -, -, q17, q18⟩ := pc_cells G2.out)
  | (go_at_call 33; (with_reducible refine (DT.out _).mono ?_); rintro e w3 ⟨g, c, t, rfl, hge0, hc, hbk, hb⟩; have hge := Nat.le_trans (Below.size HB.out) hge0; clear hge0; have BK := Aside0.mk hbk; have gsz := Blk.lt hbk; have HB := Aside0.mk (below_step HB.out hb); have G2 := Aside0.mk (Pd.blk_below G2.out hb); clear hb hbk; obtain ⟨-, -, -, -, q4, q5, -, -, -, -, -, -, -, -, -, -, -, q17, q18⟩ := pc_cells G2.out)
  | (go_at_call 34; (with_reducible refine (NW.out _ HB.out).mono ?_); rintro e w4 ⟨gb, rfl, hgb, hcal, hb⟩; have CA := Aside0.mk hcal; have BK := Aside0.mk (BK.out.below hb); have HB := Aside0.mk (below_step HB.out hb); have G2 := Aside0.mk (Pd.blk_below G2.out hb); clear hb hcal; obtain ⟨-, -, -, -, q4, q5, -, -, -, -, -, -, -, -, -, -, -, q17, q18⟩ := pc_cells G2.out))
 have gne : gb ≠ g := by omega
 go_loopg [46] (l.length + 1) (fun gq iv w' => ∃ (k : Nat) (pre : List Int), k ≤ l.length ∧ iv = .int .i64 (k : Int) ∧ Aside0 (pre.length = k) ∧ Aside0 (gq = l.length + 1 - k) ∧ Aside0 (rollAll p.hol p.roll l = after pre (rollAll p.hol p.roll (l.drop k))) ∧ Aside0 (H.Blk w' g 3 (nums .i64 (pre ++ l.drop k) ++ t)) ∧ Aside0 (CalIn w3.heap.size w' gb p.hol) ∧ Aside0 (Below w.heap.size w w'))
 case atStart => exact ⟨0, [], by omega, rfl, ⟨rfl⟩, ⟨rfl⟩, ⟨(after_nil (rollAll_err _ _ _)).symm⟩, BK, CA, HB⟩
 case round =>
  obtain ⟨k, pre, kn, rfl, hpl, hgq, hra, hbk, hcal, hbel⟩ := hrel
  by_cases hlt : k < l.length
  ·have hdr : l.drop k = l[k] :: l.drop (k + 1) := List.drop_eq_getElem_cons hlt
   rw [hdr] at hra hbk
   have hat := nums_at pre l[k] (l.drop (k + 1)) t k hpl.out
   have hcl0 := (hbk.out.cell k).trans hat
   have hsz : (k : Int) < (l.length : Int) := by omega
   obtain ⟨x, e1, hx⟩ : ∃ x e1, rollS p.hol l[k] p.roll = (x, e1) := ⟨_, _, rfl⟩
   have RC := Aside0.mk (roller_any (CalIn.at hcal.out) hx)
   have HAT := Aside0.mk hat
   by_cases he1 : e1 = 0
   ·subst he1
    have hra2 := Aside0.mk (show rollAll p.hol p.roll l = after (pre ++ [x]) (rollAll p.hol p.roll (l.drop (k + 1))) by
     have e := hra.out
     rw [rollAll, hx, if_pos rfl] at e
     rw [e, after_after])
    clear hra hx hdr
    go_wp2_with ((with_reducible refine gate_calleeV (t := 54) rfl ?_); refine goesV_ 54 #[.agg #[.pointer (some ⟨gb, 0, none⟩), .int .i64 p.roll]] (by first | rfl | (simp; done)) (some 56) rfl rfl Try.func35 (by kernel_rfl) rfl #[.agg #[.pointer (some ⟨gb, 0, none⟩), .int .i64 p.roll], .int .i64 l[k]] rfl (by (try simp only [List.map_toArray, List.map_cons, List.map_nil]); first | done | rfl | (simp; done)) ?_; (with_reducible refine (RC.out).mono ?_); rintro e w13 ⟨rfl, hb⟩; refine ⟨_, rfl, ?_⟩; have BK2 := Aside0.mk (hbk.out.below hb); have CA2 := Aside0.mk (CalIn.below hcal.out hb); have HB2 := Aside0.mk (below_step hbel.out hb); have hcl := (BK2.out.cell k).trans hat; have hfz := BK2.out.frozen k; clear hb)
    have BK3 := BK2.out.put k (.int .i64 x)
    rw [nums_set pre l[k] x (l.drop (k + 1)) t k hpl.out] at BK3
    have hbut : But g w13 (w13.setCell ⟨g, k, none⟩ (.int .i64 x)) := (But.of (Below.refl w13.heap.size w13)).setCell (p := ⟨g, k, none⟩) (Or.inl rfl) _
    go_roundg (l.length + 1 - (k + 1))
    case measure => have := hgq.out; omega
    case rel => exact ⟨k + 1, pre ++ [x], by omega, by simp, ⟨by simp [hpl.out]⟩, ⟨rfl⟩, hra2, ⟨BK3⟩, ⟨CalIn.but CA2.out hbut gne (by omega)⟩, ⟨But.below HB2.out HB2.out.size hge hbut⟩⟩
   ·have he : (e1 != 0) = true := by simpa using he1
    have fin := Aside0.mk (show R = ([], e1) by
     have e := hra.out
     rw [rollAll, hx, if_neg he1, after_err pre he1] at e
     rw [← RR.out]
     unfold risen
     rw [e, if_neg he1])
    clear hra hx hdr he1
    go_wp2_with ((with_reducible refine gate_calleeV (t := 54) rfl ?_); refine goesV_ 54 #[.agg #[.pointer (some ⟨gb, 0, none⟩), .int .i64 p.roll]] (by first | rfl | (simp; done)) (some 56) rfl rfl Try.func35 (by kernel_rfl) rfl #[.agg #[.pointer (some ⟨gb, 0, none⟩), .int .i64 p.roll], .int .i64 l[k]] rfl (by (try simp only [List.map_toArray, List.map_cons, List.map_nil]); first | done | rfl | (simp; done)) ?_; (with_reducible refine (RC.out).mono ?_); rintro e w13 ⟨rfl, hb⟩; refine ⟨_, rfl, ?_⟩; have BK2 := Aside0.mk (hbk.out.below hb); have CA2 := Aside0.mk (CalIn.below hcal.out hb); have HB2 := Aside0.mk (below_step hbel.out hb); have hcl := (BK2.out.cell k).trans hat; have hfz := BK2.out.frozen k; clear hb)
    have hbut : But g w13 (w13.setCell ⟨g, k, none⟩ (.int .i64 x)) := (But.of (Below.refl w13.heap.size w13)).setCell (p := ⟨g, k, none⟩) (Or.inl rfl) _
    go_ret2
    rw [fin.out]
    exact ⟨_, rfl, Or.inl ⟨rfl, rfl⟩, But.below HB2.out HB2.out.size hge hbut⟩
  ·obtain rfl : k = l.length := by omega
   have hra2 := hra.out
   rw [List.drop_length, rollAll, after, if_pos rfl, List.append_nil] at hra2
   have hbk2 := hbk.out
   rw [List.drop_length, List.append_nil] at hbk2
   have RR2 := Aside0.mk (show R = (if rise start pre = true then (pre, 0) else ([], 11)) by rw [← RR.out, hra2]; rfl)
   clear RR
   have BK2 := Aside0.mk hbk2
   have pl := hpl.out
   clear hra hra2 hbk hbk2 hcal CA CK DT NW HG HP
   go_wp2_with fail
   go_loopg [66] (l.length + 1) (fun gq iv w' => ∃ (k : Nat) (pv : Int), k ≤ l.length ∧ iv = .int .i64 (k : Int) ∧ Aside0 (k = 0 ∧ pv = start ∨ 0 < k ∧ pre[k - 1]? = some pv) ∧ Aside0 (gq = l.length + 1 - k) ∧ Aside0 (rise start pre = rise pv (pre.drop k)) ∧ Aside0 (H.Blk w' g 3 (nums .i64 pre ++ t)) ∧ Aside0 (Below w.heap.size w w'))
   case atStart => exact ⟨0, start, by omega, rfl, ⟨Or.inl ⟨rfl, rfl⟩⟩, ⟨rfl⟩, ⟨rfl⟩, BK2, hbel⟩
   case round =>
    obtain ⟨k, pv, kn, rfl, hpv, hgq2, hri, hbk, hbel2⟩ := hrel
    by_cases hlt : k < l.length
    ·have hdr : pre.drop k = pre[k] :: pre.drop (k + 1) := List.drop_eq_getElem_cons (by omega)
     have hcl := (hbk.out.cell k).trans (show (nums .i64 pre ++ t)[k]? = some (.int .i64 (pre[k]'(by omega))) by rw [List.getElem?_append_left (by simp [nums]; omega)]; simp [nums] <;> omega)
     have hsz : (k : Int) < (l.length : Int) := by omega
     have hri2 := hri.out
     rw [hdr, rise] at hri2
     generalize hd : pre[k]'(by omega) = d at *
     have HD := Aside0.mk (show pre[k]? = some d by rw [← hd]; exact List.getElem?_eq_getElem _)
     clear hd hdr
     by_cases hle : d ≤ pv
     ·have fin := Aside0.mk (show R = ([], 11) by rw [RR2.out, hri2, decide_eq_false (by omega)]; rfl)
      have tl : decide (d ≤ pv) = true := decide_eq_true hle
      clear hri hri2 hle
      rcases hpv.out with ⟨rfl, rfl⟩ | ⟨k0, hk⟩
      ·go_wp2_with fail
       go_ret2
       rw [fin.out]
       exact ⟨_, rfl, Or.inl ⟨rfl, rfl⟩, hbel2.out⟩
      ·obtain ⟨j, rfl⟩ : ∃ j, k = j + 1 := ⟨k - 1, by omega⟩
       have hj0 : (((j + 1 : Nat) : Int) == 0) = false := by simp; omega
       have hj1 : decide ((0 : Int) < ((j + 1 : Nat) : Int)) = true := decide_eq_true (by omega)
       have hcj := (hbk.out.cell j).trans (show (nums .i64 pre ++ t)[j]? = some (.int .i64 pv) by simp at hk; rw [List.getElem?_append_left (by simp [nums]; omega)]; simp [nums, hk])
       have hjz : (j : Int) < (l.length : Int) := by omega
       clear k0 hk
       go_wp2_with fail
       go_ret2
       rw [fin.out]
       exact ⟨_, rfl, Or.inl ⟨rfl, rfl⟩, hbel2.out⟩
     ·have tl : decide (d ≤ pv) = false := decide_eq_false hle
      have hri3 := Aside0.mk (show rise start pre = rise d (pre.drop (k + 1)) by rw [hri2, decide_eq_true (by omega)]; simp)
      clear hri hri2 hle
      rcases hpv.out with ⟨rfl, rfl⟩ | ⟨k0, hk⟩
      ·go_wp2_with fail
       go_roundg (l.length + 1 - (0 + 1))
       case measure => have := hgq2.out; omega
       case rel => exact ⟨1, d, by omega, by simp, ⟨Or.inr ⟨by omega, HD.out⟩⟩, ⟨rfl⟩, hri3, hbk, hbel2⟩
      ·obtain ⟨j, rfl⟩ : ∃ j, k = j + 1 := ⟨k - 1, by omega⟩
       have hj0 : (((j + 1 : Nat) : Int) == 0) = false := by simp; omega
       have hj1 : decide ((0 : Int) < ((j + 1 : Nat) : Int)) = true := decide_eq_true (by omega)
       have hcj := (hbk.out.cell j).trans (show (nums .i64 pre ++ t)[j]? = some (.int .i64 pv) by simp at hk; rw [List.getElem?_append_left (by simp [nums]; omega)]; simp [nums, hk])
       have hjz : (j : Int) < (l.length : Int) := by omega
       clear k0 hk
       go_wp2_with fail
       go_roundg (l.length + 1 - (j + 1 + 1))
       case measure => have := hgq2.out; omega
       case rel => exact ⟨j + 2, d, by omega, by simp; omega, ⟨Or.inr ⟨by omega, HD.out⟩⟩, ⟨rfl⟩, hri3, hbk, hbel2⟩
    ·obtain rfl : k = l.length := by omega
     have hri2 := hri.out
     rw [List.drop_eq_nil_of_le (by omega), rise] at hri2
     have fin := Aside0.mk (show R = (pre, 0) by rw [RR2.out, hri2]; rfl)
     clear hri hri2
     go_wp2_with fail
     go_ret2
     rw [fin.out]
     exact ⟨_, rfl, Or.inr ⟨g, c, t, by rw [pl]; rfl, hge, by rw [pl]; exact hc, hbk.out⟩, hbel2.out⟩
end Go.Proofs.Ytcfpkkgdofblfaa.Du
/- dues.Days whole; dues.Parts where there are no days; awake; days that are none. -/
namespace Go.Proofs.Ytcfpkkgdofblfaa.Du
open Go.RowKit Go.Proofs.YtcfpkkgdofblfaaW.PrintWords Go.Proofs.YtcfpkkgdofblfaaW.PrintLast Go.Proofs.YtcfpkkgdofblfaaW.PrintMore Go.Proofs.Ytcfpkkgdofblfaa.HW
open Go.Proofs.Ytcfpkkgdofblfaa.Math Go.Proofs.Ytcfpkkgdofblfaa.H Go.Proofs.Ytcfpkkgdofblfaa.Pd Pm
set_option linter.unusedVariables false
set_option linter.unusedSimpArgs false
theorem days_any (p : Prod) (A1 : Option Addr) (c1 : Nat) (A2 : Option Addr) (c2 : Nat) (A3 : Option Addr) (c3 : Nat) (start : Int) (w : World) (hg : GV w) (hp : ProdAt w p A1 c1 A2 c2 A3 c3) (hs : Small p) :
  Calls Try.prog 14 #[pv p A1 c1 A2 c2 A3 c3, .int .i64 start] w (Listed (daysP p start) w) := by
 cases ho : ok p with
 | false => exact days_refused p A1 c1 A2 c2 A3 c3 start w hg hp hs ho
 | true =>
  by_cases hd : (datesP start p.every p.times).2 = 0
  ·have e : daysP p start = risen start (rollAll p.hol p.roll (datesP start p.every p.times).1) := by
    unfold daysP risen
    rw [if_pos ho, if_pos hd]
   rw [e]
   exact days_main p A1 c1 A2 c2 A3 c3 start w hg hp hs ho _ (by rw [← hd])
  ·exact days_none p A1 c1 A2 c2 A3 c3 start w hg hp hs ho hd
set_option maxRecDepth 100000 in
set_option maxHeartbeats 2000000 in
theorem parts_err (p : Prod) (A1 : Option Addr) (c1 : Nat) (A2 : Option Addr) (c2 : Nat) (A3 : Option Addr) (c3 : Nat) (start : Int) (w : World) (hg : GV w) (hp : ProdAt w p A1 c1 A2 c2 A3 c3) (hs : Small p) (e0 : Int) (h0 : e0 ≠ 0) (hd : daysP p start = ([], e0)) :
  Calls Try.prog 16 #[pv p A1 c1 A2 c2 A3 c3, .int .i64 start] w fun e w' => e = .returned (.tuple #[.slice none 0 0, .int .i64 e0]) ∧ Below w.heap.size w w' := by
 have HG := Aside0.mk hg
 have HP := Aside0.mk hp
 have DA := Aside0.mk (fun w1 (hb : Below w.heap.size w w1) => show Calls Try.prog 14 #[pv p A1 c1 A2 c2 A3 c3, .int .i64 start] w1 fun e w' => (∃ v, e = .returned (.tuple #[v, .int .i64 e0])) ∧ Below w1.heap.size w1 w' from (days_any p A1 c1 A2 c2 A3 c3 start w1 (HG.out.below hb) (HP.out.below hb) hs).mono fun e w' h => by rw [hd] at h; obtain ⟨v, he, -, hb⟩ := h; exact ⟨⟨v, he⟩, hb⟩)
 have hn : (e0 != 0) = true := by simpa using h0
 clear hg hp hd h0 hs
 go_enter Try.func16, Try.ntmps16
 go_wp2_with ((with_reducible refine gate_dst (N := 2) rfl ?_); refine box_event ?hg (N := 2) ?hd (cs := pcs p A1 c1 A2 c2 A3 c3) (t := 27) ?hr ?_; (case hd => rfl); (case hg => rfl); (case hr => first | (go_simp; done) | (go_simp; rfl)); intro g2 hg v0 hb1 hbl1; clear hg; have G2 := Aside0.mk hb1; have HB := Aside0.mk hbl1; clear hb1 hbl1; refine Hid.out ?_)
 refine Lib.hid ?_
 go_wp2_with (first
  | ((with_reducible refine gate_dst (N := 14) rfl ?_); refine wpList_load_row rfl 27 (.tmp 2) rfl g2 rfl 27 _ (0, 0) _ G2.out Try.underlying27 rfl info_prod ?_)
  | (go_at_call 14; (with_reducible refine (DA.out _ HB.out).mono ?_); rintro e w2 ⟨⟨v, rfl⟩, hb⟩; have HB := Aside0.mk (below_step HB.out hb); have G2 := Aside0.mk (Pd.blk_below G2.out hb); clear hb))
 go_ret2
 exact ⟨rfl, HB.out⟩
end Go.Proofs.Ytcfpkkgdofblfaa.Du
/- dues.Parts, where there are days: how many parts of a year lie between. -/
namespace Go.Proofs.Ytcfpkkgdofblfaa.Du
open Go.RowKit Go.Proofs.YtcfpkkgdofblfaaW.PrintWords Go.Proofs.YtcfpkkgdofblfaaW.PrintLast Go.Proofs.YtcfpkkgdofblfaaW.PrintMore Go.Proofs.Ytcfpkkgdofblfaa.HW
open Go.Proofs.Ytcfpkkgdofblfaa.Math Go.Proofs.Ytcfpkkgdofblfaa.H Go.Proofs.Ytcfpkkgdofblfaa.Pd Pm
set_option linter.unusedVariables false
set_option linter.unusedSimpArgs false
def RowL (w : World) (B : Nat) (v : Value) (l : List Int) : Prop :=
 (v = .slice none 0 0 ∧ l = []) ∨ ∃ g c t, v = .slice (some ⟨g, 0, none⟩) l.length c ∧ B ≤ g ∧ l.length ≤ c ∧ H.Blk w g 2 (nums .i64 l ++ t)
theorem rowL_of_R {w : World} {B : Nat} {ok : Nat → Prop} {v : Value} {l : List Int} (h : Kd.R (Kd.int .i64) 2 w B ok v l) : RowL w B v l := by
 obtain ⟨-, inner, ho, hr⟩ := h
 obtain rfl := reps_nums .i64 l inner hr
 have ho2 := ho.2
 rcases ho2 with ⟨hv, hn⟩ | ⟨g, cap, cur, hv, hg, hh, r⟩
 ·refine Or.inl ⟨hv, ?_⟩
  cases l with
  | nil => rfl
  | cons a r => simp at hn
 ·subst hv
  obtain ⟨t, -, hb, hc⟩ := H.Blk.ofOwn ho
  exact Or.inr ⟨g, cap, t, rfl, hg, hc, hb⟩
theorem RL_slice {W : World} {B : Nat} {ok : Nat → Prop} {v : Value} {l : List Int} (h : Kd.R (Kd.int .i64) 2 W B ok v l) (hl : l ≠ []) : ∃ g c, v = .slice (some ⟨g, 0, none⟩) l.length c := by
 rcases rowL_of_R h with ⟨-, e⟩ | ⟨g, c, t, e, -⟩
 ·exact absurd e hl
 ·exact ⟨g, c, e⟩
theorem info_l : (Try.prog.info? 2).map (fun i => (i.zero, i.size, i.bytes)) = some (some (.int .i64 0), 1, 8) := by kernel_rfl
def partsAll (c : Int) : Int → List Int → List Int × Int
 | _, [] => ([], 0)
 | s, d :: r => if (between c s d).2 = 0 then after [(between c s d).1] (partsAll c d r) else ([], (between c s d).2)
theorem partsAll_err (c s : Int) (l : List Int) : (partsAll c s l).2 ≠ 0 → (partsAll c s l).1 = [] := by
 cases l with
 | nil => intro h; exact absurd rfl h
 | cons d r =>
  rw [partsAll]
  split
  ·unfold after
   split
   ·intro h; exact absurd rfl h
   ·intro; rfl
  ·intro; rfl
def ListedL (r : List Int × Int) (w : World) (e : Ending) (w' : World) : Prop := ∃ v, e = .returned (.tuple #[v, .int .i64 r.2]) ∧ RowL w' w.heap.size v r.1 ∧ Below w.heap.size w w'
theorem between_any (c a b v e : Int) (h : between c a b = (v, e)) (w : World) : Calls Try.prog 38 #[.int .i64 c, .int .i64 a, .int .i64 b] w fun en w' => en = .returned (.tuple #[.int .i64 v, .int .i64 e]) ∧ Below w.heap.size w w' :=
 fraction_Between.calls c a b v e w (by unfold fraction_Between.f; rw [h])
set_option maxRecDepth 100000 in
set_option maxHeartbeats 8000000 in
theorem parts_main (p : Prod) (A1 : Option Addr) (c1 : Nat) (A2 : Option Addr) (c2 : Nat) (A3 : Option Addr) (c3 : Nat) (start : Int) (w : World) (hg : GV w) (hp : ProdAt w p A1 c1 A2 c2 A3 c3) (hs : Small p) (l : List Int) (hl0 : l ≠ []) (hln : l.length ≤ 600) (hd : daysP p start = (l, 0)) :
  Calls Try.prog 16 #[pv p A1 c1 A2 c2 A3 c3, .int .i64 start] w (ListedL (partsAll p.count start l) w) := by
 generalize hR : partsAll p.count start l = R
 have RR := Aside0.mk hR
 clear hR
 have HG := Aside0.mk hg
 have HP := Aside0.mk hp
 have DA := Aside0.mk (fun w1 (hb : Below w.heap.size w w1) => show Calls Try.prog 14 #[pv p A1 c1 A2 c2 A3 c3, .int .i64 start] w1 (Listed1 l w1) from (days_any p A1 c1 A2 c2 A3 c3 start w1 (HG.out.below hb) (HP.out.below hb) hs).mono fun e w' h => by rw [hd] at h; exact h.one hl0)
 have hlp : 0 < l.length := by cases l with | nil => exact absurd rfl hl0 | cons a r => simp
 clear hg hp hd hs hl0
 go_enter Try.func16, Try.ntmps16
 go_wp2_with ((with_reducible refine gate_dst (N := 2) rfl ?_); refine box_event ?hg (N := 2) ?hd (cs := pcs p A1 c1 A2 c2 A3 c3) (t := 27) ?hr ?_; (case hd => rfl); (case hg => rfl); (case hr => first | (go_simp; done) | (go_simp; rfl)); intro g2 hg v0 hb1 hbl1; clear hg; have G2 := Aside0.mk hb1; have HB := Aside0.mk hbl1; clear hb1 hbl1; refine Hid.out ?_)
 refine Lib.hid ?_
 have g2lt0 := blk_lt G2.out
 go_wp2_with (first
  | ((with_reducible refine gate_dst (N := 14) rfl ?_); refine wpList_load_row rfl 27 (.tmp 2) rfl g2 rfl 27 _ (0, 0) _ G2.out Try.underlying27 rfl info_prod ?_)
  | (go_at_call 14; (with_reducible refine (DA.out _ HB.out).mono ?_); rintro e w3 ⟨g, c, t, rfl, hge, hc, hbk, hb⟩; have gne := (show g2 ≠ g by omega); have BK := Aside0.mk hbk; have gsz := Blk.lt hbk; have hgw := Nat.le_trans HB.out.size hge; have HB := Aside0.mk (below_step HB.out hb); have G2 := Aside0.mk (Pd.blk_below G2.out hb); clear hb hbk))
 go_loopg [1, 8, 24] (l.length + 1) (fun gq sv ov iv w' => ∃ (k : Nat) (s : Int) (A : Option Addr) (cw : Nat) (ls : List Int), k ≤ l.length ∧ iv = .int .i64 (k : Int) ∧ sv = .int .i64 s ∧ ov = .slice A ls.length cw ∧ Aside0 (ls.length = k) ∧ Aside0 (gq = l.length + 1 - k) ∧ Aside0 (R = after ls (partsAll p.count s (l.drop k))) ∧ Aside0 (Kd.R (Kd.int .i64) 2 w' w.heap.size (fun b => b ≠ g ∧ b ≠ g2) (.slice A ls.length cw) ls) ∧ Aside0 (H.Blk w' g 3 (nums .i64 l ++ t)) ∧ Aside0 (w'.heap[g2]? = some (.cells (pcs p A1 c1 A2 c2 A3 c3) 27 (0, 0))) ∧ Aside0 (Below w.heap.size w w'))
 case atStart => exact ⟨0, start, none, 0, [], by omega, rfl, rfl, rfl, ⟨rfl⟩, ⟨rfl⟩, ⟨RR.out.symm.trans (after_nil (partsAll_err _ _ _)).symm⟩, ⟨Kd.R_nil _ _ _ _ _⟩, BK, G2, HB⟩
 case round =>
  obtain ⟨k, s, A, cw, ls, kn, rfl, rfl, rfl, hlen, hgq, hra, hr, hbk, G2, hbel⟩ := hrel
  have gszr := Blk.lt hbk.out
  have g2lt := blk_lt G2.out
  have gsz0 := hbel.out.size
  by_cases hlt : k < l.length
  ·have hdr : l.drop k = l[k] :: l.drop (k + 1) := List.drop_eq_getElem_cons hlt
   rw [hdr] at hra
   have hcl := (hbk.out.cell k).trans (show (nums .i64 l ++ t)[k]? = some (.int .i64 l[k]) by rw [List.getElem?_append_left (by simp [nums]; omega)]; simp [nums] <;> omega)
   have hsz : (k : Int) < (l.length : Int) := by omega
   obtain ⟨-, q1, -, -, -, -, -, -, -, -, -, -, -, -, -, -, -, -, -⟩ := pc_cells G2.out
   obtain ⟨v, e1, hx⟩ : ∃ v e1, between p.count s l[k] = (v, e1) := ⟨_, _, rfl⟩
   have BT := Aside0.mk (fun w => between_any _ _ _ _ _ hx w)
   by_cases he1 : e1 = 0
   ·subst he1
    have hra2 := Aside0.mk (show R = after (ls ++ [v]) (partsAll p.count l[k] (l.drop (k + 1))) by
     have e := hra.out
     rw [partsAll, hx, if_pos rfl] at e
     rw [e, after_after])
    clear hra hx hdr
    go_wp2_with (first
     | (go_at_call 38; (with_reducible refine (BT.out _).mono ?_); rintro e w9 ⟨rfl, hb⟩; have HO := Aside0.mk (Kd.R_below hr.out hb); have BK9 := Aside0.mk (hbk.out.below hb); have G9 := Aside0.mk (Pd.blk_below G2.out hb); have HB9 := Aside0.mk (below_step hbel.out hb); have gs9 := Blk.lt BK9.out; have g29 := blk_lt G9.out; have gw9 := HB9.out.size; clear hb)
     | ((with_reducible refine gate_builtin (b := .append) (xs := #[.tmp 39, .tmp 41]) rfl ?_); at_builtin; refine Kd.R_append (Kd.int .i64) (w0 := w) w.heap.size rfl (.tmp 39) (.tmp 41) 35 2 (.int .i64 0) 8 rfl Try.underlying35 info_l rfl (by decide) (by omega) (.slice A ls.length cw) ls v [.int .i64 v] (fun b => b ≠ g ∧ b ≠ g2) (fun _ => False) rfl rfl ?aP (fun _ hk => hk.elim) ?aF ?aO ?aB ?aS ?aL ?_; (case aP => exact rfl); (case aF => exact fun b hb => ⟨by omega, by omega⟩); (case aO => exact HO.out); (case aB => exact HB9.out); (case aS => exact gw9); (case aL => have := hlen.out; omega); intro v1 w11 hr1 hb1 hg1 hat1; obtain ⟨l2, hl2⟩ : ∃ l2, l2 = ls ++ [v] := ⟨_, rfl⟩; rw [← hl2] at hr1; obtain ⟨gn, cn, rfl⟩ := RL_slice hr1 (by rw [hl2]; simp); have L2 := Aside0.mk hl2; clear hl2; have R1 := Aside0.mk hr1; have HB1 := Aside0.mk hb1; have HK := Aside0.mk ((hg1.block g gs9 (fun e => (HO.out.1 g e.symm).1 rfl)).trans BK9.out); have HK2 := Aside0.mk ((hg1.block g2 g29 (fun e => (HO.out.1 g2 e.symm).2 rfl)).trans G9.out); clear hr1 hb1 hg1 hat1))
    have hlen2 : l2.length = k + 1 := by rw [L2.out, List.length_append, hlen.out]; rfl
    have L3 := Aside0.mk hlen2
    clear hlen2
    go_roundg (l.length + 1 - (k + 1))
    case measure => have := hgq.out; omega
    case rel => exact ⟨k + 1, l[k], some ⟨gn, 0, none⟩, cn, l2, by omega, by simp, rfl, rfl, L3, ⟨rfl⟩, ⟨by rw [hra2.out, L2.out]⟩, R1, HK, HK2, HB1⟩
   ·have he : (e1 != 0) = true := by simpa using he1
    have fin := Aside0.mk (show R = ([], e1) by
     have e := hra.out
     rw [partsAll, hx, if_neg he1, after_err ls he1] at e
     exact e)
    clear hra hx hdr he1
    go_wp2_with (go_at_call 38; (with_reducible refine (BT.out _).mono ?_); rintro e w9 ⟨rfl, hb⟩; have HB9 := Aside0.mk (below_step hbel.out hb); clear hb)
    go_ret2
    rw [fin.out]
    exact ⟨_, rfl, Or.inl ⟨rfl, rfl⟩, HB9.out⟩
  ·obtain rfl : k = l.length := by omega
   have fin := Aside0.mk (show R = (ls, 0) by
    have e := hra.out
    rw [List.drop_length, partsAll, after, if_pos rfl, List.append_nil] at e
    exact e)
   clear hra
   go_wp2_with fail
   go_ret2
   rw [fin.out]
   exact ⟨_, rfl, rowL_of_R hr.out, hbel.out⟩
end Go.Proofs.Ytcfpkkgdofblfaa.Du
/- quittanceref11.Days: the document's days. -/
namespace Go.Proofs.Ytcfpkkgdofblfaa.Du
open Go.RowKit Go.Proofs.YtcfpkkgdofblfaaW.PrintWords Go.Proofs.YtcfpkkgdofblfaaW.PrintLast Go.Proofs.YtcfpkkgdofblfaaW.PrintMore Go.Proofs.Ytcfpkkgdofblfaa.HW
open Go.Proofs.Ytcfpkkgdofblfaa.Math Go.Proofs.Ytcfpkkgdofblfaa.H Go.Proofs.Ytcfpkkgdofblfaa.Pd Pm
set_option linter.unusedVariables false
set_option linter.unusedSimpArgs false
theorem RI_slice {W : World} {B : Nat} {ok : Nat → Prop} {v : Value} {l : List Int} (h : Kd.R (Kd.int .i64) 3 W B ok v l) (hl : l ≠ []) : ∃ g c, v = .slice (some ⟨g, 0, none⟩) l.length c := by
 rcases row_of_R h with ⟨-, e⟩ | ⟨g, c, t, e, -⟩
 ·exact absurd e hl
 ·exact ⟨g, c, e⟩
theorem rdates_any (n e t : Int) (w : World) : Calls Try.prog 36 #[.int .i64 n, .int .i64 e, .int .i64 t] w (Listed (datesP n e t) w) := by
 refine (PDA.quittanceref04_Dates.calls (t.toNat + 2) n e t _ _ w civ_dates.2.2).mono ?_
 rintro e w' ⟨v, he, hr, hb⟩
 exact ⟨v, he, row_of_R hr, hb⟩
theorem rroll_any (A3 : Option Addr) (c3 : Nat) (l : List Int) (day how r1 r2 : Int) (w : World) (hr : Kd.C (Kd.int .i64) w A3 l.length l) (hc : l.length ≤ c3) (hm : l.length ≤ 1000000) (h : rollS l day how = (r1, r2)) :
  Calls Try.prog 37 #[.slice A3 l.length c3, .int .i64 day, .int .i64 how] w fun e w' => e = .returned (.tuple #[.int .i64 r1, .int .i64 r2]) ∧ Below w.heap.size w w' :=
 PBU.quittanceref05_Roll.calls 200010 A3 c3 l day how r1 r2 w hr hc ((rRoll l (by omega) day how).trans (by rw [h]))
set_option maxRecDepth 100000 in
set_option maxHeartbeats 2000000 in
theorem rdays_refused (p : Prod) (A1 : Option Addr) (c1 : Nat) (A2 : Option Addr) (c2 : Nat) (A3 : Option Addr) (c3 : Nat) (start : Int) (w : World) (hp : ProdAt w p A1 c1 A2 c2 A3 c3) (hs : Held p) (ho : ok p = false) :
  Calls Try.prog 15 #[pv p A1 c1 A2 c2 A3 c3, .int .i64 start] w (Listed (daysP p start) w) := by
 have er : err p = 9 := by unfold err; rw [ho]; rfl
 have ed : daysP p start = ([], 9) := by unfold daysP; rw [ho]; rfl
 rw [ed]
 have HP := Aside0.mk hp
 have CK := Aside0.mk (fun w1 (hb : Below w.heap.size w w1) => rcheck_any p A1 c1 A2 c2 A3 c3 w1 (HP.out.below hb) hs)
 rw [er] at CK
 clear hp ed er ho hs
 go_enter Try.func15, Try.ntmps15
 go_wp2_with ((with_reducible refine gate_dst (N := 2) rfl ?_); refine box_event ?hg (N := 2) ?hd (cs := pcs p A1 c1 A2 c2 A3 c3) (t := 27) ?hr ?_; (case hd => rfl); (case hg => rfl); (case hr => first | (go_simp; done) | (go_simp; rfl)); intro g2 hg v0 hb1 hbl1; clear hg; have G2 := Aside0.mk hb1; have HB := Aside0.mk hbl1; clear hb1 hbl1; refine Hid.out ?_)
 refine Lib.hid ?_
 go_wp2_with (first
  | ((with_reducible refine gate_dst (N := 14) rfl ?_); refine wpList_load_row rfl 27 (.tmp 2) rfl g2 rfl 27 _ (0, 0) _ G2.out Try.underlying27 rfl info_prod ?_)
  | (go_at_call 30; (with_reducible refine (CK.out _ HB.out).mono ?_); rintro e w2 ⟨rfl, hb⟩; have HB := Aside0.mk (below_step HB.out hb); have G2 := Aside0.mk (Pd.blk_below G2.out hb); clear hb; obtain ⟨-, -, -, -, q4, q5, -, -, -, -, -, -, -, -, -, -, -, q17, q18⟩ := pc_cells G2.out))
 go_ret2
 exact ⟨_, rfl, Or.inl ⟨rfl, rfl⟩, HB.out⟩
set_option maxRecDepth 100000 in
set_option maxHeartbeats 2000000 in
theorem rdays_none (p : Prod) (A1 : Option Addr) (c1 : Nat) (A2 : Option Addr) (c2 : Nat) (A3 : Option Addr) (c3 : Nat) (start : Int) (w : World) (hp : ProdAt w p A1 c1 A2 c2 A3 c3) (hs : Held p) (ho : ok p = true) (hd : (datesP start p.every p.times).2 ≠ 0) :
  Calls Try.prog 15 #[pv p A1 c1 A2 c2 A3 c3, .int .i64 start] w (Listed (daysP p start) w) := by
 have er : err p = 0 := by unfold err; rw [ho]; rfl
 have ed : daysP p start = ([], (datesP start p.every p.times).2) := by unfold daysP; rw [if_pos ho, if_neg hd]
 rw [ed]
 have HP := Aside0.mk hp
 have CK := Aside0.mk (fun w1 (hb : Below w.heap.size w w1) => rcheck_any p A1 c1 A2 c2 A3 c3 w1 (HP.out.below hb) hs)
 rw [er] at CK
 have dt := fun w => rdates_any start p.every p.times w
 generalize datesP start p.every p.times = D at dt hd ⊢
 obtain ⟨l, e0⟩ := D
 have DT := Aside0.mk dt
 have he : (e0 != 0) = true := by simpa using hd
 clear hp ed er ho hs dt hd
 go_enter Try.func15, Try.ntmps15
 go_wp2_with ((with_reducible refine gate_dst (N := 2) rfl ?_); refine box_event ?hg (N := 2) ?hd (cs := pcs p A1 c1 A2 c2 A3 c3) (t := 27) ?hr ?_; (case hd => rfl); (case hg => rfl); (case hr => first | (go_simp; done) | (go_simp; rfl)); intro g2 hg v0 hb1 hbl1; clear hg; have G2 := Aside0.mk hb1; have HB := Aside0.mk hbl1; clear hb1 hbl1; refine Hid.out ?_)
 refine Lib.hid ?_
 go_wp2_with (first
  | ((with_reducible refine gate_dst (N := 14) rfl ?_); refine wpList_load_row rfl 27 (.tmp 2) rfl g2 rfl 27 _ (0, 0) _ G2.out Try.underlying27 rfl info_prod ?_)
  | (go_at_call 30; (with_reducible refine (CK.out _ HB.out).mono ?_); rintro e w2 ⟨rfl, hb⟩; have HB := Aside0.mk (below_step HB.out hb); have G2 := Aside0.mk (Pd.blk_below G2.out hb); clear hb; obtain ⟨-, -, -, -, q4, q5, -, -, -, -, -, -, -, -, -, -, -, q17, q18⟩ := pc_cells G2.out)
  | (go_at_call 36; (with_reducible refine (DT.out _).mono ?_); rintro e w3 ⟨v, rfl, hr, hb⟩; have RW := Aside0.mk hr; have HB := Aside0.mk (below_step HB.out hb); have G2 := Aside0.mk (Pd.blk_below G2.out hb); clear hr hb; obtain ⟨-, -, -, -, q4, q5, -, -, -, -, -, -, -, -, -, -, -, q17, q18⟩ := pc_cells G2.out))
 go_ret2
 exact ⟨_, rfl, Or.inl ⟨rfl, rfl⟩, HB.out⟩
set_option maxRecDepth 100000 in
set_option maxHeartbeats 8000000 in
theorem rdays_main (p : Prod) (A1 : Option Addr) (c1 : Nat) (A2 : Option Addr) (c2 : Nat) (A3 : Option Addr) (c3 : Nat) (start : Int) (w : World) (hp : ProdAt w p A1 c1 A2 c2 A3 c3) (hs : Held p) (hh : p.hol.length ≤ 1000000) (ho : ok p = true) (l : List Int) (hd : datesP start p.every p.times = (l, 0)) :
  Calls Try.prog 15 #[pv p A1 c1 A2 c2 A3 c3, .int .i64 start] w (Listed (risen start (rollAll p.hol p.roll l)) w) := by
 generalize hR : risen start (rollAll p.hol p.roll l) = R
 have RR := Aside0.mk hR
 clear hR
 have er : err p = 0 := by unfold err; rw [ho]; rfl
 have hfull := datesP_full (n := start) (e := p.every) (t := p.times) (by rw [hd])
 rw [hd] at hfull
 have hne : l ≠ [] := fun e => by rw [e] at hfull; have := hfull.1; simp at this; omega
 have hln : l.length ≤ 600 := by have := hfull.1; simp only [] at this; omega
 have HP := Aside0.mk hp
 have HH := Aside0.mk hh
 have CK := Aside0.mk (fun w1 (hb : Below w.heap.size w w1) => rcheck_any p A1 c1 A2 c2 A3 c3 w1 (HP.out.below hb) hs)
 rw [er] at CK
 have DT := Aside0.mk (fun w => show Calls Try.prog 36 #[.int .i64 start, .int .i64 p.every, .int .i64 p.times] w (Listed1 l w) from (rdates_any start p.every p.times w).mono fun e w' h => by rw [hd] at h; exact h.one hne)
 have hlp : 0 < l.length := by cases l with | nil => exact absurd rfl hne | cons a r => simp
 clear hp er ho hs hd hfull hne hh
 go_enter Try.func15, Try.ntmps15
 go_wp2_with ((with_reducible refine gate_dst (N := 2) rfl ?_); refine box_event ?hg (N := 2) ?hd (cs := pcs p A1 c1 A2 c2 A3 c3) (t := 27) ?hr ?_; (case hd => rfl); (case hg => rfl); (case hr => first | (go_simp; done) | (go_simp; rfl)); intro g2 hg v0 hb1 hbl1; clear hg; have G2 := Aside0.mk hb1; have HB := Aside0.mk hbl1; clear hb1 hbl1; refine Hid.out ?_)
 refine Lib.hid ?_
 go_wp2_with (first
  | ((with_reducible refine gate_dst (N := 14) rfl ?_); refine wpList_load_row rfl 27 (.tmp 2) rfl g2 rfl 27 _ (0, 0) _ G2.out Try.underlying27 rfl info_prod ?_)
  | (go_at_call 30; (with_reducible refine (CK.out _ HB.out).mono ?_); rintro e w2 ⟨rfl, hb⟩; have HB := Aside0.mk (below_step HB.out hb); have G2 := Aside0.mk (Pd.blk_below G2.out hb); clear hb; obtain ⟨-, -, -, -, q4, q5, -, -, -, -, -, -, -, -, -, -, -, q17, q18⟩ := pc_cells G2.out)
  | (go_at_call 36; (with_reducible refine (DT.out _).mono ?_); rintro e w3 ⟨g, c, t, rfl, hge, hc, hbk, hb⟩; have gne := (show g2 ≠ g by have := blk_lt G2.out; omega); have hgw := Nat.le_trans HB.out.size hge; have BK := Aside0.mk hbk; have HB := Aside0.mk (below_step HB.out hb); have G2 := Aside0.mk (Pd.blk_below G2.out hb); clear hb hbk; obtain ⟨-, -, -, -, q4, q5, -, -, -, -, -, -, -, -, -, -, -, q17, q18⟩ := pc_cells G2.out))
 go_loopg [8, 9] (l.length + 1) (fun gq ov iv w' => ∃ (k : Nat) (A : Option Addr) (cw : Nat) (ls : List Int), k ≤ l.length ∧ iv = .int .i64 (k : Int) ∧ ov = .slice A ls.length cw ∧ Aside0 (ls.length = k) ∧ Aside0 (gq = l.length + 1 - k) ∧ Aside0 (rollAll p.hol p.roll l = after ls (rollAll p.hol p.roll (l.drop k))) ∧ Aside0 (Kd.R (Kd.int .i64) 3 w' w.heap.size (fun b => b ≠ g ∧ b ≠ g2) (.slice A ls.length cw) ls) ∧ Aside0 (H.Blk w' g 3 (nums .i64 l ++ t)) ∧ Aside0 (w'.heap[g2]? = some (.cells (pcs p A1 c1 A2 c2 A3 c3) 27 (0, 0))) ∧ Aside0 (Below w.heap.size w w'))
 case atStart => exact ⟨0, none, 0, [], by omega, rfl, rfl, ⟨rfl⟩, ⟨rfl⟩, ⟨(after_nil (rollAll_err _ _ _)).symm⟩, ⟨Kd.R_nil _ _ _ _ _⟩, BK, G2, HB⟩
 case round =>
  obtain ⟨k, A, cw, ls, kn, rfl, rfl, hlen, hgq, hra, hr, hbk, G2, hbel⟩ := hrel
  have gszr := Blk.lt hbk.out
  have g2lt := blk_lt G2.out
  have gsz0 := hbel.out.size
  by_cases hlt : k < l.length
  ·have hdr : l.drop k = l[k] :: l.drop (k + 1) := List.drop_eq_getElem_cons hlt
   rw [hdr] at hra
   have HAT := Aside0.mk (show (nums .i64 l ++ t)[k]? = some (.int .i64 l[k]) by rw [List.getElem?_append_left (by simp [nums]; omega)]; simp [nums] <;> omega)
   have hcl := (hbk.out.cell k).trans HAT.out
   have hsz : (k : Int) < (l.length : Int) := by omega
   obtain ⟨v, e1, hx⟩ : ∃ v e1, rollS p.hol l[k] p.roll = (v, e1) := ⟨_, _, rfl⟩
   have RO := Aside0.mk (fun W (hb : Below w.heap.size w W) => rroll_any A3 c3 p.hol _ _ _ _ W (HP.out.below hb).r3 HP.out.l3 HH.out hx)
   by_cases he1 : e1 = 0
   ·subst he1
    have hra2 := Aside0.mk (show rollAll p.hol p.roll l = after (ls ++ [v]) (rollAll p.hol p.roll (l.drop (k + 1))) by
     have e := hra.out
     rw [rollAll, hx, if_pos rfl] at e
     rw [e, after_after])
    clear hra hx hdr
    have U := Aside0.mk (Below.refl wr.heap.size wr)
    obtain ⟨-, -, -, -, -, -, -, -, -, -, -, -, -, -, -, -, -, q17, q18⟩ := pc_cells G2.out
    go_wp2_with fail
    go_region_held3 (fun W => W.cell? ⟨g2, 17, none⟩ = some (.int .i64 p.roll) ∧ W.cell? ⟨g2, 18, none⟩ = some (.slice A3 p.hol.length c3) ∧ W.cell? ⟨g, k, none⟩ = some (.int .i64 l[k])) (first | exact ⟨q17, q18, hcl⟩ | go_keep) (first
     | (go_at_call 37; (with_reducible refine (RO.out _ (below_step hbel.out (by first | exact pw_below_drewN U.out _ | exact Below.drew U.out | exact U.out))).mono ?_); rintro e w9 ⟨rfl, hb⟩; have U := Aside0.mk (below_step (by first | exact pw_below_drewN U.out _ | exact Below.drew U.out | exact U.out) hb); obtain ⟨-, -, -, -, -, -, -, -, -, -, -, -, -, -, -, -, -, q17, q18⟩ := pc_cells (Pd.blk_below G2.out U.out); have hcl := ((hbk.out.below U.out).cell k).trans HAT.out; clear hb))
    have HO := Aside0.mk (Kd.R_below hr.out U.out)
    have BK9 := Aside0.mk (hbk.out.below U.out)
    have G9 := Aside0.mk (Pd.blk_below G2.out U.out)
    have HB9 := Aside0.mk (below_step hbel.out U.out)
    have gs9 := Blk.lt BK9.out
    have g29 := blk_lt G9.out
    have gw9 := HB9.out.size
    go_wp2_with ((with_reducible refine gate_builtin (b := .append) (xs := #[.tmp 52, .tmp 54]) rfl ?_); at_builtin; refine Kd.R_append (Kd.int .i64) (w0 := w) w.heap.size rfl (.tmp 52) (.tmp 54) 25 3 (.int .i64 0) 8 rfl Try.underlying25 info_int rfl (by decide) (by omega) (.slice A ls.length cw) ls v [.int .i64 v] (fun b => b ≠ g ∧ b ≠ g2) (fun _ => False) rfl rfl ?aP (fun _ hk => hk.elim) ?aF ?aO ?aB ?aS ?aL ?_; (case aP => exact rfl); (case aF => exact fun b hb => ⟨by omega, by omega⟩); (case aO => exact HO.out); (case aB => exact HB9.out); (case aS => exact gw9); (case aL => have := hlen.out; omega); intro v1 w11 hr1 hb1 hg1 hat1; obtain ⟨l2, hl2⟩ : ∃ l2, l2 = ls ++ [v] := ⟨_, rfl⟩; rw [← hl2] at hr1; obtain ⟨gn, cn, rfl⟩ := RI_slice hr1 (by rw [hl2]; simp); have L2 := Aside0.mk hl2; clear hl2; have R1 := Aside0.mk hr1; have HB1 := Aside0.mk hb1; have HK := Aside0.mk ((hg1.block g gs9 (fun e => (HO.out.1 g e.symm).1 rfl)).trans BK9.out); have HK2 := Aside0.mk ((hg1.block g2 g29 (fun e => (HO.out.1 g2 e.symm).2 rfl)).trans G9.out); clear hr1 hb1 hg1 hat1)
    have hlen2 : l2.length = k + 1 := by rw [L2.out, List.length_append, hlen.out]; rfl
    have L3 := Aside0.mk hlen2
    clear hlen2
    go_roundg (l.length + 1 - (k + 1))
    case measure => have := hgq.out; omega
    case rel => exact ⟨k + 1, some ⟨gn, 0, none⟩, cn, l2, by omega, by simp, rfl, L3, ⟨rfl⟩, ⟨by rw [hra2.out, L2.out]⟩, R1, HK, HK2, HB1⟩
   ·have he : (e1 != 0) = true := by simpa using he1
    have fin := Aside0.mk (show R = ([], e1) by
     have e := hra.out
     rw [rollAll, hx, if_neg he1, after_err ls he1] at e
     rw [← RR.out]
     unfold risen
     rw [e, if_neg he1])
    clear hra hx hdr he1
    have U := Aside0.mk (Below.refl wr.heap.size wr)
    obtain ⟨-, -, -, -, -, -, -, -, -, -, -, -, -, -, -, -, -, q17, q18⟩ := pc_cells G2.out
    go_wp2_with fail
    go_region_held3 (fun W => W.cell? ⟨g2, 17, none⟩ = some (.int .i64 p.roll) ∧ W.cell? ⟨g2, 18, none⟩ = some (.slice A3 p.hol.length c3) ∧ W.cell? ⟨g, k, none⟩ = some (.int .i64 l[k])) (first | exact ⟨q17, q18, hcl⟩ | go_keep) (first
     | (go_at_call 37; (with_reducible refine (RO.out _ (below_step hbel.out (by first | exact pw_below_drewN U.out _ | exact Below.drew U.out | exact U.out))).mono ?_); rintro e w9 ⟨rfl, hb⟩; have U := Aside0.mk (below_step (by first | exact pw_below_drewN U.out _ | exact Below.drew U.out | exact U.out) hb); obtain ⟨-, -, -, -, -, -, -, -, -, -, -, -, -, -, -, -, -, q17, q18⟩ := pc_cells (Pd.blk_below G2.out U.out); have hcl := ((hbk.out.below U.out).cell k).trans HAT.out; clear hb))
    go_wp2_with fail
    go_ret2
    rw [fin.out]
    exact ⟨_, rfl, Or.inl ⟨rfl, rfl⟩, below_step hbel.out (by first | exact pw_below_drewN U.out _ | exact Below.drew U.out | exact U.out)⟩
  ·obtain rfl : k = l.length := by omega
   have hra2 := hra.out
   rw [List.drop_length, rollAll, after, if_pos rfl, List.append_nil] at hra2
   have RR2 := Aside0.mk (show R = (if rise start ls = true then (ls, 0) else ([], 11)) by rw [← RR.out, hra2]; rfl)
   have hl0 : ls ≠ [] := fun e => by have := hlen.out; rw [e] at this; simp at this; omega
   have hln2 : ls.length ≤ 600 := by have := hlen.out; omega
   rcases row_of_R hr.out with ⟨-, e⟩ | ⟨gn, cn, tn, e, hgn, hcn, hkn⟩
   ·exact absurd e hl0
   injection e with e1 e2 e3
   subst e1; subst e3
   have BK2 := Aside0.mk hkn
   clear hra hra2 hr hbk CK DT HP RR hkn hl0 e2 G2
   go_wp2_with fail
   go_loopg [12, 13] (ls.length + 1) (fun gq pvv iv w' => ∃ (k : Nat) (pv : Int), k ≤ ls.length ∧ iv = .int .i64 (k : Int) ∧ pvv = .int .i64 pv ∧ Aside0 (gq = ls.length + 1 - k) ∧ Aside0 (rise start ls = rise pv (ls.drop k)) ∧ Aside0 (H.Blk w' gn 3 (nums .i64 ls ++ tn)) ∧ Aside0 (Below w.heap.size w w'))
   case atStart => exact ⟨0, start, by omega, rfl, rfl, ⟨rfl⟩, ⟨rfl⟩, BK2, hbel⟩
   case round =>
    obtain ⟨k, pv, kn, rfl, rfl, hgq2, hri, hbk, hbel2⟩ := hrel
    by_cases hlt : k < ls.length
    ·have hdr : ls.drop k = ls[k] :: ls.drop (k + 1) := List.drop_eq_getElem_cons (by omega)
     have hcl := (hbk.out.cell k).trans (show (nums .i64 ls ++ tn)[k]? = some (.int .i64 (ls[k]'(by omega))) by rw [List.getElem?_append_left (by simp [nums]; omega)]; simp [nums] <;> omega)
     have hsz : (k : Int) < (ls.length : Int) := by omega
     have hri2 := hri.out
     rw [hdr, rise] at hri2
     generalize hd : ls[k]'(by omega) = d at *
     clear hd hdr
     by_cases hle : d ≤ pv
     ·have fin := Aside0.mk (show R = ([], 11) by rw [RR2.out, hri2, decide_eq_false (by omega)]; rfl)
      have tl : decide (d ≤ pv) = true := decide_eq_true hle
      clear hri hri2 hle
      go_wp2_with fail
      go_ret2
      rw [fin.out]
      exact ⟨_, rfl, Or.inl ⟨rfl, rfl⟩, hbel2.out⟩
     ·have tl : decide (d ≤ pv) = false := decide_eq_false hle
      have hri3 := Aside0.mk (show rise start ls = rise d (ls.drop (k + 1)) by rw [hri2, decide_eq_true (by omega)]; simp)
      clear hri hri2 hle
      go_wp2_with fail
      go_roundg (ls.length + 1 - (k + 1))
      case measure => have := hgq2.out; omega
      case rel => exact ⟨k + 1, d, by omega, by simp, rfl, ⟨rfl⟩, hri3, hbk, hbel2⟩
    ·obtain rfl : k = ls.length := by omega
     have hri2 := hri.out
     rw [List.drop_eq_nil_of_le (by omega), rise] at hri2
     have fin := Aside0.mk (show R = (ls, 0) by rw [RR2.out, hri2]; rfl)
     clear hri hri2
     go_wp2_with fail
     go_ret2
     rw [fin.out]
     exact ⟨_, rfl, Or.inr ⟨gn, cw, tn, rfl, hgn, hcn, hbk.out⟩, hbel2.out⟩
theorem rdays_any (p : Prod) (A1 : Option Addr) (c1 : Nat) (A2 : Option Addr) (c2 : Nat) (A3 : Option Addr) (c3 : Nat) (start : Int) (w : World) (hp : ProdAt w p A1 c1 A2 c2 A3 c3) (hs : Held p) (hh : p.hol.length ≤ 1000000) :
  Calls Try.prog 15 #[pv p A1 c1 A2 c2 A3 c3, .int .i64 start] w (Listed (daysP p start) w) := by
 cases ho : ok p with
 | false => exact rdays_refused p A1 c1 A2 c2 A3 c3 start w hp hs ho
 | true =>
  by_cases hd : (datesP start p.every p.times).2 = 0
  ·have e : daysP p start = risen start (rollAll p.hol p.roll (datesP start p.every p.times).1) := by
    unfold daysP risen
    rw [if_pos ho, if_pos hd]
   rw [e]
   exact rdays_main p A1 c1 A2 c2 A3 c3 start w hp hs hh ho _ (by rw [← hd])
  ·exact rdays_none p A1 c1 A2 c2 A3 c3 start w hp hs ho hd
end Go.Proofs.Ytcfpkkgdofblfaa.Du
/- quittanceref11.Parts: the document's parts between days; both parts are one where all may be. -/
namespace Go.Proofs.Ytcfpkkgdofblfaa.Du
open Go.RowKit Go.Proofs.YtcfpkkgdofblfaaW.PrintWords Go.Proofs.YtcfpkkgdofblfaaW.PrintLast Go.Proofs.YtcfpkkgdofblfaaW.PrintMore Go.Proofs.Ytcfpkkgdofblfaa.HW
open Go.Proofs.Ytcfpkkgdofblfaa.Math Go.Proofs.Ytcfpkkgdofblfaa.H Go.Proofs.Ytcfpkkgdofblfaa.Pd Pm
set_option linter.unusedVariables false
set_option linter.unusedSimpArgs false
def rpartsL (c : Int) : Int → List Int → List Int
 | _, [] => []
 | s, d :: r => (between c s d).1 :: rpartsL c d r
theorem rbetween_any (c a b v e : Int) (h : between c a b = (v, e)) (w : World) : Calls Try.prog 21 #[.int .i64 c, .int .i64 a, .int .i64 b] w fun en w' => en = .returned (.tuple #[.int .i64 v, .int .i64 e]) ∧ Below w.heap.size w w' :=
 quittanceref06_Between.calls c a b v e w (by unfold quittanceref06_Between.f; rw [h])
set_option maxRecDepth 100000 in
set_option maxHeartbeats 2000000 in
theorem rparts_err (p : Prod) (A1 : Option Addr) (c1 : Nat) (A2 : Option Addr) (c2 : Nat) (A3 : Option Addr) (c3 : Nat) (start : Int) (w : World) (hp : ProdAt w p A1 c1 A2 c2 A3 c3) (hs : Held p) (hh : p.hol.length ≤ 1000000) (l : List Int) (e0 : Int) (h0 : e0 ≠ 0) (hd : daysP p start = (l, e0)) :
  Calls Try.prog 17 #[pv p A1 c1 A2 c2 A3 c3, .int .i64 start] w (ListedL ([], e0) w) := by
 have HP := Aside0.mk hp
 have DA := Aside0.mk (fun w1 (hb : Below w.heap.size w w1) => show Calls Try.prog 15 #[pv p A1 c1 A2 c2 A3 c3, .int .i64 start] w1 fun e w' => (∃ v, e = .returned (.tuple #[v, .int .i64 e0])) ∧ Below w1.heap.size w1 w' from (rdays_any p A1 c1 A2 c2 A3 c3 start w1 (HP.out.below hb) hs hh).mono fun e w' h => by rw [hd] at h; obtain ⟨v, he, -, hb⟩ := h; exact ⟨⟨v, he⟩, hb⟩)
 have hn : (e0 != 0) = true := by simpa using h0
 clear hp hd h0 hs hh
 go_enter Try.func17, Try.ntmps17
 go_wp2_with ((with_reducible refine gate_dst (N := 2) rfl ?_); refine box_event ?hg (N := 2) ?hd (cs := pcs p A1 c1 A2 c2 A3 c3) (t := 27) ?hr ?_; (case hd => rfl); (case hg => rfl); (case hr => first | (go_simp; done) | (go_simp; rfl)); intro g2 hg v0 hb1 hbl1; clear hg; have G2 := Aside0.mk hb1; have HB := Aside0.mk hbl1; clear hb1 hbl1; refine Hid.out ?_)
 refine Lib.hid ?_
 go_wp2_with (first
  | ((with_reducible refine gate_dst (N := 14) rfl ?_); refine wpList_load_row rfl 27 (.tmp 2) rfl g2 rfl 27 _ (0, 0) _ G2.out Try.underlying27 rfl info_prod ?_)
  | (go_at_call 15; (with_reducible refine (DA.out _ HB.out).mono ?_); rintro e w2 ⟨⟨v, rfl⟩, hb⟩; have HB := Aside0.mk (below_step HB.out hb); have G2 := Aside0.mk (Pd.blk_below G2.out hb); clear hb))
 go_ret2
 exact ⟨_, rfl, Or.inl ⟨rfl, rfl⟩, HB.out⟩
set_option maxRecDepth 100000 in
set_option maxHeartbeats 8000000 in
theorem rparts_main (p : Prod) (A1 : Option Addr) (c1 : Nat) (A2 : Option Addr) (c2 : Nat) (A3 : Option Addr) (c3 : Nat) (start : Int) (w : World) (hp : ProdAt w p A1 c1 A2 c2 A3 c3) (hs : Held p) (hh : p.hol.length ≤ 1000000) (l : List Int) (hl0 : l ≠ []) (hln : l.length ≤ 600) (hd : daysP p start = (l, 0)) :
  Calls Try.prog 17 #[pv p A1 c1 A2 c2 A3 c3, .int .i64 start] w (ListedL (rpartsL p.count start l, 0) w) := by
 generalize hR : rpartsL p.count start l = R
 have RR := Aside0.mk hR
 clear hR
 have HP := Aside0.mk hp
 have DA := Aside0.mk (fun w1 (hb : Below w.heap.size w w1) => show Calls Try.prog 15 #[pv p A1 c1 A2 c2 A3 c3, .int .i64 start] w1 (Listed1 l w1) from (rdays_any p A1 c1 A2 c2 A3 c3 start w1 (HP.out.below hb) hs hh).mono fun e w' h => by rw [hd] at h; exact h.one hl0)
 have hlp : 0 < l.length := by cases l with | nil => exact absurd rfl hl0 | cons a r => simp
 clear hp hd hs hl0 hh
 go_enter Try.func17, Try.ntmps17
 go_wp2_with ((with_reducible refine gate_dst (N := 2) rfl ?_); refine box_event ?hg (N := 2) ?hd (cs := pcs p A1 c1 A2 c2 A3 c3) (t := 27) ?hr ?_; (case hd => rfl); (case hg => rfl); (case hr => first | (go_simp; done) | (go_simp; rfl)); intro g2 hg v0 hb1 hbl1; clear hg; have G2 := Aside0.mk hb1; have HB := Aside0.mk hbl1; clear hb1 hbl1; refine Hid.out ?_)
 refine Lib.hid ?_
 have g2lt0 := blk_lt G2.out
 go_wp2_with (first
  | ((with_reducible refine gate_dst (N := 14) rfl ?_); refine wpList_load_row rfl 27 (.tmp 2) rfl g2 rfl 27 _ (0, 0) _ G2.out Try.underlying27 rfl info_prod ?_)
  | (go_at_call 15; (with_reducible refine (DA.out _ HB.out).mono ?_); rintro e w3 ⟨g, c, t, rfl, hge, hc, hbk, hb⟩; have gne := (show g2 ≠ g by omega); have BK := Aside0.mk hbk; have gsz := Blk.lt hbk; have hgw := Nat.le_trans HB.out.size hge; have HB := Aside0.mk (below_step HB.out hb); have G2 := Aside0.mk (Pd.blk_below G2.out hb); clear hb hbk))
 go_loopg [8, 9, 10] (l.length + 1) (fun gq ov sv iv w' => ∃ (k : Nat) (s : Int) (A : Option Addr) (cw : Nat) (ls : List Int), k ≤ l.length ∧ iv = .int .i64 (k : Int) ∧ sv = .int .i64 s ∧ ov = .slice A ls.length cw ∧ Aside0 (ls.length = k) ∧ Aside0 (gq = l.length + 1 - k) ∧ Aside0 (R = ls ++ rpartsL p.count s (l.drop k)) ∧ Aside0 (Kd.R (Kd.int .i64) 2 w' w.heap.size (fun b => b ≠ g ∧ b ≠ g2) (.slice A ls.length cw) ls) ∧ Aside0 (H.Blk w' g 3 (nums .i64 l ++ t)) ∧ Aside0 (w'.heap[g2]? = some (.cells (pcs p A1 c1 A2 c2 A3 c3) 27 (0, 0))) ∧ Aside0 (Below w.heap.size w w'))
 case atStart => exact ⟨0, start, none, 0, [], by omega, rfl, rfl, rfl, ⟨rfl⟩, ⟨rfl⟩, ⟨RR.out.symm⟩, ⟨Kd.R_nil _ _ _ _ _⟩, BK, G2, HB⟩
 case round =>
  obtain ⟨k, s, A, cw, ls, kn, rfl, rfl, rfl, hlen, hgq, hra, hr, hbk, G2, hbel⟩ := hrel
  have gszr := Blk.lt hbk.out
  have g2lt := blk_lt G2.out
  have gsz0 := hbel.out.size
  by_cases hlt : k < l.length
  ·have hdr : l.drop k = l[k] :: l.drop (k + 1) := List.drop_eq_getElem_cons hlt
   rw [hdr] at hra
   have HAT := Aside0.mk (show (nums .i64 l ++ t)[k]? = some (.int .i64 l[k]) by rw [List.getElem?_append_left (by simp [nums]; omega)]; simp [nums] <;> omega)
   have hcl := (hbk.out.cell k).trans HAT.out
   have hsz : (k : Int) < (l.length : Int) := by omega
   obtain ⟨v, e1, hx⟩ : ∃ v e1, between p.count s l[k] = (v, e1) := ⟨_, _, rfl⟩
   have BT := Aside0.mk (fun w => rbetween_any _ _ _ _ _ hx w)
   have hra2 := Aside0.mk (show R = (ls ++ [v]) ++ rpartsL p.count l[k] (l.drop (k + 1)) by
    have e := hra.out
    rw [rpartsL, hx] at e
    rw [e, List.append_assoc]; rfl)
   clear hra hx hdr
   have U := Aside0.mk (Below.refl wr.heap.size wr)
   obtain ⟨-, q1, -, -, -, -, -, -, -, -, -, -, -, -, -, -, -, -, -⟩ := pc_cells G2.out
   go_wp2_with fail
   go_region_held3 (fun W => W.cell? ⟨g2, 1, none⟩ = some (.int .i64 p.count) ∧ W.cell? ⟨g, k, none⟩ = some (.int .i64 l[k])) (first | exact ⟨q1, hcl⟩ | go_keep) (first
    | (go_at_call 21; (with_reducible refine (BT.out _).mono ?_); rintro e w9 ⟨rfl, hb⟩; have U := Aside0.mk (below_step (by first | exact pw_below_drewN U.out _ | exact Below.drew U.out | exact U.out) hb); obtain ⟨-, q1, -, -, -, -, -, -, -, -, -, -, -, -, -, -, -, -, -⟩ := pc_cells (Pd.blk_below G2.out U.out); have hcl := ((hbk.out.below U.out).cell k).trans HAT.out; clear hb))
   have HO := Aside0.mk (Kd.R_below hr.out U.out)
   have BK9 := Aside0.mk (hbk.out.below U.out)
   have G9 := Aside0.mk (Pd.blk_below G2.out U.out)
   have HB9 := Aside0.mk (below_step hbel.out U.out)
   have gs9 := Blk.lt BK9.out
   have g29 := blk_lt G9.out
   have gw9 := HB9.out.size
   go_wp2_with ((with_reducible refine gate_builtin (b := .append) (xs := #[.tmp 40, .tmp 42]) rfl ?_); at_builtin; refine Kd.R_append (Kd.int .i64) (w0 := w) w.heap.size rfl (.tmp 40) (.tmp 42) 35 2 (.int .i64 0) 8 rfl Try.underlying35 info_l rfl (by decide) (by omega) (.slice A ls.length cw) ls v [.int .i64 v] (fun b => b ≠ g ∧ b ≠ g2) (fun _ => False) rfl rfl ?aP (fun _ hk => hk.elim) ?aF ?aO ?aB ?aS ?aL ?_; (case aP => exact rfl); (case aF => exact fun b hb => ⟨by omega, by omega⟩); (case aO => exact HO.out); (case aB => exact HB9.out); (case aS => exact gw9); (case aL => have := hlen.out; omega); intro v1 w11 hr1 hb1 hg1 hat1; obtain ⟨l2, hl2⟩ : ∃ l2, l2 = ls ++ [v] := ⟨_, rfl⟩; rw [← hl2] at hr1; obtain ⟨gn, cn, rfl⟩ := RL_slice hr1 (by rw [hl2]; simp); have L2 := Aside0.mk hl2; clear hl2; have R1 := Aside0.mk hr1; have HB1 := Aside0.mk hb1; have HK := Aside0.mk ((hg1.block g gs9 (fun e => (HO.out.1 g e.symm).1 rfl)).trans BK9.out); have HK2 := Aside0.mk ((hg1.block g2 g29 (fun e => (HO.out.1 g2 e.symm).2 rfl)).trans G9.out); have hcl := (Blk.cell HK.out k).trans HAT.out; clear hr1 hb1 hg1 hat1)
   have hlen2 : l2.length = k + 1 := by rw [L2.out, List.length_append, hlen.out]; rfl
   have L3 := Aside0.mk hlen2
   clear hlen2
   go_roundg (l.length + 1 - (k + 1))
   case measure => have := hgq.out; omega
   case rel => exact ⟨k + 1, l[k], some ⟨gn, 0, none⟩, cn, l2, by omega, by simp, rfl, rfl, L3, ⟨rfl⟩, ⟨by rw [hra2.out, L2.out]⟩, R1, HK, HK2, HB1⟩
  ·obtain rfl : k = l.length := by omega
   have fin := Aside0.mk (show R = ls by
    have e := hra.out
    rw [List.drop_length, rpartsL, List.append_nil] at e
    exact e)
   clear hra
   go_wp2_with fail
   go_ret2
   rw [fin.out]
   exact ⟨_, rfl, rowL_of_R hr.out, hbel.out⟩
end Go.Proofs.Ytcfpkkgdofblfaa.Du
/- Plain: days behind the last year; holidays that leave no day between two instalments. -/
namespace Go.Proofs.Ytcfpkkgdofblfaa.Du
open Go.RowKit Go.Proofs.YtcfpkkgdofblfaaW.PrintWords Go.Proofs.YtcfpkkgdofblfaaW.PrintLast Go.Proofs.YtcfpkkgdofblfaaW.PrintMore Go.Proofs.Ytcfpkkgdofblfaa.HW
open Go.Proofs.Ytcfpkkgdofblfaa.Math Go.Proofs.Ytcfpkkgdofblfaa.H Go.Proofs.Ytcfpkkgdofblfaa.Pd Pm
set_option linter.unusedVariables false
set_option linter.unusedSimpArgs false
theorem dates_zero : ∀ (m : Nat) (n e i : Int) (l : List Int), (dates m n e i l).2 = 0 → ∀ j : Int, i < j → j ≤ i + m → (add n (j * e)).2 = 0
 | 0, n, e, i, l => fun _ j h1 h2 => by omega
 | m + 1, n, e, i, l => by
  unfold dates
  split
  ·rename_i h
   intro h0 j h1 h2
   by_cases hj : j = i + 1
   ·rw [hj]; exact h
   ·exact dates_zero m n e (i + 1) _ h0 j (by omega) (by omega)
  ·rename_i h; intro h0; exact absurd h0 h
end Go.Proofs.Ytcfpkkgdofblfaa.Du
/- Both parts between days are one. -/
namespace Go.Proofs.Ytcfpkkgdofblfaa.Du
open Go.RowKit Go.Proofs.YtcfpkkgdofblfaaW.PrintWords Go.Proofs.YtcfpkkgdofblfaaW.PrintLast Go.Proofs.YtcfpkkgdofblfaaW.PrintMore Go.Proofs.Ytcfpkkgdofblfaa.HW
open Go.Proofs.Ytcfpkkgdofblfaa.Math Go.Proofs.Ytcfpkkgdofblfaa.H Go.Proofs.Ytcfpkkgdofblfaa.Pd Pm
set_option linter.unusedVariables false
set_option linter.unusedSimpArgs false
theorem seekS_day (l : List Int) (step : Int) : ∀ (k : Nat) (day : Int), (seekS l step k day).2 = 0 → isDay (seekS l step k day).1
 | 0, day => by intro h; simp [seekS] at h
 | k + 1, day => by
  rw [seekS_succ]
  split
  ·rename_i hd
   split
   ·intro; exact hd
   ·exact seekS_day l step k (day + step)
  ·intro h; simp at h
theorem rollS_day {l : List Int} {day how : Int} (h : (rollS l day how).2 = 0) : isDay (rollS l day how).1 := by
 unfold rollS at h ⊢
 split
 ·rename_i hd; rw [if_pos hd] at h; simp at h
 ·rename_i hd
  rw [if_neg hd] at h
  split
  ·rename_i hb; rw [if_pos hb] at h; simp at h
  ·rename_i hb
   rw [if_neg hb] at h
   split
   ·exact Classical.not_not.1 hd
   ·rename_i h1
    rw [if_neg h1] at h
    split
    ·rename_i h4; rw [if_pos h4] at h; exact seekS_day _ _ _ _ h
    ·rename_i h4
     rw [if_neg h4] at h
     split
     ·rename_i h3; rw [if_pos h3] at h; exact seekS_day _ _ _ _ h
     ·rename_i h3; rw [if_neg h3] at h; exact seekS_day _ _ _ _ h
theorem rollAll_day (hol : List Int) (how : Int) (l : List Int) : (rollAll hol how l).2 = 0 → ∀ d ∈ (rollAll hol how l).1, isDay d := by
 induction l with
 | nil => intro _ d hd; simp [rollAll] at hd
 | cons a r ih =>
  rw [rollAll]
  split
  ·rename_i h0
   unfold after
   split
   ·rename_i h
    intro _ d hd
    rcases List.mem_append.1 hd with h1 | h1
    ·rw [List.mem_singleton.1 h1]; exact rollS_day h0
    ·exact ih h d h1
   ·rename_i h; intro e; exact absurd e h
  ·rename_i h; intro e; exact absurd e h
theorem between_ok {c a b : Int} (hc : c = 1 ∨ c = 2 ∨ c = 3) (ha : isDay a) (hb : isDay b) : between c a b = (place c b - place c a, 0) := by
 unfold between
 rw [if_pos hc, if_pos ⟨ha, hb⟩]
theorem partsAll_ok {c : Int} (hc : c = 1 ∨ c = 2 ∨ c = 3) : ∀ (l : List Int) (s : Int), isDay s → (∀ d ∈ l, isDay d) → partsAll c s l = (rpartsL c s l, 0)
 | [], s, _, _ => rfl
 | d :: r, s, hs, hd => by
  rw [partsAll, between_ok hc hs (hd d (by simp)), if_pos rfl, partsAll_ok hc r d (hd d (by simp)) (fun x hx => hd x (by simp [hx])), rpartsL, between_ok hc hs (hd d (by simp))]
  rfl
theorem dates_start {n e t : Int} (h : (datesP n e t).2 = 0) : isDay n := by
 have hf := datesP_full h
 unfold datesP at h
 split at h
 ·rename_i hc
  have := dates_zero t.toNat n e 0 [] h 1 (by omega) (by omega)
  by_cases hd : isDay n
  ·exact hd
  ·unfold add at this; rw [if_neg hd] at this; simp at this
 ·simp at h
theorem days_known {p : Prod} {start : Int} {l : List Int} (h : daysP p start = (l, 0)) : ok p = true ∧ isDay start ∧ (∀ d ∈ l, isDay d) ∧ (l.length : Int) = p.times ∧ 1 ≤ p.times ∧ p.times ≤ 600 ∧ rise start l = true ∧ l = (rollAll p.hol p.roll (datesP start p.every p.times).1).1 ∧ (rollAll p.hol p.roll (datesP start p.every p.times).1).2 = 0 ∧ (datesP start p.every p.times).2 = 0 := by
 unfold daysP at h
 split at h
 ·rename_i ho
  split at h
  ·rename_i hd
   split at h
   ·rename_i hr
    split at h
    ·rename_i hi
     obtain ⟨rfl, -⟩ := Prod.mk.inj h
     obtain ⟨f1, f2, f3⟩ := datesP_full hd
     have hl := rollAll_len p.hol p.roll _ hr
     exact ⟨ho, dates_start hd, rollAll_day _ _ _ hr, by rw [hl]; exact f1, f2, f3, hi, rfl, hr, hd⟩
    ·simp at h
   ·rename_i hr; exact absurd (Prod.mk.inj h).2 hr
  ·rename_i hd; exact absurd (Prod.mk.inj h).2 hd
 ·simp at h
theorem count_known {p : Prod} (h : ok p = true) : p.count = 1 ∨ p.count = 2 ∨ p.count = 3 := by
 simp only [ok, shapeOk, Bool.and_eq_true, decide_eq_true_eq] at h
 omega
def partsP (p : Prod) (start : Int) : List Int × Int := if (daysP p start).2 = 0 then (rpartsL p.count start (daysP p start).1, 0) else ([], (daysP p start).2)
theorem daysP_err (p : Prod) (start : Int) : (daysP p start).2 ≠ 0 → (daysP p start).1 = [] := by
 unfold daysP
 repeat' split
 all_goals first | (intro; rfl) | (intro h; exact absurd rfl h)
theorem parts_any (p : Prod) (A1 : Option Addr) (c1 : Nat) (A2 : Option Addr) (c2 : Nat) (A3 : Option Addr) (c3 : Nat) (start : Int) (w : World) (hg : GV w) (hp : ProdAt w p A1 c1 A2 c2 A3 c3) (hs : Small p) :
  Calls Try.prog 16 #[pv p A1 c1 A2 c2 A3 c3, .int .i64 start] w (ListedL (partsP p start) w) := by
 by_cases h : (daysP p start).2 = 0
 ·have hd : daysP p start = ((daysP p start).1, 0) := by rw [← h]
  obtain ⟨ho, hs0, hds, hl, t1, t2, -⟩ := days_known hd
  have e : partsP p start = partsAll p.count start (daysP p start).1 := by
   rw [partsAll_ok (count_known ho) _ _ hs0 hds]; unfold partsP; rw [if_pos h]
  rw [e]
  exact parts_main p A1 c1 A2 c2 A3 c3 start w hg hp hs _ (fun e => by rw [e] at hl; simp at hl; omega) (by omega) hd
 ·have e : partsP p start = ([], (daysP p start).2) := by unfold partsP; rw [if_neg h]
  rw [e]
  refine (parts_err p A1 c1 A2 c2 A3 c3 start w hg hp hs _ h (by rw [← daysP_err p start h])).mono ?_
  rintro en w' ⟨he, hb⟩
  exact ⟨_, he, Or.inl ⟨rfl, rfl⟩, hb⟩
theorem rparts_any (p : Prod) (A1 : Option Addr) (c1 : Nat) (A2 : Option Addr) (c2 : Nat) (A3 : Option Addr) (c3 : Nat) (start : Int) (w : World) (hp : ProdAt w p A1 c1 A2 c2 A3 c3) (hs : Held p) (hh : p.hol.length ≤ 1000000) :
  Calls Try.prog 17 #[pv p A1 c1 A2 c2 A3 c3, .int .i64 start] w (ListedL (partsP p start) w) := by
 by_cases h : (daysP p start).2 = 0
 ·have hd : daysP p start = ((daysP p start).1, 0) := by rw [← h]
  obtain ⟨ho, hs0, hds, hl, t1, t2, -⟩ := days_known hd
  have e : partsP p start = (rpartsL p.count start (daysP p start).1, 0) := by unfold partsP; rw [if_pos h]
  rw [e]
  exact rparts_main p A1 c1 A2 c2 A3 c3 start w hp hs hh _ (fun e => by rw [e] at hl; simp at hl; omega) (by omega) hd
 ·have e : partsP p start = ([], (daysP p start).2) := by unfold partsP; rw [if_neg h]
  rw [e]
  exact rparts_err p A1 c1 A2 c2 A3 c3 start w hp hs hh [] _ h (by rw [← daysP_err p start h])
end Go.Proofs.Ytcfpkkgdofblfaa.Du
/- quittanceplay.Product: this product, or one near it. -/
namespace Go.Proofs.Ytcfpkkgdofblfaa.Du
open Go.RowKit Go.Proofs.YtcfpkkgdofblfaaW.PrintWords Go.Proofs.YtcfpkkgdofblfaaW.PrintLast Go.Proofs.YtcfpkkgdofblfaaW.PrintMore Go.Proofs.Ytcfpkkgdofblfaa.HW
open Go.Proofs.Ytcfpkkgdofblfaa.Math Go.Proofs.Ytcfpkkgdofblfaa.H Go.Proofs.Ytcfpkkgdofblfaa.Pd Pm
set_option linter.unusedVariables false
set_option linter.unusedSimpArgs false
section
variable {P : Program} {ops : Array Oper} {rest : List Oper} {a : Act} {Q : Exit → Act → World → Prop}
theorem But.setRow (g : Nat) (w : World) (cs : Array Value) : H.But g w (w.setRow g cs) := ⟨rfl, rfl, rfl, by rw [size_setRow]; exact Nat.le_refl _, fun k _ hk => setRow_other w g k cs hk⟩
theorem row_event {W : World} {o : Oper} (hgd : o.guard = none) {t : TypeId} {p : Tmp} {v : Operand} (ho : o.op = .store t (.tmp p) v) (hd : o.dst = none) {g : Nat} {cs zs : Array Value}
  (hp : a.eval (.tmp p) = .pointer (some ⟨g, 0, none⟩)) (hv : a.eval v = .agg cs) (hb : W.heap[g]? = some (.cells zs t (0, 0))) (hi : (P.info? t).map (·.size) = some cs.size) (hz : zs.size = cs.size) (h1 : cs.all (·.oneCell') = true)
  (h : ∀ w1, w1.heap[g]? = some (.cells cs t (0, 0)) → H.But g W w1 → wpList P ops Q rest a w1) : wpList P ops Q (o :: rest) a W := by
 refine wpList_store_row hgd t (.tmp p) v ho g cs hp hv t zs hb hi hz h1 ?_
 rw [hd]
 exact h _ (setRow_heap W g zs cs t (0, 0) hb) (But.setRow g W cs)
end
def U (x : Int) (m : Int) : Int := x % 18446744073709551616 % m
theorem U_bd (x : Int) {m : Int} (h : 0 < m) : 0 ≤ U x m ∧ U x m < m := ⟨Int.emod_nonneg _ (by omega), Int.emod_lt_of_pos _ h⟩
theorem U_is (x : Int) {m : Int} (h : 0 < m) (h2 : m ≤ 1000000000) : IntKind.i64.wrap (Int.tmod (IntKind.u64.wrap x) m) = U x m := by
 have e : IntKind.u64.wrap x = x % 18446744073709551616 := rfl
 have hn := Int.emod_nonneg x (show (18446744073709551616 : Int) ≠ 0 by omega)
 have hb := U_bd x h
 rw [e, Int.tmod_eq_emod_of_nonneg hn]
 show IntKind.i64.wrap (U x m) = U x m
 generalize U x m = j at *
 rw [i64_w]
 exact w64 (x := j) (by omega) (by omega)
def nearB (p : Prod) (n : Int) : Prod :=
 { plainP with count := 1 + U p.count 3, round := if U p.round 2 = 0 then 1 else 3, kind := 1 + U p.kind 3, every := if U p.every 6 = 0 then 1 else if U p.every 6 = 1 then 2 else if U p.every 6 = 2 then 3 else if U p.every 6 = 3 then 4 else if U p.every 6 = 4 then 6 else 12, times := 1 + U p.times n, rate := U p.rate 300000000, penalty := U p.penalty 500000000, over := 1 + U p.over 3 }
def nearD (q : Prod) : Prod := if q.times ≤ q.grace ∨ q.kind = 3 then { q with grace := 0 } else q
def nearP (p : Prod) (n : Int) : Prod := if ok p = true then nearD (if n < p.times then { p with times := n, resets := [] } else p) else nearD (nearB p n)
def NearE (p : Prod) (A1 : Option Addr) (c1 : Nat) (A2 : Option Addr) (c2 : Nat) (A3 : Option Addr) (c3 : Nat) (q : Prod) (w : World) (e : Ending) (w' : World) : Prop := ∃ B1 d1 B2 d2 B3 d3, e = .returned (pv q B1 d1 B2 d2 B3 d3) ∧ (∀ w0, ProdAt w0 p A1 c1 A2 c2 A3 c3 → ProdAt w0 q B1 d1 B2 d2 B3 d3) ∧ Below w.heap.size w w'
set_option maxRecDepth 100000 in
set_option maxHeartbeats 8000000 in
theorem near_ok (p : Prod) (A1 : Option Addr) (c1 : Nat) (A2 : Option Addr) (c2 : Nat) (A3 : Option Addr) (c3 : Nat) (n : Int) (w : World) (hp : ProdAt w p A1 c1 A2 c2 A3 c3) (hs : Held p) (ho : ok p = true) :
  Calls Try.prog 12 #[pv p A1 c1 A2 c2 A3 c3, .int .i64 n] w (NearE p A1 c1 A2 c2 A3 c3 (nearP p n) w) := by
 have er : err p = 0 := by unfold err; rw [ho]; rfl
 have en : nearP p n = nearD (if n < p.times then { p with times := n, resets := [] } else p) := by unfold nearP; rw [if_pos ho]
 have HP := Aside0.mk hp
 have CK := Aside0.mk (fun w1 (hb : Below w.heap.size w w1) => rcheck_any p A1 c1 A2 c2 A3 c3 w1 (HP.out.below hb) hs)
 rw [er] at CK
 rw [en]
 have EN : True := trivial
 clear hp er en ho hs
 by_cases hn : n < p.times
 ·have k1 : decide (n < p.times) = true := decide_eq_true hn
  rw [if_pos hn]
  unfold nearD
  dsimp only
  by_cases hg : n ≤ p.grace
  ·rw [if_pos (Or.inl hg)]
   have k2 : decide (n ≤ p.grace) = true := decide_eq_true hg
   clear hn hg
   go_enter Try.func12, Try.ntmps12
   go_wp2_with ((with_reducible refine gate_dst (N := 2) rfl ?_); refine box_event ?hg (N := 2) ?hd (cs := pcs p A1 c1 A2 c2 A3 c3) (t := 27) ?hr ?_; (case hd => rfl); (case hg => rfl); (case hr => first | (go_simp; done) | (go_simp; rfl)); intro g2 hg v0 hb1 hbl1; clear hg; have G2 := Aside0.mk hb1; have HB := Aside0.mk hbl1; clear hb1 hbl1; refine Hid.out ?_)
   refine Lib.hid ?_
   go_wp2_with (first
    | ((with_reducible refine gate_dst (N := 4) rfl ?_); refine box_event ?hg (N := 4) ?hd (cs := pzs) (t := 27) ?hr ?_; (case hd => rfl); (case hg => rfl); (case hr => first | (go_simp; done) | (go_simp; rfl)); intro g4 hg w4 hb1 hbl1; have ge4 := (show w.heap.size ≤ g4 by rw [hg]; exact HB.out.size); have ne42 := (show g4 ≠ g2 by have := blk_lt G2.out; omega); clear hg; have G2 := Aside0.mk (Pd.blk_below G2.out hbl1); have G4 := Aside0.mk hb1; have HB := Aside0.mk (below_step HB.out hbl1); clear hb1 hbl1)
    | (go_at_call 22; (with_reducible refine (plain_any _).mono ?_); rintro e w5 ⟨rfl, hb⟩; have G2 := Aside0.mk (Pd.blk_below G2.out hb); have G4 := Aside0.mk (Pd.blk_below G4.out hb); have HB := Aside0.mk (below_step HB.out hb); clear hb)
    | ((with_reducible refine gate_dst (N := 5) rfl ?_); refine copy_event rfl (N := 5) rfl rfl rfl (t := 27) (v := .tmp 6) rfl (cs := plainC) (zs := pzs) ?hr rfl rfl info_prod ?hz plainC_one ?_; (case hr => first | (go_simp; done) | (go_simp; rfl)); (case hz => rfl); intro g5 hg w6 hb0 hb; have ge5 := (show w.heap.size ≤ g5 by rw [hg]; exact HB.out.size); have ne52 := (show g5 ≠ g2 by have := blk_lt G2.out; omega); have ne54 := (show g5 ≠ g4 by have := blk_lt G4.out; omega); clear hg; have G2 := Aside0.mk (Pd.blk_below G2.out hb); have G4 := Aside0.mk (Pd.blk_below G4.out hb); have G5 := Aside0.mk hb0; have HB := Aside0.mk (below_step HB.out hb); clear hb0 hb)
    | ((with_reducible refine gate_dst (N := 7) rfl ?_); refine wpList_load_row rfl 27 (.tmp 2) rfl g2 rfl 27 _ (0, 0) _ G2.out Try.underlying27 rfl info_prod ?_)
    | (go_at_call 30; (with_reducible refine (CK.out _ HB.out).mono ?_); rintro e w7 ⟨rfl, hb⟩; have G2 := Aside0.mk (Pd.blk_below G2.out hb); have G4 := Aside0.mk (Pd.blk_below G4.out hb); have G5 := Aside0.mk (Pd.blk_below G5.out hb); have HB := Aside0.mk (below_step HB.out hb); clear hb)
    | ((with_reducible refine gate_dst (N := 10) rfl ?_); refine wpList_load_row rfl 27 (.tmp 2) rfl g2 rfl 27 _ (0, 0) _ G2.out Try.underlying27 rfl info_prod ?_)
    | ((with_reducible refine gate_store (t := 27) (p := 5) rfl ?_); refine row_event rfl (t := 27) (p := 5) (v := .tmp 10) rfl rfl (g := g5) (cs := pcs p A1 c1 A2 c2 A3 c3) (zs := plainC) rfl rfl G5.out info_prod rfl (pcs_one _ _ _ _ _ _ _) ?_; intro w8 hb8 hbut; have G5 := Aside0.mk hb8; have G2 := Aside0.mk ((hbut.block g2 (blk_lt G2.out) (Ne.symm ne52)).trans G2.out); have G4 := Aside0.mk ((hbut.block g4 (blk_lt G4.out) (Ne.symm ne54)).trans G4.out); have HB := Aside0.mk (But.below HB.out HB.out.size ge5 hbut); clear hb8 hbut; refine Hid.out ?_))
   refine Lib.hid ?_
   try go_frame
   obtain ⟨-, -, -, u3, -, u5, u6, -, u8, -, -, -, -, -, -, -, -, -, -⟩ := pc_cells G5.out
   have f5 := frozen_of_row w8 g5 5 _ _ G5.out
   have f6 := frozen_of_row w8 g5 6 _ _ G5.out
   have f8 := frozen_of_row w8 g5 8 _ _ G5.out
   have bfin : (((w8.setCell ⟨g5, 5, none⟩ (.int .i64 n)).setCell ⟨g5, 8, none⟩ (.slice none 0 0)).setCell ⟨g5, 6, none⟩ (.int .i64 0)).heap[g5]? = some (.cells (pcs { p with times := n, resets := [], grace := 0 } none 0 A2 c2 A3 c3) 27 (0, 0)) := (heap_setCell_same _ g5 6 _ _ _ (heap_setCell_same _ g5 8 _ _ _ (heap_setCell_same _ g5 5 _ _ _ G5.out))).trans rfl
   have hbut : H.But g5 w8 (((w8.setCell ⟨g5, 5, none⟩ (.int .i64 n)).setCell ⟨g5, 8, none⟩ (.slice none 0 0)).setCell ⟨g5, 6, none⟩ (.int .i64 0)) := ((((H.But.of (Below.refl w8.heap.size w8)).setCell (p := ⟨g5, 5, none⟩) (Or.inl rfl) (.int .i64 n)).setCell (p := ⟨g5, 8, none⟩) (Or.inl rfl) (.slice none 0 0)).setCell (p := ⟨g5, 6, none⟩) (Or.inl rfl) (.int .i64 0))
   have g4fin : (((w8.setCell ⟨g5, 5, none⟩ (.int .i64 n)).setCell ⟨g5, 8, none⟩ (.slice none 0 0)).setCell ⟨g5, 6, none⟩ (.int .i64 0)).heap[g4]? = some (.cells pzs 27 (0, 0)) := (hbut.block g4 (blk_lt G4.out) (Ne.symm ne54)).trans G4.out
   have hbfin : Below w.heap.size w (((w8.setCell ⟨g5, 5, none⟩ (.int .i64 n)).setCell ⟨g5, 8, none⟩ (.slice none 0 0)).setCell ⟨g5, 6, none⟩ (.int .i64 0)) := But.below HB.out HB.out.size ge5 hbut
   have F5 := Aside0.mk bfin
   have F4 := Aside0.mk g4fin
   have FB := Aside0.mk hbfin
   clear bfin hbut g4fin hbfin
   go_wp2_with (first
    | ((with_reducible refine gate_dst (N := 89) rfl ?_); refine wpList_load_row rfl 27 (.tmp 5) rfl g5 rfl 27 _ (0, 0) _ F5.out Try.underlying27 rfl info_prod ?_)
    | ((with_reducible refine gate_store (t := 27) (p := 4) rfl ?_); refine Hid.out ?_))
   refine Lib.hid ?_
   refine row_event rfl (t := 27) (p := 4) (v := .tmp 89) rfl rfl (g := g4) (cs := pcs { p with times := n, resets := [], grace := 0 } none 0 A2 c2 A3 c3) (zs := pzs) rfl rfl F4.out info_prod rfl (pcs_one _ _ _ _ _ _ _) ?_
   intro w20 hb20 hbut20
   have H20 := Aside0.mk hb20
   have HB20 := Aside0.mk (But.below FB.out FB.out.size ge4 hbut20)
   clear hb20 hbut20
   try go_frame
   go_wp2_with fail
   exact bodyPost_ret (v := pv { p with times := n, resets := [], grace := 0 } none 0 A2 c2 A3 c3) (results_cell_row (g := g4) Try.results12 _ _ _ _ _ _ rfl H20.out Try.underlying27 rfl info_prod) rfl ⟨none, 0, A2, c2, A3, c3, rfl, (fun w0 h => ⟨nilRows _, Nat.le_refl _, fun _ => rfl, h.r2, h.l2, h.n2, h.r3, h.l3, h.n3⟩), HB20.out⟩
  ·have k2 : decide (n ≤ p.grace) = false := decide_eq_false hg
   by_cases h3 : p.kind = 3
   ·rw [if_pos (Or.inr h3)]
    have k3 : (p.kind == 3) = true := by simpa using h3
    clear hn hg h3
    go_enter Try.func12, Try.ntmps12
    go_wp2_with ((with_reducible refine gate_dst (N := 2) rfl ?_); refine box_event ?hg (N := 2) ?hd (cs := pcs p A1 c1 A2 c2 A3 c3) (t := 27) ?hr ?_; (case hd => rfl); (case hg => rfl); (case hr => first | (go_simp; done) | (go_simp; rfl)); intro g2 hg v0 hb1 hbl1; clear hg; have G2 := Aside0.mk hb1; have HB := Aside0.mk hbl1; clear hb1 hbl1; refine Hid.out ?_)
    refine Lib.hid ?_
    go_wp2_with (first
     | ((with_reducible refine gate_dst (N := 4) rfl ?_); refine box_event ?hg (N := 4) ?hd (cs := pzs) (t := 27) ?hr ?_; (case hd => rfl); (case hg => rfl); (case hr => first | (go_simp; done) | (go_simp; rfl)); intro g4 hg w4 hb1 hbl1; have ge4 := (show w.heap.size ≤ g4 by rw [hg]; exact HB.out.size); have ne42 := (show g4 ≠ g2 by have := blk_lt G2.out; omega); clear hg; have G2 := Aside0.mk (Pd.blk_below G2.out hbl1); have G4 := Aside0.mk hb1; have HB := Aside0.mk (below_step HB.out hbl1); clear hb1 hbl1)
     | (go_at_call 22; (with_reducible refine (plain_any _).mono ?_); rintro e w5 ⟨rfl, hb⟩; have G2 := Aside0.mk (Pd.blk_below G2.out hb); have G4 := Aside0.mk (Pd.blk_below G4.out hb); have HB := Aside0.mk (below_step HB.out hb); clear hb)
     | ((with_reducible refine gate_dst (N := 5) rfl ?_); refine copy_event rfl (N := 5) rfl rfl rfl (t := 27) (v := .tmp 6) rfl (cs := plainC) (zs := pzs) ?hr rfl rfl info_prod ?hz plainC_one ?_; (case hr => first | (go_simp; done) | (go_simp; rfl)); (case hz => rfl); intro g5 hg w6 hb0 hb; have ge5 := (show w.heap.size ≤ g5 by rw [hg]; exact HB.out.size); have ne52 := (show g5 ≠ g2 by have := blk_lt G2.out; omega); have ne54 := (show g5 ≠ g4 by have := blk_lt G4.out; omega); clear hg; have G2 := Aside0.mk (Pd.blk_below G2.out hb); have G4 := Aside0.mk (Pd.blk_below G4.out hb); have G5 := Aside0.mk hb0; have HB := Aside0.mk (below_step HB.out hb); clear hb0 hb)
     | ((with_reducible refine gate_dst (N := 7) rfl ?_); refine wpList_load_row rfl 27 (.tmp 2) rfl g2 rfl 27 _ (0, 0) _ G2.out Try.underlying27 rfl info_prod ?_)
     | (go_at_call 30; (with_reducible refine (CK.out _ HB.out).mono ?_); rintro e w7 ⟨rfl, hb⟩; have G2 := Aside0.mk (Pd.blk_below G2.out hb); have G4 := Aside0.mk (Pd.blk_below G4.out hb); have G5 := Aside0.mk (Pd.blk_below G5.out hb); have HB := Aside0.mk (below_step HB.out hb); clear hb)
     | ((with_reducible refine gate_dst (N := 10) rfl ?_); refine wpList_load_row rfl 27 (.tmp 2) rfl g2 rfl 27 _ (0, 0) _ G2.out Try.underlying27 rfl info_prod ?_)
     | ((with_reducible refine gate_store (t := 27) (p := 5) rfl ?_); refine row_event rfl (t := 27) (p := 5) (v := .tmp 10) rfl rfl (g := g5) (cs := pcs p A1 c1 A2 c2 A3 c3) (zs := plainC) rfl rfl G5.out info_prod rfl (pcs_one _ _ _ _ _ _ _) ?_; intro w8 hb8 hbut; have G5 := Aside0.mk hb8; have G2 := Aside0.mk ((hbut.block g2 (blk_lt G2.out) (Ne.symm ne52)).trans G2.out); have G4 := Aside0.mk ((hbut.block g4 (blk_lt G4.out) (Ne.symm ne54)).trans G4.out); have HB := Aside0.mk (But.below HB.out HB.out.size ge5 hbut); clear hb8 hbut; refine Hid.out ?_))
    refine Lib.hid ?_
    try go_frame
    obtain ⟨-, -, -, u3, -, u5, u6, -, u8, -, -, -, -, -, -, -, -, -, -⟩ := pc_cells G5.out
    have f5 := frozen_of_row w8 g5 5 _ _ G5.out
    have f6 := frozen_of_row w8 g5 6 _ _ G5.out
    have f8 := frozen_of_row w8 g5 8 _ _ G5.out
    have bfin : (((w8.setCell ⟨g5, 5, none⟩ (.int .i64 n)).setCell ⟨g5, 8, none⟩ (.slice none 0 0)).setCell ⟨g5, 6, none⟩ (.int .i64 0)).heap[g5]? = some (.cells (pcs { p with times := n, resets := [], grace := 0 } none 0 A2 c2 A3 c3) 27 (0, 0)) := (heap_setCell_same _ g5 6 _ _ _ (heap_setCell_same _ g5 8 _ _ _ (heap_setCell_same _ g5 5 _ _ _ G5.out))).trans rfl
    have hbut : H.But g5 w8 (((w8.setCell ⟨g5, 5, none⟩ (.int .i64 n)).setCell ⟨g5, 8, none⟩ (.slice none 0 0)).setCell ⟨g5, 6, none⟩ (.int .i64 0)) := ((((H.But.of (Below.refl w8.heap.size w8)).setCell (p := ⟨g5, 5, none⟩) (Or.inl rfl) (.int .i64 n)).setCell (p := ⟨g5, 8, none⟩) (Or.inl rfl) (.slice none 0 0)).setCell (p := ⟨g5, 6, none⟩) (Or.inl rfl) (.int .i64 0))
    have g4fin : (((w8.setCell ⟨g5, 5, none⟩ (.int .i64 n)).setCell ⟨g5, 8, none⟩ (.slice none 0 0)).setCell ⟨g5, 6, none⟩ (.int .i64 0)).heap[g4]? = some (.cells pzs 27 (0, 0)) := (hbut.block g4 (blk_lt G4.out) (Ne.symm ne54)).trans G4.out
    have hbfin : Below w.heap.size w (((w8.setCell ⟨g5, 5, none⟩ (.int .i64 n)).setCell ⟨g5, 8, none⟩ (.slice none 0 0)).setCell ⟨g5, 6, none⟩ (.int .i64 0)) := But.below HB.out HB.out.size ge5 hbut
    have F5 := Aside0.mk bfin
    have F4 := Aside0.mk g4fin
    have FB := Aside0.mk hbfin
    clear bfin hbut g4fin hbfin
    go_wp2_with (first
     | ((with_reducible refine gate_dst (N := 89) rfl ?_); refine wpList_load_row rfl 27 (.tmp 5) rfl g5 rfl 27 _ (0, 0) _ F5.out Try.underlying27 rfl info_prod ?_)
     | ((with_reducible refine gate_store (t := 27) (p := 4) rfl ?_); refine Hid.out ?_))
    refine Lib.hid ?_
    refine row_event rfl (t := 27) (p := 4) (v := .tmp 89) rfl rfl (g := g4) (cs := pcs { p with times := n, resets := [], grace := 0 } none 0 A2 c2 A3 c3) (zs := pzs) rfl rfl F4.out info_prod rfl (pcs_one _ _ _ _ _ _ _) ?_
    intro w20 hb20 hbut20
    have H20 := Aside0.mk hb20
    have HB20 := Aside0.mk (But.below FB.out FB.out.size ge4 hbut20)
    clear hb20 hbut20
    try go_frame
    go_wp2_with fail
    exact bodyPost_ret (v := pv { p with times := n, resets := [], grace := 0 } none 0 A2 c2 A3 c3) (results_cell_row (g := g4) Try.results12 _ _ _ _ _ _ rfl H20.out Try.underlying27 rfl info_prod) rfl ⟨none, 0, A2, c2, A3, c3, rfl, (fun w0 h => ⟨nilRows _, Nat.le_refl _, fun _ => rfl, h.r2, h.l2, h.n2, h.r3, h.l3, h.n3⟩), HB20.out⟩
   ·rw [if_neg (fun h => h.elim hg h3)]
    have k3 : (p.kind == 3) = false := by simpa using h3
    clear hn hg h3
    go_enter Try.func12, Try.ntmps12
    go_wp2_with ((with_reducible refine gate_dst (N := 2) rfl ?_); refine box_event ?hg (N := 2) ?hd (cs := pcs p A1 c1 A2 c2 A3 c3) (t := 27) ?hr ?_; (case hd => rfl); (case hg => rfl); (case hr => first | (go_simp; done) | (go_simp; rfl)); intro g2 hg v0 hb1 hbl1; clear hg; have G2 := Aside0.mk hb1; have HB := Aside0.mk hbl1; clear hb1 hbl1; refine Hid.out ?_)
    refine Lib.hid ?_
    go_wp2_with (first
     | ((with_reducible refine gate_dst (N := 4) rfl ?_); refine box_event ?hg (N := 4) ?hd (cs := pzs) (t := 27) ?hr ?_; (case hd => rfl); (case hg => rfl); (case hr => first | (go_simp; done) | (go_simp; rfl)); intro g4 hg w4 hb1 hbl1; have ge4 := (show w.heap.size ≤ g4 by rw [hg]; exact HB.out.size); have ne42 := (show g4 ≠ g2 by have := blk_lt G2.out; omega); clear hg; have G2 := Aside0.mk (Pd.blk_below G2.out hbl1); have G4 := Aside0.mk hb1; have HB := Aside0.mk (below_step HB.out hbl1); clear hb1 hbl1)
     | (go_at_call 22; (with_reducible refine (plain_any _).mono ?_); rintro e w5 ⟨rfl, hb⟩; have G2 := Aside0.mk (Pd.blk_below G2.out hb); have G4 := Aside0.mk (Pd.blk_below G4.out hb); have HB := Aside0.mk (below_step HB.out hb); clear hb)
     | ((with_reducible refine gate_dst (N := 5) rfl ?_); refine copy_event rfl (N := 5) rfl rfl rfl (t := 27) (v := .tmp 6) rfl (cs := plainC) (zs := pzs) ?hr rfl rfl info_prod ?hz plainC_one ?_; (case hr => first | (go_simp; done) | (go_simp; rfl)); (case hz => rfl); intro g5 hg w6 hb0 hb; have ge5 := (show w.heap.size ≤ g5 by rw [hg]; exact HB.out.size); have ne52 := (show g5 ≠ g2 by have := blk_lt G2.out; omega); have ne54 := (show g5 ≠ g4 by have := blk_lt G4.out; omega); clear hg; have G2 := Aside0.mk (Pd.blk_below G2.out hb); have G4 := Aside0.mk (Pd.blk_below G4.out hb); have G5 := Aside0.mk hb0; have HB := Aside0.mk (below_step HB.out hb); clear hb0 hb)
     | ((with_reducible refine gate_dst (N := 7) rfl ?_); refine wpList_load_row rfl 27 (.tmp 2) rfl g2 rfl 27 _ (0, 0) _ G2.out Try.underlying27 rfl info_prod ?_)
     | (go_at_call 30; (with_reducible refine (CK.out _ HB.out).mono ?_); rintro e w7 ⟨rfl, hb⟩; have G2 := Aside0.mk (Pd.blk_below G2.out hb); have G4 := Aside0.mk (Pd.blk_below G4.out hb); have G5 := Aside0.mk (Pd.blk_below G5.out hb); have HB := Aside0.mk (below_step HB.out hb); clear hb)
     | ((with_reducible refine gate_dst (N := 10) rfl ?_); refine wpList_load_row rfl 27 (.tmp 2) rfl g2 rfl 27 _ (0, 0) _ G2.out Try.underlying27 rfl info_prod ?_)
     | ((with_reducible refine gate_store (t := 27) (p := 5) rfl ?_); refine row_event rfl (t := 27) (p := 5) (v := .tmp 10) rfl rfl (g := g5) (cs := pcs p A1 c1 A2 c2 A3 c3) (zs := plainC) rfl rfl G5.out info_prod rfl (pcs_one _ _ _ _ _ _ _) ?_; intro w8 hb8 hbut; have G5 := Aside0.mk hb8; have G2 := Aside0.mk ((hbut.block g2 (blk_lt G2.out) (Ne.symm ne52)).trans G2.out); have G4 := Aside0.mk ((hbut.block g4 (blk_lt G4.out) (Ne.symm ne54)).trans G4.out); have HB := Aside0.mk (But.below HB.out HB.out.size ge5 hbut); clear hb8 hbut; refine Hid.out ?_))
    refine Lib.hid ?_
    try go_frame
    obtain ⟨-, -, -, u3, -, u5, u6, -, u8, -, -, -, -, -, -, -, -, -, -⟩ := pc_cells G5.out
    have f5 := frozen_of_row w8 g5 5 _ _ G5.out
    have f6 := frozen_of_row w8 g5 6 _ _ G5.out
    have f8 := frozen_of_row w8 g5 8 _ _ G5.out
    have bfin : ((w8.setCell ⟨g5, 5, none⟩ (.int .i64 n)).setCell ⟨g5, 8, none⟩ (.slice none 0 0)).heap[g5]? = some (.cells (pcs { p with times := n, resets := [] } none 0 A2 c2 A3 c3) 27 (0, 0)) := (heap_setCell_same _ g5 8 _ _ _ (heap_setCell_same _ g5 5 _ _ _ G5.out)).trans rfl
    have hbut : H.But g5 w8 ((w8.setCell ⟨g5, 5, none⟩ (.int .i64 n)).setCell ⟨g5, 8, none⟩ (.slice none 0 0)) := (((H.But.of (Below.refl w8.heap.size w8)).setCell (p := ⟨g5, 5, none⟩) (Or.inl rfl) (.int .i64 n)).setCell (p := ⟨g5, 8, none⟩) (Or.inl rfl) (.slice none 0 0))
    have g4fin : ((w8.setCell ⟨g5, 5, none⟩ (.int .i64 n)).setCell ⟨g5, 8, none⟩ (.slice none 0 0)).heap[g4]? = some (.cells pzs 27 (0, 0)) := (hbut.block g4 (blk_lt G4.out) (Ne.symm ne54)).trans G4.out
    have hbfin : Below w.heap.size w ((w8.setCell ⟨g5, 5, none⟩ (.int .i64 n)).setCell ⟨g5, 8, none⟩ (.slice none 0 0)) := But.below HB.out HB.out.size ge5 hbut
    have F5 := Aside0.mk bfin
    have F4 := Aside0.mk g4fin
    have FB := Aside0.mk hbfin
    clear bfin hbut g4fin hbfin
    go_wp2_with (first
     | ((with_reducible refine gate_dst (N := 89) rfl ?_); refine wpList_load_row rfl 27 (.tmp 5) rfl g5 rfl 27 _ (0, 0) _ F5.out Try.underlying27 rfl info_prod ?_)
     | ((with_reducible refine gate_store (t := 27) (p := 4) rfl ?_); refine Hid.out ?_))
    refine Lib.hid ?_
    refine row_event rfl (t := 27) (p := 4) (v := .tmp 89) rfl rfl (g := g4) (cs := pcs { p with times := n, resets := [] } none 0 A2 c2 A3 c3) (zs := pzs) rfl rfl F4.out info_prod rfl (pcs_one _ _ _ _ _ _ _) ?_
    intro w20 hb20 hbut20
    have H20 := Aside0.mk hb20
    have HB20 := Aside0.mk (But.below FB.out FB.out.size ge4 hbut20)
    clear hb20 hbut20
    try go_frame
    go_wp2_with fail
    exact bodyPost_ret (v := pv { p with times := n, resets := [] } none 0 A2 c2 A3 c3) (results_cell_row (g := g4) Try.results12 _ _ _ _ _ _ rfl H20.out Try.underlying27 rfl info_prod) rfl ⟨none, 0, A2, c2, A3, c3, rfl, (fun w0 h => ⟨nilRows _, Nat.le_refl _, fun _ => rfl, h.r2, h.l2, h.n2, h.r3, h.l3, h.n3⟩), HB20.out⟩
 ·have k1 : decide (n < p.times) = false := decide_eq_false hn
  rw [if_neg hn]
  unfold nearD
  by_cases hg : p.times ≤ p.grace
  ·rw [if_pos (Or.inl hg)]
   have k2 : decide (p.times ≤ p.grace) = true := decide_eq_true hg
   clear hn hg
   go_enter Try.func12, Try.ntmps12
   go_wp2_with ((with_reducible refine gate_dst (N := 2) rfl ?_); refine box_event ?hg (N := 2) ?hd (cs := pcs p A1 c1 A2 c2 A3 c3) (t := 27) ?hr ?_; (case hd => rfl); (case hg => rfl); (case hr => first | (go_simp; done) | (go_simp; rfl)); intro g2 hg v0 hb1 hbl1; clear hg; have G2 := Aside0.mk hb1; have HB := Aside0.mk hbl1; clear hb1 hbl1; refine Hid.out ?_)
   refine Lib.hid ?_
   go_wp2_with (first
    | ((with_reducible refine gate_dst (N := 4) rfl ?_); refine box_event ?hg (N := 4) ?hd (cs := pzs) (t := 27) ?hr ?_; (case hd => rfl); (case hg => rfl); (case hr => first | (go_simp; done) | (go_simp; rfl)); intro g4 hg w4 hb1 hbl1; have ge4 := (show w.heap.size ≤ g4 by rw [hg]; exact HB.out.size); have ne42 := (show g4 ≠ g2 by have := blk_lt G2.out; omega); clear hg; have G2 := Aside0.mk (Pd.blk_below G2.out hbl1); have G4 := Aside0.mk hb1; have HB := Aside0.mk (below_step HB.out hbl1); clear hb1 hbl1)
    | (go_at_call 22; (with_reducible refine (plain_any _).mono ?_); rintro e w5 ⟨rfl, hb⟩; have G2 := Aside0.mk (Pd.blk_below G2.out hb); have G4 := Aside0.mk (Pd.blk_below G4.out hb); have HB := Aside0.mk (below_step HB.out hb); clear hb)
    | ((with_reducible refine gate_dst (N := 5) rfl ?_); refine copy_event rfl (N := 5) rfl rfl rfl (t := 27) (v := .tmp 6) rfl (cs := plainC) (zs := pzs) ?hr rfl rfl info_prod ?hz plainC_one ?_; (case hr => first | (go_simp; done) | (go_simp; rfl)); (case hz => rfl); intro g5 hg w6 hb0 hb; have ge5 := (show w.heap.size ≤ g5 by rw [hg]; exact HB.out.size); have ne52 := (show g5 ≠ g2 by have := blk_lt G2.out; omega); have ne54 := (show g5 ≠ g4 by have := blk_lt G4.out; omega); clear hg; have G2 := Aside0.mk (Pd.blk_below G2.out hb); have G4 := Aside0.mk (Pd.blk_below G4.out hb); have G5 := Aside0.mk hb0; have HB := Aside0.mk (below_step HB.out hb); clear hb0 hb)
    | ((with_reducible refine gate_dst (N := 7) rfl ?_); refine wpList_load_row rfl 27 (.tmp 2) rfl g2 rfl 27 _ (0, 0) _ G2.out Try.underlying27 rfl info_prod ?_)
    | (go_at_call 30; (with_reducible refine (CK.out _ HB.out).mono ?_); rintro e w7 ⟨rfl, hb⟩; have G2 := Aside0.mk (Pd.blk_below G2.out hb); have G4 := Aside0.mk (Pd.blk_below G4.out hb); have G5 := Aside0.mk (Pd.blk_below G5.out hb); have HB := Aside0.mk (below_step HB.out hb); clear hb)
    | ((with_reducible refine gate_dst (N := 10) rfl ?_); refine wpList_load_row rfl 27 (.tmp 2) rfl g2 rfl 27 _ (0, 0) _ G2.out Try.underlying27 rfl info_prod ?_)
    | ((with_reducible refine gate_store (t := 27) (p := 5) rfl ?_); refine row_event rfl (t := 27) (p := 5) (v := .tmp 10) rfl rfl (g := g5) (cs := pcs p A1 c1 A2 c2 A3 c3) (zs := plainC) rfl rfl G5.out info_prod rfl (pcs_one _ _ _ _ _ _ _) ?_; intro w8 hb8 hbut; have G5 := Aside0.mk hb8; have G2 := Aside0.mk ((hbut.block g2 (blk_lt G2.out) (Ne.symm ne52)).trans G2.out); have G4 := Aside0.mk ((hbut.block g4 (blk_lt G4.out) (Ne.symm ne54)).trans G4.out); have HB := Aside0.mk (But.below HB.out HB.out.size ge5 hbut); clear hb8 hbut; refine Hid.out ?_))
   refine Lib.hid ?_
   try go_frame
   obtain ⟨-, -, -, u3, -, u5, u6, -, u8, -, -, -, -, -, -, -, -, -, -⟩ := pc_cells G5.out
   have f5 := frozen_of_row w8 g5 5 _ _ G5.out
   have f6 := frozen_of_row w8 g5 6 _ _ G5.out
   have f8 := frozen_of_row w8 g5 8 _ _ G5.out
   have bfin : (w8.setCell ⟨g5, 6, none⟩ (.int .i64 0)).heap[g5]? = some (.cells (pcs { p with grace := 0 } A1 c1 A2 c2 A3 c3) 27 (0, 0)) := (heap_setCell_same _ g5 6 _ _ _ G5.out).trans rfl
   have hbut : H.But g5 w8 (w8.setCell ⟨g5, 6, none⟩ (.int .i64 0)) := ((H.But.of (Below.refl w8.heap.size w8)).setCell (p := ⟨g5, 6, none⟩) (Or.inl rfl) (.int .i64 0))
   have g4fin : (w8.setCell ⟨g5, 6, none⟩ (.int .i64 0)).heap[g4]? = some (.cells pzs 27 (0, 0)) := (hbut.block g4 (blk_lt G4.out) (Ne.symm ne54)).trans G4.out
   have hbfin : Below w.heap.size w (w8.setCell ⟨g5, 6, none⟩ (.int .i64 0)) := But.below HB.out HB.out.size ge5 hbut
   have F5 := Aside0.mk bfin
   have F4 := Aside0.mk g4fin
   have FB := Aside0.mk hbfin
   clear bfin hbut g4fin hbfin
   go_wp2_with (first
    | ((with_reducible refine gate_dst (N := 89) rfl ?_); refine wpList_load_row rfl 27 (.tmp 5) rfl g5 rfl 27 _ (0, 0) _ F5.out Try.underlying27 rfl info_prod ?_)
    | ((with_reducible refine gate_store (t := 27) (p := 4) rfl ?_); refine Hid.out ?_))
   refine Lib.hid ?_
   refine row_event rfl (t := 27) (p := 4) (v := .tmp 89) rfl rfl (g := g4) (cs := pcs { p with grace := 0 } A1 c1 A2 c2 A3 c3) (zs := pzs) rfl rfl F4.out info_prod rfl (pcs_one _ _ _ _ _ _ _) ?_
   intro w20 hb20 hbut20
   have H20 := Aside0.mk hb20
   have HB20 := Aside0.mk (But.below FB.out FB.out.size ge4 hbut20)
   clear hb20 hbut20
   try go_frame
   go_wp2_with fail
   exact bodyPost_ret (v := pv { p with grace := 0 } A1 c1 A2 c2 A3 c3) (results_cell_row (g := g4) Try.results12 _ _ _ _ _ _ rfl H20.out Try.underlying27 rfl info_prod) rfl ⟨A1, c1, A2, c2, A3, c3, rfl, (fun w0 h => ⟨h.r1, h.l1, h.n1, h.r2, h.l2, h.n2, h.r3, h.l3, h.n3⟩), HB20.out⟩
  ·have k2 : decide (p.times ≤ p.grace) = false := decide_eq_false hg
   by_cases h3 : p.kind = 3
   ·rw [if_pos (Or.inr h3)]
    have k3 : (p.kind == 3) = true := by simpa using h3
    clear hn hg h3
    go_enter Try.func12, Try.ntmps12
    go_wp2_with ((with_reducible refine gate_dst (N := 2) rfl ?_); refine box_event ?hg (N := 2) ?hd (cs := pcs p A1 c1 A2 c2 A3 c3) (t := 27) ?hr ?_; (case hd => rfl); (case hg => rfl); (case hr => first | (go_simp; done) | (go_simp; rfl)); intro g2 hg v0 hb1 hbl1; clear hg; have G2 := Aside0.mk hb1; have HB := Aside0.mk hbl1; clear hb1 hbl1; refine Hid.out ?_)
    refine Lib.hid ?_
    go_wp2_with (first
     | ((with_reducible refine gate_dst (N := 4) rfl ?_); refine box_event ?hg (N := 4) ?hd (cs := pzs) (t := 27) ?hr ?_; (case hd => rfl); (case hg => rfl); (case hr => first | (go_simp; done) | (go_simp; rfl)); intro g4 hg w4 hb1 hbl1; have ge4 := (show w.heap.size ≤ g4 by rw [hg]; exact HB.out.size); have ne42 := (show g4 ≠ g2 by have := blk_lt G2.out; omega); clear hg; have G2 := Aside0.mk (Pd.blk_below G2.out hbl1); have G4 := Aside0.mk hb1; have HB := Aside0.mk (below_step HB.out hbl1); clear hb1 hbl1)
     | (go_at_call 22; (with_reducible refine (plain_any _).mono ?_); rintro e w5 ⟨rfl, hb⟩; have G2 := Aside0.mk (Pd.blk_below G2.out hb); have G4 := Aside0.mk (Pd.blk_below G4.out hb); have HB := Aside0.mk (below_step HB.out hb); clear hb)
     | ((with_reducible refine gate_dst (N := 5) rfl ?_); refine copy_event rfl (N := 5) rfl rfl rfl (t := 27) (v := .tmp 6) rfl (cs := plainC) (zs := pzs) ?hr rfl rfl info_prod ?hz plainC_one ?_; (case hr => first | (go_simp; done) | (go_simp; rfl)); (case hz => rfl); intro g5 hg w6 hb0 hb; have ge5 := (show w.heap.size ≤ g5 by rw [hg]; exact HB.out.size); have ne52 := (show g5 ≠ g2 by have := blk_lt G2.out; omega); have ne54 := (show g5 ≠ g4 by have := blk_lt G4.out; omega); clear hg; have G2 := Aside0.mk (Pd.blk_below G2.out hb); have G4 := Aside0.mk (Pd.blk_below G4.out hb); have G5 := Aside0.mk hb0; have HB := Aside0.mk (below_step HB.out hb); clear hb0 hb)
     | ((with_reducible refine gate_dst (N := 7) rfl ?_); refine wpList_load_row rfl 27 (.tmp 2) rfl g2 rfl 27 _ (0, 0) _ G2.out Try.underlying27 rfl info_prod ?_)
     | (go_at_call 30; (with_reducible refine (CK.out _ HB.out).mono ?_); rintro e w7 ⟨rfl, hb⟩; have G2 := Aside0.mk (Pd.blk_below G2.out hb); have G4 := Aside0.mk (Pd.blk_below G4.out hb); have G5 := Aside0.mk (Pd.blk_below G5.out hb); have HB := Aside0.mk (below_step HB.out hb); clear hb)
     | ((with_reducible refine gate_dst (N := 10) rfl ?_); refine wpList_load_row rfl 27 (.tmp 2) rfl g2 rfl 27 _ (0, 0) _ G2.out Try.underlying27 rfl info_prod ?_)
     | ((with_reducible refine gate_store (t := 27) (p := 5) rfl ?_); refine row_event rfl (t := 27) (p := 5) (v := .tmp 10) rfl rfl (g := g5) (cs := pcs p A1 c1 A2 c2 A3 c3) (zs := plainC) rfl rfl G5.out info_prod rfl (pcs_one _ _ _ _ _ _ _) ?_; intro w8 hb8 hbut; have G5 := Aside0.mk hb8; have G2 := Aside0.mk ((hbut.block g2 (blk_lt G2.out) (Ne.symm ne52)).trans G2.out); have G4 := Aside0.mk ((hbut.block g4 (blk_lt G4.out) (Ne.symm ne54)).trans G4.out); have HB := Aside0.mk (But.below HB.out HB.out.size ge5 hbut); clear hb8 hbut; refine Hid.out ?_))
    refine Lib.hid ?_
    try go_frame
    obtain ⟨-, -, -, u3, -, u5, u6, -, u8, -, -, -, -, -, -, -, -, -, -⟩ := pc_cells G5.out
    have f5 := frozen_of_row w8 g5 5 _ _ G5.out
    have f6 := frozen_of_row w8 g5 6 _ _ G5.out
    have f8 := frozen_of_row w8 g5 8 _ _ G5.out
    have bfin : (w8.setCell ⟨g5, 6, none⟩ (.int .i64 0)).heap[g5]? = some (.cells (pcs { p with grace := 0 } A1 c1 A2 c2 A3 c3) 27 (0, 0)) := (heap_setCell_same _ g5 6 _ _ _ G5.out).trans rfl
    have hbut : H.But g5 w8 (w8.setCell ⟨g5, 6, none⟩ (.int .i64 0)) := ((H.But.of (Below.refl w8.heap.size w8)).setCell (p := ⟨g5, 6, none⟩) (Or.inl rfl) (.int .i64 0))
    have g4fin : (w8.setCell ⟨g5, 6, none⟩ (.int .i64 0)).heap[g4]? = some (.cells pzs 27 (0, 0)) := (hbut.block g4 (blk_lt G4.out) (Ne.symm ne54)).trans G4.out
    have hbfin : Below w.heap.size w (w8.setCell ⟨g5, 6, none⟩ (.int .i64 0)) := But.below HB.out HB.out.size ge5 hbut
    have F5 := Aside0.mk bfin
    have F4 := Aside0.mk g4fin
    have FB := Aside0.mk hbfin
    clear bfin hbut g4fin hbfin
    go_wp2_with (first
     | ((with_reducible refine gate_dst (N := 89) rfl ?_); refine wpList_load_row rfl 27 (.tmp 5) rfl g5 rfl 27 _ (0, 0) _ F5.out Try.underlying27 rfl info_prod ?_)
     | ((with_reducible refine gate_store (t := 27) (p := 4) rfl ?_); refine Hid.out ?_))
    refine Lib.hid ?_
    refine row_event rfl (t := 27) (p := 4) (v := .tmp 89) rfl rfl (g := g4) (cs := pcs { p with grace := 0 } A1 c1 A2 c2 A3 c3) (zs := pzs) rfl rfl F4.out info_prod rfl (pcs_one _ _ _ _ _ _ _) ?_
    intro w20 hb20 hbut20
    have H20 := Aside0.mk hb20
    have HB20 := Aside0.mk (But.below FB.out FB.out.size ge4 hbut20)
    clear hb20 hbut20
    try go_frame
    go_wp2_with fail
    exact bodyPost_ret (v := pv { p with grace := 0 } A1 c1 A2 c2 A3 c3) (results_cell_row (g := g4) Try.results12 _ _ _ _ _ _ rfl H20.out Try.underlying27 rfl info_prod) rfl ⟨A1, c1, A2, c2, A3, c3, rfl, (fun w0 h => ⟨h.r1, h.l1, h.n1, h.r2, h.l2, h.n2, h.r3, h.l3, h.n3⟩), HB20.out⟩
   ·rw [if_neg (fun h => h.elim hg h3)]
    have k3 : (p.kind == 3) = false := by simpa using h3
    clear hn hg h3
    go_enter Try.func12, Try.ntmps12
    go_wp2_with ((with_reducible refine gate_dst (N := 2) rfl ?_); refine box_event ?hg (N := 2) ?hd (cs := pcs p A1 c1 A2 c2 A3 c3) (t := 27) ?hr ?_; (case hd => rfl); (case hg => rfl); (case hr => first | (go_simp; done) | (go_simp; rfl)); intro g2 hg v0 hb1 hbl1; clear hg; have G2 := Aside0.mk hb1; have HB := Aside0.mk hbl1; clear hb1 hbl1; refine Hid.out ?_)
    refine Lib.hid ?_
    go_wp2_with (first
     | ((with_reducible refine gate_dst (N := 4) rfl ?_); refine box_event ?hg (N := 4) ?hd (cs := pzs) (t := 27) ?hr ?_; (case hd => rfl); (case hg => rfl); (case hr => first | (go_simp; done) | (go_simp; rfl)); intro g4 hg w4 hb1 hbl1; have ge4 := (show w.heap.size ≤ g4 by rw [hg]; exact HB.out.size); have ne42 := (show g4 ≠ g2 by have := blk_lt G2.out; omega); clear hg; have G2 := Aside0.mk (Pd.blk_below G2.out hbl1); have G4 := Aside0.mk hb1; have HB := Aside0.mk (below_step HB.out hbl1); clear hb1 hbl1)
     | (go_at_call 22; (with_reducible refine (plain_any _).mono ?_); rintro e w5 ⟨rfl, hb⟩; have G2 := Aside0.mk (Pd.blk_below G2.out hb); have G4 := Aside0.mk (Pd.blk_below G4.out hb); have HB := Aside0.mk (below_step HB.out hb); clear hb)
     | ((with_reducible refine gate_dst (N := 5) rfl ?_); refine copy_event rfl (N := 5) rfl rfl rfl (t := 27) (v := .tmp 6) rfl (cs := plainC) (zs := pzs) ?hr rfl rfl info_prod ?hz plainC_one ?_; (case hr => first | (go_simp; done) | (go_simp; rfl)); (case hz => rfl); intro g5 hg w6 hb0 hb; have ge5 := (show w.heap.size ≤ g5 by rw [hg]; exact HB.out.size); have ne52 := (show g5 ≠ g2 by have := blk_lt G2.out; omega); have ne54 := (show g5 ≠ g4 by have := blk_lt G4.out; omega); clear hg; have G2 := Aside0.mk (Pd.blk_below G2.out hb); have G4 := Aside0.mk (Pd.blk_below G4.out hb); have G5 := Aside0.mk hb0; have HB := Aside0.mk (below_step HB.out hb); clear hb0 hb)
     | ((with_reducible refine gate_dst (N := 7) rfl ?_); refine wpList_load_row rfl 27 (.tmp 2) rfl g2 rfl 27 _ (0, 0) _ G2.out Try.underlying27 rfl info_prod ?_)
     | (go_at_call 30; (with_reducible refine (CK.out _ HB.out).mono ?_); rintro e w7 ⟨rfl, hb⟩; have G2 := Aside0.mk (Pd.blk_below G2.out hb); have G4 := Aside0.mk (Pd.blk_below G4.out hb); have G5 := Aside0.mk (Pd.blk_below G5.out hb); have HB := Aside0.mk (below_step HB.out hb); clear hb)
     | ((with_reducible refine gate_dst (N := 10) rfl ?_); refine wpList_load_row rfl 27 (.tmp 2) rfl g2 rfl 27 _ (0, 0) _ G2.out Try.underlying27 rfl info_prod ?_)
     | ((with_reducible refine gate_store (t := 27) (p := 5) rfl ?_); refine row_event rfl (t := 27) (p := 5) (v := .tmp 10) rfl rfl (g := g5) (cs := pcs p A1 c1 A2 c2 A3 c3) (zs := plainC) rfl rfl G5.out info_prod rfl (pcs_one _ _ _ _ _ _ _) ?_; intro w8 hb8 hbut; have G5 := Aside0.mk hb8; have G2 := Aside0.mk ((hbut.block g2 (blk_lt G2.out) (Ne.symm ne52)).trans G2.out); have G4 := Aside0.mk ((hbut.block g4 (blk_lt G4.out) (Ne.symm ne54)).trans G4.out); have HB := Aside0.mk (But.below HB.out HB.out.size ge5 hbut); clear hb8 hbut; refine Hid.out ?_))
    refine Lib.hid ?_
    try go_frame
    obtain ⟨-, -, -, u3, -, u5, u6, -, u8, -, -, -, -, -, -, -, -, -, -⟩ := pc_cells G5.out
    have f5 := frozen_of_row w8 g5 5 _ _ G5.out
    have f6 := frozen_of_row w8 g5 6 _ _ G5.out
    have f8 := frozen_of_row w8 g5 8 _ _ G5.out
    have bfin : w8.heap[g5]? = some (.cells (pcs p A1 c1 A2 c2 A3 c3) 27 (0, 0)) := G5.out
    have hbut : H.But g5 w8 w8 := (H.But.of (Below.refl w8.heap.size w8))
    have g4fin : w8.heap[g4]? = some (.cells pzs 27 (0, 0)) := (hbut.block g4 (blk_lt G4.out) (Ne.symm ne54)).trans G4.out
    have hbfin : Below w.heap.size w w8 := But.below HB.out HB.out.size ge5 hbut
    have F5 := Aside0.mk bfin
    have F4 := Aside0.mk g4fin
    have FB := Aside0.mk hbfin
    clear bfin hbut g4fin hbfin
    go_wp2_with (first
     | ((with_reducible refine gate_dst (N := 89) rfl ?_); refine wpList_load_row rfl 27 (.tmp 5) rfl g5 rfl 27 _ (0, 0) _ F5.out Try.underlying27 rfl info_prod ?_)
     | ((with_reducible refine gate_store (t := 27) (p := 4) rfl ?_); refine Hid.out ?_))
    refine Lib.hid ?_
    refine row_event rfl (t := 27) (p := 4) (v := .tmp 89) rfl rfl (g := g4) (cs := pcs p A1 c1 A2 c2 A3 c3) (zs := pzs) rfl rfl F4.out info_prod rfl (pcs_one _ _ _ _ _ _ _) ?_
    intro w20 hb20 hbut20
    have H20 := Aside0.mk hb20
    have HB20 := Aside0.mk (But.below FB.out FB.out.size ge4 hbut20)
    clear hb20 hbut20
    try go_frame
    go_wp2_with fail
    exact bodyPost_ret (v := pv p A1 c1 A2 c2 A3 c3) (results_cell_row (g := g4) Try.results12 _ _ _ _ _ _ rfl H20.out Try.underlying27 rfl info_prod) rfl ⟨A1, c1, A2, c2, A3, c3, rfl, (fun w0 h => ⟨h.r1, h.l1, h.n1, h.r2, h.l2, h.n2, h.r3, h.l3, h.n3⟩), HB20.out⟩
end Go.Proofs.Ytcfpkkgdofblfaa.Du
/- quittanceplay.Product, where the product may not be: one that is near. -/
namespace Go.Proofs.Ytcfpkkgdofblfaa.Du
open Go.RowKit Go.Proofs.YtcfpkkgdofblfaaW.PrintWords Go.Proofs.YtcfpkkgdofblfaaW.PrintLast Go.Proofs.YtcfpkkgdofblfaaW.PrintMore Go.Proofs.Ytcfpkkgdofblfaa.HW
open Go.Proofs.Ytcfpkkgdofblfaa.Math Go.Proofs.Ytcfpkkgdofblfaa.H Go.Proofs.Ytcfpkkgdofblfaa.Pd Pm
set_option linter.unusedVariables false
set_option linter.unusedSimpArgs false
section
variable {P : Program} {ops : Array Oper} {rest : List Oper} {a : Act} {Q : Exit → Act → World → Prop}
theorem But.one (g i : Nat) (W : World) (x : Value) : H.But g W (W.setCell ⟨g, i, none⟩ x) := (H.But.of (Below.refl W.heap.size W)).setCell (p := ⟨g, i, none⟩) (Or.inl rfl) x
theorem put_event {W : World} {o : Oper} (hgd : o.guard = none) {t : TypeId} {p : Tmp} {v : Operand} (_ho : o.op = .store t (.tmp p) v) (hd : o.dst = none) {g i : Nat} {cs cs' : Array Value} {T : TypeId} {x : Value}
  (hrun : (execOp a.eval o).run P W = .ok .skip (W.setCell ⟨g, i, none⟩ x)) (hb : W.heap[g]? = some (.cells cs T (0, 0))) (hc : cs.setIfInBounds i x = cs')
  (h : ∀ w1, w1.heap[g]? = some (.cells cs' T (0, 0)) → H.But g W w1 → wpList P ops Q rest a w1) : wpList P ops Q (o :: rest) a W := by
 refine store_event hgd _ho hd hrun ?_
 rintro w' rfl
 exact h _ (by rw [heap_setCell_same W g i cs T x hb, hc]) (But.one g i W x)
theorem lit_event {W : World} {o : Oper} (hgd : o.guard = none) {N : Tmp} (_hd : o.dst = some N) {cs : Array Value} {t : TypeId} {n : Nat}
  (hrun : (execOp a.eval o).run P W = .ok (.value (.slice (some ⟨W.heap.size, 0, none⟩) n n)) (W.alloc (.cells cs t (0, 0))))
  (h : ∀ g, g = W.heap.size → ∀ w1, w1.heap[g]? = some (.cells cs t (0, 0)) → Below W.heap.size W w1 → wpList P ops Q rest (a.put o.dst (.slice (some ⟨g, 0, none⟩) n n)) w1) : wpList P ops Q (o :: rest) a W :=
 Kd.event_run hgd hrun (h _ rfl _ (blk_new W _) (below_alloc (Below.refl _ _) _))
end
theorem U_nat (x : Int) (m : Nat) (h : 0 < m) (h2 : m ≤ 1000000000) : ∃ r : Nat, r < m ∧ U x m = (r : Int) := by
 have b := U_bd x (m := (m : Int)) (by omega)
 exact ⟨(U x m).toNat, by omega, by omega⟩
theorem pick2 (x : Int) : ∃ r : Nat, (r : Int) < 2 ∧ IntKind.i64.wrap (Int.tmod (IntKind.u64.wrap x) 2) = (r : Int) ∧ (#[Value.int .i64 1, .int .i64 3] : Array Value)[r]? = some (.int .i64 (if U x 2 = 0 then (1 : Int) else 3)) := by
 obtain ⟨r, hr, e⟩ := U_nat x 2 (by omega) (by omega)
 have e2 : U x 2 = (r : Int) := e
 refine ⟨r, by omega, (U_is x (m := 2) (by omega) (by omega)).trans e2, ?_⟩
 rw [e2]
 rcases (by omega : r = 0 ∨ r = 1) with rfl | rfl <;> rfl
theorem pick6 (x : Int) : ∃ r : Nat, (r : Int) < 6 ∧ IntKind.i64.wrap (Int.tmod (IntKind.u64.wrap x) 6) = (r : Int) ∧ (#[Value.int .i64 1, .int .i64 2, .int .i64 3, .int .i64 4, .int .i64 6, .int .i64 12] : Array Value)[r]? = some (.int .i64 (if U x 6 = 0 then (1 : Int) else if U x 6 = 1 then 2 else if U x 6 = 2 then 3 else if U x 6 = 3 then 4 else if U x 6 = 4 then 6 else 12)) := by
 obtain ⟨r, hr, e⟩ := U_nat x 6 (by omega) (by omega)
 have e2 : U x 6 = (r : Int) := e
 refine ⟨r, by omega, (U_is x (m := 6) (by omega) (by omega)).trans e2, ?_⟩
 rw [e2]
 rcases (by omega : r = 0 ∨ r = 1 ∨ r = 2 ∨ r = 3 ∨ r = 4 ∨ r = 5) with rfl | rfl | rfl | rfl | rfl | rfl <;> rfl
set_option maxRecDepth 100000 in
set_option maxHeartbeats 8000000 in
theorem near_not (p : Prod) (A1 : Option Addr) (c1 : Nat) (A2 : Option Addr) (c2 : Nat) (A3 : Option Addr) (c3 : Nat) (n : Int) (w : World) (hp : ProdAt w p A1 c1 A2 c2 A3 c3) (hs : Held p) (ho : ok p = false) (n1 : 1 ≤ n) (n2 : n ≤ 1000) :
  Calls Try.prog 12 #[pv p A1 c1 A2 c2 A3 c3, .int .i64 n] w (NearE p A1 c1 A2 c2 A3 c3 (nearP p n) w) := by
 have er : err p = 9 := by unfold err; rw [ho]; rfl
 have en : nearP p n = nearB p n := by unfold nearP; rw [if_neg (by rw [ho]; decide)]; unfold nearD; split <;> rfl
 have HP := Aside0.mk hp
 have CK := Aside0.mk (fun w1 (hb : Below w.heap.size w w1) => rcheck_any p A1 c1 A2 c2 A3 c3 w1 (HP.out.below hb) hs)
 rw [er] at CK
 obtain ⟨x2, hx2⟩ : ∃ x, x = (if U p.round 2 = 0 then (1 : Int) else 3) := ⟨_, rfl⟩
 obtain ⟨x6, hx6⟩ : ∃ x, x = (if U p.every 6 = 0 then (1 : Int) else if U p.every 6 = 1 then 2 else if U p.every 6 = 2 then 3 else if U p.every 6 = 3 then 4 else if U p.every 6 = 4 then 6 else 12) := ⟨_, rfl⟩
 obtain ⟨qf, hqf⟩ : ∃ q, q = (show Prod from { plainP with count := 1 + U p.count 3, kind := 1 + U p.kind 3, round := x2, every := x6, times := 1 + U p.times n, rate := U p.rate 300000000, penalty := U p.penalty 500000000, over := 1 + U p.over 3 }) := ⟨_, rfl⟩
 have en2 : nearB p n = qf := by rw [hqf, hx2, hx6]; rfl
 have HQ := Aside0.mk hqf
 clear hqf
 rw [en, en2]
 have m1 := U_is p.count (m := 3) (by omega) (by omega)
 obtain ⟨b1a, b1b⟩ := U_bd p.count (m := 3) (by omega)
 have m3 := U_is p.kind (m := 3) (by omega) (by omega)
 obtain ⟨b3a, b3b⟩ := U_bd p.kind (m := 3) (by omega)
 obtain ⟨r2, r2b, m2, p2⟩ := pick2 p.round
 obtain ⟨r6, r6b, m6, p6⟩ := pick6 p.every
 have m5 := U_is p.times (m := n) (by omega) (by omega)
 obtain ⟨b5a, b5b⟩ := U_bd p.times (m := n) (by omega)
 have m7 := U_is p.rate (m := 300000000) (by omega) (by omega)
 have m9 := U_is p.penalty (m := 500000000) (by omega) (by omega)
 have m14 := U_is p.over (m := 3) (by omega) (by omega)
 obtain ⟨b14a, b14b⟩ := U_bd p.over (m := 3) (by omega)
 have mn : IntKind.u64.wrap n = n := by show n % 18446744073709551616 = n; omega
 have nz : (n == 0) = false := by simp; omega
 rw [← hx2] at p2
 rw [← hx6] at p6
 clear hx2 hx6 en2
 have P2 := Aside0.mk p2
 have P6 := Aside0.mk p6
 clear hp er en ho hs p2 p6
 go_enter Try.func12, Try.ntmps12
 go_wp2_with ((with_reducible refine gate_dst (N := 2) rfl ?_); refine box_event ?hg (N := 2) ?hd (cs := pcs p A1 c1 A2 c2 A3 c3) (t := 27) ?hr ?_; (case hd => rfl); (case hg => rfl); (case hr => first | (go_simp; done) | (go_simp; rfl)); intro g2 hg v0 hb1 hbl1; clear hg; have G2 := Aside0.mk hb1; have HB := Aside0.mk hbl1; clear hb1 hbl1; refine Hid.out ?_)
 refine Lib.hid ?_
 go_wp2_with (first
  | ((with_reducible refine gate_dst (N := 4) rfl ?_); refine box_event ?hg (N := 4) ?hd (cs := pzs) (t := 27) ?hr ?_; (case hd => rfl); (case hg => rfl); (case hr => first | (go_simp; done) | (go_simp; rfl)); intro g4 hg w4 hb1 hbl1; have ge4 := (show w.heap.size ≤ g4 by rw [hg]; exact HB.out.size); have ne42 := (show g4 ≠ g2 by have := blk_lt G2.out; omega); clear hg; have G2 := Aside0.mk (Pd.blk_below G2.out hbl1); have G4 := Aside0.mk hb1; have HB := Aside0.mk (below_step HB.out hbl1); clear hb1 hbl1)
  | (go_at_call 22; (with_reducible refine (plain_any _).mono ?_); rintro e w5 ⟨rfl, hb⟩; have G2 := Aside0.mk (Pd.blk_below G2.out hb); have G4 := Aside0.mk (Pd.blk_below G4.out hb); have HB := Aside0.mk (below_step HB.out hb); clear hb)
  | ((with_reducible refine gate_dst (N := 5) rfl ?_); refine copy_event rfl (N := 5) rfl rfl rfl (t := 27) (v := .tmp 6) rfl (cs := plainC) (zs := pzs) ?hr rfl rfl info_prod ?hz plainC_one ?_; (case hr => first | (go_simp; done) | (go_simp; rfl)); (case hz => rfl); intro g5 hg w6 hb0 hb; have ge5 := (show w.heap.size ≤ g5 by rw [hg]; exact HB.out.size); have ne52 := (show g5 ≠ g2 by have := blk_lt G2.out; omega); have ne54 := (show g5 ≠ g4 by have := blk_lt G4.out; omega); clear hg; have G2 := Aside0.mk (Pd.blk_below G2.out hb); have G4 := Aside0.mk (Pd.blk_below G4.out hb); have G5 := Aside0.mk hb0; have HB := Aside0.mk (below_step HB.out hb); clear hb0 hb)
  | ((with_reducible refine gate_dst (N := 7) rfl ?_); refine wpList_load_row rfl 27 (.tmp 2) rfl g2 rfl 27 _ (0, 0) _ G2.out Try.underlying27 rfl info_prod ?_)
  | (go_at_call 30; (with_reducible refine (CK.out _ HB.out).mono ?_); rintro e w7 ⟨rfl, hb⟩; have G2 := Aside0.mk (Pd.blk_below G2.out hb); have G4 := Aside0.mk (Pd.blk_below G4.out hb); have G5 := Aside0.mk (Pd.blk_below G5.out hb); have HB := Aside0.mk (below_step HB.out hb); clear hb))
 obtain ⟨-, q1, q2, q3, q4, q5, -, q7, -, q9, -, -, -, -, q14, -, -, -, -⟩ := pc_cells G2.out
 obtain ⟨-, u1, -, u3, -, -, -, -, -, -, -, -, -, -, -, -, -, -, -⟩ := pc_cells (p := plainP) (A1 := none) (c1 := 0) (A2 := none) (c2 := 0) (A3 := none) (c3 := 0) G5.out
 have f1 := frozen_of_row w7 g5 1 _ _ G5.out
 have f3 := frozen_of_row w7 g5 3 _ _ G5.out
 go_region
 obtain ⟨W5, hW5⟩ : ∃ W, W = ((w7.setCell ⟨g5, 1, none⟩ (.int .i64 (1 + U p.count 3))).setCell ⟨g5, 3, none⟩ (.int .i64 (1 + U p.kind 3))).drew := ⟨_, rfl⟩
 rw [← hW5]
 have n5 : W5.heap[g5]? = some (.cells (pcs { plainP with count := 1 + U p.count 3, kind := 1 + U p.kind 3 } none 0 none 0 none 0) 27 (0, 0)) := by rw [hW5]; exact (heap_setCell_same _ g5 3 _ _ _ (heap_setCell_same _ g5 1 _ _ _ G5.out)).trans rfl
 have nb : H.But g5 w7 W5 := by rw [hW5]; exact (let h : H.But g5 w7 ((w7.setCell ⟨g5, 1, none⟩ (.int .i64 (1 + U p.count 3))).setCell ⟨g5, 3, none⟩ (.int .i64 (1 + U p.kind 3))) := (But.one g5 1 w7 _).setCell (p := ⟨g5, 3, none⟩) (Or.inl rfl) _; ⟨h.os, h.tape, h.output, h.size, h.block⟩)
 have n2 := (nb.block g2 (blk_lt G2.out) (Ne.symm ne52)).trans G2.out
 have n4 := (nb.block g4 (blk_lt G4.out) (Ne.symm ne54)).trans G4.out
 have nH := But.below HB.out HB.out.size ge5 nb
 have G5 := Aside0.mk n5
 have G2 := Aside0.mk n2
 have G4 := Aside0.mk n4
 have HB := Aside0.mk nH
 clear hW5 nb n5 n2 n4 nH q1 q2 q3 q4 q5 q7 q9 q14 u1 u3 f1 f3
 obtain ⟨-, q1, q2, q3, q4, q5, -, q7, -, q9, -, -, -, -, q14, -, -, -, -⟩ := pc_cells G2.out
 go_wp2_with (first
  | ((with_reducible refine gate_dst (N := 25) rfl ?_); refine lit_event rfl (N := 25) rfl (cs := #[.int .i64 1, .int .i64 3]) (t := 3) (n := 2) ?hr ?_; (case hr => first | (go_simp; done) | (go_simp; rfl)); intro gl25 hgl wl25 hbl hb; have cl := (blk_cell hbl r2).trans P2.out; have G2 := Aside0.mk (Pd.blk_below G2.out hb); have G4 := Aside0.mk (Pd.blk_below G4.out hb); have G5 := Aside0.mk (Pd.blk_below G5.out hb); have HB := Aside0.mk (below_step HB.out hb); clear hgl hbl hb; obtain ⟨-, q1, q2, q3, q4, q5, -, q7, -, q9, -, -, -, -, q14, -, -, -, -⟩ := pc_cells G2.out; obtain ⟨-, -, u2, -, u4, u5, -, u7, -, u9, -, -, -, -, u14, -, -, -, -⟩ := pc_cells (c1 := 0) (c2 := 0) (c3 := 0) G5.out; have f2 := frozen_of_row wl25 g5 2 _ _ G5.out; have f4 := frozen_of_row wl25 g5 4 _ _ G5.out)
  | ((with_reducible refine gate_store (t := 3) (p := 33) rfl ?_); refine put_event rfl (t := 3) (p := 33) (v := .tmp 32) rfl rfl (g := g5) (i := 2) (cs := pcs { plainP with count := 1 + U p.count 3, kind := 1 + U p.kind 3 } none 0 none 0 none 0) (cs' := pcs { plainP with count := 1 + U p.count 3, kind := 1 + U p.kind 3, round := x2 } none 0 none 0 none 0) (x := .int .i64 x2) ?hr G5.out ?hc ?_; (case hc => rfl); (case hr => go_simp); intro w31 hb8 hbut; have G5 := Aside0.mk hb8; have G2 := Aside0.mk ((hbut.block g2 (blk_lt G2.out) (Ne.symm ne52)).trans G2.out); have G4 := Aside0.mk ((hbut.block g4 (blk_lt G4.out) (Ne.symm ne54)).trans G4.out); have HB := Aside0.mk (But.below HB.out HB.out.size ge5 hbut); clear hb8 hbut; obtain ⟨-, q1, q2, q3, q4, q5, -, q7, -, q9, -, -, -, -, q14, -, -, -, -⟩ := pc_cells G2.out; obtain ⟨-, -, u2, u3, u4, u5, u6, u7, -, u9, -, -, -, -, u14, -, -, -, -⟩ := pc_cells (c1 := 0) (c2 := 0) (c3 := 0) G5.out; have f6 := frozen_of_row w31 g5 6 _ _ G5.out; have f2 := frozen_of_row w31 g5 2 _ _ G5.out; have f4 := frozen_of_row w31 g5 4 _ _ G5.out; have f5 := frozen_of_row w31 g5 5 _ _ G5.out; have f7 := frozen_of_row w31 g5 7 _ _ G5.out; have f9 := frozen_of_row w31 g5 9 _ _ G5.out)
  | ((with_reducible refine gate_dst (N := 34) rfl ?_); refine lit_event rfl (N := 34) rfl (cs := #[.int .i64 1, .int .i64 2, .int .i64 3, .int .i64 4, .int .i64 6, .int .i64 12]) (t := 3) (n := 6) ?hr ?_; (case hr => first | (go_simp; done) | (go_simp; rfl)); intro gl34 hgl wl34 hbl hb; have cl := (blk_cell hbl r6).trans P6.out; have G2 := Aside0.mk (Pd.blk_below G2.out hb); have G4 := Aside0.mk (Pd.blk_below G4.out hb); have G5 := Aside0.mk (Pd.blk_below G5.out hb); have HB := Aside0.mk (below_step HB.out hb); clear hgl hbl hb; obtain ⟨-, q1, q2, q3, q4, q5, -, q7, -, q9, -, -, -, -, q14, -, -, -, -⟩ := pc_cells G2.out; obtain ⟨-, -, u2, -, u4, u5, -, u7, -, u9, -, -, -, -, u14, -, -, -, -⟩ := pc_cells (c1 := 0) (c2 := 0) (c3 := 0) G5.out; have f2 := frozen_of_row wl34 g5 2 _ _ G5.out; have f4 := frozen_of_row wl34 g5 4 _ _ G5.out)
  | ((with_reducible refine gate_store (t := 3) (p := 42) rfl ?_); refine put_event rfl (t := 3) (p := 42) (v := .tmp 41) rfl rfl (g := g5) (i := 4) (cs := pcs { plainP with count := 1 + U p.count 3, kind := 1 + U p.kind 3, round := x2 } none 0 none 0 none 0) (cs' := pcs { plainP with count := 1 + U p.count 3, kind := 1 + U p.kind 3, round := x2, every := x6 } none 0 none 0 none 0) (x := .int .i64 x6) ?hr G5.out ?hc ?_; (case hc => rfl); (case hr => go_simp); intro w32 hb8 hbut; have G5 := Aside0.mk hb8; have G2 := Aside0.mk ((hbut.block g2 (blk_lt G2.out) (Ne.symm ne52)).trans G2.out); have G4 := Aside0.mk ((hbut.block g4 (blk_lt G4.out) (Ne.symm ne54)).trans G4.out); have HB := Aside0.mk (But.below HB.out HB.out.size ge5 hbut); clear hb8 hbut; obtain ⟨-, q1, q2, q3, q4, q5, -, q7, -, q9, -, -, -, -, q14, -, -, -, -⟩ := pc_cells G2.out; obtain ⟨-, -, u2, u3, u4, u5, u6, u7, -, u9, -, -, -, -, u14, -, -, -, -⟩ := pc_cells (c1 := 0) (c2 := 0) (c3 := 0) G5.out; have f6 := frozen_of_row w32 g5 6 _ _ G5.out; have f2 := frozen_of_row w32 g5 2 _ _ G5.out; have f4 := frozen_of_row w32 g5 4 _ _ G5.out; have f5 := frozen_of_row w32 g5 5 _ _ G5.out; have f7 := frozen_of_row w32 g5 7 _ _ G5.out; have f9 := frozen_of_row w32 g5 9 _ _ G5.out)
  | ((with_reducible refine gate_store (t := 3) (p := 51) rfl ?_); refine put_event rfl (t := 3) (p := 51) (v := .tmp 50) rfl rfl (g := g5) (i := 5) (cs := pcs { plainP with count := 1 + U p.count 3, kind := 1 + U p.kind 3, round := x2, every := x6 } none 0 none 0 none 0) (cs' := pcs { plainP with count := 1 + U p.count 3, kind := 1 + U p.kind 3, round := x2, every := x6, times := 1 + U p.times n } none 0 none 0 none 0) (x := .int .i64 (1 + U p.times n)) ?hr G5.out ?hc ?_; (case hc => rfl); (case hr => go_simp); intro w33 hb8 hbut; have G5 := Aside0.mk hb8; have G2 := Aside0.mk ((hbut.block g2 (blk_lt G2.out) (Ne.symm ne52)).trans G2.out); have G4 := Aside0.mk ((hbut.block g4 (blk_lt G4.out) (Ne.symm ne54)).trans G4.out); have HB := Aside0.mk (But.below HB.out HB.out.size ge5 hbut); clear hb8 hbut; obtain ⟨-, q1, q2, q3, q4, q5, -, q7, -, q9, -, -, -, -, q14, -, -, -, -⟩ := pc_cells G2.out; obtain ⟨-, -, u2, u3, u4, u5, u6, u7, -, u9, -, -, -, -, u14, -, -, -, -⟩ := pc_cells (c1 := 0) (c2 := 0) (c3 := 0) G5.out; have f6 := frozen_of_row w33 g5 6 _ _ G5.out; have f2 := frozen_of_row w33 g5 2 _ _ G5.out; have f4 := frozen_of_row w33 g5 4 _ _ G5.out; have f5 := frozen_of_row w33 g5 5 _ _ G5.out; have f7 := frozen_of_row w33 g5 7 _ _ G5.out; have f9 := frozen_of_row w33 g5 9 _ _ G5.out))
 go_region
 obtain ⟨W8, hW8⟩ : ∃ W, W = ((w33.setCell ⟨g5, 7, none⟩ (.int .i64 (U p.rate 300000000))).setCell ⟨g5, 9, none⟩ (.int .i64 (U p.penalty 500000000))).drew := ⟨_, rfl⟩
 rw [← hW8]
 have n5 : W8.heap[g5]? = some (.cells (pcs { plainP with count := 1 + U p.count 3, kind := 1 + U p.kind 3, round := x2, every := x6, times := 1 + U p.times n, rate := U p.rate 300000000, penalty := U p.penalty 500000000 } none 0 none 0 none 0) 27 (0, 0)) := by rw [hW8]; exact (heap_setCell_same _ g5 9 _ _ _ (heap_setCell_same _ g5 7 _ _ _ G5.out)).trans rfl
 have nb : H.But g5 w33 W8 := by rw [hW8]; exact (let h : H.But g5 w33 ((w33.setCell ⟨g5, 7, none⟩ (.int .i64 (U p.rate 300000000))).setCell ⟨g5, 9, none⟩ (.int .i64 (U p.penalty 500000000))) := (But.one g5 7 w33 _).setCell (p := ⟨g5, 9, none⟩) (Or.inl rfl) _; ⟨h.os, h.tape, h.output, h.size, h.block⟩)
 have n2 := (nb.block g2 (blk_lt G2.out) (Ne.symm ne52)).trans G2.out
 have n4 := (nb.block g4 (blk_lt G4.out) (Ne.symm ne54)).trans G4.out
 have nH := But.below HB.out HB.out.size ge5 nb
 have G5 := Aside0.mk n5
 have G2 := Aside0.mk n2
 have G4 := Aside0.mk n4
 have HB := Aside0.mk nH
 clear hW8 nb n5 n2 n4 nH q1 q2 q3 q4 q5 q7 q9 q14 u2 u4 u5 u7 u9 u14 f2 f4 f5 f7 f9
 obtain ⟨-, q1, q2, q3, q4, q5, -, q7, -, q9, -, -, -, -, q14, -, -, -, -⟩ := pc_cells G2.out
 obtain ⟨-, -, u2, -, u4, u5, -, u7, -, u9, -, -, -, -, u14, -, -, -, -⟩ := pc_cells (c1 := 0) (c2 := 0) (c3 := 0) G5.out
 have f14 := frozen_of_row W8 g5 14 _ _ G5.out
 have hgp : plainP.grace = 0 := rfl
 have tl : decide (n < 1 + U p.times n) = false := decide_eq_false (by omega)
 have tg : decide (1 + U p.times n ≤ 0) = false := decide_eq_false (by omega)
 cases hk : (1 + U p.kind 3 == 3) with
 | true =>
  go_wp2_with ((with_reducible refine gate_store (t := 3) (p := 70) rfl ?_); refine put_event rfl (t := 3) (p := 70) (v := .tmp 69) rfl rfl (g := g5) (i := 14) (cs := pcs { plainP with count := 1 + U p.count 3, kind := 1 + U p.kind 3, round := x2, every := x6, times := 1 + U p.times n, rate := U p.rate 300000000, penalty := U p.penalty 500000000 } none 0 none 0 none 0) (cs' := pcs { plainP with count := 1 + U p.count 3, kind := 1 + U p.kind 3, round := x2, every := x6, times := 1 + U p.times n, rate := U p.rate 300000000, penalty := U p.penalty 500000000, over := 1 + U p.over 3 } none 0 none 0 none 0) (x := .int .i64 (1 + U p.over 3)) ?hr G5.out ?hc ?_; (case hc => rfl); (case hr => go_simp); intro w34 hb8 hbut; have G5 := Aside0.mk hb8; have G2 := Aside0.mk ((hbut.block g2 (blk_lt G2.out) (Ne.symm ne52)).trans G2.out); have G4 := Aside0.mk ((hbut.block g4 (blk_lt G4.out) (Ne.symm ne54)).trans G4.out); have HB := Aside0.mk (But.below HB.out HB.out.size ge5 hbut); clear hb8 hbut; obtain ⟨-, q1, q2, q3, q4, q5, -, q7, -, q9, -, -, -, -, q14, -, -, -, -⟩ := pc_cells G2.out; obtain ⟨-, -, u2, u3, u4, u5, u6, u7, -, u9, -, -, -, -, u14, -, -, -, -⟩ := pc_cells (c1 := 0) (c2 := 0) (c3 := 0) G5.out; have f6 := frozen_of_row w34 g5 6 _ _ G5.out; have f2 := frozen_of_row w34 g5 2 _ _ G5.out; have f4 := frozen_of_row w34 g5 4 _ _ G5.out; have f5 := frozen_of_row w34 g5 5 _ _ G5.out; have f7 := frozen_of_row w34 g5 7 _ _ G5.out; have f9 := frozen_of_row w34 g5 9 _ _ G5.out; refine Hid.out ?_)
  refine Lib.hid ?_
  try go_frame
  have bfin : (w34.setCell ⟨g5, 6, none⟩ (.int .i64 0)).heap[g5]? = some (.cells (pcs qf none 0 none 0 none 0) 27 (0, 0)) := by rw [HQ.out]; exact (heap_setCell_same _ g5 6 _ _ _ G5.out).trans rfl
  have hbut : H.But g5 w34 (w34.setCell ⟨g5, 6, none⟩ (.int .i64 0)) := ((H.But.of (Below.refl w34.heap.size w34)).setCell (p := ⟨g5, 6, none⟩) (Or.inl rfl) (.int .i64 0))
  have g4fin : (w34.setCell ⟨g5, 6, none⟩ (.int .i64 0)).heap[g4]? = some (.cells pzs 27 (0, 0)) := (hbut.block g4 (blk_lt G4.out) (Ne.symm ne54)).trans G4.out
  have hbfin : Below w.heap.size w (w34.setCell ⟨g5, 6, none⟩ (.int .i64 0)) := But.below HB.out HB.out.size ge5 hbut
  have F5 := Aside0.mk bfin
  have F4 := Aside0.mk g4fin
  have FB := Aside0.mk hbfin
  clear bfin hbut g4fin hbfin
  go_wp2_with (first
   | ((with_reducible refine gate_dst (N := 89) rfl ?_); refine wpList_load_row rfl 27 (.tmp 5) rfl g5 rfl 27 _ (0, 0) _ F5.out Try.underlying27 rfl info_prod ?_)
   | ((with_reducible refine gate_store (t := 27) (p := 4) rfl ?_); refine Hid.out ?_))
  refine Lib.hid ?_
  refine row_event rfl (t := 27) (p := 4) (v := .tmp 89) rfl rfl (g := g4) (cs := pcs qf none 0 none 0 none 0) (zs := pzs) rfl rfl F4.out info_prod rfl (pcs_one _ _ _ _ _ _ _) ?_
  intro w20 hb20 hbut20
  have H20 := Aside0.mk hb20
  have HB20 := Aside0.mk (But.below FB.out FB.out.size ge4 hbut20)
  clear hb20 hbut20
  try go_frame
  go_wp2_with fail
  exact bodyPost_ret (v := pv qf none 0 none 0 none 0) (results_cell_row (g := g4) Try.results12 _ _ _ _ _ _ rfl H20.out Try.underlying27 rfl info_prod) rfl ⟨none, 0, none, 0, none, 0, rfl, fun w0 _ => nilAt (by rw [HQ.out]; rfl) (by rw [HQ.out]; rfl) (by rw [HQ.out]; rfl), HB20.out⟩
 | false =>
  go_wp2_with ((with_reducible refine gate_store (t := 3) (p := 70) rfl ?_); refine put_event rfl (t := 3) (p := 70) (v := .tmp 69) rfl rfl (g := g5) (i := 14) (cs := pcs { plainP with count := 1 + U p.count 3, kind := 1 + U p.kind 3, round := x2, every := x6, times := 1 + U p.times n, rate := U p.rate 300000000, penalty := U p.penalty 500000000 } none 0 none 0 none 0) (cs' := pcs { plainP with count := 1 + U p.count 3, kind := 1 + U p.kind 3, round := x2, every := x6, times := 1 + U p.times n, rate := U p.rate 300000000, penalty := U p.penalty 500000000, over := 1 + U p.over 3 } none 0 none 0 none 0) (x := .int .i64 (1 + U p.over 3)) ?hr G5.out ?hc ?_; (case hc => rfl); (case hr => go_simp); intro w34 hb8 hbut; have G5 := Aside0.mk hb8; have G2 := Aside0.mk ((hbut.block g2 (blk_lt G2.out) (Ne.symm ne52)).trans G2.out); have G4 := Aside0.mk ((hbut.block g4 (blk_lt G4.out) (Ne.symm ne54)).trans G4.out); have HB := Aside0.mk (But.below HB.out HB.out.size ge5 hbut); clear hb8 hbut; obtain ⟨-, q1, q2, q3, q4, q5, -, q7, -, q9, -, -, -, -, q14, -, -, -, -⟩ := pc_cells G2.out; obtain ⟨-, -, u2, u3, u4, u5, u6, u7, -, u9, -, -, -, -, u14, -, -, -, -⟩ := pc_cells (c1 := 0) (c2 := 0) (c3 := 0) G5.out; have f6 := frozen_of_row w34 g5 6 _ _ G5.out; have f2 := frozen_of_row w34 g5 2 _ _ G5.out; have f4 := frozen_of_row w34 g5 4 _ _ G5.out; have f5 := frozen_of_row w34 g5 5 _ _ G5.out; have f7 := frozen_of_row w34 g5 7 _ _ G5.out; have f9 := frozen_of_row w34 g5 9 _ _ G5.out; refine Hid.out ?_)
  refine Lib.hid ?_
  try go_frame
  have bfin : w34.heap[g5]? = some (.cells (pcs qf none 0 none 0 none 0) 27 (0, 0)) := by rw [HQ.out]; exact G5.out
  have hbut : H.But g5 w34 w34 := (H.But.of (Below.refl w34.heap.size w34))
  have g4fin : w34.heap[g4]? = some (.cells pzs 27 (0, 0)) := (hbut.block g4 (blk_lt G4.out) (Ne.symm ne54)).trans G4.out
  have hbfin : Below w.heap.size w w34 := But.below HB.out HB.out.size ge5 hbut
  have F5 := Aside0.mk bfin
  have F4 := Aside0.mk g4fin
  have FB := Aside0.mk hbfin
  clear bfin hbut g4fin hbfin
  go_wp2_with (first
   | ((with_reducible refine gate_dst (N := 89) rfl ?_); refine wpList_load_row rfl 27 (.tmp 5) rfl g5 rfl 27 _ (0, 0) _ F5.out Try.underlying27 rfl info_prod ?_)
   | ((with_reducible refine gate_store (t := 27) (p := 4) rfl ?_); refine Hid.out ?_))
  refine Lib.hid ?_
  refine row_event rfl (t := 27) (p := 4) (v := .tmp 89) rfl rfl (g := g4) (cs := pcs qf none 0 none 0 none 0) (zs := pzs) rfl rfl F4.out info_prod rfl (pcs_one _ _ _ _ _ _ _) ?_
  intro w20 hb20 hbut20
  have H20 := Aside0.mk hb20
  have HB20 := Aside0.mk (But.below FB.out FB.out.size ge4 hbut20)
  clear hb20 hbut20
  try go_frame
  go_wp2_with fail
  exact bodyPost_ret (v := pv qf none 0 none 0 none 0) (results_cell_row (g := g4) Try.results12 _ _ _ _ _ _ rfl H20.out Try.underlying27 rfl info_prod) rfl ⟨none, 0, none, 0, none, 0, rfl, fun w0 _ => nilAt (by rw [HQ.out]; rfl) (by rw [HQ.out]; rfl) (by rw [HQ.out]; rfl), HB20.out⟩
end Go.Proofs.Ytcfpkkgdofblfaa.Du
