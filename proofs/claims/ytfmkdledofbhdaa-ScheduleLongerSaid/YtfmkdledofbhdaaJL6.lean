/- Texts of this claim, joined in build order. -/
import Derived.Below
import Derived.Deep.Draws
import Derived.Deep.AppendLies
import Derived.Maps.AppendAt
import Derived.OwnWalk
import Derived.Laws.BytesArg
import Derived.Laws.MakeOwn
import Derived.Laws.OwnMore
import Derived.Tactics
import Derived.Lib.ConvBytes
import Derived.Laws.Slices
import Derived.WalkKit
import Derived.KernelRfl
import Derived.RowKit3
import Derived.Deep.LoopGhost
import Derived.Deep.QuietTactic
import Derived.BigQuiet
import Derived.WideLaws
import Derived.Deep.DeepCutAuto
import Derived.Deep.CutBlock
import Derived.Deep.RegionHeld3
import Derived.Lib.AppendStr
import Derived.ArgAppend
import Derived.Laws.IdiomCopy
import Derived.RowKit
import Derived.OrdersHeld
import Derived.Laws.BitsLemmas
import Derived.Test.YtfmkdledofbhdaaProg
import Derived.Laws.StructEq
import Derived.WalkLawsBesides
import Derived.WalkSpells
import Derived.IntWalk
import Derived.Lib.IndexMore
import Derived.Deep.Slices
import Derived.Deep.Fields
import Derived.ChangeSame
import Derived.Lib.SmallJoins
import Derived.ProofKit
import Derived.Defers
import Derived.Laws.Tables
import Derived.Deep.WholeRow
import Derived.Recover
import Derived.StillTailTactics
import Derived.Shelf.Small.Bits
import Derived.Shelf.Strconv.Itoa0
import Derived.Shelf.Strings.Search1
import Derived.Shelf.Strings.Search2
import Derived.Shelf.Strings.Search3
import Derived.Shelf.LaysM
import Derived.Shelf.Strings.Shaped
import Derived.Shelf.Bits.Mul64
import Derived.Lib.SlBytesConst
import Derived.Deep.RegionWith
import Derived.Lib.Hide
import Derived.BigFrame
import Derived.Lib.BitFns
import Derived.Laws.BitsAllLaws
import Derived.Laws.Externs
import Derived.RegionTactic
import Derived.Deep.MidRow
import Derived.OpenShut
import Derived.ShutString
import Derived.ChangeOld
import Derived.Laws.IdiomArrays
import Derived.SizedLaws
import Derived.HandedShaped
import Derived.Shelf.Vars
import Derived.Test.YtfmkdledofbhdaaJL1
import Derived.Test.YtfmkdledofbhdaaJL2
import Derived.Test.YtfmkdledofbhdaaJL3
import Derived.Test.YtfmkdledofbhdaaJL4
import Derived.Test.YtfmkdledofbhdaaJL5
set_option linter.unusedVariables false
set_option linter.unusedSimpArgs false
-- Written by a program of this session (wip/tools/myprint.py) with the help of the printer of the kit; Lean checks it.
namespace Go.Proofs.Ytfmkdledofbhdaa.PM
open Go.RowKit Go.Proofs.YtfmkdledofbhdaaW.PrintWords Go.Proofs.YtfmkdledofbhdaaW.PrintLast Go.Proofs.YtfmkdledofbhdaaW.PrintMore Go.Proofs.Ytfmkdledofbhdaa.HW
attribute [local go_sem] run_makeFunc_ max2_int min2_int max_two min_two max_three min_three max_four min_four   -- for this text's walks alone
set_option linter.unusedVariables false
set_option linter.unusedSimpArgs false

/-! ### bits_Div64: function 107 -/
mutual
def bits_Div64.j2 : Nat → Int → Int → Int → Int → Int → Int → Int → Int → Option (Int × Int)
  | 0, _, _, _, _, _, _, _, _ => none
  | k + 1, x2, x8, x9, x10, x11, x13, x14, x15 => if x9 = 0 then (none) else (bits_Div64.l1 k x2 x8 x9 x10 x14 x15 (IntKind.u64.wrap ((IntKind.u64.wrap ((IntKind.u64.wrap ((IntKind.u64.wrap (x11 * 4294967296)) + x13)) - (IntKind.u64.wrap (x15 * x2)))) - (IntKind.u64.wrap ((IntKind.u64.wrap (Int.tdiv (IntKind.u64.wrap ((IntKind.u64.wrap ((IntKind.u64.wrap (x11 * 4294967296)) + x13)) - (IntKind.u64.wrap (x15 * x2)))) x9)) * x9)))) (IntKind.u64.wrap ((IntKind.u64.wrap ((IntKind.u64.wrap (x11 * 4294967296)) + x13)) - (IntKind.u64.wrap (x15 * x2)))) (IntKind.u64.wrap (Int.tdiv (IntKind.u64.wrap ((IntKind.u64.wrap ((IntKind.u64.wrap (x11 * 4294967296)) + x13)) - (IntKind.u64.wrap (x15 * x2)))) x9)))
def bits_Div64.l1 : Nat → Int → Int → Int → Int → Int → Int → Int → Int → Int → Option (Int × Int)
  | 0, _, _, _, _, _, _, _, _, _ => none
  | k + 1, x2, x8, x9, x10, x14, x15, x16, x17, x18 => if x18 ≥ 4294967296 then (bits_Div64.j4 k x2 x8 x9 x10 x14 x15 x16 x17 x18 true) else (bits_Div64.j4 k x2 x8 x9 x10 x14 x15 x16 x17 x18 (decide ((IntKind.u64.wrap (x18 * x10)) > (IntKind.u64.wrap ((IntKind.u64.wrap (4294967296 * x16)) + x14)))))
def bits_Div64.j4 : Nat → Int → Int → Int → Int → Int → Int → Int → Int → Int → Bool → Option (Int × Int)
  | 0, _, _, _, _, _, _, _, _, _, _ => none
  | k + 1, x2, x8, x9, x10, x14, x15, x16, x17, x18, x113 => if x113 = true then (if (IntKind.u64.wrap (x16 + x9)) ≥ 4294967296 then (if 0 ≤ x8 then (some (IntKind.u64.wrap ((IntKind.u64.wrap (x15 * 4294967296)) + (IntKind.u64.wrap (x18 - 1))), shr .u64 (IntKind.u64.wrap ((IntKind.u64.wrap ((IntKind.u64.wrap (x17 * 4294967296)) + x14)) - (IntKind.u64.wrap ((IntKind.u64.wrap (x18 - 1)) * x2)))) x8)) else (none)) else (bits_Div64.l1 k x2 x8 x9 x10 x14 x15 (IntKind.u64.wrap (x16 + x9)) x17 (IntKind.u64.wrap (x18 - 1)))) else (if 0 ≤ x8 then (some (IntKind.u64.wrap ((IntKind.u64.wrap (x15 * 4294967296)) + x18), shr .u64 (IntKind.u64.wrap ((IntKind.u64.wrap ((IntKind.u64.wrap (x17 * 4294967296)) + x14)) - (IntKind.u64.wrap (x18 * x2)))) x8)) else (none))
def bits_Div64.l0 : Nat → Int → Int → Int → Int → Int → Int → Int → Int → Int → Option (Int × Int)
  | 0, _, _, _, _, _, _, _, _, _ => none
  | k + 1, x2, x8, x9, x10, x11, x13, x14, x15, x16 => if x15 ≥ 4294967296 then (bits_Div64.j1 k x2 x8 x9 x10 x11 x13 x14 x15 x16 true) else (bits_Div64.j1 k x2 x8 x9 x10 x11 x13 x14 x15 x16 (decide ((IntKind.u64.wrap (x15 * x10)) > (IntKind.u64.wrap ((IntKind.u64.wrap (4294967296 * x16)) + x13)))))
def bits_Div64.j1 : Nat → Int → Int → Int → Int → Int → Int → Int → Int → Int → Bool → Option (Int × Int)
  | 0, _, _, _, _, _, _, _, _, _, _ => none
  | k + 1, x2, x8, x9, x10, x11, x13, x14, x15, x16, x78 => if x78 = true then (if (IntKind.u64.wrap (x16 + x9)) ≥ 4294967296 then (bits_Div64.j2 k x2 x8 x9 x10 x11 x13 x14 (IntKind.u64.wrap (x15 - 1))) else (bits_Div64.l0 k x2 x8 x9 x10 x11 x13 x14 (IntKind.u64.wrap (x15 - 1)) (IntKind.u64.wrap (x16 + x9)))) else (bits_Div64.j2 k x2 x8 x9 x10 x11 x13 x14 x15)
end
def bits_Div64.f (k : Nat) (a0 : Int) (a1 : Int) (a2 : Int) : Option (Int × Int) := if a2 = 0 then (none) else (if a2 ≤ a0 then (none) else (if a0 = 0 then (some (IntKind.u64.wrap (Int.tdiv a1 a2), Int.tmod a1 a2)) else ((Go.Proofs.Ytfmkdledofbhdaa.H.bits_LeadingZeros64.f a2).bind fun t101 => (if 0 ≤ (IntKind.u64.wrap (t101)) then (if 0 ≤ (IntKind.u64.wrap (64 - (IntKind.u64.wrap (t101)))) then (if ((shl .u64 a2 (IntKind.u64.wrap (t101))) / 4294967296) = 0 then (none) else (bits_Div64.l0 k (shl .u64 a2 (IntKind.u64.wrap (t101))) (IntKind.u64.wrap (t101)) ((shl .u64 a2 (IntKind.u64.wrap (t101))) / 4294967296) (Go.bits .and .u64 (shl .u64 a2 (IntKind.u64.wrap (t101))) 4294967295) (Go.bits .or .u64 (shl .u64 a0 (IntKind.u64.wrap (t101))) (shr .u64 a1 (IntKind.u64.wrap (64 - (IntKind.u64.wrap (t101)))))) ((shl .u64 a1 (IntKind.u64.wrap (t101))) / 4294967296) (Go.bits .and .u64 (shl .u64 a1 (IntKind.u64.wrap (t101))) 4294967295) (IntKind.u64.wrap (Int.tdiv (Go.bits .or .u64 (shl .u64 a0 (IntKind.u64.wrap (t101))) (shr .u64 a1 (IntKind.u64.wrap (64 - (IntKind.u64.wrap (t101)))))) ((shl .u64 a2 (IntKind.u64.wrap (t101))) / 4294967296))) (IntKind.u64.wrap ((Go.bits .or .u64 (shl .u64 a0 (IntKind.u64.wrap (t101))) (shr .u64 a1 (IntKind.u64.wrap (64 - (IntKind.u64.wrap (t101)))))) - (IntKind.u64.wrap ((IntKind.u64.wrap (Int.tdiv (Go.bits .or .u64 (shl .u64 a0 (IntKind.u64.wrap (t101))) (shr .u64 a1 (IntKind.u64.wrap (64 - (IntKind.u64.wrap (t101)))))) ((shl .u64 a2 (IntKind.u64.wrap (t101))) / 4294967296))) * ((shl .u64 a2 (IntKind.u64.wrap (t101))) / 4294967296))))))) else (none)) else (none)))))
theorem bits_Div64.mono_l : ∀ k, (∀ y0 y1 y2 y3 y4 y5 y6 y7, LeO (bits_Div64.j2 k y0 y1 y2 y3 y4 y5 y6 y7) (bits_Div64.j2 (k + 1) y0 y1 y2 y3 y4 y5 y6 y7)) ∧ (∀ y0 y1 y2 y3 y4 y5 y6 y7 y8, LeO (bits_Div64.l1 k y0 y1 y2 y3 y4 y5 y6 y7 y8) (bits_Div64.l1 (k + 1) y0 y1 y2 y3 y4 y5 y6 y7 y8)) ∧ (∀ y0 y1 y2 y3 y4 y5 y6 y7 y8 y9, LeO (bits_Div64.j4 k y0 y1 y2 y3 y4 y5 y6 y7 y8 y9) (bits_Div64.j4 (k + 1) y0 y1 y2 y3 y4 y5 y6 y7 y8 y9)) ∧ (∀ y0 y1 y2 y3 y4 y5 y6 y7 y8, LeO (bits_Div64.l0 k y0 y1 y2 y3 y4 y5 y6 y7 y8) (bits_Div64.l0 (k + 1) y0 y1 y2 y3 y4 y5 y6 y7 y8)) ∧ (∀ y0 y1 y2 y3 y4 y5 y6 y7 y8 y9, LeO (bits_Div64.j1 k y0 y1 y2 y3 y4 y5 y6 y7 y8 y9) (bits_Div64.j1 (k + 1) y0 y1 y2 y3 y4 y5 y6 y7 y8 y9))
  | 0 => ⟨fun _ _ _ _ _ _ _ _ r h => by simp [bits_Div64.j2] at h, fun _ _ _ _ _ _ _ _ _ r h => by simp [bits_Div64.l1] at h, fun _ _ _ _ _ _ _ _ _ _ r h => by simp [bits_Div64.j4] at h, fun _ _ _ _ _ _ _ _ _ r h => by simp [bits_Div64.l0] at h, fun _ _ _ _ _ _ _ _ _ _ r h => by simp [bits_Div64.j1] at h⟩
  | k + 1 => by
    obtain ⟨ih0, ih1, ih2, ih3, ih4⟩ := bits_Div64.mono_l k
    refine ⟨?_, ?_, ?_, ?_, ?_⟩
    · intro y0 y1 y2 y3 y4 y5 y6 y7
      unfold bits_Div64.j2
      repeat' first
      | (with_reducible exact ih0 _ _ _ _ _ _ _ _)
      | (with_reducible exact ih1 _ _ _ _ _ _ _ _ _)
      | (with_reducible exact ih2 _ _ _ _ _ _ _ _ _ _)
      | (with_reducible exact ih3 _ _ _ _ _ _ _ _ _)
      | (with_reducible exact ih4 _ _ _ _ _ _ _ _ _ _)
      | (with_reducible exact LeO.refl _)
      | (with_reducible exact LeO.none _)
      | (with_reducible refine LeO.ite ?_ ?_)
      | (with_reducible refine LeO.bind ?_ (fun _ => ?_))
      | exact ih0 _ _ _ _ _ _ _ _
      | exact ih1 _ _ _ _ _ _ _ _ _
      | exact ih2 _ _ _ _ _ _ _ _ _ _
      | exact ih3 _ _ _ _ _ _ _ _ _
      | exact ih4 _ _ _ _ _ _ _ _ _ _
      | exact LeO.none _
      | refine LeO.ite ?_ ?_
      | refine LeO.bind ?_ (fun _ => ?_)
    · intro y0 y1 y2 y3 y4 y5 y6 y7 y8
      unfold bits_Div64.l1
      repeat' first
      | (with_reducible exact ih0 _ _ _ _ _ _ _ _)
      | (with_reducible exact ih1 _ _ _ _ _ _ _ _ _)
      | (with_reducible exact ih2 _ _ _ _ _ _ _ _ _ _)
      | (with_reducible exact ih3 _ _ _ _ _ _ _ _ _)
      | (with_reducible exact ih4 _ _ _ _ _ _ _ _ _ _)
      | (with_reducible exact LeO.refl _)
      | (with_reducible exact LeO.none _)
      | (with_reducible refine LeO.ite ?_ ?_)
      | (with_reducible refine LeO.bind ?_ (fun _ => ?_))
      | exact ih0 _ _ _ _ _ _ _ _
      | exact ih1 _ _ _ _ _ _ _ _ _
      | exact ih2 _ _ _ _ _ _ _ _ _ _
      | exact ih3 _ _ _ _ _ _ _ _ _
      | exact ih4 _ _ _ _ _ _ _ _ _ _
      | exact LeO.none _
      | refine LeO.ite ?_ ?_
      | refine LeO.bind ?_ (fun _ => ?_)
    · intro y0 y1 y2 y3 y4 y5 y6 y7 y8 y9
      unfold bits_Div64.j4
      repeat' first
      | (with_reducible exact ih0 _ _ _ _ _ _ _ _)
      | (with_reducible exact ih1 _ _ _ _ _ _ _ _ _)
      | (with_reducible exact ih2 _ _ _ _ _ _ _ _ _ _)
      | (with_reducible exact ih3 _ _ _ _ _ _ _ _ _)
      | (with_reducible exact ih4 _ _ _ _ _ _ _ _ _ _)
      | (with_reducible exact LeO.refl _)
      | (with_reducible exact LeO.none _)
      | (with_reducible refine LeO.ite ?_ ?_)
      | (with_reducible refine LeO.bind ?_ (fun _ => ?_))
      | exact ih0 _ _ _ _ _ _ _ _
      | exact ih1 _ _ _ _ _ _ _ _ _
      | exact ih2 _ _ _ _ _ _ _ _ _ _
      | exact ih3 _ _ _ _ _ _ _ _ _
      | exact ih4 _ _ _ _ _ _ _ _ _ _
      | exact LeO.none _
      | refine LeO.ite ?_ ?_
      | refine LeO.bind ?_ (fun _ => ?_)
    · intro y0 y1 y2 y3 y4 y5 y6 y7 y8
      unfold bits_Div64.l0
      repeat' first
      | (with_reducible exact ih0 _ _ _ _ _ _ _ _)
      | (with_reducible exact ih1 _ _ _ _ _ _ _ _ _)
      | (with_reducible exact ih2 _ _ _ _ _ _ _ _ _ _)
      | (with_reducible exact ih3 _ _ _ _ _ _ _ _ _)
      | (with_reducible exact ih4 _ _ _ _ _ _ _ _ _ _)
      | (with_reducible exact LeO.refl _)
      | (with_reducible exact LeO.none _)
      | (with_reducible refine LeO.ite ?_ ?_)
      | (with_reducible refine LeO.bind ?_ (fun _ => ?_))
      | exact ih0 _ _ _ _ _ _ _ _
      | exact ih1 _ _ _ _ _ _ _ _ _
      | exact ih2 _ _ _ _ _ _ _ _ _ _
      | exact ih3 _ _ _ _ _ _ _ _ _
      | exact ih4 _ _ _ _ _ _ _ _ _ _
      | exact LeO.none _
      | refine LeO.ite ?_ ?_
      | refine LeO.bind ?_ (fun _ => ?_)
    · intro y0 y1 y2 y3 y4 y5 y6 y7 y8 y9
      unfold bits_Div64.j1
      repeat' first
      | (with_reducible exact ih0 _ _ _ _ _ _ _ _)
      | (with_reducible exact ih1 _ _ _ _ _ _ _ _ _)
      | (with_reducible exact ih2 _ _ _ _ _ _ _ _ _ _)
      | (with_reducible exact ih3 _ _ _ _ _ _ _ _ _)
      | (with_reducible exact ih4 _ _ _ _ _ _ _ _ _ _)
      | (with_reducible exact LeO.refl _)
      | (with_reducible exact LeO.none _)
      | (with_reducible refine LeO.ite ?_ ?_)
      | (with_reducible refine LeO.bind ?_ (fun _ => ?_))
      | exact ih0 _ _ _ _ _ _ _ _
      | exact ih1 _ _ _ _ _ _ _ _ _
      | exact ih2 _ _ _ _ _ _ _ _ _ _
      | exact ih3 _ _ _ _ _ _ _ _ _
      | exact ih4 _ _ _ _ _ _ _ _ _ _
      | exact LeO.none _
      | refine LeO.ite ?_ ?_
      | refine LeO.bind ?_ (fun _ => ?_)
theorem bits_Div64.mono : ∀ a0 a1 a2 k, LeO (bits_Div64.f k a0 a1 a2) (bits_Div64.f (k + 1) a0 a1 a2) := by
  intro a0 a1 a2 k
  obtain ⟨ih0, ih1, ih2, ih3, ih4⟩ := bits_Div64.mono_l k
  unfold bits_Div64.f
  repeat' first
      | (with_reducible exact ih0 _ _ _ _ _ _ _ _)
      | (with_reducible exact ih1 _ _ _ _ _ _ _ _ _)
      | (with_reducible exact ih2 _ _ _ _ _ _ _ _ _ _)
      | (with_reducible exact ih3 _ _ _ _ _ _ _ _ _)
      | (with_reducible exact ih4 _ _ _ _ _ _ _ _ _ _)
      | (with_reducible exact LeO.refl _)
      | (with_reducible exact LeO.none _)
      | (with_reducible refine LeO.ite ?_ ?_)
      | (with_reducible refine LeO.bind ?_ (fun _ => ?_))
      | exact ih0 _ _ _ _ _ _ _ _
      | exact ih1 _ _ _ _ _ _ _ _ _
      | exact ih2 _ _ _ _ _ _ _ _ _ _
      | exact ih3 _ _ _ _ _ _ _ _ _
      | exact ih4 _ _ _ _ _ _ _ _ _ _
      | exact LeO.none _
      | refine LeO.ite ?_ ?_
      | refine LeO.bind ?_ (fun _ => ?_)
set_option maxHeartbeats 8000000 in
set_option maxRecDepth 100000 in
theorem bits_Div64.calls (k : Nat) (a0 : Int) (a1 : Int) (a2 : Int) (r1 : Int) (r2 : Int) (w : World) (h : bits_Div64.f k a0 a1 a2 = some (r1, r2)) :
    Calls Try.prog 107 #[.int .u64 a0, .int .u64 a1, .int .u64 a2] w fun e w' => e = .returned (.tuple #[.int .u64 r1, .int .u64 r2]) ∧ Drawn0 w w' := by
  have H : (if a2 = 0 then (none) else (if a2 ≤ a0 then (none) else (if a0 = 0 then (some (IntKind.u64.wrap (Int.tdiv a1 a2), Int.tmod a1 a2)) else ((Go.Proofs.Ytfmkdledofbhdaa.H.bits_LeadingZeros64.f a2).bind fun t101 => (if 0 ≤ (IntKind.u64.wrap (t101)) then (if 0 ≤ (IntKind.u64.wrap (64 - (IntKind.u64.wrap (t101)))) then (if ((shl .u64 a2 (IntKind.u64.wrap (t101))) / 4294967296) = 0 then (none) else (bits_Div64.l0 k (shl .u64 a2 (IntKind.u64.wrap (t101))) (IntKind.u64.wrap (t101)) ((shl .u64 a2 (IntKind.u64.wrap (t101))) / 4294967296) (Go.bits .and .u64 (shl .u64 a2 (IntKind.u64.wrap (t101))) 4294967295) (Go.bits .or .u64 (shl .u64 a0 (IntKind.u64.wrap (t101))) (shr .u64 a1 (IntKind.u64.wrap (64 - (IntKind.u64.wrap (t101)))))) ((shl .u64 a1 (IntKind.u64.wrap (t101))) / 4294967296) (Go.bits .and .u64 (shl .u64 a1 (IntKind.u64.wrap (t101))) 4294967295) (IntKind.u64.wrap (Int.tdiv (Go.bits .or .u64 (shl .u64 a0 (IntKind.u64.wrap (t101))) (shr .u64 a1 (IntKind.u64.wrap (64 - (IntKind.u64.wrap (t101)))))) ((shl .u64 a2 (IntKind.u64.wrap (t101))) / 4294967296))) (IntKind.u64.wrap ((Go.bits .or .u64 (shl .u64 a0 (IntKind.u64.wrap (t101))) (shr .u64 a1 (IntKind.u64.wrap (64 - (IntKind.u64.wrap (t101)))))) - (IntKind.u64.wrap ((IntKind.u64.wrap (Int.tdiv (Go.bits .or .u64 (shl .u64 a0 (IntKind.u64.wrap (t101))) (shr .u64 a1 (IntKind.u64.wrap (64 - (IntKind.u64.wrap (t101)))))) ((shl .u64 a2 (IntKind.u64.wrap (t101))) / 4294967296))) * ((shl .u64 a2 (IntKind.u64.wrap (t101))) / 4294967296))))))) else (none)) else (none)))))) = some (r1, r2) := h
  clear h
  by_cases c4 : a2 = 0
  · rw [if_pos c4] at H
    exact absurd H (by simp)
  · rw [if_neg c4] at H
    have c4b0 : (a2 == 0) = false := beq_eq_false_iff_ne.mpr c4
    have c4b1 : (a2 != 0) = true := bne_iff_ne.mpr c4
    by_cases c5 : a2 ≤ a0
    · rw [if_pos c5] at H
      exact absurd H (by simp)
    · rw [if_neg c5] at H
      have c5b0 : decide (a2 ≤ a0) = false := decide_eq_false c5
      clear c5
      by_cases c6 : a0 = 0
      · rw [if_pos c6] at H
        have c6b0 : (a0 == 0) = true := beq_iff_eq.mpr c6
        have c6b1 : (a0 != 0) = false := bne_eq_false_iff_eq.mpr c6
        clear c6
        simp only [Option.some.injEq, Prod.mk.injEq] at H
        obtain ⟨rfl, rfl⟩ := H
        go_enter Try.func107, Try.ntmps107
        go_wp2
        repeat (go_quiet (fail); try go_wp2)
        go_ret2
        exact ⟨by first | rfl | (simp; done) | (simp [*]; done), by repeat (first | exact Drawn0.refl _ | apply Drawn0.step)⟩
      · rw [if_neg c6] at H
        have c6b0 : (a0 == 0) = false := beq_eq_false_iff_ne.mpr c6
        have c6b1 : (a0 != 0) = true := bne_iff_ne.mpr c6
        replace H := Option.bind_eq_some_iff.mp H
        obtain ⟨t101, A70, H⟩ := H
        replace H : (if 0 ≤ (IntKind.u64.wrap (t101)) then (if 0 ≤ (IntKind.u64.wrap (64 - (IntKind.u64.wrap (t101)))) then (if ((shl .u64 a2 (IntKind.u64.wrap (t101))) / 4294967296) = 0 then (none) else (bits_Div64.l0 k (shl .u64 a2 (IntKind.u64.wrap (t101))) (IntKind.u64.wrap (t101)) ((shl .u64 a2 (IntKind.u64.wrap (t101))) / 4294967296) (Go.bits .and .u64 (shl .u64 a2 (IntKind.u64.wrap (t101))) 4294967295) (Go.bits .or .u64 (shl .u64 a0 (IntKind.u64.wrap (t101))) (shr .u64 a1 (IntKind.u64.wrap (64 - (IntKind.u64.wrap (t101)))))) ((shl .u64 a1 (IntKind.u64.wrap (t101))) / 4294967296) (Go.bits .and .u64 (shl .u64 a1 (IntKind.u64.wrap (t101))) 4294967295) (IntKind.u64.wrap (Int.tdiv (Go.bits .or .u64 (shl .u64 a0 (IntKind.u64.wrap (t101))) (shr .u64 a1 (IntKind.u64.wrap (64 - (IntKind.u64.wrap (t101)))))) ((shl .u64 a2 (IntKind.u64.wrap (t101))) / 4294967296))) (IntKind.u64.wrap ((Go.bits .or .u64 (shl .u64 a0 (IntKind.u64.wrap (t101))) (shr .u64 a1 (IntKind.u64.wrap (64 - (IntKind.u64.wrap (t101)))))) - (IntKind.u64.wrap ((IntKind.u64.wrap (Int.tdiv (Go.bits .or .u64 (shl .u64 a0 (IntKind.u64.wrap (t101))) (shr .u64 a1 (IntKind.u64.wrap (64 - (IntKind.u64.wrap (t101)))))) ((shl .u64 a2 (IntKind.u64.wrap (t101))) / 4294967296))) * ((shl .u64 a2 (IntKind.u64.wrap (t101))) / 4294967296))))))) else (none)) else (none)) = some (r1, r2) := H
        have A7 := Aside0.mk A70
        clear A70
        obtain ⟨ji8, hji8⟩ : ∃ j_ : Int, (IntKind.u64.wrap (t101)) = j_ := ⟨_, rfl⟩
        replace H : (if 0 ≤ (ji8) then (if 0 ≤ (IntKind.u64.wrap (64 - (ji8))) then (if ((shl .u64 a2 (ji8)) / 4294967296) = 0 then (none) else (bits_Div64.l0 k (shl .u64 a2 (ji8)) ji8 ((shl .u64 a2 (ji8)) / 4294967296) (Go.bits .and .u64 (shl .u64 a2 (ji8)) 4294967295) (Go.bits .or .u64 (shl .u64 a0 (ji8)) (shr .u64 a1 (IntKind.u64.wrap (64 - (ji8))))) ((shl .u64 a1 (ji8)) / 4294967296) (Go.bits .and .u64 (shl .u64 a1 (ji8)) 4294967295) (IntKind.u64.wrap (Int.tdiv (Go.bits .or .u64 (shl .u64 a0 (ji8)) (shr .u64 a1 (IntKind.u64.wrap (64 - (ji8))))) ((shl .u64 a2 (ji8)) / 4294967296))) (IntKind.u64.wrap ((Go.bits .or .u64 (shl .u64 a0 (ji8)) (shr .u64 a1 (IntKind.u64.wrap (64 - (ji8))))) - (IntKind.u64.wrap ((IntKind.u64.wrap (Int.tdiv (Go.bits .or .u64 (shl .u64 a0 (ji8)) (shr .u64 a1 (IntKind.u64.wrap (64 - (ji8))))) ((shl .u64 a2 (ji8)) / 4294967296))) * ((shl .u64 a2 (ji8)) / 4294967296))))))) else (none)) else (none)) = some (r1, r2) := by first | (rw [hji8] at H; exact H) | (simp only [hji8] at H ⊢; exact H)
        (try rw [hji8] at A7)
        by_cases c9 : 0 ≤ (ji8)
        · rw [if_pos c9] at H
          have c9b0 := eq_true c9
          have c9b1 : decide (0 ≤ (ji8)) = true := decide_eq_true c9
          clear c9
          obtain ⟨ji10, hji10⟩ : ∃ j_ : Int, (shl .u64 a2 (ji8)) = j_ := ⟨_, rfl⟩
          replace H : (if 0 ≤ (IntKind.u64.wrap (64 - (ji8))) then (if ((ji10) / 4294967296) = 0 then (none) else (bits_Div64.l0 k ji10 ji8 ((ji10) / 4294967296) (Go.bits .and .u64 (ji10) 4294967295) (Go.bits .or .u64 (shl .u64 a0 (ji8)) (shr .u64 a1 (IntKind.u64.wrap (64 - (ji8))))) ((shl .u64 a1 (ji8)) / 4294967296) (Go.bits .and .u64 (shl .u64 a1 (ji8)) 4294967295) (IntKind.u64.wrap (Int.tdiv (Go.bits .or .u64 (shl .u64 a0 (ji8)) (shr .u64 a1 (IntKind.u64.wrap (64 - (ji8))))) ((ji10) / 4294967296))) (IntKind.u64.wrap ((Go.bits .or .u64 (shl .u64 a0 (ji8)) (shr .u64 a1 (IntKind.u64.wrap (64 - (ji8))))) - (IntKind.u64.wrap ((IntKind.u64.wrap (Int.tdiv (Go.bits .or .u64 (shl .u64 a0 (ji8)) (shr .u64 a1 (IntKind.u64.wrap (64 - (ji8))))) ((ji10) / 4294967296))) * ((ji10) / 4294967296))))))) else (none)) = some (r1, r2) := by first | (rw [hji10] at H; exact H) | (simp only [hji10] at H ⊢; exact H)
          (try rw [hji10] at A7)
          have hji10_ : (IntKind.u64.wrap (a2 * 2 ^ min (ji8).toNat 64)) = ji10 := hji10
          have hji10z : (ji8) ≤ 64 → (IntKind.u64.wrap (a2 * 2 ^ (ji8).toNat)) = ji10 := shl_small hji10
          have c11b0 := eq_true (of_decide_eq_true (by first | (with_reducible assumption) | assumption) : 0 ≤ (ji8))
          obtain ⟨ji12, hji12⟩ : ∃ j_ : Int, (shl .u64 a0 (ji8)) = j_ := ⟨_, rfl⟩
          replace H : (if 0 ≤ (IntKind.u64.wrap (64 - (ji8))) then (if ((ji10) / 4294967296) = 0 then (none) else (bits_Div64.l0 k ji10 ji8 ((ji10) / 4294967296) (Go.bits .and .u64 (ji10) 4294967295) (Go.bits .or .u64 (ji12) (shr .u64 a1 (IntKind.u64.wrap (64 - (ji8))))) ((shl .u64 a1 (ji8)) / 4294967296) (Go.bits .and .u64 (shl .u64 a1 (ji8)) 4294967295) (IntKind.u64.wrap (Int.tdiv (Go.bits .or .u64 (ji12) (shr .u64 a1 (IntKind.u64.wrap (64 - (ji8))))) ((ji10) / 4294967296))) (IntKind.u64.wrap ((Go.bits .or .u64 (ji12) (shr .u64 a1 (IntKind.u64.wrap (64 - (ji8))))) - (IntKind.u64.wrap ((IntKind.u64.wrap (Int.tdiv (Go.bits .or .u64 (ji12) (shr .u64 a1 (IntKind.u64.wrap (64 - (ji8))))) ((ji10) / 4294967296))) * ((ji10) / 4294967296))))))) else (none)) = some (r1, r2) := by first | (rw [hji12] at H; exact H) | (simp only [hji12] at H ⊢; exact H)
          (try rw [hji12] at A7)
          have hji12_ : (IntKind.u64.wrap (a0 * 2 ^ min (ji8).toNat 64)) = ji12 := hji12
          have hji12z : (ji8) ≤ 64 → (IntKind.u64.wrap (a0 * 2 ^ (ji8).toNat)) = ji12 := shl_small hji12
          obtain ⟨ji13, hji13⟩ : ∃ j_ : Int, (IntKind.u64.wrap (64 - (ji8))) = j_ := ⟨_, rfl⟩
          replace H : (if 0 ≤ (ji13) then (if ((ji10) / 4294967296) = 0 then (none) else (bits_Div64.l0 k ji10 ji8 ((ji10) / 4294967296) (Go.bits .and .u64 (ji10) 4294967295) (Go.bits .or .u64 (ji12) (shr .u64 a1 (ji13))) ((shl .u64 a1 (ji8)) / 4294967296) (Go.bits .and .u64 (shl .u64 a1 (ji8)) 4294967295) (IntKind.u64.wrap (Int.tdiv (Go.bits .or .u64 (ji12) (shr .u64 a1 (ji13))) ((ji10) / 4294967296))) (IntKind.u64.wrap ((Go.bits .or .u64 (ji12) (shr .u64 a1 (ji13))) - (IntKind.u64.wrap ((IntKind.u64.wrap (Int.tdiv (Go.bits .or .u64 (ji12) (shr .u64 a1 (ji13))) ((ji10) / 4294967296))) * ((ji10) / 4294967296))))))) else (none)) = some (r1, r2) := by first | (rw [hji13] at H; exact H) | (simp only [hji13] at H ⊢; exact H)
          (try rw [hji13] at A7)
          by_cases c14 : 0 ≤ (ji13)
          · rw [if_pos c14] at H
            have c14b0 := eq_true c14
            have c14b1 : decide (0 ≤ (ji13)) = true := decide_eq_true c14
            clear c14
            obtain ⟨ji15, hji15⟩ : ∃ j_ : Int, (shr .u64 a1 (ji13)) = j_ := ⟨_, rfl⟩
            replace H : (if ((ji10) / 4294967296) = 0 then (none) else (bits_Div64.l0 k ji10 ji8 ((ji10) / 4294967296) (Go.bits .and .u64 (ji10) 4294967295) (Go.bits .or .u64 (ji12) (ji15)) ((shl .u64 a1 (ji8)) / 4294967296) (Go.bits .and .u64 (shl .u64 a1 (ji8)) 4294967295) (IntKind.u64.wrap (Int.tdiv (Go.bits .or .u64 (ji12) (ji15)) ((ji10) / 4294967296))) (IntKind.u64.wrap ((Go.bits .or .u64 (ji12) (ji15)) - (IntKind.u64.wrap ((IntKind.u64.wrap (Int.tdiv (Go.bits .or .u64 (ji12) (ji15)) ((ji10) / 4294967296))) * ((ji10) / 4294967296))))))) = some (r1, r2) := by first | (rw [hji15] at H; exact H) | (simp only [hji15] at H ⊢; exact H)
            (try rw [hji15] at A7)
            have hji15_ : (a1 / 2 ^ min (ji13).toNat 64) = ji15 := hji15
            have hji15z : (ji13) ≤ 64 → (a1 / 2 ^ (ji13).toNat) = ji15 := shr_small hji15
            have c16b0 := eq_true (of_decide_eq_true (by first | (with_reducible assumption) | assumption) : 0 ≤ (ji8))
            obtain ⟨ji17, hji17⟩ : ∃ j_ : Int, (shl .u64 a1 (ji8)) = j_ := ⟨_, rfl⟩
            replace H : (if ((ji10) / 4294967296) = 0 then (none) else (bits_Div64.l0 k ji10 ji8 ((ji10) / 4294967296) (Go.bits .and .u64 (ji10) 4294967295) (Go.bits .or .u64 (ji12) (ji15)) ((ji17) / 4294967296) (Go.bits .and .u64 (ji17) 4294967295) (IntKind.u64.wrap (Int.tdiv (Go.bits .or .u64 (ji12) (ji15)) ((ji10) / 4294967296))) (IntKind.u64.wrap ((Go.bits .or .u64 (ji12) (ji15)) - (IntKind.u64.wrap ((IntKind.u64.wrap (Int.tdiv (Go.bits .or .u64 (ji12) (ji15)) ((ji10) / 4294967296))) * ((ji10) / 4294967296))))))) = some (r1, r2) := by first | (rw [hji17] at H; exact H) | (simp only [hji17] at H ⊢; exact H)
            (try rw [hji17] at A7)
            have hji17_ : (IntKind.u64.wrap (a1 * 2 ^ min (ji8).toNat 64)) = ji17 := hji17
            have hji17z : (ji8) ≤ 64 → (IntKind.u64.wrap (a1 * 2 ^ (ji8).toNat)) = ji17 := shl_small hji17
            by_cases c18 : ((ji10) / 4294967296) = 0
            · rw [if_pos c18] at H
              exact absurd H (by simp)
            · rw [if_neg c18] at H
              have c18b0 : (((ji10) / 4294967296) == 0) = false := beq_eq_false_iff_ne.mpr c18
              have c18b1 : (((ji10) / 4294967296) != 0) = true := bne_iff_ne.mpr c18
              have HC19 := Aside0.mk H
              clear H
              go_enter Try.func107, Try.ntmps107
              go_upto_block 0 with (first | (go_at_call 113; (with_reducible refine (Go.Proofs.Ytfmkdledofbhdaa.H.bits_LeadingZeros64.calls a2 t101 _ A7.out).mono ?_); rintro e w' ⟨rfl, ⟨nd, rfl⟩⟩; (try first | exact ⟨rfl, _, World.drewN_drewN _ _ _⟩ | exact ⟨rfl, _, Eq.trans (World.drewN_drewN _ _ _) (congrArg (World.drewN _) (Nat.add_assoc _ _ _))⟩)))
              repeat (go_quiet (first | (go_at_call 113; (with_reducible refine (Go.Proofs.Ytfmkdledofbhdaa.H.bits_LeadingZeros64.calls a2 t101 _ A7.out).mono ?_); rintro e w' ⟨rfl, ⟨nd, rfl⟩⟩; (try first | exact ⟨rfl, _, World.drewN_drewN _ _ _⟩ | exact ⟨rfl, _, Eq.trans (World.drewN_drewN _ _ _) (congrArg (World.drewN _) (Nat.add_assoc _ _ _))⟩))); go_upto_block 0 with (first | (go_at_call 113; (with_reducible refine (Go.Proofs.Ytfmkdledofbhdaa.H.bits_LeadingZeros64.calls a2 t101 _ A7.out).mono ?_); rintro e w' ⟨rfl, ⟨nd, rfl⟩⟩; (try first | exact ⟨rfl, _, World.drewN_drewN _ _ _⟩ | exact ⟨rfl, _, Eq.trans (World.drewN_drewN _ _ _) (congrArg (World.drewN _) (Nat.add_assoc _ _ _))⟩))))
              (try simp only [Act.put, List.setIfInBounds_toArray, List.set_cons_zero, List.set_cons_succ])
              go_cut [15] (fun v15 wc => ∃ (kq : Nat) (x15_18 : Int), v15 = .int .u64 x15_18 ∧ Aside0 (bits_Div64.j2 kq ji10 ji8 ((ji10) / 4294967296) (Go.bits .and .u64 (ji10) 4294967295) (Go.bits .or .u64 (ji12) (ji15)) ((ji17) / 4294967296) (Go.bits .and .u64 (ji17) 4294967295) x15_18 = some (r1, r2)) ∧ Aside0 (kq ≤ k) ∧ Drawn0 w wc)
              case first =>
                have H := HC19.out
                clear HC19
                have H' := Aside0.mk H
                clear H
                go_wp2
                repeat (go_quiet (fail); try go_wp2)
                go_loopg [15, 16] k (fun kq v15 v16 w' => ∃ (x15_1 : Int) (x16_1 : Int), v15 = .int .u64 x15_1 ∧ v16 = .int .u64 x16_1 ∧ Aside0 (bits_Div64.l0 kq ji10 ji8 ((ji10) / 4294967296) (Go.bits .and .u64 (ji10) 4294967295) (Go.bits .or .u64 (ji12) (ji15)) ((ji17) / 4294967296) (Go.bits .and .u64 (ji17) 4294967295) x15_1 x16_1 = some (r1, r2)) ∧ Aside0 (kq ≤ k) ∧ Drawn0 w w')
                case atStart => exact ⟨(IntKind.u64.wrap (Int.tdiv (Go.bits .or .u64 (ji12) (ji15)) ((ji10) / 4294967296))), (IntKind.u64.wrap ((Go.bits .or .u64 (ji12) (ji15)) - (IntKind.u64.wrap ((IntKind.u64.wrap (Int.tdiv (Go.bits .or .u64 (ji12) (ji15)) ((ji10) / 4294967296))) * ((ji10) / 4294967296))))), (by first | rfl | (simp; done) | (simp only [← hji10, ← hji12, ← hji15] <;> (first | rfl | simp)) | (simp [*]; done)), (by first | rfl | (simp; done) | (simp only [← hji10, ← hji12, ← hji15] <;> (first | rfl | simp)) | (simp [*]; done)), H', ⟨Nat.le_refl _⟩, by repeat (first | exact Drawn0.refl _ | apply Drawn0.step)⟩
                case round =>
                  clear H'
                  try clear c1
                  try clear p2
                  try clear c4
                  try clear c4b0
                  try clear c4b1
                  try clear c5
                  try clear c5b0
                  try clear c6
                  try clear c6b0
                  try clear c6b1
                  try clear c9
                  try clear c9b0
                  try clear c9b1
                  try clear c10
                  try clear c11
                  try clear c11b0
                  try clear c14
                  try clear c14b0
                  try clear c14b1
                  try clear c16
                  try clear c16b0
                  try clear c18
                  try clear c18b0
                  try clear c18b1
                  obtain ⟨x15_1, x16_1, rfl, rfl, HA, HK1, ⟨m1, rfl⟩⟩ := hrel
                  cases gk with
                  | zero => exact absurd HA.out (by simp [bits_Div64.l0])
                  | succ k1 =>
                    have H := HA.out
                    clear HA
                    simp only [bits_Div64.l0] at H
                    have HC20 := Aside0.mk H
                    clear H
                    go_upto_region 17 with (fail)
                    repeat (go_quiet (fail); go_upto_region 17 with (fail))
                    go_cut [78] (fun v78 wc => ∃ (kq : Nat) (x78_19 : Bool), v78 = .bool x78_19 ∧ Aside0 (bits_Div64.j1 kq ji10 ji8 ((ji10) / 4294967296) (Go.bits .and .u64 (ji10) 4294967295) (Go.bits .or .u64 (ji12) (ji15)) ((ji17) / 4294967296) (Go.bits .and .u64 (ji17) 4294967295) x15_1 x16_1 x78_19 = some (r1, r2)) ∧ Aside0 (kq ≤ k1) ∧ Drawn0 w wc)
                    case first =>
                      have H := HC20.out
                      clear HC20
                      by_cases c21 : x15_1 ≥ 4294967296
                      · rw [if_pos c21] at H
                        have c21b0 : decide (4294967296 ≤ x15_1) = true := decide_eq_true c21
                        clear c21
                        (first | rw [c21b0] | (simp only [i64_w, i32_w]; rw [c21b0]) | skip)
                        have H' := Aside0.mk H
                        clear H
                        go_wp2
                        repeat (go_quiet (fail); try go_wp2)
                        go_meet
                        case rel => exact ⟨_, (true), (by first | rfl | (simp; done) | (simp [*]; done)), H', ⟨by have := HK1.out; first | omega | exact Nat.le_refl _⟩, by repeat (first | exact Drawn0.refl _ | apply Drawn0.step)⟩
                      · rw [if_neg c21] at H
                        have c21b0 : decide (4294967296 ≤ x15_1) = false := decide_eq_false c21
                        clear c21
                        (first | rw [c21b0] | (simp only [i64_w, i32_w]; rw [c21b0]) | skip)
                        have H' := Aside0.mk H
                        clear H
                        go_wp2
                        repeat (go_quiet (fail); try go_wp2)
                        go_meet
                        case rel => exact ⟨_, (decide ((IntKind.u64.wrap (x15_1 * (Go.bits .and .u64 (ji10) 4294967295))) > (IntKind.u64.wrap ((IntKind.u64.wrap (4294967296 * x16_1)) + ((ji17) / 4294967296))))), (by first | rfl | (simp; done) | (simp only [← hji10, ← hji17] <;> (first | rfl | simp)) | (simp [*]; done)), H', ⟨by have := HK1.out; first | omega | exact Nat.le_refl _⟩, by repeat (first | exact Drawn0.refl _ | apply Drawn0.step)⟩
                    case rest =>
                      clear HC20
                      try clear c1
                      try clear c2
                      try clear p2
                      try clear c4
                      try clear c4b0
                      try clear c4b1
                      try clear c5
                      try clear c5b0
                      try clear c6
                      try clear c6b0
                      try clear c6b1
                      try clear c9
                      try clear c9b0
                      try clear c9b1
                      try clear c10
                      try clear c11
                      try clear c11b0
                      try clear c14
                      try clear c14b0
                      try clear c14b1
                      try clear c16
                      try clear c16b0
                      try clear c18
                      try clear c18b0
                      try clear c18b1
                      try clear c21
                      try clear c21b0
                      try clear p2
                      obtain ⟨kq, x78_19, rfl, HA, HJ19, ⟨mc19, rfl⟩⟩ := hcut
                      cases kq with
                      | zero => exact absurd HA.out (by simp [bits_Div64.j1])
                      | succ kj19 =>
                        have H := HA.out
                        clear HA
                        simp only [bits_Div64.j1] at H
                        by_cases c22 : x78_19 = true
                        · subst c22
                          have H1 : (if (IntKind.u64.wrap (x16_1 + ((ji10) / 4294967296))) ≥ 4294967296 then (bits_Div64.j2 kj19 ji10 ji8 ((ji10) / 4294967296) (Go.bits .and .u64 (ji10) 4294967295) (Go.bits .or .u64 (ji12) (ji15)) ((ji17) / 4294967296) (Go.bits .and .u64 (ji17) 4294967295) (IntKind.u64.wrap (x15_1 - 1))) else (bits_Div64.l0 kj19 ji10 ji8 ((ji10) / 4294967296) (Go.bits .and .u64 (ji10) 4294967295) (Go.bits .or .u64 (ji12) (ji15)) ((ji17) / 4294967296) (Go.bits .and .u64 (ji17) 4294967295) (IntKind.u64.wrap (x15_1 - 1)) (IntKind.u64.wrap (x16_1 + ((ji10) / 4294967296))))) = some (r1, r2) := by rw [if_pos rfl] at H; exact H
                          clear H
                          have H := H1
                          clear H1
                          by_cases c23 : (IntKind.u64.wrap (x16_1 + ((ji10) / 4294967296))) ≥ 4294967296
                          · rw [if_pos c23] at H
                            have c23b0 : decide (4294967296 ≤ (IntKind.u64.wrap (x16_1 + ((ji10) / 4294967296)))) = true := decide_eq_true c23
                            clear c23
                            have H' := Aside0.mk H
                            clear H
                            go_wp2
                            repeat (go_quiet (fail); try go_wp2)
                            go_meet
                            case rel => exact ⟨_, (IntKind.u64.wrap (x15_1 - 1)), (by first | rfl | (simp; done) | (simp [*]; done)), H', ⟨by have := HK1.out; have := HJ19.out; first | omega | exact Nat.le_refl _⟩, by repeat (first | exact Drawn0.refl _ | apply Drawn0.step)⟩
                          · rw [if_neg c23] at H
                            have c23b0 : decide (4294967296 ≤ (IntKind.u64.wrap (x16_1 + ((ji10) / 4294967296)))) = false := decide_eq_false c23
                            clear c23
                            have H' := Aside0.mk H
                            clear H
                            go_wp2
                            repeat (go_quiet (fail); try go_wp2)
                            go_roundg kj19
                            case measure => have := HK1.out; have := HJ19.out; omega
                            case rel => exact ⟨(IntKind.u64.wrap (x15_1 - 1)), (IntKind.u64.wrap (x16_1 + ((ji10) / 4294967296))), (by first | rfl | (simp; done) | (simp [*]; done)), (by first | rfl | (simp; done) | (simp only [← hji10] <;> (first | rfl | simp)) | (simp [*]; done)), H', ⟨by have := HK1.out; have := HJ19.out; omega⟩, by repeat (first | exact Drawn0.refl _ | apply Drawn0.step)⟩
                        · replace c22 := Bool.eq_false_iff.mpr c22
                          subst c22
                          have H1 : (bits_Div64.j2 kj19 ji10 ji8 ((ji10) / 4294967296) (Go.bits .and .u64 (ji10) 4294967295) (Go.bits .or .u64 (ji12) (ji15)) ((ji17) / 4294967296) (Go.bits .and .u64 (ji17) 4294967295) x15_1) = some (r1, r2) := by rw [if_neg (show ¬ (false = true) by decide)] at H; exact H
                          clear H
                          have H := H1
                          clear H1
                          have H' := Aside0.mk H
                          clear H
                          go_wp2
                          repeat (go_quiet (fail); try go_wp2)
                          go_meet
                          case rel => exact ⟨_, (x15_1), (by first | rfl | (simp; done) | (simp [*]; done)), H', ⟨by have := HK1.out; have := HJ19.out; first | omega | exact Nat.le_refl _⟩, by repeat (first | exact Drawn0.refl _ | apply Drawn0.step)⟩
              case rest =>
                clear HC19
                try clear c1
                try clear c2
                try clear p2
                try clear c4
                try clear c4b0
                try clear c4b1
                try clear c5
                try clear c5b0
                try clear c6
                try clear c6b0
                try clear c6b1
                try clear c9
                try clear c9b0
                try clear c9b1
                try clear c10
                try clear c11
                try clear c11b0
                try clear c14
                try clear c14b0
                try clear c14b1
                try clear c16
                try clear c16b0
                try clear c18
                try clear c18b0
                try clear c18b1
                try clear c19
                try clear c21
                try clear c21b0
                try clear c22
                try clear c23
                try clear c23b0
                try clear p2
                obtain ⟨kq, x15_18, rfl, HA, HJ18, ⟨mc18, rfl⟩⟩ := hcut
                cases kq with
                | zero => exact absurd HA.out (by simp [bits_Div64.j2])
                | succ kj18 =>
                  have H := HA.out
                  clear HA
                  simp only [bits_Div64.j2] at H
                  by_cases c24 : ((ji10) / 4294967296) = 0
                  · rw [if_pos c24] at H
                    exact absurd H (by simp)
                  · rw [if_neg c24] at H
                    have c24b0 : (((ji10) / 4294967296) == 0) = false := beq_eq_false_iff_ne.mpr c24
                    have c24b1 : (((ji10) / 4294967296) != 0) = true := bne_iff_ne.mpr c24
                    have H' := Aside0.mk H
                    clear H
                    go_wp2
                    repeat (go_quiet (fail); try go_wp2)
                    go_loopg [16, 18] kj18 (fun kq v16 v18 w' => ∃ (x16_2 : Int) (x18_2 : Int), v16 = .int .u64 x16_2 ∧ v18 = .int .u64 x18_2 ∧ Aside0 (bits_Div64.l1 kq ji10 ji8 ((ji10) / 4294967296) (Go.bits .and .u64 (ji10) 4294967295) (Go.bits .and .u64 (ji17) 4294967295) x15_18 x16_2 (IntKind.u64.wrap ((IntKind.u64.wrap ((IntKind.u64.wrap ((Go.bits .or .u64 (ji12) (ji15)) * 4294967296)) + ((ji17) / 4294967296))) - (IntKind.u64.wrap (x15_18 * ji10)))) x18_2 = some (r1, r2)) ∧ Aside0 (kq ≤ kj18) ∧ Drawn0 w w')
                    case atStart => exact ⟨(IntKind.u64.wrap ((IntKind.u64.wrap ((IntKind.u64.wrap ((IntKind.u64.wrap ((Go.bits .or .u64 (ji12) (ji15)) * 4294967296)) + ((ji17) / 4294967296))) - (IntKind.u64.wrap (x15_18 * ji10)))) - (IntKind.u64.wrap ((IntKind.u64.wrap (Int.tdiv (IntKind.u64.wrap ((IntKind.u64.wrap ((IntKind.u64.wrap ((Go.bits .or .u64 (ji12) (ji15)) * 4294967296)) + ((ji17) / 4294967296))) - (IntKind.u64.wrap (x15_18 * ji10)))) ((ji10) / 4294967296))) * ((ji10) / 4294967296))))), (IntKind.u64.wrap (Int.tdiv (IntKind.u64.wrap ((IntKind.u64.wrap ((IntKind.u64.wrap ((Go.bits .or .u64 (ji12) (ji15)) * 4294967296)) + ((ji17) / 4294967296))) - (IntKind.u64.wrap (x15_18 * ji10)))) ((ji10) / 4294967296))), (by first | rfl | (simp; done) | (simp only [← hji10, ← hji12, ← hji15, ← hji17] <;> (first | rfl | simp)) | (simp [*]; done)), (by first | rfl | (simp; done) | (simp only [← hji10, ← hji12, ← hji15, ← hji17] <;> (first | rfl | simp)) | (simp [*]; done)), H', ⟨Nat.le_refl _⟩, by repeat (first | exact Drawn0.refl _ | apply Drawn0.step)⟩
                    case round =>
                      clear H'
                      try clear c1
                      try clear c2
                      try clear p2
                      try clear c4
                      try clear c4b0
                      try clear c4b1
                      try clear c5
                      try clear c5b0
                      try clear c6
                      try clear c6b0
                      try clear c6b1
                      try clear c9
                      try clear c9b0
                      try clear c9b1
                      try clear c10
                      try clear c11
                      try clear c11b0
                      try clear c14
                      try clear c14b0
                      try clear c14b1
                      try clear c16
                      try clear c16b0
                      try clear c18
                      try clear c18b0
                      try clear c18b1
                      try clear c19
                      try clear c21
                      try clear c21b0
                      try clear c22
                      try clear c23
                      try clear c23b0
                      try clear c24
                      try clear c24b0
                      try clear c24b1
                      try clear p2
                      obtain ⟨x16_2, x18_2, rfl, rfl, HA, HK2, ⟨m2, rfl⟩⟩ := hrel
                      cases gk with
                      | zero => exact absurd HA.out (by simp [bits_Div64.l1])
                      | succ k2 =>
                        have H := HA.out
                        clear HA
                        simp only [bits_Div64.l1] at H
                        have HC25 := Aside0.mk H
                        clear H
                        go_upto_region 24 with (fail)
                        repeat (go_quiet (fail); go_upto_region 24 with (fail))
                        go_cut [113] (fun v113 wc => ∃ (kq : Nat) (x113_24 : Bool), v113 = .bool x113_24 ∧ Aside0 (bits_Div64.j4 kq ji10 ji8 ((ji10) / 4294967296) (Go.bits .and .u64 (ji10) 4294967295) (Go.bits .and .u64 (ji17) 4294967295) x15_18 x16_2 (IntKind.u64.wrap ((IntKind.u64.wrap ((IntKind.u64.wrap ((Go.bits .or .u64 (ji12) (ji15)) * 4294967296)) + ((ji17) / 4294967296))) - (IntKind.u64.wrap (x15_18 * ji10)))) x18_2 x113_24 = some (r1, r2)) ∧ Aside0 (kq ≤ k2) ∧ Drawn0 w wc)
                        case first =>
                          have H := HC25.out
                          clear HC25
                          by_cases c26 : x18_2 ≥ 4294967296
                          · rw [if_pos c26] at H
                            have c26b0 : decide (4294967296 ≤ x18_2) = true := decide_eq_true c26
                            clear c26
                            (first | rw [c26b0] | (simp only [i64_w, i32_w]; rw [c26b0]) | skip)
                            have H' := Aside0.mk H
                            clear H
                            go_wp2
                            repeat (go_quiet (fail); try go_wp2)
                            go_meet
                            case rel => exact ⟨_, (true), (by first | rfl | (simp; done) | (simp [*]; done)), H', ⟨by have := HJ18.out; have := HK2.out; first | omega | exact Nat.le_refl _⟩, by repeat (first | exact Drawn0.refl _ | apply Drawn0.step)⟩
                          · rw [if_neg c26] at H
                            have c26b0 : decide (4294967296 ≤ x18_2) = false := decide_eq_false c26
                            clear c26
                            (first | rw [c26b0] | (simp only [i64_w, i32_w]; rw [c26b0]) | skip)
                            have H' := Aside0.mk H
                            clear H
                            go_wp2
                            repeat (go_quiet (fail); try go_wp2)
                            go_meet
                            case rel => exact ⟨_, (decide ((IntKind.u64.wrap (x18_2 * (Go.bits .and .u64 (ji10) 4294967295))) > (IntKind.u64.wrap ((IntKind.u64.wrap (4294967296 * x16_2)) + (Go.bits .and .u64 (ji17) 4294967295))))), (by first | rfl | (simp; done) | (simp only [← hji10, ← hji17] <;> (first | rfl | simp)) | (simp [*]; done)), H', ⟨by have := HJ18.out; have := HK2.out; first | omega | exact Nat.le_refl _⟩, by repeat (first | exact Drawn0.refl _ | apply Drawn0.step)⟩
                        case rest =>
                          clear HC25
                          try clear c1
                          try clear c2
                          try clear p2
                          try clear c4
                          try clear c4b0
                          try clear c4b1
                          try clear c5
                          try clear c5b0
                          try clear c6
                          try clear c6b0
                          try clear c6b1
                          try clear c9
                          try clear c9b0
                          try clear c9b1
                          try clear c10
                          try clear c11
                          try clear c11b0
                          try clear c14
                          try clear c14b0
                          try clear c14b1
                          try clear c16
                          try clear c16b0
                          try clear c18
                          try clear c18b0
                          try clear c18b1
                          try clear c19
                          try clear c21
                          try clear c21b0
                          try clear c22
                          try clear c23
                          try clear c23b0
                          try clear c24
                          try clear c24b0
                          try clear c24b1
                          try clear c26
                          try clear c26b0
                          try clear p2
                          obtain ⟨kq, x113_24, rfl, HA, HJ24, ⟨mc24, rfl⟩⟩ := hcut
                          cases kq with
                          | zero => exact absurd HA.out (by simp [bits_Div64.j4])
                          | succ kj24 =>
                            have H := HA.out
                            clear HA
                            simp only [bits_Div64.j4] at H
                            by_cases c27 : x113_24 = true
                            · subst c27
                              have H1 : (if (IntKind.u64.wrap (x16_2 + ((ji10) / 4294967296))) ≥ 4294967296 then (if 0 ≤ ji8 then (some (IntKind.u64.wrap ((IntKind.u64.wrap (x15_18 * 4294967296)) + (IntKind.u64.wrap (x18_2 - 1))), shr .u64 (IntKind.u64.wrap ((IntKind.u64.wrap ((IntKind.u64.wrap ((IntKind.u64.wrap ((IntKind.u64.wrap ((IntKind.u64.wrap ((Go.bits .or .u64 (ji12) (ji15)) * 4294967296)) + ((ji17) / 4294967296))) - (IntKind.u64.wrap (x15_18 * ji10)))) * 4294967296)) + (Go.bits .and .u64 (ji17) 4294967295))) - (IntKind.u64.wrap ((IntKind.u64.wrap (x18_2 - 1)) * ji10)))) ji8)) else (none)) else (bits_Div64.l1 kj24 ji10 ji8 ((ji10) / 4294967296) (Go.bits .and .u64 (ji10) 4294967295) (Go.bits .and .u64 (ji17) 4294967295) x15_18 (IntKind.u64.wrap (x16_2 + ((ji10) / 4294967296))) (IntKind.u64.wrap ((IntKind.u64.wrap ((IntKind.u64.wrap ((Go.bits .or .u64 (ji12) (ji15)) * 4294967296)) + ((ji17) / 4294967296))) - (IntKind.u64.wrap (x15_18 * ji10)))) (IntKind.u64.wrap (x18_2 - 1)))) = some (r1, r2) := by rw [if_pos rfl] at H; exact H
                              clear H
                              have H := H1
                              clear H1
                              by_cases c28 : (IntKind.u64.wrap (x16_2 + ((ji10) / 4294967296))) ≥ 4294967296
                              · rw [if_pos c28] at H
                                have c28b0 : decide (4294967296 ≤ (IntKind.u64.wrap (x16_2 + ((ji10) / 4294967296)))) = true := decide_eq_true c28
                                clear c28
                                by_cases c29 : 0 ≤ ji8
                                · rw [if_pos c29] at H
                                  have c29b0 := eq_true c29
                                  have c29b1 : decide (0 ≤ ji8) = true := decide_eq_true c29
                                  clear c29
                                  obtain ⟨ji30, hji30⟩ : ∃ j_ : Int, (shr .u64 (IntKind.u64.wrap ((IntKind.u64.wrap ((IntKind.u64.wrap ((IntKind.u64.wrap ((IntKind.u64.wrap ((IntKind.u64.wrap ((Go.bits .or .u64 (ji12) (ji15)) * 4294967296)) + ((ji17) / 4294967296))) - (IntKind.u64.wrap (x15_18 * ji10)))) * 4294967296)) + (Go.bits .and .u64 (ji17) 4294967295))) - (IntKind.u64.wrap ((IntKind.u64.wrap (x18_2 - 1)) * ji10)))) ji8) = j_ := ⟨_, rfl⟩
                                  replace H : (some (IntKind.u64.wrap ((IntKind.u64.wrap (x15_18 * 4294967296)) + (IntKind.u64.wrap (x18_2 - 1))), ji30)) = some (r1, r2) := by first | (rw [hji30] at H; exact H) | (simp only [hji30] at H ⊢; exact H)
                                  have hji30_ : ((IntKind.u64.wrap ((IntKind.u64.wrap ((IntKind.u64.wrap ((IntKind.u64.wrap ((IntKind.u64.wrap ((IntKind.u64.wrap ((Go.bits .or .u64 (ji12) (ji15)) * 4294967296)) + ((ji17) / 4294967296))) - (IntKind.u64.wrap (x15_18 * ji10)))) * 4294967296)) + (Go.bits .and .u64 (ji17) 4294967295))) - (IntKind.u64.wrap ((IntKind.u64.wrap (x18_2 - 1)) * ji10)))) / 2 ^ min ji8.toNat 64) = ji30 := hji30
                                  have hji30z : ji8 ≤ 64 → ((IntKind.u64.wrap ((IntKind.u64.wrap ((IntKind.u64.wrap ((IntKind.u64.wrap ((IntKind.u64.wrap ((IntKind.u64.wrap ((Go.bits .or .u64 (ji12) (ji15)) * 4294967296)) + ((ji17) / 4294967296))) - (IntKind.u64.wrap (x15_18 * ji10)))) * 4294967296)) + (Go.bits .and .u64 (ji17) 4294967295))) - (IntKind.u64.wrap ((IntKind.u64.wrap (x18_2 - 1)) * ji10)))) / 2 ^ ji8.toNat) = ji30 := shr_small hji30
                                  simp only [Option.some.injEq, Prod.mk.injEq] at H
                                  obtain ⟨rfl, rfl⟩ := H
                                  go_wp2
                                  repeat (go_quiet (fail); try go_wp2)
                                  go_ret2
                                  exact ⟨by first | rfl | (simp; done) | (simp only [← hji8, ← hji10, ← hji12, ← hji13, ← hji15, ← hji17, ← hji30] <;> (first | rfl | simp)) | (simp [*]; done), by repeat (first | exact Drawn0.refl _ | apply Drawn0.step)⟩
                                · rw [if_neg c29] at H
                                  exact absurd H (by simp)
                              · rw [if_neg c28] at H
                                have c28b0 : decide (4294967296 ≤ (IntKind.u64.wrap (x16_2 + ((ji10) / 4294967296)))) = false := decide_eq_false c28
                                clear c28
                                have H' := Aside0.mk H
                                clear H
                                go_wp2
                                repeat (go_quiet (fail); try go_wp2)
                                go_roundg kj24
                                case measure => have := HJ18.out; have := HK2.out; have := HJ24.out; omega
                                case rel => exact ⟨(IntKind.u64.wrap (x16_2 + ((ji10) / 4294967296))), (IntKind.u64.wrap (x18_2 - 1)), (by first | rfl | (simp; done) | (simp only [← hji10] <;> (first | rfl | simp)) | (simp [*]; done)), (by first | rfl | (simp; done) | (simp [*]; done)), H', ⟨by have := HJ18.out; have := HK2.out; have := HJ24.out; omega⟩, by repeat (first | exact Drawn0.refl _ | apply Drawn0.step)⟩
                            · replace c27 := Bool.eq_false_iff.mpr c27
                              subst c27
                              have H1 : (if 0 ≤ ji8 then (some (IntKind.u64.wrap ((IntKind.u64.wrap (x15_18 * 4294967296)) + x18_2), shr .u64 (IntKind.u64.wrap ((IntKind.u64.wrap ((IntKind.u64.wrap ((IntKind.u64.wrap ((IntKind.u64.wrap ((IntKind.u64.wrap ((Go.bits .or .u64 (ji12) (ji15)) * 4294967296)) + ((ji17) / 4294967296))) - (IntKind.u64.wrap (x15_18 * ji10)))) * 4294967296)) + (Go.bits .and .u64 (ji17) 4294967295))) - (IntKind.u64.wrap (x18_2 * ji10)))) ji8)) else (none)) = some (r1, r2) := by rw [if_neg (show ¬ (false = true) by decide)] at H; exact H
                              clear H
                              have H := H1
                              clear H1
                              by_cases c31 : 0 ≤ ji8
                              · rw [if_pos c31] at H
                                have c31b0 := eq_true c31
                                have c31b1 : decide (0 ≤ ji8) = true := decide_eq_true c31
                                clear c31
                                obtain ⟨ji32, hji32⟩ : ∃ j_ : Int, (shr .u64 (IntKind.u64.wrap ((IntKind.u64.wrap ((IntKind.u64.wrap ((IntKind.u64.wrap ((IntKind.u64.wrap ((IntKind.u64.wrap ((Go.bits .or .u64 (ji12) (ji15)) * 4294967296)) + ((ji17) / 4294967296))) - (IntKind.u64.wrap (x15_18 * ji10)))) * 4294967296)) + (Go.bits .and .u64 (ji17) 4294967295))) - (IntKind.u64.wrap (x18_2 * ji10)))) ji8) = j_ := ⟨_, rfl⟩
                                replace H : (some (IntKind.u64.wrap ((IntKind.u64.wrap (x15_18 * 4294967296)) + x18_2), ji32)) = some (r1, r2) := by first | (rw [hji32] at H; exact H) | (simp only [hji32] at H ⊢; exact H)
                                have hji32_ : ((IntKind.u64.wrap ((IntKind.u64.wrap ((IntKind.u64.wrap ((IntKind.u64.wrap ((IntKind.u64.wrap ((IntKind.u64.wrap ((Go.bits .or .u64 (ji12) (ji15)) * 4294967296)) + ((ji17) / 4294967296))) - (IntKind.u64.wrap (x15_18 * ji10)))) * 4294967296)) + (Go.bits .and .u64 (ji17) 4294967295))) - (IntKind.u64.wrap (x18_2 * ji10)))) / 2 ^ min ji8.toNat 64) = ji32 := hji32
                                have hji32z : ji8 ≤ 64 → ((IntKind.u64.wrap ((IntKind.u64.wrap ((IntKind.u64.wrap ((IntKind.u64.wrap ((IntKind.u64.wrap ((IntKind.u64.wrap ((Go.bits .or .u64 (ji12) (ji15)) * 4294967296)) + ((ji17) / 4294967296))) - (IntKind.u64.wrap (x15_18 * ji10)))) * 4294967296)) + (Go.bits .and .u64 (ji17) 4294967295))) - (IntKind.u64.wrap (x18_2 * ji10)))) / 2 ^ ji8.toNat) = ji32 := shr_small hji32
                                simp only [Option.some.injEq, Prod.mk.injEq] at H
                                obtain ⟨rfl, rfl⟩ := H
                                go_wp2
                                repeat (go_quiet (fail); try go_wp2)
                                go_ret2
                                exact ⟨by first | rfl | (simp; done) | (simp only [← hji8, ← hji10, ← hji12, ← hji13, ← hji15, ← hji17, ← hji32] <;> (first | rfl | simp)) | (simp [*]; done), by repeat (first | exact Drawn0.refl _ | apply Drawn0.step)⟩
                              · rw [if_neg c31] at H
                                exact absurd H (by simp)
          · rw [if_neg c14] at H
            exact absurd H (by simp)
        · rw [if_neg c9] at H
          exact absurd H (by simp)

end Go.Proofs.Ytfmkdledofbhdaa.PM
/- bits.Div64, as1 it is printed, is division. -/
namespace Go.Proofs.Ytfmkdledofbhdaa.H
open Go.RowKit Go.Proofs.YtfmkdledofbhdaaW.PrintWords Go.Proofs.YtfmkdledofbhdaaW.PrintLast
open Go.Proofs.Ytfmkdledofbhdaa.Math64
set_option linter.unusedVariables false
set_option linter.unusedSimpArgs false

theorem u64w (x : Int) : IntKind.u64.wrap x = x % 18446744073709551616 := by simp [IntKind.wrap, IntKind.signed, IntKind.bits]
theorem u64s {x : Int} (h0 : 0 ≤ x) (h1 : x < 18446744073709551616) : IntKind.u64.wrap x = x := by rw [u64w]; omega
theorem loop1 {y1 y0 u d : Int} (b : Base y1 y0 u d) (x2 x8 x14 : Int) (n : Nat) : ∀ (k : Nat) (q r : Int), 2 * n + 2 ≤ k → Inv y1 y0 u d q r → r < 4294967296 → 4294967296 ≤ r + n * 2147483648 →
    ∃ j, k ≤ j + 2 * n + 2 ∧ PM.bits_Div64.l0 k x2 x8 y1 y0 u d x14 q r = PM.bits_Div64.j2 j x2 x8 y1 y0 u d x14 (dig y1 y0 u d) := by
  induction n with
  | zero => intro k q r hk h hr hn; omega
  | succ n ih =>
    intro k q r hk h hr hn
    obtain ⟨k, rfl⟩ : ∃ m, k = m + 2 := ⟨k - 2, by omega⟩
    have hb := mul_bd b h.q0 h.q1
    have h0 := dig_lo b
    have a1 := h.q1
    have a2 := h.r0
    have a3 := b.y1lo
    have a4 := b.y1hi
    have a5 := b.dlo
    have a6 := b.dhi
    have e1 : IntKind.u64.wrap (q * y0) = q * y0 := u64s hb.1 (by omega)
    have e2 : IntKind.u64.wrap (IntKind.u64.wrap (4294967296 * r) + d) = 4294967296 * r + d := by rw [u64s (x := 4294967296 * r) (by omega) (by omega), u64s (by omega) (by omega)]
    have e3 : IntKind.u64.wrap (r + y1) = r + y1 := u64s (by omega) (by omega)
    -- a step down
    have down : dig y1 y0 u d < q → ∃ j, k + 2 ≤ j + 2 * (n + 1) + 2 ∧ PM.bits_Div64.j1 (k + 1) x2 x8 y1 y0 u d x14 q r true = PM.bits_Div64.j2 j x2 x8 y1 y0 u d x14 (dig y1 y0 u d) := by
      intro hl
      have e4 : IntKind.u64.wrap (q - 1) = q - 1 := u64s (by omega) (by omega)
      simp only [PM.bits_Div64.j1, if_true]
      rw [e3, e4]
      by_cases hr2 : r + y1 ≥ 4294967296
      · rw [if_pos hr2, h.last b hl hr2]
        exact ⟨k, by omega, rfl⟩
      · rw [if_neg hr2]
        obtain ⟨j, hj, e⟩ := ih k (q - 1) (r + y1) (by omega) (h.next b hl) (by omega) (by omega)
        exact ⟨j, by omega, e⟩
    simp only [PM.bits_Div64.l0]
    rw [e1, e2]
    by_cases c1 : q ≥ 4294967296
    · rw [if_pos c1]; exact down (h.big b c1)
    · rw [if_neg c1]
      by_cases c2 : q * y0 > 4294967296 * r + d
      · rw [decide_eq_true c2]; exact down (h.more b c2)
      · rw [decide_eq_false c2]
        simp only [PM.bits_Div64.j1, Bool.false_eq_true, if_false]
        rw [h.done b c2]
        exact ⟨k, by omega, rfl⟩

theorem loop2 {y1 y0 u d : Int} (b : Base y1 y0 u d) (x2 x8 x15 : Int) (h8 : 0 ≤ x8) (n : Nat) : ∀ (k : Nat) (q r : Int), 2 * n + 2 ≤ k → Inv y1 y0 u d q r → r < 4294967296 → 4294967296 ≤ r + n * 2147483648 →
    PM.bits_Div64.l1 k x2 x8 y1 y0 d x15 r u q = some (IntKind.u64.wrap (IntKind.u64.wrap (x15 * 4294967296) + dig y1 y0 u d), shr .u64 (IntKind.u64.wrap (IntKind.u64.wrap (IntKind.u64.wrap (u * 4294967296) + d) - IntKind.u64.wrap (dig y1 y0 u d * x2))) x8) := by
  induction n with
  | zero => intro k q r hk h hr hn; omega
  | succ n ih =>
    intro k q r hk h hr hn
    obtain ⟨k, rfl⟩ : ∃ m, k = m + 2 := ⟨k - 2, by omega⟩
    have hb := mul_bd b h.q0 h.q1
    have h0 := dig_lo b
    have a1 := h.q1
    have a2 := h.r0
    have a3 := b.y1lo
    have a4 := b.y1hi
    have a5 := b.dlo
    have a6 := b.dhi
    have e1 : IntKind.u64.wrap (q * y0) = q * y0 := u64s hb.1 (by omega)
    have e2 : IntKind.u64.wrap (IntKind.u64.wrap (4294967296 * r) + d) = 4294967296 * r + d := by rw [u64s (x := 4294967296 * r) (by omega) (by omega), u64s (by omega) (by omega)]
    have e3 : IntKind.u64.wrap (r + y1) = r + y1 := u64s (by omega) (by omega)
    have down : dig y1 y0 u d < q → PM.bits_Div64.j4 (k + 1) x2 x8 y1 y0 d x15 r u q true = some (IntKind.u64.wrap (IntKind.u64.wrap (x15 * 4294967296) + dig y1 y0 u d), shr .u64 (IntKind.u64.wrap (IntKind.u64.wrap (IntKind.u64.wrap (u * 4294967296) + d) - IntKind.u64.wrap (dig y1 y0 u d * x2))) x8) := by
      intro hl
      have e4 : IntKind.u64.wrap (q - 1) = q - 1 := u64s (by omega) (by omega)
      simp only [PM.bits_Div64.j4, if_true]
      rw [e3, e4]
      by_cases hr2 : r + y1 ≥ 4294967296
      · rw [if_pos hr2, if_pos h8, h.last b hl hr2]
      · rw [if_neg hr2]
        exact ih k (q - 1) (r + y1) (by omega) (h.next b hl) (by omega) (by omega)
    simp only [PM.bits_Div64.l1]
    rw [e1, e2]
    by_cases c1 : q ≥ 4294967296
    · rw [if_pos c1]; exact down (h.big b c1)
    · rw [if_neg c1]
      by_cases c2 : q * y0 > 4294967296 * r + d
      · rw [decide_eq_true c2]; exact down (h.more b c2)
      · rw [decide_eq_false c2]
        simp only [PM.bits_Div64.j4, Bool.false_eq_true, if_false]
        rw [if_pos h8, h.done b c2]
end Go.Proofs.Ytfmkdledofbhdaa.H
/- bits.Div64 is division: the whole of it. -/
namespace Go.Proofs.Ytfmkdledofbhdaa.H
open Go.RowKit Go.Proofs.YtfmkdledofbhdaaW.PrintWords Go.Proofs.YtfmkdledofbhdaaW.PrintLast
open Go.Proofs.Ytfmkdledofbhdaa.Math64
set_option linter.unusedVariables false
set_option linter.unusedSimpArgs false

theorem tmod_pos {a : Int} (h : 0 ≤ a) (b : Int) : Int.tmod a b = a % b := Int.tmod_eq_emod_of_nonneg h
theorem tdiv_pos {a : Int} (h : 0 ≤ a) (b : Int) : Int.tdiv a b = a / b := Int.tdiv_eq_ediv_of_nonneg h
theorem and32 {x : Int} (h0 : 0 ≤ x) (h1 : x < 18446744073709551616) : Go.bits .and .u64 x 4294967295 = x % 4294967296 := by
  obtain ⟨n, rfl⟩ := Int.eq_ofNat_of_zero_le h0
  rw [u64_and (n : Int) 4294967295 (by omega) h1 (by omega) (by omega)]
  have := Nat.and_two_pow_sub_one_eq_mod n 32
  simp only [Nat.reducePow, Nat.reduceSub] at this
  simp only [Int.toNat_natCast]
  rw [show (4294967295 : Int).toNat = 4294967295 from rfl, this]
  omega
/-- The upper words, shifted to the left. -/
theorem upper {hi lo y P Q : Int} (h0 : 0 ≤ hi) (h1 : hi < y) (l0 : 0 ≤ lo) (l1 : lo < 18446744073709551616) (hP : 0 < P) (hQ : 0 < Q) (hPQ : P * Q = 18446744073709551616) :
    0 ≤ lo / Q ∧ lo / Q < P ∧ 0 ≤ hi * P ∧ hi * P + lo / Q < y * P ∧ lo * P % 18446744073709551616 = lo % Q * P ∧ (hi * 18446744073709551616 + lo) * P = (hi * P + lo / Q) * 18446744073709551616 + lo % Q * P := by
  have a1 := Int.ediv_nonneg l0 (show 0 ≤ Q by omega)
  have a2 : lo / Q < P := Int.ediv_lt_of_lt_mul hQ (by omega)
  have a3 := Int.mul_nonneg h0 (show 0 ≤ P by omega)
  have a4 := Int.mul_le_mul_of_nonneg_right (show hi ≤ y - 1 by omega) (show 0 ≤ P by omega)
  rw [Int.sub_mul, Int.one_mul] at a4
  have m0 := Int.emod_nonneg lo (show Q ≠ 0 by omega)
  have m1 := Int.emod_lt_of_pos lo hQ
  have e := Int.emod_add_mul_ediv lo Q
  have r0 := Int.mul_nonneg m0 (show 0 ≤ P by omega)
  have r1 := Int.mul_le_mul_of_nonneg_right (show lo % Q ≤ Q - 1 by omega) (show 0 ≤ P by omega)
  rw [Int.sub_mul, Int.one_mul, Int.mul_comm Q P, hPQ] at r1
  have e2 : lo * P = lo % Q * P + 18446744073709551616 * (lo / Q) := by
    calc lo * P = (lo % Q + Q * (lo / Q)) * P := by rw [e]
      _ = lo % Q * P + Q * (lo / Q) * P := Int.add_mul ..
      _ = lo % Q * P + P * Q * (lo / Q) := by rw [Int.mul_comm (Q * (lo / Q)) P, ← Int.mul_assoc]
      _ = _ := by rw [hPQ]
  refine ⟨a1, a2, a3, by omega, ?_, ?_⟩
  · rw [e2]; omega
  · rw [Int.add_mul, e2, Int.add_mul, Int.mul_assoc hi, Int.mul_comm 18446744073709551616 P, ← Int.mul_assoc]; omega
theorem pow_parts {L : Nat} (h1 : 1 ≤ L) (h2 : L ≤ 64) : (2 : Int) ^ (64 - L) * 2 ^ L = 18446744073709551616 ∧ 0 < (2 : Int) ^ (64 - L) ∧ 0 < (2 : Int) ^ L := by
  refine ⟨?_, Int.pow_pos (by decide), Int.pow_pos (by decide)⟩
  rw [← Int.pow_add, show 64 - L + L = 64 by omega]; rfl
theorem or_sum {P hi b : Nat} {i : Nat} (hP : P = 2 ^ i) (hb : b < P) (hl : hi * P + b < 18446744073709551616) : Go.bits .or .u64 ((hi * P : Nat) : Int) (b : Int) = ((hi * P + b : Nat) : Int) := by
  rw [u64_or_nat _ _ (by omega) (by omega)]
  subst hP
  rw [Nat.mul_comm hi, Nat.two_pow_add_eq_or_of_lt hb]
set_option maxHeartbeats 1000000 in
theorem div64 (k : Nat) (hk : 20 ≤ k) {hi lo y : Int} (h0 : 0 ≤ hi) (h1 : hi < y) (h2 : y < 18446744073709551616) (l0 : 0 ≤ lo) (l1 : lo < 18446744073709551616) :
    PM.bits_Div64.f k hi lo y = some ((hi * 18446744073709551616 + lo) / y, (hi * 18446744073709551616 + lo) % y) := by
  unfold PM.bits_Div64.f
  rw [if_neg (by omega), if_neg (by omega)]
  by_cases hz : hi = 0
  · subst hz
    have a := Int.ediv_nonneg l0 (show 0 ≤ y by omega)
    have b : lo / y < 18446744073709551616 := Int.ediv_lt_of_lt_mul (by omega) (by have := Int.mul_le_mul_of_nonneg_left (show 1 ≤ y by omega) (show (0 : Int) ≤ 18446744073709551616 by decide); omega)
    rw [if_pos rfl, tdiv_pos l0, tmod_pos l0, u64s a b]
    simp
  rw [if_neg hz]
  simp only [bits_LeadingZeros64.f]
  rw [if_pos (by omega)]
  simp only [Option.bind_some]
  obtain ⟨yn, rfl⟩ := Int.eq_ofNat_of_zero_le (show 0 ≤ y by omega)
  obtain ⟨hn, rfl⟩ := Int.eq_ofNat_of_zero_le h0
  obtain ⟨ln, rfl⟩ := Int.eq_ofNat_of_zero_le l0
  obtain ⟨b1, b2, b3, b4⟩ := Go.Proofs.Ytfmkdledofbhdaa.Math64.bitLen_spec (x := yn) (by omega) (by omega)
  rw [Int.toNat_natCast]
  generalize Lib.bitLen yn = L at *
  obtain ⟨hPQ, hP, hQ⟩ := pow_parts b1 b2
  have es : IntKind.u64.wrap (64 - (L : Int)) = 64 - (L : Int) := u64s (by omega) (by omega)
  have es2 : IntKind.u64.wrap (64 - (64 - (L : Int))) = L := by rw [u64s (by omega) (by omega)]; omega
  rw [es, es2, if_pos (by omega), if_pos (by omega)]
  have t1 : min (64 - (L : Int)).toNat (IntKind.u64.bits) = 64 - L := by simp [IntKind.bits] <;> omega
  have t2 : min (L : Int).toNat (IntKind.u64.bits) = L := by simp [IntKind.bits] <;> omega
  unfold shl
  rw [t1]
  have esr : shr .u64 (ln : Int) (L : Int) = (ln : Int) / 2 ^ L := by unfold shr; rw [t2]
  rw [esr]
  obtain ⟨q1, q2, q3, q4, q5, q6⟩ := upper (hi := hn) (lo := ln) (y := yn) h0 h1 l0 l1 hP hQ hPQ
  have hnat : (yn : Int) * 2 ^ (64 - L) < 18446744073709551616 := by
    have c1 : (yn : Int) ≤ 2 ^ L - 1 := by
      have : ((2 ^ L : Nat) : Int) = (2 : Int) ^ L := by simp
      omega
    have := Int.mul_le_mul_of_nonneg_right c1 (show 0 ≤ (2 : Int) ^ (64 - L) by omega)
    rw [Int.sub_mul, Int.one_mul, Int.mul_comm ((2 : Int) ^ L), hPQ] at this
    omega
  have hbig : 9223372036854775808 ≤ (yn : Int) * 2 ^ (64 - L) := by
    have c1 : (2 : Int) ^ (L - 1) ≤ yn := by
      have : ((2 ^ (L - 1) : Nat) : Int) = (2 : Int) ^ (L - 1) := by simp
      omega
    have := Int.mul_le_mul_of_nonneg_right c1 (show 0 ≤ (2 : Int) ^ (64 - L) by omega)
    rw [← Int.pow_add, show L - 1 + (64 - L) = 63 by omega] at this
    exact this
  have hor : Go.bits .or .u64 (IntKind.u64.wrap ((hn : Int) * 2 ^ (64 - L))) ((ln : Int) / 2 ^ L) = (hn : Int) * 2 ^ (64 - L) + (ln : Int) / 2 ^ L := by
    rw [u64s q3 (by omega)]
    have e1 : (hn : Int) * 2 ^ (64 - L) = ((hn * 2 ^ (64 - L) : Nat) : Int) := by simp
    have e2 : (ln : Int) / 2 ^ L = ((ln / 2 ^ L : Nat) : Int) := by simp
    have e3 : ((2 ^ (64 - L) : Nat) : Int) = (2 : Int) ^ (64 - L) := by simp
    have k1 : ((ln / 2 ^ L : Nat) : Int) < ((2 ^ (64 - L) : Nat) : Int) := by rw [e3, ← e2]; exact q2
    have k2 : ((hn * 2 ^ (64 - L) + ln / 2 ^ L : Nat) : Int) < ((18446744073709551616 : Nat) : Int) := by rw [Int.natCast_add, ← e1, ← e2]; omega
    rw [e1, e2, or_sum (i := 64 - L) rfl (Int.ofNat_lt.1 k1) (Int.ofNat_lt.1 k2), Int.natCast_add]
  rw [hor, u64s (x := (yn : Int) * 2 ^ (64 - L)) (by omega) hnat, u64w ((ln : Int) * 2 ^ (64 - L)), q5]
  have lt0 := Int.mul_nonneg (Int.emod_nonneg (ln : Int) (show (2 : Int) ^ L ≠ 0 by omega)) (show 0 ≤ (2 : Int) ^ (64 - L) by omega)
  have lt1 : (ln : Int) % 2 ^ L * 2 ^ (64 - L) < 18446744073709551616 := by rw [← q5]; omega
  generalize hu : (hn : Int) * 2 ^ (64 - L) + (ln : Int) / 2 ^ L = u at *
  generalize hv : (ln : Int) % 2 ^ L * 2 ^ (64 - L) = v at *
  have eqy : (yn : Int) * 2 ^ (64 - L) / ((2 : Int) ^ (64 - L)) = yn := Int.mul_ediv_cancel _ (by omega)
  have hX1 := Int.mul_ediv_mul_of_pos_left ((hn : Int) * 18446744073709551616 + ln) (yn : Int) hP
  have hX2 : ((hn : Int) * 18446744073709551616 + ln) * 2 ^ (64 - L) % ((yn : Int) * 2 ^ (64 - L)) = ((hn : Int) * 18446744073709551616 + ln) % yn * 2 ^ (64 - L) := by
    rw [Int.mul_comm _ ((2 : Int) ^ (64 - L)), Int.mul_comm (yn : Int), Int.mul_emod_mul_of_pos _ _ hP, Int.mul_comm]
  rw [q6] at hX1 hX2
  generalize hY : (yn : Int) * 2 ^ (64 - L) = Y at *
  have bs : Base (Y / 4294967296) (Y % 4294967296) u (v / 4294967296) := ⟨by omega, by omega, by omega, by omega, by omega, by omega, by omega, by omega⟩
  have f1 := Inv.first bs
  have f2 := first_lt bs
  have l3 := left_bd bs
  have g0 := dig_lo bs
  have g1 := dig_hi bs
  have hYY : Y / 4294967296 * 4294967296 + Y % 4294967296 = Y := by omega
  rw [hYY] at l3
  rw [if_neg (by omega), and32 (by omega) (by omega), and32 (by omega) (by omega)]
  have hdu : 0 ≤ u / (Y / 4294967296) := f1.q0
  have hdm := f1.hu
  have e5 : IntKind.u64.wrap (Int.tdiv u (Y / 4294967296)) = u / (Y / 4294967296) := by rw [tdiv_pos (by omega)]; exact u64s hdu (by have := f1.q1; omega)
  have e6 : IntKind.u64.wrap (u - IntKind.u64.wrap (u / (Y / 4294967296) * (Y / 4294967296))) = u - u / (Y / 4294967296) * (Y / 4294967296) := by
    have := f1.r0
    have := Int.mul_nonneg hdu (show 0 ≤ Y / 4294967296 by omega)
    rw [u64s (x := u / (Y / 4294967296) * (Y / 4294967296)) (by omega) (by omega), u64s (by omega) (by omega)]
  rw [e5, e6]
  obtain ⟨j, hj, e⟩ := loop1 bs Y (64 - L) (v % 4294967296) 2 k _ _ (by omega) f1 f2 (by have := f1.r0; omega)
  rw [e]
  obtain ⟨j, rfl⟩ : ∃ m, j = m + 1 := ⟨j - 1, by omega⟩
  simp only [PM.bits_Div64.j2]
  rw [if_neg (by omega)]
  generalize hD : dig (Y / 4294967296) (Y % 4294967296) u (v / 4294967296) = D at *
  have e7 : IntKind.u64.wrap (IntKind.u64.wrap (IntKind.u64.wrap (u * 4294967296) + v / 4294967296) - IntKind.u64.wrap (D * Y)) = u * 4294967296 + v / 4294967296 - D * Y := by
    rw [u64w, u64w, u64w, u64w]; omega
  rw [e7]
  generalize hR : u * 4294967296 + v / 4294967296 - D * Y = R at *
  have bs2 : Base (Y / 4294967296) (Y % 4294967296) R (v % 4294967296) := ⟨by omega, by omega, by omega, by omega, by omega, by omega, by omega, by omega⟩
  have f3 := Inv.first bs2
  have f4 := first_lt bs2
  have l4 := left_bd bs2
  have g2 := dig_lo bs2
  have g3 := dig_hi bs2
  rw [hYY] at l4
  have hdu2 : 0 ≤ R / (Y / 4294967296) := f3.q0
  have e8 : IntKind.u64.wrap (Int.tdiv R (Y / 4294967296)) = R / (Y / 4294967296) := by rw [tdiv_pos (by omega)]; exact u64s hdu2 (by have := f3.q1; omega)
  have e9 : IntKind.u64.wrap (R - IntKind.u64.wrap (R / (Y / 4294967296) * (Y / 4294967296))) = R - R / (Y / 4294967296) * (Y / 4294967296) := by
    have := f3.r0
    have := f3.hu
    have := Int.mul_nonneg hdu2 (show 0 ≤ Y / 4294967296 by omega)
    rw [u64s (x := R / (Y / 4294967296) * (Y / 4294967296)) (by omega) (by omega), u64s (by omega) (by omega)]
  rw [e8, e9, loop2 bs2 Y (64 - L) D (by omega) 2 j _ _ (by omega) f3 f4 (by have := f3.r0; omega)]
  generalize hE : dig (Y / 4294967296) (Y % 4294967296) R (v % 4294967296) = E at *
  have e10 : IntKind.u64.wrap (IntKind.u64.wrap (IntKind.u64.wrap (R * 4294967296) + v % 4294967296) - IntKind.u64.wrap (E * Y)) = R * 4294967296 + v % 4294967296 - E * Y := by
    rw [u64w, u64w, u64w, u64w]; omega
  have e11 : IntKind.u64.wrap (IntKind.u64.wrap (D * 4294967296) + E) = D * 4294967296 + E := by rw [u64s (x := D * 4294967296) (by omega) (by omega), u64s (by omega) (by omega)]
  rw [e10, e11]
  obtain ⟨z1, z2⟩ := two_digits (y := Y) (u := u) (d := v / 4294967296) (e := v % 4294967296) (q1 := D) (q0 := E) (by omega) hR l4.1 l4.2
  rw [show u * 18446744073709551616 + v / 4294967296 * 4294967296 + v % 4294967296 = u * 18446744073709551616 + v by omega] at z1 z2
  rw [← z2, ← z1, hX1, hX2]
  unfold shr
  rw [t1, Int.mul_ediv_cancel _ (by omega)]
end Go.Proofs.Ytfmkdledofbhdaa.H
namespace Go.Proofs.Ytfmkdledofbhdaa.H
open Go.RowKit Go.Proofs.YtfmkdledofbhdaaW.PrintWords Go.Proofs.YtfmkdledofbhdaaW.PrintLast
def bits_Div64.f (hi lo y : Int) : Option (Int × Int) := if 0 ≤ hi ∧ hi < y ∧ y < 18446744073709551616 ∧ 0 ≤ lo ∧ lo < 18446744073709551616 then some ((hi * 18446744073709551616 + lo) / y, (hi * 18446744073709551616 + lo) % y) else none
theorem bits_Div64.calls (a0 a1 a2 r1 r2 : Int) (w : World) (h : bits_Div64.f a0 a1 a2 = some (r1, r2)) : Calls Try.prog 107 #[.int .u64 a0, .int .u64 a1, .int .u64 a2] w fun e w' => e = .returned (.tuple #[.int .u64 r1, .int .u64 r2]) ∧ Drawn0 w w' := by
  unfold bits_Div64.f at h
  split at h
  · rename_i hb
    obtain ⟨h1, h2, h3, h4, h5⟩ := hb
    exact PM.bits_Div64.calls 20 a0 a1 a2 r1 r2 w ((div64 20 (by omega) h1 h2 h3 h4 h5).trans h)
  · cases h
end Go.Proofs.Ytfmkdledofbhdaa.H
/- Contracts by hand: growth: what a balance bears, exactly. -/
namespace Go.Proofs.Ytfmkdledofbhdaa.H
open Go.RowKit Go.Proofs.YtfmkdledofbhdaaW.PrintWords Go.Proofs.YtfmkdledofbhdaaW.PrintLast Go.Proofs.YtfmkdledofbhdaaW.PrintMore Go.Proofs.Ytfmkdledofbhdaa.HW
set_option linter.unusedVariables false
set_option linter.unusedSimpArgs false
/-- A bearer lies in block gb: its whole, its half, its rest. -/
structure BearAt (w : World) (gb : Nat) (W h rest : Int) : Prop where
  c0 : w.cell? ⟨gb, 0, none⟩ = some (.int .i64 W)
  c1 : w.cell? ⟨gb, 1, none⟩ = some (.int .i64 h)
  c2 : w.cell? ⟨gb, 2, none⟩ = some (.int .i64 rest)
  f2 : w.frozen? ⟨gb, 2, none⟩ = false
  lt : gb < w.heap.size
theorem BearAt.below {w w1 : World} {gb : Nat} {W h rest : Int} (H : BearAt w gb W h rest) (hb : Below w.heap.size w w1) : BearAt w1 gb W h rest :=
  ⟨by rw [hb.cell (by exact H.lt)]; exact H.c0, by rw [hb.cell (by exact H.lt)]; exact H.c1, by rw [hb.cell (by exact H.lt)]; exact H.c2, by rw [hb.frozen (by exact H.lt)]; exact H.f2, Nat.lt_of_lt_of_le H.lt hb.size⟩
/-- A whole and a half of a bearer, and its rest, are in their bounds. -/
structure Good (W h rest : Int) : Prop where
  w0 : 360000000000 ≤ W
  w1 : W ≤ 133590000000000
  h0 : 0 ≤ h
  h1 : 2 * h ≤ W
  r0 : -h ≤ rest
  r1 : rest < W - h
theorem Good.next {W h rest x : Int} (G : Good W h rest) (hx : 0 ≤ x) : Good W h (Gm.r W h rest x) := by
  have := G.w0
  obtain ⟨_, h2, h3, _⟩ := Gm.step (W := W) (h := h) (rest := rest) (x := x) (by omega) hx G.r0
  exact ⟨G.w0, G.w1, G.h0, G.h1, h2, h3⟩

theorem add64_run (x y : Int) (hx : 0 ≤ x) (hy : 0 ≤ y) (w : World) : (callFunc 106 #[.int .u64 x, .int .u64 y, .int .u64 0]).run Try.prog w = .ok (.value (.tuple #[.int .u64 ((x + y + 0) % 18446744073709551616), .int .u64 ((x + y + 0) / 18446744073709551616)])) w := by
  rw [run_callFunc_extern Try.func106 (by kernel_rfl) (by kernel_rfl) (by kernel_rfl) (e := add64Entry) (by kernel_rfl), run_add64 x y 0 hx hy (by omega) (by omega)]
  rfl
theorem mul_any {x y hi lo : Int} (x0 : 0 ≤ x) (x1 : x ≤ 18446744073709551615) (y0 : 0 ≤ y) (y1 : y ≤ 18446744073709551615) (h1 : x * y / 18446744073709551616 = hi) (h2 : x * y % 18446744073709551616 = lo) (w : World) :
    Calls Try.prog 105 #[.int .u64 x, .int .u64 y] w fun e w' => e = .returned (.tuple #[.int .u64 hi, .int .u64 lo]) ∧ Drawn0 w w' :=
  bits_Mul64.calls x y hi lo w (by unfold bits_Mul64.f; rw [if_pos ⟨x0, x1, y0, y1⟩, h1, h2])
theorem div_any {hi lo y q r : Int} (h0 : 0 ≤ hi) (h1 : hi < y) (h2 : y < 18446744073709551616) (l0 : 0 ≤ lo) (l1 : lo < 18446744073709551616) (e1 : (hi * 18446744073709551616 + lo) / y = q) (e2 : (hi * 18446744073709551616 + lo) % y = r) (w : World) :
    Calls Try.prog 107 #[.int .u64 hi, .int .u64 lo, .int .u64 y] w fun e w' => e = .returned (.tuple #[.int .u64 q, .int .u64 r]) ∧ Drawn0 w w' :=
  bits_Div64.calls hi lo y q r w (by unfold bits_Div64.f; rw [if_pos ⟨h0, h1, h2, l0, l1⟩, e1, e2])

/-- The product of three, and what is added, in two parts of 64 bits. -/
theorem parts128 {bal rate n s : Int} (a0 : 0 ≤ bal) (a1 : bal ≤ 1000000000000000) (b0 : 0 ≤ rate) (b1 : rate ≤ 1000000000) (n0 : 0 ≤ n) (n1 : n ≤ 53436000) (s0 : 0 ≤ s) (s1 : s ≤ 133590000000000) :
    ∃ high low over lo u lo3 carry : Int, bal * rate / 18446744073709551616 = high ∧ bal * rate % 18446744073709551616 = low ∧ low * n / 18446744073709551616 = over ∧ low * n % 18446744073709551616 = lo ∧ high * n = u ∧
      0 ≤ high ∧ high ≤ 100000 ∧ 0 ≤ low ∧ low ≤ 18446744073709551615 ∧ 0 ≤ over ∧ over ≤ 53436000 ∧ 0 ≤ lo ∧ lo ≤ 18446744073709551615 ∧ 0 ≤ u ∧ u ≤ 5343600000000 ∧
      (lo + s + 0) % 18446744073709551616 = lo3 ∧ (lo + s + 0) / 18446744073709551616 = carry ∧ 0 ≤ lo3 ∧ lo3 ≤ 18446744073709551615 ∧ 0 ≤ carry ∧ carry ≤ 1 ∧
      (u + over + carry) * 18446744073709551616 + lo3 = bal * rate * n + s := by
  have hP := Gm.mul_le a0 b0 a1 b1
  have g1 : 0 ≤ bal * rate / 18446744073709551616 ∧ bal * rate / 18446744073709551616 ≤ 100000 := by omega
  have g2 : 0 ≤ bal * rate % 18446744073709551616 ∧ bal * rate % 18446744073709551616 ≤ 18446744073709551615 := by omega
  have hU := Gm.mul_le g1.1 n0 g1.2 n1
  have hV := Gm.mul_le g2.1 n0 g2.2 n1
  have e : bal * rate * n = bal * rate / 18446744073709551616 * n * 18446744073709551616 + bal * rate % 18446744073709551616 * n := by
    rw [Int.mul_right_comm _ n, ← Int.add_mul]
    congr 1
    omega
  refine ⟨_, _, _, _, _, _, _, rfl, rfl, rfl, rfl, rfl, g1.1, g1.2, g2.1, g2.2, ?_, ?_, ?_, ?_, hU.1, by omega, rfl, rfl, ?_, ?_, ?_, ?_, ?_⟩ <;> omega
end Go.Proofs.Ytfmkdledofbhdaa.H
/- Contracts by hand: growth: borne. -/
namespace Go.Proofs.Ytfmkdledofbhdaa.H
open Go.RowKit Go.Proofs.YtfmkdledofbhdaaW.PrintWords Go.Proofs.YtfmkdledofbhdaaW.PrintLast Go.Proofs.YtfmkdledofbhdaaW.PrintMore Go.Proofs.Ytfmkdledofbhdaa.HW
set_option linter.unusedVariables false
set_option linter.unusedSimpArgs false
set_option maxHeartbeats 1000000 in
theorem borne_yes {gb : Nat} {W h rest bal rate n : Int} {w : World} (A : BearAt w gb W h rest) (G : Good W h rest) (hm : Gm.may bal rate n) (hq : Gm.q W h rest (bal * rate * n) ≤ 1000000000000000) :
    Calls Try.prog 84 #[.pointer (some ⟨gb, 0, none⟩), .int .u64 bal, .int .u64 rate, .int .u64 n] w fun e w' => e = .returned (.tuple #[.int .i64 (Gm.q W h rest (bal * rate * n)), .int .i64 (Gm.r W h rest (bal * rate * n))]) ∧ Drawn0 w w' := by
  obtain ⟨a0, a1, b0, b1, n0, n1⟩ := hm
  obtain ⟨w0, w1, h0, h1, r0, r1⟩ := G
  obtain ⟨c0, c1, c2, f2, lt⟩ := A
  obtain ⟨high, low, over, lo, u, lo3, carry, e1, e2, e3, e4, e5, p1, p2, p3, p4, p5, p6, p7, p8, p9, p10, e6, e7, p11, p12, p13, p14, tot⟩ := parts128 a0 a1 b0 b1 n0 n1 (show 0 ≤ rest + h by omega) (by omega)
  obtain ⟨st1, st2, st3, st4⟩ := Gm.step (W := W) (h := h) (rest := rest) (x := bal * rate * n) (by omega) (Int.mul_nonneg (Int.mul_nonneg a0 b0) n0) r0
  have eq1 : ((u + over + carry) * 18446744073709551616 + lo3) / W = Gm.q W h rest (bal * rate * n) := by rw [tot]; rfl
  have eq2 : ((u + over + carry) * 18446744073709551616 + lo3) % W = Gm.r W h rest (bal * rate * n) + h := by rw [tot]; unfold Gm.r; omega
  have hlt : u + over + carry < W := by
    rcases Int.lt_or_le (u + over + carry) W with hh | hh
    · exact hh
    · exfalso
      have hh2 : 18446744073709551616 ≤ Gm.q W h rest (bal * rate * n) := by
        rw [← eq1]
        refine (Int.le_ediv_iff_mul_le (by omega)).2 ?_
        omega
      omega
  generalize Gm.q W h rest (bal * rate * n) = q at *
  generalize Gm.r W h rest (bal * rate * n) = r at *
  have U := Aside0.mk e5
  have E1 := Aside0.mk e1
  have E2 := Aside0.mk e2
  have E3 := Aside0.mk e3
  have E4 := Aside0.mk e4
  have E6 := Aside0.mk e6
  have E7 := Aside0.mk e7
  have Q1 := Aside0.mk eq1
  have Q2 := Aside0.mk eq2
  clear e1 e2 e3 e4 e6 e7 eq1 eq2 tot st4
  go_enter Try.func84, Try.ntmps84
  go_wp2_with fail
  refine (mul_any a0 (by omega) b0 (by omega) E1.out E2.out _).mono ?_
  rintro e w1 ⟨rfl, ⟨m1, rfl⟩⟩
  go_wp2_with fail
  refine (mul_any p3 p4 n0 (by omega) E3.out E4.out _).mono ?_
  rintro e w1 ⟨rfl, ⟨m2, rfl⟩⟩
  go_wp2_with fail
  obtain ⟨s, hs⟩ : ∃ s, rest + h = s := ⟨_, rfl⟩
  have hi64 : IntKind.i64.wrap (rest + h) = s := by rw [hs]; exact IntWalk.i64_in _ (by omega)
  have hu64 : IntKind.u64.wrap s = s := IntWalk.u64_in _ (by omega)
  have hadd : ∀ w : World, (callFunc 106 #[.int .u64 lo, .int .u64 s, .int .u64 0]).run Try.prog w = .ok (.value (.tuple #[.int .u64 lo3, .int .u64 carry])) w := fun w => by rw [add64_run lo s (by omega) (by omega) w, ← hs, E6.out, E7.out]
  clear hs
  go_quiet (fail)
  clear hi64 hu64 hadd
  have hWu : IntKind.u64.wrap W = W := IntWalk.u64_in _ (by omega)
  go_wp2_with fail
  refine (div_any (by omega) (by omega) (by omega) (by omega) (by omega) Q1.out Q2.out _).mono ?_
  rintro e w1 ⟨rfl, ⟨m3, rfl⟩⟩
  have hq2 : decide (1000000000000000 < q) = false := decide_eq_false (by omega)
  go_wp2_with fail
  have k1 : IntKind.i64.wrap q = q := IntWalk.i64_in _ (by omega)
  have k2 : IntKind.i64.wrap (r + h) = r + h := IntWalk.i64_in _ (by omega)
  have k3 : IntKind.i64.wrap (r + h - h) = r := by rw [show r + h - h = r by omega]; exact IntWalk.i64_in _ (by omega)
  go_quiet (fail)
  go_wp2_with fail
  go_ret2
  exact ⟨rfl, ⟨_, by first | rfl | (simp only [World.drewN_drewN]; rfl)⟩⟩
set_option maxHeartbeats 1000000 in
theorem borne_no {gb : Nat} {W h rest bal rate n : Int} {w : World} (A : BearAt w gb W h rest) (G : Good W h rest) (hm : Gm.may bal rate n) (hq : 1000000000000000 < Gm.q W h rest (bal * rate * n)) :
    Calls Try.prog 84 #[.pointer (some ⟨gb, 0, none⟩), .int .u64 bal, .int .u64 rate, .int .u64 n] w fun e w' => e = .panicked [{ v := .iface 132 (.int .i64 3), recovered := false }] ∧ Drawn0 w w' := by
  obtain ⟨a0, a1, b0, b1, n0, n1⟩ := hm
  obtain ⟨w0, w1, h0, h1, r0, r1⟩ := G
  obtain ⟨c0, c1, c2, f2, lt⟩ := A
  obtain ⟨high, low, over, lo, u, lo3, carry, e1, e2, e3, e4, e5, p1, p2, p3, p4, p5, p6, p7, p8, p9, p10, e6, e7, p11, p12, p13, p14, tot⟩ := parts128 a0 a1 b0 b1 n0 n1 (show 0 ≤ rest + h by omega) (by omega)
  obtain ⟨st1, st2, st3, st4⟩ := Gm.step (W := W) (h := h) (rest := rest) (x := bal * rate * n) (by omega) (Int.mul_nonneg (Int.mul_nonneg a0 b0) n0) r0
  have eq1 : ((u + over + carry) * 18446744073709551616 + lo3) / W = Gm.q W h rest (bal * rate * n) := by rw [tot]; rfl
  have eq2 : ((u + over + carry) * 18446744073709551616 + lo3) % W = Gm.r W h rest (bal * rate * n) + h := by rw [tot]; unfold Gm.r; omega
  have hqm : u + over + carry < W → Gm.q W h rest (bal * rate * n) < 18446744073709551616 := by
    intro hh
    rw [← eq1]
    refine Int.ediv_lt_of_lt_mul (by omega) ?_
    omega
  generalize Gm.q W h rest (bal * rate * n) = q at *
  generalize Gm.r W h rest (bal * rate * n) = r at *
  have U := Aside0.mk e5
  have E1 := Aside0.mk e1
  have E2 := Aside0.mk e2
  have E3 := Aside0.mk e3
  have E4 := Aside0.mk e4
  have E6 := Aside0.mk e6
  have E7 := Aside0.mk e7
  have Q1 := Aside0.mk eq1
  have Q2 := Aside0.mk eq2
  have QM := Aside0.mk hqm
  clear e1 e2 e3 e4 e6 e7 eq1 eq2 tot st4 hqm
  have hadd0 := Aside0.mk (fun (s : Int) (hs : rest + h = s) (w : World) => show (callFunc 106 #[.int .u64 lo, .int .u64 s, .int .u64 0]).run Try.prog w = .ok (.value (.tuple #[.int .u64 lo3, .int .u64 carry])) w by rw [add64_run lo s (by omega) (by omega) w, ← hs, E6.out, E7.out])
  by_cases hlt : u + over + carry < W
  · have hqm := QM.out hlt
    go_enter Try.func84, Try.ntmps84
    go_wp2_with fail
    refine (mul_any a0 (by omega) b0 (by omega) E1.out E2.out _).mono ?_
    rintro e w1 ⟨rfl, ⟨m1, rfl⟩⟩
    go_wp2_with fail
    refine (mul_any p3 p4 n0 (by omega) E3.out E4.out _).mono ?_
    rintro e w1 ⟨rfl, ⟨m2, rfl⟩⟩
    go_wp2_with fail
    obtain ⟨s, hs⟩ : ∃ s, rest + h = s := ⟨_, rfl⟩
    have hi64 : IntKind.i64.wrap (rest + h) = s := by rw [hs]; exact IntWalk.i64_in _ (by omega)
    have hu64 : IntKind.u64.wrap s = s := IntWalk.u64_in _ (by omega)
    have hadd := hadd0.out s hs
    clear hs
    go_quiet (fail)
    clear hi64 hu64 hadd
    have hWu : IntKind.u64.wrap W = W := IntWalk.u64_in _ (by omega)
    go_wp2_with fail
    refine (div_any (by omega) (by omega) (by omega) (by omega) (by omega) Q1.out Q2.out _).mono ?_
    rintro e w1 ⟨rfl, ⟨m3, rfl⟩⟩
    have hq2 : decide (1000000000000000 < q) = true := decide_eq_true (by omega)
    go_wp2_with fail
    exact ⟨rfl, rfl, ⟨_, by first | rfl | (simp only [World.drewN_drewN]; rfl)⟩⟩
  · go_enter Try.func84, Try.ntmps84
    go_wp2_with fail
    refine (mul_any a0 (by omega) b0 (by omega) E1.out E2.out _).mono ?_
    rintro e w1 ⟨rfl, ⟨m1, rfl⟩⟩
    go_wp2_with fail
    refine (mul_any p3 p4 n0 (by omega) E3.out E4.out _).mono ?_
    rintro e w1 ⟨rfl, ⟨m2, rfl⟩⟩
    go_wp2_with fail
    obtain ⟨s, hs⟩ : ∃ s, rest + h = s := ⟨_, rfl⟩
    have hi64 : IntKind.i64.wrap (rest + h) = s := by rw [hs]; exact IntWalk.i64_in _ (by omega)
    have hu64 : IntKind.u64.wrap s = s := IntWalk.u64_in _ (by omega)
    have hadd := hadd0.out s hs
    clear hs
    go_quiet (fail)
    clear hi64 hu64 hadd
    have hWu : IntKind.u64.wrap W = W := IntWalk.u64_in _ (by omega)
    go_wp2_with fail
    exact ⟨rfl, rfl, ⟨_, by first | rfl | (simp only [World.drewN_drewN]; rfl)⟩⟩
end Go.Proofs.Ytfmkdledofbhdaa.H
/- Contracts by hand: parts of a year: what is thrown, and caught. -/
namespace Go.Proofs.Ytfmkdledofbhdaa.Fr
open Go.RowKit Go.Proofs.YtfmkdledofbhdaaW.PrintWords Go.Proofs.YtfmkdledofbhdaaW.PrintLast Go.Proofs.YtfmkdledofbhdaaW.PrintMore
set_option linter.unusedVariables false
set_option linter.unusedSimpArgs false
/-- What does not recover is walked as1 ever. -/
theorem rest_plain {P : Program} {c : Code} {Q0 : Exit → Act → List Frame → World → Prop} {a : Act} {cs : List Frame} {w : World}
    (h : ∀ Q : Exit → Act → World → Prop, Aside0 (∀ e a' w', Q0 e a' cs w' → Q e a' w') → c.wp P Q a w) : c.wpS P Q0 a cs w :=
  wpS_of_wp (h _ ⟨fun _ _ _ x => x⟩)
/-- Two result cells, new at w. -/
structure Res2 (w W : World) (x y : Value) : Prop where
  below : Below w.heap.size w W
  c0 : W.cell? ⟨w.heap.size, 0, none⟩ = some x
  c1 : W.cell? ⟨w.heap.size + 1, 0, none⟩ = some y
  f0 : W.frozen? ⟨w.heap.size, 0, none⟩ = false
  f1 : W.frozen? ⟨w.heap.size + 1, 0, none⟩ = false
  size : w.heap.size + 2 ≤ W.heap.size
theorem Res2.made (w : World) (x y : Value) (t u : TypeId) : Res2 w ((w.alloc (.cells #[x] t)).alloc (.cells #[y] u)) x y := by
  refine ⟨((Below.refl _ _).alloc (Nat.le_refl _) _).alloc (by simp) _, ?_, ?_, ?_, ?_, ?_⟩ <;> simp [go_sem]
theorem Res2.step {w W W' : World} {x y : Value} (h : Res2 w W x y) (hb : Below W.heap.size W W') : Res2 w W' x y := by
  have hs := h.size
  refine ⟨h.below.trans (hb.mono (by omega)), ?_, ?_, ?_, ?_, Nat.le_trans h.size hb.size⟩
  · rw [hb.cell (by simp; omega)]; exact h.c0
  · rw [hb.cell (by simp; omega)]; exact h.c1
  · rw [hb.frozen (by simp; omega)]; exact h.f0
  · rw [hb.frozen (by simp; omega)]; exact h.f1
theorem Res2.drawn {w W W' : World} {x y : Value} (h : Res2 w W x y) (hb : Drawn0 W W') : Res2 w W' x y := h.step hb.below
theorem Res2.put {w W : World} {x y : Value} (h : Res2 w W x y) (u v : Value) : Below w.heap.size w ((W.setCell ⟨w.heap.size, 0, none⟩ u).setCell ⟨w.heap.size + 1, 0, none⟩ v) :=
  (h.below.setCell (by simp) _).setCell (by simp) _

theorem frac_idle (pv pe : Addr) (w : World) :
    CallsD Try.prog 74 #[.pointer (some pv), .pointer (some pe)] .returning w fun e u' w' => e = .returned (.tuple #[]) ∧ u' = .returning ∧ w' = w := by
  refine callsD_of_wpS Try.func74 rfl fun c₀ cs hu => ?_
  simp only [Try.ntmps74, List.size_toArray, List.length_cons, List.length_nil, Nat.reduceAdd, Nat.reduceSub, Array.replicate_succ, Array.replicate_zero, List.push_toArray, List.append_toArray, List.nil_append, List.cons_append]
  apply wpS_seq
  apply wpS_region
  simp [wpOpsS, go_sem, recoverD, hu, Exit.thenS]
  refine rest_plain fun Q HQ => ?_
  go_wp2
  refine HQ.out _ _ _ ?_
  clear HQ
  simp [bodyPostS, results, Try.results74, hu]
  cases c₀
  simp_all
theorem frac_thrown (pv pe : Addr) (x y : Int) (c : Int) (older : List PanicEntry) (w : World) (hne : pv.block ≠ pe.block) (hx : w.cell? pv = some (.int .i64 x)) (hy : w.cell? pe = some (.int .i64 y)) (fx : w.frozen? pv = false) (fy : w.frozen? pe = false) :
    CallsD Try.prog 74 #[.pointer (some pv), .pointer (some pe)] (.panicking ({ v := .iface 142 (.int .i64 c), recovered := false } :: older)) w fun e u' w' =>
      e = .returned (.tuple #[]) ∧ u' = .panicking ({ v := .iface 142 (.int .i64 c), recovered := true } :: older) ∧ w' = (w.setCell pv (.int .i64 0)).setCell pe (.int .i64 c) := by
  refine callsD_of_wpS Try.func74 rfl fun c₀ cs hu => ?_
  simp only [Try.ntmps74, List.size_toArray, List.length_cons, List.length_nil, Nat.reduceAdd, Nat.reduceSub, Array.replicate_succ, Array.replicate_zero, List.push_toArray, List.append_toArray, List.nil_append, List.cons_append]
  apply wpS_seq
  apply wpS_region
  simp [wpOpsS, go_sem, recoverD, hu, Exit.thenS]
  refine rest_plain fun Q HQ => ?_
  have hta : ∀ w, (Instr.typeAssert (.iface 142 (.int .i64 c)) 20 142 true).run Try.prog w = .ok (.tuple #[.int .i64 c, .bool true]) w := fun _ => by kernel_rfl
  have hy2 : (w.setCell pv (.int .i64 0)).cell? pe = some (.int .i64 y) := by rw [World.cell?_setCell_other]; exact hy; exact fun e => hne (by rw [e])
  go_wp2
  refine HQ.out _ _ _ ?_
  clear HQ
  simp [bodyPostS, results, Try.results74, hu]

/-- How many parts a year has, or which error. -/
def parts (c : Int) : Int × Int := if c = 1 then (360, 0) else if c = 2 then (365, 0) else if c = 3 then (133590, 0) else (0, 1)
theorem year_yes {c v : Int} (h : parts c = (v, 0)) (w : World) : Calls Try.prog 75 #[.int .i64 c] w fun e w' => e = .returned (.int .i64 v) ∧ Drawn0 w w' := by
  unfold parts at h
  by_cases h1 : c = 1
  · subst h1
    rw [if_pos rfl] at h
    obtain ⟨rfl, _⟩ := Prod.mk.inj h
    clear h
    go_enter Try.func75, Try.ntmps75
    go_wp2
    go_ret
    exact ⟨rfl, Drawn0.refl _⟩
  · rw [if_neg h1] at h
    by_cases h2 : c = 2
    · subst h2
      rw [if_pos rfl] at h
      obtain ⟨rfl, _⟩ := Prod.mk.inj h
      clear h h1
      go_enter Try.func75, Try.ntmps75
      go_wp2
      go_ret
      exact ⟨rfl, Drawn0.refl _⟩
    · rw [if_neg h2] at h
      by_cases h3 : c = 3
      · subst h3
        rw [if_pos rfl] at h
        obtain ⟨rfl, _⟩ := Prod.mk.inj h
        clear h h1 h2
        go_enter Try.func75, Try.ntmps75
        go_wp2
        go_ret
        exact ⟨rfl, Drawn0.refl _⟩
      · rw [if_neg h3] at h
        cases h
theorem year_no {c : Int} (h1 : (c == 1) = false) (h2 : (c == 2) = false) (h3 : (c == 3) = false) (w : World) : Calls Try.prog 75 #[.int .i64 c] w fun e w' => e = .panicked [{ v := .iface 142 (.int .i64 1), recovered := false }] ∧ w' = w := by
  go_enter Try.func75, Try.ntmps75
  go_wp2
  exact ⟨rfl, rfl, rfl⟩
theorem Parts_yes {c v : Int} (h : parts c = (v, 0)) (w : World) : Calls Try.prog 57 #[.int .i64 c] w fun e w' => e = .returned (.tuple #[.int .i64 v, .int .i64 0]) ∧ Below w.heap.size w w' := by
  have R0 := Aside0.mk (Res2.made w (.int .i64 0) (.int .i64 0) 2 31)
  have HY := Aside0.mk h
  clear h
  go_enter_defers Try.func57, Try.ntmps57
  go_wp2_with fail
  refine (year_yes HY.out _).mono ?_
  rintro e w1 ⟨rfl, hd⟩
  have R1 := R0.out.drawn hd
  have c0 := R1.c0
  have c1 := R1.c1
  have f0 := R1.f0
  have f1 := R1.f1
  have RR := Aside0.mk R1
  clear hd R1 R0
  go_wp2
  refine leaves_cons (f := 74) (args := #[.pointer (some ⟨w.heap.size, 0, none⟩), .pointer (some ⟨w.heap.size + 1, 0, none⟩)]) (by simp) (by simp [go_sem]) ?_
  refine (frac_idle _ _ _).mono ?_
  rintro e u' w'' ⟨rfl, rfl, rfl⟩
  simp [Leaves, settle, results, Try.results57, go_sem, c0, c1]
  exact RR.out.put _ _
theorem Parts_no {c : Int} (h1 : (c == 1) = false) (h2 : (c == 2) = false) (h3 : (c == 3) = false) (w : World) : Calls Try.prog 57 #[.int .i64 c] w fun e w' => e = .returned (.tuple #[.int .i64 0, .int .i64 1]) ∧ Below w.heap.size w w' := by
  have R0 := Aside0.mk (Res2.made w (.int .i64 0) (.int .i64 0) 2 31)
  go_enter_defers Try.func57, Try.ntmps57
  go_wp2_with fail
  refine (year_no h1 h2 h3 _).mono ?_
  rintro e w1 ⟨rfl, rfl⟩
  refine leaves_cons (f := 74) (args := #[.pointer (some ⟨w.heap.size, 0, none⟩), .pointer (some ⟨w.heap.size + 1, 0, none⟩)]) (by simp) (by simp [go_sem]) ?_
  refine (frac_thrown _ _ 0 0 1 [] _ (by simp) R0.out.c0 R0.out.c1 R0.out.f0 R0.out.f1).mono ?_
  rintro e u' w'' ⟨rfl, rfl, rfl⟩
  have c0 := R0.out.c0
  have c1 := R0.out.c1
  simp [Leaves, settle, results, Try.results57, go_sem, c0, c1]
  first | exact R0.out.put _ _ | exact ((Below.refl _ _).alloc (Nat.le_refl _) _).alloc (by simp) _
theorem parts_cases (c : Int) : (∃ v, parts c = (v, 0) ∧ (c = 1 ∨ c = 2 ∨ c = 3)) ∨ (parts c = (0, 1) ∧ (c == 1) = false ∧ (c == 2) = false ∧ (c == 3) = false) := by
  unfold parts
  by_cases h1 : c = 1
  · left; exact ⟨360, by simp [h1], Or.inl h1⟩
  by_cases h2 : c = 2
  · left; exact ⟨365, by simp [h2], Or.inr (Or.inl h2)⟩
  by_cases h3 : c = 3
  · left; exact ⟨133590, by simp [h3], Or.inr (Or.inr h3)⟩
  · right; simp [h1, h2, h3]
theorem parts_any (c : Int) (w : World) : Calls Try.prog 57 #[.int .i64 c] w fun e w' => e = .returned (.tuple #[.int .i64 (parts c).1, .int .i64 (parts c).2]) ∧ Below w.heap.size w w' := by
  rcases parts_cases c with ⟨v, hp, _⟩ | ⟨hp, h1, h2, h3⟩
  · rw [hp]; exact Parts_yes hp w
  · rw [hp]; exact Parts_no h1 h2 h3 w
end Go.Proofs.Ytfmkdledofbhdaa.Fr
/- Contracts by hand: growth: a bearer made, its rest, a fork. -/
namespace Go.Proofs.Ytfmkdledofbhdaa.H
open Go.RowKit Go.Proofs.YtfmkdledofbhdaaW.PrintWords Go.Proofs.YtfmkdledofbhdaaW.PrintLast Go.Proofs.YtfmkdledofbhdaaW.PrintMore Go.Proofs.Ytfmkdledofbhdaa.HW
set_option linter.unusedVariables false
set_option linter.unusedSimpArgs false
theorem good_new (c r : Int) : Good (Gm.whole c) (Gm.half c r) 0 := by
  obtain ⟨h1, h2, h3⟩ := Gm.whole_bd c
  obtain ⟨h4, h5⟩ := Gm.half_bd c r
  exact ⟨h1, h2, h4, h5, by omega, by omega⟩
/-- A bearer, made new. -/
def Newly (c r : Int) (w : World) (e : Ending) (w' : World) : Prop := Below w.heap.size w w' ∧ ∃ gb, w.heap.size ≤ gb ∧ e = .returned (.tuple #[.pointer (some ⟨gb, 0, none⟩), .int .i64 0]) ∧ BearAt w' gb (Gm.whole c) (Gm.half c r) 0
theorem bnew_any {c r : Int} (hc : c = 1 ∨ c = 2 ∨ c = 3) (hr : r = 1 ∨ r = 3) (w : World) : Calls Try.prog 30 #[.int .i64 c, .int .i64 r] w (Newly c r w) := by
  obtain ⟨v, hp, hw, v0, v1⟩ : ∃ v, Fr.parts c = (v, 0) ∧ Gm.whole c = 1000000000 * v ∧ 360 ≤ v ∧ v ≤ 133590 := by
    rcases hc with rfl | rfl | rfl <;> exact ⟨_, rfl, rfl, by decide, by decide⟩
  have HP := Aside0.mk (fun w => by have := Fr.parts_any c w; rw [hp] at this; exact this)
  have HW := Aside0.mk hw
  have HH := Aside0.mk (show Gm.half c 1 = 1000000000 * v / 2 by unfold Gm.half; rw [if_pos rfl, hw])
  have HH3 := Aside0.mk (show Gm.half c 3 = 0 from rfl)
  clear hp hc hw
  rcases hr with rfl | rfl
  · go_enter Try.func30, Try.ntmps30
    go_wp2_with fail
    refine (HP.out _).mono ?_
    rintro e w1 ⟨rfl, hb⟩
    have HB := Aside0.mk hb
    clear hb
    go_wp2_with fail
    go_ret2
    refine ⟨HB.out.alloc HB.out.size _, w1.heap.size, HB.out.size, rfl, ?_⟩
    rw [HW.out, HH.out]
    constructor <;> simp [go_sem]
  · go_enter Try.func30, Try.ntmps30
    go_wp2_with fail
    refine (HP.out _).mono ?_
    rintro e w1 ⟨rfl, hb⟩
    have HB := Aside0.mk hb
    clear hb
    go_wp2_with fail
    go_ret2
    refine ⟨HB.out.alloc HB.out.size _, w1.heap.size, HB.out.size, rfl, ?_⟩
    rw [HW.out, HH3.out]
    constructor <;> simp [go_sem]
end Go.Proofs.Ytfmkdledofbhdaa.H
/- Contracts by hand: growth: what a balance bears, and the rest then; or why nothing. -/
namespace Go.Proofs.Ytfmkdledofbhdaa.H
open Go.RowKit Go.Proofs.YtfmkdledofbhdaaW.PrintWords Go.Proofs.YtfmkdledofbhdaaW.PrintLast Go.Proofs.YtfmkdledofbhdaaW.PrintMore Go.Proofs.Ytfmkdledofbhdaa.HW
set_option linter.unusedVariables false
set_option linter.unusedSimpArgs false
theorem BearAt.but {w w1 : World} {gb g2 : Nat} {W h rest : Int} (H : BearAt w g2 W h rest) (hb : But gb w w1) (hn : g2 ≠ gb) : BearAt w1 g2 W h rest :=
  ⟨by rw [hb.cell (by exact H.lt) (by exact hn)]; exact H.c0, by rw [hb.cell (by exact H.lt) (by exact hn)]; exact H.c1, by rw [hb.cell (by exact H.lt) (by exact hn)]; exact H.c2, by rw [hb.frozen (by exact H.lt) (by exact hn)]; exact H.f2, Nat.lt_of_lt_of_le H.lt hb.size⟩

theorem bcaught_idle (pv pe : Addr) (w : World) :
    CallsD Try.prog 83 #[.pointer (some pv), .pointer (some pe)] .returning w fun e u' w' => e = .returned (.tuple #[]) ∧ u' = .returning ∧ w' = w := by
  refine callsD_of_wpS Try.func83 rfl fun c₀ cs hu => ?_
  simp only [Try.ntmps83, List.size_toArray, List.length_cons, List.length_nil, Nat.reduceAdd, Nat.reduceSub, Array.replicate_succ, Array.replicate_zero, List.push_toArray, List.append_toArray, List.nil_append, List.cons_append]
  apply wpS_seq
  apply wpS_region
  simp [wpOpsS, go_sem, recoverD, hu, Exit.thenS]
  refine rest_plain fun Q HQ => ?_
  go_wp2
  refine HQ.out _ _ _ ?_
  clear HQ
  simp [bodyPostS, results, Try.results83, hu]
  cases c₀
  simp_all
theorem bcaught_thrown (pv pe : Addr) (x y : Int) (c : Int) (older : List PanicEntry) (w : World) (hne : pv.block ≠ pe.block) (hx : w.cell? pv = some (.int .i64 x)) (hy : w.cell? pe = some (.int .i64 y)) (fx : w.frozen? pv = false) (fy : w.frozen? pe = false) :
    CallsD Try.prog 83 #[.pointer (some pv), .pointer (some pe)] (.panicking ({ v := .iface 132 (.int .i64 c), recovered := false } :: older)) w fun e u' w' =>
      e = .returned (.tuple #[]) ∧ u' = .panicking ({ v := .iface 132 (.int .i64 c), recovered := true } :: older) ∧ w' = (w.setCell pv (.int .i64 0)).setCell pe (.int .i64 c) := by
  refine callsD_of_wpS Try.func83 rfl fun c₀ cs hu => ?_
  simp only [Try.ntmps83, List.size_toArray, List.length_cons, List.length_nil, Nat.reduceAdd, Nat.reduceSub, Array.replicate_succ, Array.replicate_zero, List.push_toArray, List.append_toArray, List.nil_append, List.cons_append]
  apply wpS_seq
  apply wpS_region
  simp [wpOpsS, go_sem, recoverD, hu, Exit.thenS]
  refine rest_plain fun Q HQ => ?_
  have hta : ∀ w, (Instr.typeAssert (.iface 132 (.int .i64 c)) 20 132 true).run Try.prog w = .ok (.tuple #[.int .i64 c, .bool true]) w := fun _ => by kernel_rfl
  have hy2 : (w.setCell pv (.int .i64 0)).cell? pe = some (.int .i64 y) := by rw [World.cell?_setCell_other]; exact hy; exact fun e => hne (by rw [e])
  go_wp2
  refine HQ.out _ _ _ ?_
  clear HQ
  simp [bodyPostS, results, Try.results83, hu]

theorem bear_arg {gb : Nat} {bal rate n : Int} (hm : ¬ Gm.may bal rate n) (w : World) : Calls Try.prog 58 #[.pointer (some ⟨gb, 0, none⟩), .int .i64 bal, .int .i64 rate, .int .i64 n] w fun e w' => e = .returned (.tuple #[.int .i64 0, .int .i64 1]) ∧ Below w.heap.size w w' := by
  have R0 := Aside0.mk (Fr.Res2.made w (.int .i64 0) (.int .i64 0) 2 31)
  have hno : bal < 0 ∨ (0 ≤ bal ∧ 1000000000000000 < bal) ∨ (0 ≤ bal ∧ bal ≤ 1000000000000000 ∧ rate < 0) ∨ (0 ≤ bal ∧ bal ≤ 1000000000000000 ∧ 0 ≤ rate ∧ 1000000000 < rate) ∨ (0 ≤ bal ∧ bal ≤ 1000000000000000 ∧ 0 ≤ rate ∧ rate ≤ 1000000000 ∧ n < 0) ∨ (0 ≤ bal ∧ bal ≤ 1000000000000000 ∧ 0 ≤ rate ∧ rate ≤ 1000000000 ∧ 0 ≤ n ∧ 53436000 < n) := by
    unfold Gm.may at hm
    omega
  clear hm
  rcases hno with h1 | ⟨h1, h2⟩ | ⟨h1, h2, h3⟩ | ⟨h1, h2, h3, h4⟩ | ⟨h1, h2, h3, h4, h5⟩ | ⟨h1, h2, h3, h4, h5, h6⟩
  all_goals
    go_enter_defers Try.func58, Try.ntmps58
    go_wp2_with fail
    refine leaves_cons (f := 83) (args := #[.pointer (some ⟨w.heap.size, 0, none⟩), .pointer (some ⟨w.heap.size + 1, 0, none⟩)]) (by simp) (by simp [go_sem]) ?_
    refine (bcaught_thrown _ _ 0 0 1 [] _ (by simp) R0.out.c0 R0.out.c1 R0.out.f0 R0.out.f1).mono ?_
    rintro e u' w'' ⟨rfl, rfl, rfl⟩
    have c0 := R0.out.c0
    have c1 := R0.out.c1
    simp [Leaves, settle, results, Try.results58, go_sem, c0, c1]
    first | exact R0.out.put _ _ | exact ((Below.refl _ _).alloc (Nat.le_refl _) _).alloc (by simp) _
/-- What Bear does: it answers, and the bearer has another rest; no other block has turned. -/
def Bore (gb : Nat) (W h : Int) (x : Int × Int × Int) (w : World) (e : Ending) (w' : World) : Prop :=
  e = .returned (.tuple #[.int .i64 x.1, .int .i64 x.2.1]) ∧ BearAt w' gb W h x.2.2 ∧ But gb w w'
set_option maxHeartbeats 1000000 in
theorem bear_yes {gb : Nat} {W h rest bal rate n : Int} {w : World} (A : BearAt w gb W h rest) (G : Good W h rest) (hm : Gm.may bal rate n) (hq : Gm.q W h rest (bal * rate * n) ≤ 1000000000000000) :
    Calls Try.prog 58 #[.pointer (some ⟨gb, 0, none⟩), .int .i64 bal, .int .i64 rate, .int .i64 n] w (Bore gb W h (Gm.q W h rest (bal * rate * n), 0, Gm.r W h rest (bal * rate * n)) w) := by
  have R0 := Aside0.mk (Fr.Res2.made w (.int .i64 0) (.int .i64 0) 2 31)
  have HB := Aside0.mk (fun (w1 : World) (A1 : BearAt w1 gb W h rest) => borne_yes A1 G hm hq)
  have lt := A.lt
  have hne : ¬ gb = w.heap.size := by omega
  have hne1 : ¬ gb = w.heap.size + 1 := by omega
  obtain ⟨a0, a1, b0, b1, n0, n1⟩ := hm
  have u1 : IntKind.u64.wrap bal = bal := IntWalk.u64_in _ (by omega)
  have u2 : IntKind.u64.wrap rate = rate := IntWalk.u64_in _ (by omega)
  have u3 : IntKind.u64.wrap n = n := IntWalk.u64_in _ (by omega)
  have AA := Aside0.mk A
  clear hq G A
  generalize Gm.q W h rest (bal * rate * n) = q at *
  generalize Gm.r W h rest (bal * rate * n) = r at *
  go_enter_defers Try.func58, Try.ntmps58
  go_wp2_with fail
  refine (HB.out _ (AA.out.below R0.out.below)).mono ?_
  rintro e w1 ⟨rfl, hd⟩
  have R1 := R0.out.drawn hd
  have A1 := (AA.out.below R0.out.below).below hd.below
  have BU := Aside0.mk (But.of (gb := gb) R1.below)
  have c0 := R1.c0
  have c1 := R1.c1
  have f0 := R1.f0
  have f1 := R1.f1
  have g2 := A1.c2
  have gf := A1.f2
  have RR := Aside0.mk R1
  have AB := Aside0.mk A1
  clear hd R0 R1 A1
  go_wp2
  refine leaves_cons (f := 83) (args := #[.pointer (some ⟨w.heap.size, 0, none⟩), .pointer (some ⟨w.heap.size + 1, 0, none⟩)]) (by simp) (by simp [go_sem]) ?_
  refine (bcaught_idle _ _ _).mono ?_
  rintro e u' w'' ⟨rfl, rfl, rfl⟩
  simp [Leaves, settle, results, Try.results58, go_sem, c0, c1]
  obtain ⟨k0, k1, k2, k3, k4⟩ := AB.out
  refine ⟨rfl, ⟨?_, ?_, ?_, ?_, ?_⟩, (((BU.out.setCell (Or.inr (Nat.le_refl _)) _).setCell (Or.inl rfl) _).setCell (Or.inr (Nat.le_refl _)) _).setCell (Or.inr (by simp)) _⟩
  · rw [World.cell?_setCell_other _ _ _ _ (by first | (simp; done) | (simp; omega)), World.cell?_setCell_other _ _ _ _ (by first | (simp; done) | (simp; omega)), World.cell?_setCell_other _ _ _ _ (by simp), World.cell?_setCell_other _ _ _ _ (by first | (simp; done) | (simp; omega))]; exact k0
  · rw [World.cell?_setCell_other _ _ _ _ (by first | (simp; done) | (simp; omega)), World.cell?_setCell_other _ _ _ _ (by first | (simp; done) | (simp; omega)), World.cell?_setCell_other _ _ _ _ (by simp), World.cell?_setCell_other _ _ _ _ (by first | (simp; done) | (simp; omega))]; exact k1
  · rw [World.cell?_setCell_other _ _ _ _ (by first | (simp; done) | (simp; omega)), World.cell?_setCell_other _ _ _ _ (by first | (simp; done) | (simp; omega))]
    have k2' : (w1.setCell ⟨w.heap.size, 0, none⟩ (.int .i64 q)).cell? ⟨gb, 2, none⟩ = some (.int .i64 rest) := by rw [World.cell?_setCell_other _ _ _ _ (by first | (simp; done) | (simp; omega))]; exact k2
    simp [World.cell?_setCell_same, k2']
  · simp [go_sem, k3]
  · simp [go_sem]; exact k4
theorem bear_range {gb : Nat} {W h rest bal rate n : Int} {w : World} (A : BearAt w gb W h rest) (G : Good W h rest) (hm : Gm.may bal rate n) (hq : 1000000000000000 < Gm.q W h rest (bal * rate * n)) :
    Calls Try.prog 58 #[.pointer (some ⟨gb, 0, none⟩), .int .i64 bal, .int .i64 rate, .int .i64 n] w fun e w' => e = .returned (.tuple #[.int .i64 0, .int .i64 3]) ∧ Below w.heap.size w w' := by
  have R0 := Aside0.mk (Fr.Res2.made w (.int .i64 0) (.int .i64 0) 2 31)
  have HB := Aside0.mk (fun (w1 : World) (A1 : BearAt w1 gb W h rest) => borne_no A1 G hm hq)
  have lt := A.lt
  have hne : ¬ gb = w.heap.size := by omega
  have hne1 : ¬ gb = w.heap.size + 1 := by omega
  obtain ⟨a0, a1, b0, b1, n0, n1⟩ := hm
  have u1 : IntKind.u64.wrap bal = bal := IntWalk.u64_in _ (by omega)
  have u2 : IntKind.u64.wrap rate = rate := IntWalk.u64_in _ (by omega)
  have u3 : IntKind.u64.wrap n = n := IntWalk.u64_in _ (by omega)
  have AA := Aside0.mk A
  clear hq G A
  go_enter_defers Try.func58, Try.ntmps58
  go_wp2_with fail
  refine (HB.out _ (AA.out.below R0.out.below)).mono ?_
  rintro e w1 ⟨rfl, hd⟩
  have R1 := Aside0.mk (R0.out.drawn hd)
  clear hd R0
  refine leaves_cons (f := 83) (args := #[.pointer (some ⟨w.heap.size, 0, none⟩), .pointer (some ⟨w.heap.size + 1, 0, none⟩)]) (by simp) (by simp [go_sem]) ?_
  refine (bcaught_thrown _ _ 0 0 3 [] _ (by simp) R1.out.c0 R1.out.c1 R1.out.f0 R1.out.f1).mono ?_
  rintro e u' w'' ⟨rfl, rfl, rfl⟩
  have c0 := R1.out.c0
  have c1 := R1.out.c1
  simp [Leaves, settle, results, Try.results58, go_sem, c0, c1]
  exact R1.out.put _ _
theorem bear_any {gb : Nat} {W h rest bal rate n : Int} {w : World} (A : BearAt w gb W h rest) (G : Good W h rest) :
    Calls Try.prog 58 #[.pointer (some ⟨gb, 0, none⟩), .int .i64 bal, .int .i64 rate, .int .i64 n] w (Bore gb W h (Gm.bear W h rest bal rate n) w) := by
  unfold Gm.bear
  by_cases hm : Gm.may bal rate n
  · rw [if_pos hm]
    by_cases hq : Gm.q W h rest (bal * rate * n) ≤ 1000000000000000
    · rw [if_pos hq]; exact bear_yes A G hm hq
    · rw [if_neg hq]
      exact (bear_range A G hm (by omega)).mono fun e w' ⟨h1, h2⟩ => ⟨h1, A.below h2, But.of h2⟩
  · rw [if_neg hm]
    exact (bear_arg hm w).mono fun e w' ⟨h1, h2⟩ => ⟨h1, A.below h2, But.of h2⟩
theorem good_bear {W h rest bal rate n : Int} (G : Good W h rest) : Good W h (Gm.bear W h rest bal rate n).2.2 := by
  unfold Gm.bear
  by_cases hm : Gm.may bal rate n
  · rw [if_pos hm]
    obtain ⟨a0, a1, b0, b1, n0, n1⟩ := hm
    split
    · exact G.next (Int.mul_nonneg (Int.mul_nonneg a0 b0) n0)
    · exact G
  · rw [if_neg hm]; exact G
end Go.Proofs.Ytfmkdledofbhdaa.H
/- Contracts by hand: the document's digits: so many times, so many more. -/
namespace Go.Proofs.Ytfmkdledofbhdaa.H
open Go.RowKit Go.Proofs.YtfmkdledofbhdaaW.PrintWords Go.Proofs.YtfmkdledofbhdaaW.PrintLast Go.Proofs.YtfmkdledofbhdaaW.PrintMore Go.Proofs.Ytfmkdledofbhdaa.HW
set_option linter.unusedVariables false
set_option linter.unusedSimpArgs false
theorem digits_of_own {w w1 : World} {v : Value} {r : List Int} (h : w1.ownsRow w.heap.size 2 1 v r.length (nums .i64 r)) (hb : Below w.heap.size w w1) : ∃ A c, v = .slice A r.length c ∧ Kd.C (Kd.int .i64) w1 A r.length r ∧ r.length ≤ c ∧ (A = none → c = 0) := by
  have h' : w1.ownsRow w.heap.size 2 1 v r.length (encs (Value.int .i64) r) := h
  obtain ⟨A, c, rfl, hle, hr⟩ := own_reads_of_le (d := (0 : Int)) h'
  refine ⟨A, c, rfl, Kd.C_of_reads hr, hle, fun hA => ?_⟩
  subst hA
  rcases h.2 with ⟨e, _⟩ | ⟨g, cap, cur, e, _⟩
  · injection e
  · injection e with e1 e2
    cases e1
/-- In the middle of it: some digits are done. -/
structure Mid (w W : World) (v : Value) (done todo : List Int) (k : Nat) : Prop where
  len : done.length = k
  own : W.ownsRow w.heap.size 2 1 v (done ++ todo).length (nums .i64 (done ++ todo))
  below : Below w.heap.size w W
theorem Mid.slice {w W : World} {v : Value} {done todo : List Int} {k : Nat} (h : Mid w W v done todo k) : ∃ A c, v = .slice A (done ++ todo).length c ∧ (done ++ todo).length ≤ c ∧ (A = none → c = 0) := by
  obtain ⟨A, c, h1, _, h3, h4⟩ := digits_of_own h.own h.below
  exact ⟨A, c, h1, h3, h4⟩
theorem Mid.set {w W : World} {g cap : Nat} {done todo : List Int} {d x : Int} {k : Nat} (h : Mid w W (.slice (some ⟨g, 0, none⟩) (done ++ d :: todo).length cap) done (d :: todo) k) (hg : w.heap.size ≤ g) : Mid w (W.setCell ⟨g, k, none⟩ (.int .i64 x)) (.slice (some ⟨g, 0, none⟩) (done ++ d :: todo).length cap) (done ++ [x]) todo (k + 1) := by
  have hl := h.len
  refine ⟨by simp [hl], ?_, h.below.setCell (by exact hg) _⟩
  have h1 := (World.ownsRow.stored h.own k (.int .i64 x)).1
  have e : (nums .i64 (done ++ d :: todo)).set k (.int .i64 x) = nums .i64 ((done ++ [x]) ++ todo) := by
    simp only [nums, List.map_append, List.map_cons, List.append_assoc, List.cons_append, List.nil_append]
    rw [List.set_append_right _ _ (by simp [hl])]
    simp [hl]
  rw [e] at h1
  have e2 : ((done ++ [x]) ++ todo).length = (done ++ d :: todo).length := by simp
  rw [e2]
  exact h1
theorem Mid.cell {w W : World} {g cap : Nat} {done todo : List Int} {d : Int} {k : Nat} (h : Mid w W (.slice (some ⟨g, 0, none⟩) (done ++ d :: todo).length cap) done (d :: todo) k) : W.cell? ⟨g, k, none⟩ = some (.int .i64 d) ∧ W.frozen? ⟨g, k, none⟩ = false := by
  refine ⟨?_, World.ownsRow.frozenAt h.own k⟩
  rw [World.ownsRow.cellAt h.own k (by have := h.len; simp; omega)]
  simp [nums, List.getElem?_append_right, h.len]
theorem Mid.more {w W w1 : World} {v v' : Value} {done : List Int} {k : Nat} (h : Mid w W v done [] k) (hown : w1.ownsRow w.heap.size 2 1 v' ((done ++ []).length + 1) (nums .i64 (done ++ []) ++ [.int .i64 0])) (hg : (W.alloc (.cells #[.int .i64 0] 2)).grownBy w1 v.ownBlock) : Mid w w1 v' done [0] k :=
  ⟨h.len, by simpa [nums] using hown, (h.below.alloc h.below.size _).grown hg (by have := h.below.size; simp; omega) (own_base h.own)⟩
end Go.Proofs.Ytfmkdledofbhdaa.H
/- Contracts by hand: the document's bearer, made. -/
namespace Go.Proofs.Ytfmkdledofbhdaa.H
open Go.RowKit Go.Proofs.YtfmkdledofbhdaaW.PrintWords Go.Proofs.YtfmkdledofbhdaaW.PrintLast Go.Proofs.YtfmkdledofbhdaaW.PrintMore Go.Proofs.Ytfmkdledofbhdaa.HW
set_option linter.unusedVariables false
set_option linter.unusedSimpArgs false
/-- The document's bearer lies in block gb. -/
structure RefAt (w : World) (gb : Nat) (P : Int) (up : Bool) (rest : Int) : Prop where
  c0 : w.cell? ⟨gb, 0, none⟩ = some (.int .i64 P)
  c1 : w.cell? ⟨gb, 1, none⟩ = some (.bool up)
  c2 : w.cell? ⟨gb, 2, none⟩ = some (.int .i64 rest)
  f2 : w.frozen? ⟨gb, 2, none⟩ = false
  lt : gb < w.heap.size
theorem RefAt.below {w w1 : World} {gb : Nat} {P rest : Int} {up : Bool} (H : RefAt w gb P up rest) (hb : Below w.heap.size w w1) : RefAt w1 gb P up rest :=
  ⟨by rw [hb.cell (by exact H.lt)]; exact H.c0, by rw [hb.cell (by exact H.lt)]; exact H.c1, by rw [hb.cell (by exact H.lt)]; exact H.c2, by rw [hb.frozen (by exact H.lt)]; exact H.f2, Nat.lt_of_lt_of_le H.lt hb.size⟩
theorem RefAt.but {w w1 : World} {gb g2 : Nat} {P rest : Int} {up : Bool} (H : RefAt w g2 P up rest) (hb : But gb w w1) (hn : g2 ≠ gb) : RefAt w1 g2 P up rest :=
  ⟨by rw [hb.cell (by exact H.lt) (by exact hn)]; exact H.c0, by rw [hb.cell (by exact H.lt) (by exact hn)]; exact H.c1, by rw [hb.cell (by exact H.lt) (by exact hn)]; exact H.c2, by rw [hb.frozen (by exact H.lt) (by exact hn)]; exact H.f2, Nat.lt_of_lt_of_le H.lt hb.size⟩
end Go.Proofs.Ytfmkdledofbhdaa.H
/- Contracts by hand: what the document's bearer bears. -/
namespace Go.Proofs.Ytfmkdledofbhdaa.H
open Go.RowKit Go.Proofs.YtfmkdledofbhdaaW.PrintWords Go.Proofs.YtfmkdledofbhdaaW.PrintLast Go.Proofs.YtfmkdledofbhdaaW.PrintMore Go.Proofs.Ytfmkdledofbhdaa.HW
set_option linter.unusedVariables false
set_option linter.unusedSimpArgs false
theorem RefAt.put {w : World} {gb : Nat} {P rest : Int} {up : Bool} (A : RefAt w gb P up rest) (v : Int) : RefAt (w.setCell ⟨gb, 2, none⟩ (.int .i64 v)) gb P up v := by
  obtain ⟨c0, c1, c2, f2, lt⟩ := A
  refine ⟨?_, ?_, ?_, ?_, ?_⟩
  · rw [World.cell?_setCell_other _ _ _ _ (by simp)]; exact c0
  · rw [World.cell?_setCell_other _ _ _ _ (by simp)]; exact c1
  · simp [World.cell?_setCell_same, c2]
  · simp [go_sem, f2]
  · simp [go_sem]; exact lt
end Go.Proofs.Ytfmkdledofbhdaa.H
namespace Go.Proofs.Ytfmkdledofbhdaa.Lv
open Go.RowKit Go.Proofs.YtfmkdledofbhdaaW.PrintWords Go.Proofs.YtfmkdledofbhdaaW.PrintLast Go.Proofs.YtfmkdledofbhdaaW.PrintMore Go.Proofs.Ytfmkdledofbhdaa.HW
open Pm Pd
set_option linter.unusedVariables false
set_option linter.unusedSimpArgs false

/-- All of the lists of parts may be. -/
def fine (l : List Int) : Bool := l.all (fun n => decide (0 ≤ n ∧ n ≤ 267180))
/-- What is wrong with what is asked. -/
def askE (p : Prod) (l : List Int) (m : Int) : Int := if err p ≠ 0 then 9 else if (l.length : Int) = p.times ∧ 1 ≤ m ∧ m ≤ 10000000000000 ∧ fine l = true then 0 else 1
theorem err_two (p : Prod) : err p = 0 ∨ err p = 9 := by unfold err; split <;> simp
/-- What instalments are tried on, by value. -/
abbrev wcs (p : Prod) (A1 : Option Addr) (c1 : Nat) (A2 : Option Addr) (c2 : Nat) (A3 : Option Addr) (c3 : Nat) (A : Option Addr) (l : List Int) (c : Nat) (m : Int) : Array Value :=
  #[.string p.name, .int .i64 p.count, .int .i64 p.round, .int .i64 p.kind, .int .i64 p.every, .int .i64 p.times, .int .i64 p.grace, .int .i64 p.rate, .slice A1 p.resets.length c1, .int .i64 p.penalty, .int .i64 p.o1, .int .i64 p.o2, .int .i64 p.o3, .int .i64 p.o4, .int .i64 p.over, .slice A2 p.late.length c2, .int .i64 p.cap, .int .i64 p.roll, .slice A3 p.hol.length c3, .slice A l.length c, .int .i64 m]
abbrev wv (p : Prod) (A1 : Option Addr) (c1 : Nat) (A2 : Option Addr) (c2 : Nat) (A3 : Option Addr) (c3 : Nat) (A : Option Addr) (l : List Int) (c : Nat) (m : Int) : Value := .agg (wcs p A1 c1 A2 c2 A3 c3 A l c m)
abbrev wzs : Array Value :=
  #[.string ⟨#[]⟩, .int .i64 0, .int .i64 0, .int .i64 0, .int .i64 0, .int .i64 0, .int .i64 0, .int .i64 0, .slice none 0 0, .int .i64 0, .int .i64 0, .int .i64 0, .int .i64 0, .int .i64 0, .int .i64 0, .slice none 0 0, .int .i64 0, .int .i64 0, .slice none 0 0, .slice none 0 0, .int .i64 0]
theorem info_walk : (Try.prog.info? 83).map (·.size) = some 21 := by kernel_rfl
theorem wcs_one (p : Prod) (A1 : Option Addr) (c1 : Nat) (A2 : Option Addr) (c2 : Nat) (A3 : Option Addr) (c3 : Nat) (A : Option Addr) (l : List Int) (c : Nat) (m : Int) : (wcs p A1 c1 A2 c2 A3 c3 A l c m).all (·.oneCell') = true := by simp [Value.oneCell']
theorem w_cells {p : Prod} {A1 : Option Addr} {c1 : Nat} {A2 : Option Addr} {c2 : Nat} {A3 : Option Addr} {c3 : Nat} {A : Option Addr} {l : List Int} {c : Nat} {m : Int} {w : World} {g : Nat} {t : TypeId} (h : w.heap[g]? = some (.cells (wcs p A1 c1 A2 c2 A3 c3 A l c m) t (0, 0))) :
    w.cell? ⟨g, 1, none⟩ = some (.int .i64 p.count) ∧ w.cell? ⟨g, 2, none⟩ = some (.int .i64 p.round) ∧ w.cell? ⟨g, 5, none⟩ = some (.int .i64 p.times) ∧ w.cell? ⟨g, 6, none⟩ = some (.int .i64 p.grace) ∧ w.cell? ⟨g, 7, none⟩ = some (.int .i64 p.rate) ∧ w.cell? ⟨g, 19, none⟩ = some (.slice A l.length c) ∧ w.cell? ⟨g, 20, none⟩ = some (.int .i64 m) :=
  ⟨(blk_cell h 1).trans rfl, (blk_cell h 2).trans rfl, (blk_cell h 5).trans rfl, (blk_cell h 6).trans rfl, (blk_cell h 7).trans rfl, (blk_cell h 19).trans rfl, (blk_cell h 20).trans rfl⟩
theorem w_range {p : Prod} {A1 : Option Addr} {c1 : Nat} {A2 : Option Addr} {c2 : Nat} {A3 : Option Addr} {c3 : Nat} {A : Option Addr} {l : List Int} {c : Nat} {m : Int} {w : World} {g : Nat} {t : TypeId} (h : w.heap[g]? = some (.cells (wcs p A1 c1 A2 c2 A3 c3 A l c m) t (0, 0))) :
    w.rangeAt g 0 (pcs p A1 c1 A2 c2 A3 c3).toList := by
  intro j v hj
  rw [Array.getElem?_toList] at hj
  have hlt : j < (pcs p A1 c1 A2 c2 A3 c3).size := by
    rcases Nat.lt_or_ge j (pcs p A1 c1 A2 c2 A3 c3).size with h1 | h1
    · exact h1
    · rw [Array.getElem?_eq_none h1] at hj; cases hj
  rw [Nat.zero_add, blk_cell h j, show wcs p A1 c1 A2 c2 A3 c3 A l c m = pcs p A1 c1 A2 c2 A3 c3 ++ #[.slice A l.length c, .int .i64 m] from rfl, Array.getElem?_append_left hlt]
  exact hj
section
variable {P : Program} {ops : Array Oper} {rest : List Oper} {op : Oper} {a : Act} {w : World} {Q : Exit → Act → World → Prop}
theorem load_part (hgd : op.guard = none) (ty : TypeId) (x : Operand) (ho : op.op = .load ty x) (b : Nat) (hx : a.eval x = .pointer (some ⟨b, 0, none⟩)) (cs : Array Value) (d : TypeDesc) (hc : w.rangeAt b 0 cs.toList)
    (hu : P.underlying ty = some d) (hd : d.isRow = true) (hi : (P.info? ty).map (·.size) = some cs.size) (h : wpList P ops Q rest (a.put op.dst (.agg cs)) w) : wpList P ops Q (op :: rest) a w :=
  wpList_load_mid hgd ty x ho b 0 hx cs.toList d hc hu hd (by simpa using hi) (by simpa using h)
end
theorem fine_drop {l : List Int} {k : Nat} (h : k < l.length) : fine (l.drop k) = (decide (0 ≤ rd l (k : Int) ∧ rd l (k : Int) ≤ 267180) && fine (l.drop (k + 1))) := by
  unfold fine
  have e : rd l (k : Int) = l[k] := by simp [rd, h]
  rw [List.drop_eq_getElem_cons h, List.all_cons, e]
/-- What may says. -/
def AskP (p : Prod) (l : List Int) (m : Int) (w : World) (e : Ending) (w' : World) : Prop := e = .returned (.int .i64 (askE p l m)) ∧ Below w.heap.size w w'
set_option maxRecDepth 100000 in
set_option maxHeartbeats 2000000 in
theorem may_bad (p : Prod) (A1 : Option Addr) (c1 : Nat) (A2 : Option Addr) (c2 : Nat) (A3 : Option Addr) (c3 : Nat) (A : Option Addr) (l : List Int) (c : Nat) (m : Int) (w : World) (hg : GV w) (hp : ProdAt w p A1 c1 A2 c2 A3 c3) (hs : Small p) (hr : Kd.C (Kd.int .i64) w A l.length l) (hl : l.length ≤ 1000000) (ha : err p = 9) :
    Calls Try.prog 45 #[wv p A1 c1 A2 c2 A3 c3 A l c m] w (AskP p l m w) := by
  have hx : askE p l m = 9 := by unfold askE; rw [ha, if_pos (by decide)]
  unfold AskP
  rw [hx]
  clear hx
  have HG := Aside0.mk hg
  have HP := Aside0.mk hp
  have HS := Aside0.mk hs
  have HR := Aside0.mk hr
  have HA := Aside0.mk ha
  clear hg hp hs hr ha
  go_enter Try.func45, Try.ntmps45
  go_wp2_with (first
    | ((with_reducible refine gate_dst (N := 1) rfl ?_); refine box_event ?hg (N := 1) ?hd (cs := wcs p A1 c1 A2 c2 A3 c3 A l c m) (t := 83) ?hr ?_; (case hd => rfl); (case hg => rfl); (case hr => first | (go_simp; done) | (go_simp; rfl)); intro g1 hg w1 hbg1 hblg1; have g1ge := (show w.heap.size ≤ g1 by rw [hg]; exact Nat.le_refl _); clear hg; have HBg1 := Aside0.mk hbg1; have BLg1 := Aside0.mk hblg1; clear hbg1 hblg1)
    | ((with_reducible refine gate_dst (N := 7) rfl ?_); refine load_part rfl 27 (.tmp 6) rfl g1 rfl (pcs p A1 c1 A2 c2 A3 c3) _ (w_range HBg1.out) Try.underlying27 rfl info_prod ?_))
  refine (check_any p A1 c1 A2 c2 A3 c3 _ (HG.out.below BLg1.out) (HP.out.below BLg1.out) HS.out).mono ?_
  rintro e w2 ⟨rfl, hb⟩
  have B2 := Aside0.mk (below_step BLg1.out hb)
  obtain ⟨-, -, q5, -, -, q19, q20⟩ := w_cells (Pd.blk_below HBg1.out hb)
  have HR2 := Aside0.mk (Kd.C_below (Kd.C_below HR.out BLg1.out) hb)
  clear hb HBg1 BLg1
  rw [HA.out]
  go_wp2_with fail
  go_ret
  exact ⟨rfl, B2.out⟩
set_option maxRecDepth 100000 in
set_option maxHeartbeats 2000000 in
theorem may_arg (p : Prod) (A1 : Option Addr) (c1 : Nat) (A2 : Option Addr) (c2 : Nat) (A3 : Option Addr) (c3 : Nat) (A : Option Addr) (l : List Int) (c : Nat) (m : Int) (w : World) (hg : GV w) (hp : ProdAt w p A1 c1 A2 c2 A3 c3) (hs : Small p) (hr : Kd.C (Kd.int .i64) w A l.length l) (hl : l.length ≤ 1000000) (ha : err p = 0) (hn : ¬ (l.length : Int) = p.times ∨ ((l.length : Int) = p.times ∧ m < 1) ∨ ((l.length : Int) = p.times ∧ 1 ≤ m ∧ 10000000000000 < m)) :
    Calls Try.prog 45 #[wv p A1 c1 A2 c2 A3 c3 A l c m] w (AskP p l m w) := by
  have hx : askE p l m = 1 := by unfold askE; rw [ha, if_neg (by decide), if_neg (by omega)]
  unfold AskP
  rw [hx]
  clear hx
  have HG := Aside0.mk hg
  have HP := Aside0.mk hp
  have HS := Aside0.mk hs
  have HR := Aside0.mk hr
  have HA := Aside0.mk ha
  clear hg hp hs hr ha
  go_enter Try.func45, Try.ntmps45
  go_wp2_with (first
    | ((with_reducible refine gate_dst (N := 1) rfl ?_); refine box_event ?hg (N := 1) ?hd (cs := wcs p A1 c1 A2 c2 A3 c3 A l c m) (t := 83) ?hr ?_; (case hd => rfl); (case hg => rfl); (case hr => first | (go_simp; done) | (go_simp; rfl)); intro g1 hg w1 hbg1 hblg1; have g1ge := (show w.heap.size ≤ g1 by rw [hg]; exact Nat.le_refl _); clear hg; have HBg1 := Aside0.mk hbg1; have BLg1 := Aside0.mk hblg1; clear hbg1 hblg1)
    | ((with_reducible refine gate_dst (N := 7) rfl ?_); refine load_part rfl 27 (.tmp 6) rfl g1 rfl (pcs p A1 c1 A2 c2 A3 c3) _ (w_range HBg1.out) Try.underlying27 rfl info_prod ?_))
  refine (check_any p A1 c1 A2 c2 A3 c3 _ (HG.out.below BLg1.out) (HP.out.below BLg1.out) HS.out).mono ?_
  rintro e w2 ⟨rfl, hb⟩
  have B2 := Aside0.mk (below_step BLg1.out hb)
  obtain ⟨-, -, q5, -, -, q19, q20⟩ := w_cells (Pd.blk_below HBg1.out hb)
  have HR2 := Aside0.mk (Kd.C_below (Kd.C_below HR.out BLg1.out) hb)
  clear hb HBg1 BLg1
  rw [HA.out]
  rcases hn with h | ⟨h, h2⟩ | ⟨h, h2, h3⟩
  · have hb : ((l.length : Int) != p.times) = true := by simpa using h
    clear h
    go_wp2_with fail
    go_ret
    exact ⟨rfl, B2.out⟩
  all_goals
    have hb : ((l.length : Int) != p.times) = false := by simpa using h
    clear h
    go_wp2_with fail
    go_ret
    exact ⟨rfl, B2.out⟩
set_option maxRecDepth 100000 in
set_option maxHeartbeats 2000000 in
theorem may_loop (p : Prod) (A1 : Option Addr) (c1 : Nat) (A2 : Option Addr) (c2 : Nat) (A3 : Option Addr) (c3 : Nat) (A : Option Addr) (l : List Int) (c : Nat) (m : Int) (w : World) (hg : GV w) (hp : ProdAt w p A1 c1 A2 c2 A3 c3) (hs : Small p) (hr : Kd.C (Kd.int .i64) w A l.length l) (hl : l.length ≤ 1000000) (ha : err p = 0) (h1 : (l.length : Int) = p.times) (h2 : 1 ≤ m) (h3 : m ≤ 10000000000000) :
    Calls Try.prog 45 #[wv p A1 c1 A2 c2 A3 c3 A l c m] w (AskP p l m w) := by
  have hx : askE p l m = if fine l = true then 0 else 1 := by
    unfold askE
    rw [ha, if_neg (by decide)]
    by_cases hf : fine l = true
    · rw [if_pos hf, if_pos ⟨h1, h2, h3, hf⟩]
    · rw [if_neg hf, if_neg (fun h => hf h.2.2.2)]
  unfold AskP
  obtain ⟨v, hv⟩ : ∃ v, (if fine l = true then (0 : Int) else 1) = v := ⟨_, rfl⟩
  rw [hx, hv]
  have HV := Aside0.mk hv
  clear hx hv
  have hb : ((l.length : Int) != p.times) = false := by simpa using h1
  clear h1
  have HG := Aside0.mk hg
  have HP := Aside0.mk hp
  have HS := Aside0.mk hs
  have HR := Aside0.mk hr
  have HA := Aside0.mk ha
  clear hg hp hs hr ha
  go_enter Try.func45, Try.ntmps45
  go_wp2_with (first
    | ((with_reducible refine gate_dst (N := 1) rfl ?_); refine box_event ?hg (N := 1) ?hd (cs := wcs p A1 c1 A2 c2 A3 c3 A l c m) (t := 83) ?hr ?_; (case hd => rfl); (case hg => rfl); (case hr => first | (go_simp; done) | (go_simp; rfl)); intro g1 hg w1 hbg1 hblg1; have g1ge := (show w.heap.size ≤ g1 by rw [hg]; exact Nat.le_refl _); clear hg; have HBg1 := Aside0.mk hbg1; have BLg1 := Aside0.mk hblg1; clear hbg1 hblg1)
    | ((with_reducible refine gate_dst (N := 7) rfl ?_); refine load_part rfl 27 (.tmp 6) rfl g1 rfl (pcs p A1 c1 A2 c2 A3 c3) _ (w_range HBg1.out) Try.underlying27 rfl info_prod ?_))
  refine (check_any p A1 c1 A2 c2 A3 c3 _ (HG.out.below BLg1.out) (HP.out.below BLg1.out) HS.out).mono ?_
  rintro e w2 ⟨rfl, hb⟩
  have B2 := Aside0.mk (below_step BLg1.out hb)
  obtain ⟨-, -, q5, -, -, q19, q20⟩ := w_cells (Pd.blk_below HBg1.out hb)
  have HR2 := Aside0.mk (Kd.C_below (Kd.C_below HR.out BLg1.out) hb)
  clear hb HBg1 BLg1
  rw [HA.out]
  go_wp2_with fail
  go_loopg [32] (l.length + 1) (fun gq iv w' => ∃ (k : Nat), k ≤ l.length ∧ iv = .int .i64 (k : Int) ∧ Aside0 (gq = l.length + 1 - k) ∧ Aside0 ((if fine (l.drop k) = true then (0 : Int) else 1) = v) ∧ w' = w2)
  case atStart => exact ⟨0, by omega, rfl, ⟨rfl⟩, ⟨by rw [List.drop_zero]; exact HV.out⟩, rfl⟩
  case round =>
    obtain ⟨k, hk, rfl, hgq, hv, rfl⟩ := hrel
    by_cases hlt : k < l.length
    · obtain ⟨ad0, e0, hx0⟩ := Kd.at_int HR2.out (k : Int) (by omega) (by omega)
      cases e0
      simp only [Int.toNat_natCast] at hx0
      have hf := fine_drop hlt
      obtain ⟨d, hd⟩ : ∃ d, rd l (k : Int) = d := ⟨_, rfl⟩
      rw [hd] at hx0 hf
      rcases (by omega : d < 0 ∨ (0 ≤ d ∧ 267180 < d) ∨ (0 ≤ d ∧ d ≤ 267180)) with c0 | ⟨c0, c1⟩ | ⟨c0, c1⟩
      · have hv1 := hv.out
        rw [hf, decide_eq_false (by omega), Bool.false_and, if_neg (by decide)] at hv1
        have HV1 := Aside0.mk hv1
        clear hv1 hf hd hv
        go_wp2_with fail
        go_ret
        obtain rfl := HV1.out
        exact ⟨rfl, B2.out⟩
      · have hv1 := hv.out
        rw [hf, decide_eq_false (by omega), Bool.false_and, if_neg (by decide)] at hv1
        have HV1 := Aside0.mk hv1
        clear hv1 hf hd hv
        go_wp2_with fail
        go_ret
        obtain rfl := HV1.out
        exact ⟨rfl, B2.out⟩
      · have hv1 := hv.out
        rw [hf, decide_eq_true ⟨c0, c1⟩, Bool.true_and] at hv1
        have HV1 := Aside0.mk hv1
        clear hv1 hf hd hv
        go_wp2_with fail
        go_roundg (l.length + 1 - (k + 1))
        case measure => have := hgq.out; omega
        case rel => exact ⟨k + 1, by omega, by simp, ⟨rfl⟩, ⟨HV1.out⟩, rfl⟩
    · have hv1 := hv.out
      rw [List.drop_of_length_le (by omega)] at hv1
      have HV1 := Aside0.mk (show (0 : Int) = v by simpa [fine] using hv1)
      clear hv1 hv
      go_wp2_with fail
      go_ret
      obtain rfl := HV1.out
      exact ⟨rfl, B2.out⟩
theorem may_any (p : Prod) (A1 : Option Addr) (c1 : Nat) (A2 : Option Addr) (c2 : Nat) (A3 : Option Addr) (c3 : Nat) (A : Option Addr) (l : List Int) (c : Nat) (m : Int) (w : World) (hg : GV w) (hp : ProdAt w p A1 c1 A2 c2 A3 c3) (hs : Small p) (hr : Kd.C (Kd.int .i64) w A l.length l) (hl : l.length ≤ 1000000) : Calls Try.prog 45 #[wv p A1 c1 A2 c2 A3 c3 A l c m] w (AskP p l m w) := by
  rcases err_two p with ha | ha
  · by_cases h : (l.length : Int) = p.times ∧ 1 ≤ m ∧ m ≤ 10000000000000
    · exact may_loop p A1 c1 A2 c2 A3 c3 A l c m w hg hp hs hr hl ha h.1 h.2.1 h.2.2
    · exact may_arg p A1 c1 A2 c2 A3 c3 A l c m w hg hp hs hr hl ha (by omega)
  · exact may_bad p A1 c1 A2 c2 A3 c3 A l c m w hg hp hs hr hl ha
end Go.Proofs.Ytfmkdledofbhdaa.Lv
/- Plain: days rolled lie near; parts between instalments are two years at most. -/
namespace Go.Proofs.Ytfmkdledofbhdaa.Lv
open Go.RowKit Go.Proofs.YtfmkdledofbhdaaW.PrintWords Go.Proofs.YtfmkdledofbhdaaW.PrintLast Go.Proofs.YtfmkdledofbhdaaW.PrintMore Go.Proofs.Ytfmkdledofbhdaa.HW
open Go.Proofs.Ytfmkdledofbhdaa.Math Go.Proofs.Ytfmkdledofbhdaa.H Go.Proofs.Ytfmkdledofbhdaa.Pd Go.Proofs.Ytfmkdledofbhdaa.Du Pm
set_option linter.unusedVariables false
set_option linter.unusedSimpArgs false
/-- Where a day may be rolled. -/
def RB (how day x : Int) : Prop := how = 1 ∧ x = day ∨ how = 2 ∧ day ≤ x ∧ x ≤ day + 290 ∨ how = 4 ∧ day - 290 ≤ x ∧ x ≤ day ∨ how = 3 ∧ day - 290 ≤ x ∧ x ≤ day + 31
theorem actual_most : ∀ (k : Nat) {a : Int}, isDay a → isDay (a + k) → actual (a + k) ≤ actual a + 366 * k
  | 0, a, _, _ => by simp
  | k + 1, a, ha, hb => by
    obtain ⟨a1, a2⟩ := id ha
    obtain ⟨b1, b2⟩ := id hb
    have hm : isDay (a + k) := ⟨by omega, by omega⟩
    have hb' : isDay (a + k + 1) := ⟨by omega, by omega⟩
    have ih := actual_most k ha hm
    have hs := actual_succ hm hb'
    have hl := leap_01 (yearOf (a + k))
    rw [show a + ((k + 1 : Nat) : Int) = a + k + 1 by omega]
    omega
theorem thirty_le {a b : Int} (ha : isDay a) (hb : isDay b) (h : a ≤ b) : thirty a ≤ thirty b := by
  obtain ⟨y1, y2, m1, m2, d1, d2⟩ := date_bd ha
  obtain ⟨y3, y4, m3, m4, d3, d4⟩ := date_bd hb
  obtain ⟨_, _, f1, f2, f3, _⟩ := idx_spec ha
  obtain ⟨_, _, g1, g2, g3, _⟩ := idx_spec hb
  have ei : idx a = 12 * yearOf a + monthOf a - 1 := rfl
  have ej : idx b = 12 * yearOf b + monthOf b - 1 := rfl
  unfold thirty
  rw [if_pos ha, if_pos hb]
  rcases (by omega : idx a < idx b ∨ idx a = idx b ∨ idx b < idx a) with h1 | h1 | h1
  · omega
  · have := dayAt_mono (t := idx b) (d := dayOf b) (d' := dayOf a)
    rw [h1] at f3
    omega
  · have := dayAt_less h1 f1 g2
    omega
end Go.Proofs.Ytfmkdledofbhdaa.Lv
/- Contracts by hand: level: what an instalment leaves. -/
namespace Go.Proofs.Ytfmkdledofbhdaa.Lv
open Go.RowKit Go.Proofs.YtfmkdledofbhdaaW.PrintWords Go.Proofs.YtfmkdledofbhdaaW.PrintLast Go.Proofs.YtfmkdledofbhdaaW.PrintMore Go.Proofs.Ytfmkdledofbhdaa.HW
open Pm Pd
set_option linter.unusedVariables false
set_option linter.unusedSimpArgs false
open Go.Proofs.Ytfmkdledofbhdaa.H
theorem good_in {W h rest bal : Int} (G : H.Good W h rest) (b0 : 0 < bal) (b1 : bal ≤ 1000000000000000) : In W h rest bal := ⟨by have := G.w0; omega, b0, b1, G.r0, G.r1⟩
theorem bear_bd {W h rest bal rate n : Int} (G : H.Good W h rest) (b0 : 0 < bal) (b1 : bal ≤ 1000000000000000) : 0 ≤ (Gm.bear W h rest bal rate n).1 ∧ (Gm.bear W h rest bal rate n).1 ≤ 1000000000000000 := by
  by_cases e : (Gm.bear W h rest bal rate n).2.1 = 0
  · obtain ⟨_, hq, he⟩ := bear_ok e
    refine ⟨(bear_in (good_in G b0 b1) e).1, ?_⟩
    rw [he]; exact hq
  · rw [bear_eq] at e ⊢
    split at e
    · rename_i h
      rw [if_pos h]
      split at e
      · simp at e
      · rename_i h2
        rw [if_neg h2]; simp
    · rename_i h
      rw [if_neg h]; simp
theorem wk_cons {W h rate gr x : Int} {i : Int} {n : Int} {l : List Int} {bal rest : Int} {z : Int × Int × Int} (hz : Gm.bear W h rest bal rate n = z) :
    wk W h rate gr x i (n :: l) bal rest = if z.2.1 ≠ 0 then 1000000000000001 else if i < gr then wk W h rate gr x (i + 1) l bal z.2.2 else if bal + (z.1 - x) ≤ 0 then bal + (z.1 - x) else if 1000000000000000 < bal + (z.1 - x) then 1000000000000001 else wk W h rate gr x (i + 1) l (bal + (z.1 - x)) z.2.2 := by
  rw [wk, hz]
set_option maxRecDepth 100000 in
set_option maxHeartbeats 4000000 in
theorem left_any (p : Prod) (A1 : Option Addr) (c1 : Nat) (A2 : Option Addr) (c2 : Nat) (A3 : Option Addr) (c3 : Nat) (A : Option Addr) (l : List Int) (c : Nat) (m : Int) (x : Int) (w : World) (hc : 1 ≤ p.count ∧ p.count ≤ 3) (hrd : p.round = 1 ∨ p.round = 3) (hra : 0 ≤ p.rate ∧ p.rate ≤ 1000000000) (hgr : 0 ≤ p.grace ∧ p.grace ≤ 600) (hr : Kd.C (Kd.int .i64) w A l.length l) (hl : l.length ≤ 1000000) (hm0 : 1 ≤ m) (hm1 : m ≤ 10000000000000) (x0 : 0 ≤ x) (x1 : x ≤ 1000000000000000) :
    Calls Try.prog 46 #[wv p A1 c1 A2 c2 A3 c3 A l c m, .int .i64 x] w fun e w' => e = .returned (.int .i64 (wk (Gm.whole p.count) (Gm.half p.count p.round) p.rate p.grace x 0 l m 0)) ∧ Below w.heap.size w w' := by
  have HR := Aside0.mk hr
  have HN := Aside0.mk (fun W => bnew_any (c := p.count) (r := p.round) (by omega) hrd W)
  have GN := good_new p.count p.round
  obtain ⟨v, hv⟩ : ∃ v, wk (Gm.whole p.count) (Gm.half p.count p.round) p.rate p.grace x 0 l m 0 = v := ⟨_, rfl⟩
  rw [hv]
  have HV := Aside0.mk hv
  clear hr hc hrd hv
  obtain ⟨Wh, hWh⟩ : ∃ y, Gm.whole p.count = y := ⟨_, rfl⟩
  obtain ⟨Hf, hHf⟩ : ∃ y, Gm.half p.count p.round = y := ⟨_, rfl⟩
  rw [hWh, hHf] at GN HV
  have HWh := Aside0.mk hWh
  have HHf := Aside0.mk hHf
  clear hWh hHf
  have GG := Aside0.mk GN
  clear GN
  go_enter Try.func46, Try.ntmps46
  go_wp2_with ((with_reducible refine gate_dst (N := 2) rfl ?_); refine box_event ?hg (N := 2) ?hd (cs := wcs p A1 c1 A2 c2 A3 c3 A l c m) (t := 83) ?hr ?_; (case hd => rfl); (case hg => rfl); (case hr => first | (go_simp; done) | (go_simp; rfl)); intro g1 hg w1 hbg1 hblg1; have g1ge := (show w.heap.size ≤ g1 by rw [hg]; exact Nat.le_refl _); clear hg; have HBg1 := Aside0.mk hbg1; have BLg1 := Aside0.mk hblg1; obtain ⟨u1, u2, -, -, -, -, -⟩ := w_cells hbg1; clear hbg1 hblg1)
  refine (HN.out _).mono ?_
  rintro e w2 ⟨hb, gb, hgb, rfl, hba⟩
  rw [HWh.out, HHf.out] at hba
  have B2 := Aside0.mk (below_step BLg1.out hb)
  have hne : g1 ≠ gb := by have := Pd.blk_below HBg1.out (Below.refl _ _); have := blk_lt HBg1.out; omega
  have HB2 := Aside0.mk (Pd.blk_below HBg1.out hb)
  have gbge : w.heap.size ≤ gb := Nat.le_trans BLg1.out.size hgb
  have BA := Aside0.mk hba
  obtain ⟨-, -, -, -, -, u19, u20⟩ := w_cells HB2.out
  clear hb hgb hba HBg1 BLg1 u1 u2 HN
  go_wp2_with fail
  clear u20
  go_loopg [7, 27] (l.length + 1) (fun gq bv iv w' => ∃ (k : Nat) (bal rest : Int), k ≤ l.length ∧ iv = .int .i64 (k : Int) ∧ bv = .int .i64 bal ∧ 0 < bal ∧ bal ≤ 1000000000000000 ∧ Aside0 (gq = l.length + 1 - k) ∧ Aside0 (wk Wh Hf p.rate p.grace x (k : Int) (l.drop k) bal rest = v) ∧ Aside0 (BearAt w' gb Wh Hf rest) ∧ Aside0 (H.Good Wh Hf rest) ∧ Aside0 (w'.heap[g1]? = some (.cells (wcs p A1 c1 A2 c2 A3 c3 A l c m) 83 (0, 0))) ∧ Aside0 (Below w.heap.size w w'))
  case atStart => exact ⟨0, m, 0, by omega, rfl, rfl, by omega, by omega, ⟨rfl⟩, ⟨by rw [List.drop_zero]; exact HV.out⟩, BA, GG, HB2, B2⟩
  case round =>
    obtain ⟨k, bal, rest, hk, rfl, rfl, b0, b1, hgq, HW, BA, GG, HB, BB⟩ := hrel
    clear HV B2 HB2 u19
    by_cases hlt : k < l.length
    · obtain ⟨ad0, e0, hx0⟩ := Kd.at_int HR.out (k : Int) (by omega) (by omega)
      cases e0
      simp only [Int.toNat_natCast] at hx0
      have hx1 := (BB.out.cell (cell_ltR hx0)).trans hx0
      obtain ⟨-, -, -, u6, u7, -, -⟩ := w_cells HB.out
      have hd : l.drop k = rd l (k : Int) :: l.drop (k + 1) := by rw [List.drop_eq_getElem_cons hlt]; simp [rd, hlt]
      have hw := HW.out
      rw [hd] at hw
      obtain ⟨d, hdd⟩ : ∃ d, rd l (k : Int) = d := ⟨_, rfl⟩
      rw [hdd] at hw hx1
      obtain ⟨z, hz⟩ : ∃ z, Gm.bear Wh Hf rest bal p.rate d = z := ⟨_, rfl⟩
      rw [wk_cons hz] at hw
      have zb := bear_bd (rate := p.rate) (n := d) GG.out b0 b1
      have G2 := good_bear (bal := bal) (rate := p.rate) (n := d) GG.out
      have RB := Aside0.mk (bear_any (bal := bal) (rate := p.rate) (n := d) BA.out GG.out)
      rw [hz] at zb G2 RB
      have GG2 := Aside0.mk G2
      have HW2 := Aside0.mk hw
      clear hx0 hd hdd hz hw G2 HW
      obtain ⟨z1, z2, z3⟩ := z
      simp only [] at zb GG2 RB HW2
      go_wp2_with fail
      refine RB.out.mono ?_
      rintro e w3 ⟨rfl, hba, hbut⟩
      have BA3 := Aside0.mk hba
      have HB3 := Aside0.mk ((hbut.block g1 (blk_lt HB.out) hne).trans HB.out)
      have BB3 := Aside0.mk (But.below BB.out BB.out.size gbge hbut)
      obtain ⟨-, -, -, u6, -, -, -⟩ := w_cells HB3.out
      clear hba hbut BA HB BB RB u7 hx1
      by_cases hz2 : z2 = 0
      · subst hz2
        have hw := HW2.out
        rw [if_neg (by simp)] at hw
        by_cases hi : (k : Int) < p.grace
        · rw [if_pos hi] at hw
          have HW3 := Aside0.mk hw
          clear hw HW2
          go_wp2_with fail
          go_roundg (l.length + 1 - (k + 1))
          case measure => have := hgq.out; omega
          case rel => exact ⟨k + 1, bal, z3, by omega, by simp, rfl, b0, b1, ⟨rfl⟩, ⟨by exact HW3.out⟩, BA3, GG2, HB3, BB3⟩
        · rw [if_neg hi] at hw
          obtain ⟨nb, hnb⟩ : ∃ nb, bal + (z1 - x) = nb := ⟨_, rfl⟩
          rw [hnb] at hw
          have s1 : IntKind.i64.wrap (z1 - x) = z1 - x := IntWalk.i64_in _ (by omega)
          have s2 : IntKind.i64.wrap (bal + (z1 - x)) = nb := by rw [hnb]; exact IntWalk.i64_in _ (by omega)
          have nb1 : nb ≤ 2000000000000000 := by omega
          clear hnb HW2
          rcases (by omega : nb ≤ 0 ∨ (0 < nb ∧ 1000000000000000 < nb) ∨ (0 < nb ∧ nb ≤ 1000000000000000)) with h1 | ⟨h1, h2⟩ | ⟨h1, h2⟩
          · rw [if_pos h1] at hw
            have HW3 := Aside0.mk hw
            clear hw
            go_wp2_with fail
            go_ret
            obtain rfl := HW3.out
            exact ⟨rfl, BB3.out⟩
          · rw [if_neg (by omega), if_pos h2] at hw
            have HW3 := Aside0.mk hw
            clear hw
            go_wp2_with fail
            go_ret
            obtain rfl := HW3.out
            exact ⟨rfl, BB3.out⟩
          · rw [if_neg (by omega), if_neg (by omega)] at hw
            have HW3 := Aside0.mk hw
            clear hw
            go_wp2_with fail
            go_roundg (l.length + 1 - (k + 1))
            case measure => have := hgq.out; omega
            case rel => exact ⟨k + 1, nb, z3, by omega, by simp, rfl, h1, h2, ⟨rfl⟩, ⟨by exact HW3.out⟩, BA3, GG2, HB3, BB3⟩
      · have hw := HW2.out
        rw [if_pos hz2] at hw
        have HW3 := Aside0.mk hw
        have hzb : (z2 != 0) = true := by simpa using hz2
        clear hw hz2 HW2
        go_wp2_with fail
        go_ret
        obtain rfl := HW3.out
        exact ⟨rfl, BB3.out⟩
    · have hw := HW.out
      rw [List.drop_of_length_le (by omega)] at hw
      have HW3 := Aside0.mk (show bal = v from hw)
      clear hw HW
      go_wp2_with fail
      go_ret
      obtain rfl := HW3.out
      exact ⟨rfl, BB.out⟩
end Go.Proofs.Ytfmkdledofbhdaa.Lv
/- Contracts by hand: level: the least instalment that leaves nothing. -/
namespace Go.Proofs.Ytfmkdledofbhdaa.Lv
open Go.RowKit Go.Proofs.YtfmkdledofbhdaaW.PrintWords Go.Proofs.YtfmkdledofbhdaaW.PrintLast Go.Proofs.YtfmkdledofbhdaaW.PrintMore Go.Proofs.Ytfmkdledofbhdaa.HW
open Pm Pd
set_option linter.unusedVariables false
set_option linter.unusedSimpArgs false
open Go.Proofs.Ytfmkdledofbhdaa.H
/-- Thrown: there is none. -/
abbrev noneE : Ending := .panicked [{ v := .iface 89 (.agg #[]), recovered := false }]
set_option maxRecDepth 100000 in
set_option maxHeartbeats 2000000 in
theorem least_no (p : Prod) (A1 : Option Addr) (c1 : Nat) (A2 : Option Addr) (c2 : Nat) (A3 : Option Addr) (c3 : Nat) (A : Option Addr) (l : List Int) (c : Nat) (m : Int) (f : Int → Int) (w : World) (LEFT : ∀ (x : Int) (W : World), 0 ≤ x → x ≤ 1000000000000000 → Below w.heap.size w W → Calls Try.prog 46 #[wv p A1 c1 A2 c2 A3 c3 A l c m, .int .i64 x] W fun e w' => e = .returned (.int .i64 (f x)) ∧ Below W.heap.size W w') (hf : 0 < f 1000000000000000) :
    Calls Try.prog 50 #[.func (.func 46) #[wv p A1 c1 A2 c2 A3 c3 A l c m] #[]] w fun e w' => e = noneE ∧ Below w.heap.size w w' := by
  have HL := Aside0.mk (LEFT 1000000000000000 w (by decide) (by decide) (Below.refl _ _))
  clear LEFT
  obtain ⟨y, hy⟩ : ∃ y, f 1000000000000000 = y := ⟨_, rfl⟩
  rw [hy] at hf HL
  clear hy
  go_enter Try.func50, Try.ntmps50
  go_wp2_with fail
  refine HL.out.mono ?_
  rintro e w1 ⟨rfl, hb⟩
  have B1 := Aside0.mk hb
  clear hb HL
  go_wp2_with fail
  exact ⟨rfl, rfl, B1.out⟩
set_option maxRecDepth 100000 in
set_option maxHeartbeats 4000000 in
theorem least_yes (p : Prod) (A1 : Option Addr) (c1 : Nat) (A2 : Option Addr) (c2 : Nat) (A3 : Option Addr) (c3 : Nat) (A : Option Addr) (l : List Int) (c : Nat) (m : Int) (f : Int → Int) (w : World) (LEFT : ∀ (x : Int) (W : World), 0 ≤ x → x ≤ 1000000000000000 → Below w.heap.size w W → Calls Try.prog 46 #[wv p A1 c1 A2 c2 A3 c3 A l c m, .int .i64 x] W fun e w' => e = .returned (.int .i64 (f x)) ∧ Below W.heap.size W w') (hf : f 1000000000000000 ≤ 0) :
    Calls Try.prog 50 #[.func (.func 46) #[wv p A1 c1 A2 c2 A3 c3 A l c m] #[]] w fun e w' => e = .returned (.int .i64 (srch f 50 0 1000000000000000)) ∧ Below w.heap.size w w' := by
  have HL := Aside0.mk (LEFT 1000000000000000 w (by decide) (by decide) (Below.refl _ _))
  have LE := Aside0.mk LEFT
  obtain ⟨v, hv⟩ : ∃ v, srch f 50 0 1000000000000000 = v := ⟨_, rfl⟩
  rw [hv]
  have HV := Aside0.mk hv
  clear LEFT hv
  obtain ⟨y, hy⟩ : ∃ y, f 1000000000000000 = y := ⟨_, rfl⟩
  rw [hy] at hf HL
  clear hy
  go_enter Try.func50, Try.ntmps50
  go_wp2_with fail
  refine HL.out.mono ?_
  rintro e w1 ⟨rfl, hb⟩
  have B1 := Aside0.mk hb
  clear hb HL
  go_wp2_with fail
  clear hf
  go_loopg [3, 4] 50 (fun gq lv hv w' => ∃ (lo hi : Int), lv = .int .i64 lo ∧ hv = .int .i64 hi ∧ 0 ≤ lo ∧ lo < hi ∧ hi ≤ 1000000000000000 ∧ Aside0 (hi - lo ≤ 2 ^ gq) ∧ Aside0 (srch f gq lo hi = v) ∧ Aside0 (Below w.heap.size w w'))
  case atStart => exact ⟨0, 1000000000000000, rfl, rfl, by decide, by decide, by decide, ⟨by decide⟩, HV, B1⟩
  case round =>
    obtain ⟨lo, hi, rfl, rfl, l0, l1, h1, hp, hs, BB⟩ := hrel
    obtain ⟨dd, hdd⟩ : ∃ dd, hi - lo = dd := ⟨_, rfl⟩
    have s1 : IntKind.i64.wrap (hi - lo) = dd := by rw [← hdd]; exact IntWalk.i64_in _ (by omega)
    by_cases hc : 1 < dd
    · obtain ⟨j, hj⟩ : ∃ j, gk = j + 1 := by
        cases gk with
        | zero => have := hp.out; simp at this; omega
        | succ j => exact ⟨j, rfl⟩
      have hs1 := hs.out
      have hp1 := hp.out
      rw [hj, srch, hdd, if_pos hc] at hs1
      rw [hj, Int.pow_succ] at hp1
      obtain ⟨q, hq⟩ : ∃ q, Int.tdiv dd 2 = q := ⟨_, rfl⟩
      have hqd : q = dd / 2 := by rw [← hq]; exact Int.tdiv_eq_ediv_of_nonneg (by omega)
      rw [hq] at hs1
      obtain ⟨mid, hm⟩ : ∃ mid, lo + q = mid := ⟨_, rfl⟩
      rw [hm] at hs1
      have s2 : IntKind.i64.wrap (Int.tdiv dd 2) = q := by rw [hq]; exact IntWalk.i64_in _ (by omega)
      have s3 : IntKind.i64.wrap (lo + q) = mid := by rw [hm]; exact IntWalk.i64_in _ (by omega)
      have m0 : 0 ≤ mid := by omega
      have m1 : lo < mid := by omega
      have m2 : mid < hi := by omega
      have p1 : mid - lo ≤ 2 ^ j := by omega
      have p2 : hi - mid ≤ 2 ^ j := by omega
      have P1 := Aside0.mk p1
      have P2 := Aside0.mk p2
      have HJ := Aside0.mk hj
      have HS := Aside0.mk hs1
      have HL := Aside0.mk (LE.out mid wr m0 (by omega) BB.out)
      obtain ⟨y, hy⟩ : ∃ y, f mid = y := ⟨_, rfl⟩
      rw [hy] at HL HS
      clear hs hp hs1 hp1 hq hqd hm hdd p1 p2 hj hy
      go_wp2_with fail
      refine HL.out.mono ?_
      rintro e w3 ⟨rfl, hb⟩
      have B3 := Aside0.mk (below_step BB.out hb)
      clear hb HL BB
      by_cases hc2 : 0 < y
      · have hs2 := HS.out
        rw [if_pos hc2] at hs2
        have HS2 := Aside0.mk hs2
        clear hs2 HS
        go_wp2_with fail
        go_roundg j
        case measure => have := HJ.out; omega
        case rel => exact ⟨mid, hi, rfl, rfl, m0, m2, h1, P2, HS2, B3⟩
      · have hs2 := HS.out
        rw [if_neg hc2] at hs2
        have HS2 := Aside0.mk hs2
        clear hs2 HS
        go_wp2_with fail
        go_roundg j
        case measure => have := HJ.out; omega
        case rel => exact ⟨lo, mid, rfl, rfl, l0, m1, by omega, P1, HS2, B3⟩
    · have hs1 := hs.out
      have he : hi = v := by
        cases gk with
        | zero => exact hs1
        | succ j => rw [srch, hdd, if_neg hc] at hs1; exact hs1
      have HE := Aside0.mk he
      clear hs hs1 hp hdd he
      go_wp2_with fail
      go_ret
      obtain rfl := HE.out
      exact ⟨rfl, BB.out⟩
end Go.Proofs.Ytfmkdledofbhdaa.Lv
/- Contracts by hand: level.Left and level.Of. -/
namespace Go.Proofs.Ytfmkdledofbhdaa.Lv
open Go.RowKit Go.Proofs.YtfmkdledofbhdaaW.PrintWords Go.Proofs.YtfmkdledofbhdaaW.PrintLast Go.Proofs.YtfmkdledofbhdaaW.PrintMore Go.Proofs.Ytfmkdledofbhdaa.HW
open Pm Pd
set_option linter.unusedVariables false
set_option linter.unusedSimpArgs false
open Go.Proofs.Ytfmkdledofbhdaa.H
theorem of_idle (pv_ pe : Addr) (w : World) :
    CallsD Try.prog 49 #[.pointer (some pv_), .pointer (some pe)] .returning w fun e u' w' => e = .returned (.tuple #[]) ∧ u' = .returning ∧ w' = w := by
  refine callsD_of_wpS Try.func49 rfl fun c₀ cs hu => ?_
  simp only [Try.ntmps49, List.size_toArray, List.length_cons, List.length_nil, Nat.reduceAdd, Nat.reduceSub, Array.replicate_succ, Array.replicate_zero, List.push_toArray, List.append_toArray, List.nil_append, List.cons_append]
  apply wpS_seq
  apply wpS_region
  simp [wpOpsS, go_sem, recoverD, hu, Exit.thenS]
  refine rest_plainP fun Q HQ => ?_
  go_wp2
  refine HQ.out _ _ _ ?_
  clear HQ
  simp [bodyPostS, results, Try.results49, hu]
  cases c₀
  simp_all
theorem of_thrown (pv_ pe : Addr) (x y : Int) (older : List PanicEntry) (w : World) (hne : pv_.block ≠ pe.block) (hx : w.cell? pv_ = some (.int .i64 x)) (hy : w.cell? pe = some (.int .i64 y)) (fx : w.frozen? pv_ = false) (fy : w.frozen? pe = false) :
    CallsD Try.prog 49 #[.pointer (some pv_), .pointer (some pe)] (.panicking ({ v := .iface 89 (.agg #[]), recovered := false } :: older)) w fun e u' w' =>
      e = .returned (.tuple #[]) ∧ u' = .panicking ({ v := .iface 89 (.agg #[]), recovered := true } :: older) ∧ w' = ((w.alloc (.cells #[] 89)).setCell pv_ (.int .i64 0)).setCell pe (.int .i64 10) := by
  refine callsD_of_wpS Try.func49 rfl fun c₀ cs hu => ?_
  simp only [Try.ntmps49, List.size_toArray, List.length_cons, List.length_nil, Nat.reduceAdd, Nat.reduceSub, Array.replicate_succ, Array.replicate_zero, List.push_toArray, List.append_toArray, List.nil_append, List.cons_append]
  apply wpS_seq
  apply wpS_region
  simp [wpOpsS, go_sem, recoverD, hu, Exit.thenS]
  refine rest_plainP fun Q HQ => ?_
  have hta : ∀ w, (Instr.typeAssert (.iface 89 (.agg #[])) 20 89 true).run Try.prog w = .ok (.tuple #[.agg #[], .bool true]) w := fun _ => by kernel_rfl
  have hltx := cell_ltR hx
  have hlty := cell_ltR hy
  have hb := (Below.refl w.heap.size w).alloc (Nat.le_refl _) (.cells #[] 89)
  have hx2 : (w.alloc (.cells #[] 89)).cell? pv_ = some (.int .i64 x) := by rw [hb.cell hltx]; exact hx
  have fx2 : (w.alloc (.cells #[] 89)).frozen? pv_ = false := by rw [hb.frozen hltx]; exact fx
  have hy1 : (w.alloc (.cells #[] 89)).cell? pe = some (.int .i64 y) := by rw [hb.cell hlty]; exact hy
  have hy2 : ((w.alloc (.cells #[] 89)).setCell pv_ (.int .i64 0)).cell? pe = some (.int .i64 y) := by rw [World.cell?_setCell_other]; exact hy1; exact fun e => hne (by rw [e])
  have fy2 : (w.alloc (.cells #[] 89)).frozen? pe = false := by rw [hb.frozen hlty]; exact fy
  clear hb hy1
  go_wp2
  refine HQ.out _ _ _ ?_
  clear HQ
  simp [bodyPostS, results, Try.results49, hu]
theorem built_walk (p : Prod) (A1 : Option Addr) (c1 : Nat) (A2 : Option Addr) (c2 : Nat) (A3 : Option Addr) (c3 : Nat) (A : Option Addr) (l : List Int) (c : Nat) (m : Int) :
    Try.prog.built 83 [(0, .agg (pcs p A1 c1 A2 c2 A3 c3)), (1, .slice A l.length c), (2, .int .i64 m)] = some (wcs p A1 c1 A2 c2 A3 c3 A l c m) := by kernel_rfl
/-- What is known of what may be asked. -/
theorem ask_known {p : Prod} {l : List Int} {m : Int} (h : askE p l m = 0) : (1 ≤ p.count ∧ p.count ≤ 3) ∧ (p.round = 1 ∨ p.round = 3) ∧ (0 ≤ p.rate ∧ p.rate ≤ 1000000000) ∧ (0 ≤ p.grace ∧ p.grace ≤ 600) ∧ 1 ≤ m ∧ m ≤ 10000000000000 := by
  unfold askE at h
  split at h
  · simp at h
  · rename_i h1
    split at h
    · rename_i h2
      have hk : ok p = true := by
        rcases err_two p with e | e
        · unfold err at e; split at e; assumption; simp at e
        · exact absurd e (fun e => h1 (by rw [e]; decide))
      simp only [ok, shapeOk, ratesOk, ordOk, lateOk, daysOk, Bool.and_eq_true, decide_eq_true_eq] at hk
      obtain ⟨⟨⟨⟨⟨_, b1, b2, b3, b4, b5, b6, b7⟩, ⟨d1, _⟩, _⟩, _⟩, _⟩, _⟩ := hk
      exact ⟨b1, b2, d1, ⟨b6.1, by omega⟩, h2.2.1, h2.2.2.1⟩
    · simp at h
/-- What an instalment leaves of what is asked. -/
def lf (p : Prod) (l : List Int) (m : Int) (x : Int) : Int := wk (Gm.whole p.count) (Gm.half p.count p.round) p.rate p.grace x 0 l m 0
def ofE (p : Prod) (l : List Int) (m : Int) : Int × Int := if askE p l m ≠ 0 then (0, askE p l m) else if 0 < lf p l m 1000000000000000 then (0, 10) else (srch (lf p l m) 50 0 1000000000000000, 0)
def Two (v : Int × Int) (w : World) (e : Ending) (w' : World) : Prop := e = .returned (.tuple #[.int .i64 v.1, .int .i64 v.2]) ∧ Below w.heap.size w w'
end Go.Proofs.Ytfmkdledofbhdaa.Lv
/- Contracts by hand: level.Of. -/
namespace Go.Proofs.Ytfmkdledofbhdaa.Lv
open Go.RowKit Go.Proofs.YtfmkdledofbhdaaW.PrintWords Go.Proofs.YtfmkdledofbhdaaW.PrintLast Go.Proofs.YtfmkdledofbhdaaW.PrintMore Go.Proofs.Ytfmkdledofbhdaa.HW
open Pm Pd
set_option linter.unusedVariables false
set_option linter.unusedSimpArgs false
open Go.Proofs.Ytfmkdledofbhdaa.H
/-- The two results' cells. -/
structure ResB (w W : World) (g h : Nat) (x y : Value) : Prop where
  below : Below w.heap.size w W
  gge : w.heap.size ≤ g
  hge : w.heap.size ≤ h
  ne : g ≠ h
  c0 : W.cell? ⟨g, 0, none⟩ = some x
  f0 : W.frozen? ⟨g, 0, none⟩ = false
  c1 : W.cell? ⟨h, 0, none⟩ = some y
  f1 : W.frozen? ⟨h, 0, none⟩ = false
theorem ResB.step {w W W' : World} {g h : Nat} {x y : Value} (r : ResB w W g h x y) (hb : Below W.heap.size W W') : ResB w W' g h x y :=
  ⟨below_step r.below hb, r.gge, r.hge, r.ne, by rw [hb.cell (by exact cell_ltR r.c0)]; exact r.c0, by rw [hb.frozen (by exact cell_ltR r.c0)]; exact r.f0, by rw [hb.cell (by exact cell_ltR r.c1)]; exact r.c1, by rw [hb.frozen (by exact cell_ltR r.c1)]; exact r.f1⟩
theorem ResB.of {w W : World} {g h : Nat} {x y : Value} {t u : TypeId} (hb : Below w.heap.size w W) (hg : w.heap.size ≤ g) (hh : w.heap.size ≤ h) (ne : g ≠ h) (b0 : W.heap[g]? = some (.cells #[x] t (0, 0))) (b1 : W.heap[h]? = some (.cells #[y] u (0, 0))) : ResB w W g h x y :=
  ⟨hb, hg, hh, ne, (blk_cell b0 0).trans rfl, frozen_of_row W g 0 _ _ b0, (blk_cell b1 0).trans rfl, frozen_of_row W h 0 _ _ b1⟩
/-- Both written. -/
theorem ResB.put {w W : World} {g h : Nat} {x y : Value} (r : ResB w W g h x y) (u v : Value) : ResB w ((W.setCell ⟨g, 0, none⟩ u).setCell ⟨h, 0, none⟩ v) g h u v := by
  have hn : (⟨h, 0, none⟩ : Addr) ≠ ⟨g, 0, none⟩ := fun e => r.ne (by injection e with e1; exact e1.symm)
  refine ⟨(r.below.setCell (by exact r.gge) _).setCell (by exact r.hge) _, r.gge, r.hge, r.ne, ?_, ?_, ?_, ?_⟩
  · rw [World.cell?_setCell_other _ _ _ _ (by first | exact hn | exact hn.symm), World.cell?_setCell_same _ _ _ r.c0]
  · simp [go_sem, r.f0]
  · rw [World.cell?_setCell_same (v := v) (u := y) _ _ (by rw [World.cell?_setCell_other _ _ _ _ (by first | exact hn | exact hn.symm)]; exact r.c1)]
  · simp [go_sem, r.f1]
set_option maxRecDepth 100000 in
set_option maxHeartbeats 4000000 in
theorem Of_any (p : Prod) (A1 : Option Addr) (c1 : Nat) (A2 : Option Addr) (c2 : Nat) (A3 : Option Addr) (c3 : Nat) (A : Option Addr) (l : List Int) (c : Nat) (m : Int) (w : World) (hg : GV w) (hp : ProdAt w p A1 c1 A2 c2 A3 c3) (hs : Small p) (hr : Kd.C (Kd.int .i64) w A l.length l) (hl : l.length ≤ 1000000) :
    Calls Try.prog 26 #[pv p A1 c1 A2 c2 A3 c3, .slice A l.length c, .int .i64 m] w (Two (ofE p l m) w) := by
  have MA := Aside0.mk (fun W (hb : Below w.heap.size w W) => may_any p A1 c1 A2 c2 A3 c3 A l c m W (hg.below hb) (hp.below hb) hs (Kd.C_below hr hb) hl)
  have LE := Aside0.mk (fun (h : askE p l m = 0) (x : Int) (x0 : 0 ≤ x) (x1 : x ≤ 1000000000000000) W (hb : Below w.heap.size w W) => show Calls Try.prog 46 #[wv p A1 c1 A2 c2 A3 c3 A l c m, .int .i64 x] W fun e w' => e = .returned (.int .i64 (lf p l m x)) ∧ Below W.heap.size W w' from left_any p A1 c1 A2 c2 A3 c3 A l c m x W (ask_known h).1 (ask_known h).2.1 (ask_known h).2.2.1 (ask_known h).2.2.2.1 (Kd.C_below hr hb) hl (ask_known h).2.2.2.2.1 (ask_known h).2.2.2.2.2 x0 x1)
  clear hg hp hs hr
  unfold Two
  obtain ⟨v, hv⟩ : ∃ v, ofE p l m = v := ⟨_, rfl⟩
  rw [hv]
  have HV := Aside0.mk hv
  clear hv
  go_enter_defers Try.func26, Try.ntmps26
  go_wp2_with (first
    | ((with_reducible refine gate_dst (N := 3) rfl ?_); refine box_event ?hg (N := 3) ?hd (cs := pcs p A1 c1 A2 c2 A3 c3) (t := 27) ?hr ?_; (case hd => rfl); (case hg => rfl); (case hr => first | (go_simp; done) | (go_simp; rfl)); intro g1 hg w1 hbg1 hblg1; have g1ge := (show w.heap.size ≤ g1 by rw [hg]; exact Nat.le_refl _); clear hg; have HBg1 := Aside0.mk hbg1; have BLg1 := Aside0.mk hblg1; clear hbg1 hblg1)
    | ((with_reducible refine gate_dst (N := 6) rfl ?_); refine box_event ?hg (N := 6) ?hd (cs := #[.int .i64 0]) (t := 2) ?hr ?_; (case hd => rfl); (case hg => rfl); (case hr => first | (go_simp; done) | (go_simp; rfl)); intro g6 hg w6 hbg6 hblg6; have g6ge := (show w.heap.size ≤ g6 by rw [hg]; exact BLg1.out.size); have HBg1 := Aside0.mk (Pd.blk_below HBg1.out hblg6); have HBg6 := Aside0.mk hbg6; have BLg6 := Aside0.mk (below_step BLg1.out hblg6); clear hg hbg6 hblg6)
    | ((with_reducible refine gate_dst (N := 7) rfl ?_); refine box_event ?hg (N := 7) ?hd (cs := #[.int .i64 0]) (t := 31) ?hr ?_; (case hd => rfl); (case hg => rfl); (case hr => first | (go_simp; done) | (go_simp; rfl)); intro g7 hg w7 hbg7 hblg7; have g7ge := (show w.heap.size ≤ g7 by rw [hg]; exact BLg6.out.size); have HBg1 := Aside0.mk (Pd.blk_below HBg1.out hblg7); have ne67 : g6 ≠ g7 := (by have := blk_lt HBg6.out; omega); have HBg6 := Aside0.mk (Pd.blk_below HBg6.out hblg7); have HBg7 := Aside0.mk hbg7; have BLg7 := Aside0.mk (below_step BLg6.out hblg7); have R7 := Aside0.mk (ResB.of BLg7.out g6ge g7ge ne67 HBg6.out HBg7.out); clear hg hbg7 hblg7)
    | ((with_reducible refine gate_dst (N := 10) rfl ?_); refine wpList_load_row rfl 27 (.tmp 3) rfl g1 rfl 27 _ (0, 0) _ HBg1.out Try.underlying27 rfl info_prod ?_)
    | ((with_reducible refine gate_dst (N := 13) rfl ?_); refine build_event rfl (t := 83) rfl (cs := wcs p A1 c1 A2 c2 A3 c3 A l c m) ?hb ?_; (case hb => simp only [List.map_toArray, List.map_cons, List.map_nil]; exact built_walk p A1 c1 A2 c2 A3 c3 A l c m))
    | ((with_reducible refine gate_dst (N := 8) rfl ?_); refine copy_event rfl (N := 8) rfl rfl rfl (t := 83) (v := .tmp 13) rfl (cs := wcs p A1 c1 A2 c2 A3 c3 A l c m) (zs := wzs) ?hr rfl rfl info_walk ?hz (wcs_one _ _ _ _ _ _ _ _ _ _ _) ?_; (case hr => first | (go_simp; done) | (go_simp; rfl)); (case hz => rfl); intro g4 hg4 w4 hb4 hbl4; have R4 := Aside0.mk (R7.out.step hbl4); have HB4 := Aside0.mk hb4; have BL4 := Aside0.mk (below_step BLg7.out hbl4); clear hg4 hb4 hbl4)
    | ((with_reducible refine gate_dst (N := 14) rfl ?_); refine wpList_load_row rfl 83 (.tmp 8) rfl g4 rfl 83 _ (0, 0) _ HB4.out Try.underlying83 rfl info_walk ?_)
    | fail)
  refine (MA.out _ BL4.out).mono ?_
  rintro e w5 ⟨rfl, hb⟩
  have HB5 := Aside0.mk (Pd.blk_below HB4.out hb)
  have R5 := Aside0.mk (R4.out.step hb)
  clear hb HB4 BL4 HBg1 BLg1 HBg6 BLg6 HBg7 BLg7 R4 R7
  by_cases ha : askE p l m = 0
  · have hx := HV.out
    unfold ofE at hx
    rw [if_neg (by rw [ha]; decide)] at hx
    have LL := Aside0.mk (fun (x : Int) (W : World) (x0 : 0 ≤ x) (x1 : x ≤ 1000000000000000) (hb : Below w5.heap.size w5 W) => LE.out ha x x0 x1 W (below_step R5.out.below hb))
    rw [ha]
    clear ha LE
    by_cases hf : 0 < lf p l m 1000000000000000
    · rw [if_pos hf] at hx
      have HX := Aside0.mk hx
      have LN := Aside0.mk (least_no p A1 c1 A2 c2 A3 c3 A l c m (lf p l m) w5 LL.out hf)
      clear hx HV LL hf
      go_wp2_with (first
    | ((with_reducible refine gate_dst (N := 20) rfl ?_); refine wpList_load_row rfl 83 (.tmp 8) rfl g4 rfl 83 _ (0, 0) _ HB5.out Try.underlying83 rfl info_walk ?_)
    | fail)
      refine LN.out.mono ?_
      rintro e w6 ⟨rfl, hb⟩
      have R6 := Aside0.mk (R5.out.step hb)
      clear hb R5 HB5 LN
      refine leaves_cons (f := 49) (args := #[.pointer (some ⟨g6, 0, none⟩), .pointer (some ⟨g7, 0, none⟩)]) (by simp) (by simp [go_sem]) ?_
      refine (of_thrown ⟨g6, 0, none⟩ ⟨g7, 0, none⟩ 0 0 [] _ (by exact R6.out.ne) R6.out.c0 R6.out.c1 R6.out.f0 R6.out.f1).mono ?_
      rintro e u' w'' ⟨rfl, rfl, rfl⟩
      have RA := (R6.out.step ((Below.refl w6.heap.size w6).alloc (Nat.le_refl _) (.cells #[] 89))).put (.int .i64 0) (.int .i64 10)
      have c0 := RA.c0
      have c1 := RA.c1
      obtain rfl := HX.out
      simp [Leaves, settle, results, Try.results26, go_sem, c0, c1]
      exact RA.below
    · rw [if_neg hf] at hx
      have HX := Aside0.mk hx
      have LN := Aside0.mk (least_yes p A1 c1 A2 c2 A3 c3 A l c m (lf p l m) w5 LL.out (by omega))
      clear hx HV LL hf
      go_wp2_with (first
    | ((with_reducible refine gate_dst (N := 20) rfl ?_); refine wpList_load_row rfl 83 (.tmp 8) rfl g4 rfl 83 _ (0, 0) _ HB5.out Try.underlying83 rfl info_walk ?_)
    | fail)
      refine LN.out.mono ?_
      rintro e w6 ⟨rfl, hb⟩
      have R6 := Aside0.mk (R5.out.step hb)
      clear hb R5 HB5 LN
      have c0 := R6.out.c0
      have f0 := R6.out.f0
      have c1 := R6.out.c1
      have f1 := R6.out.f1
      have ne := R6.out.ne
      have RP := Aside0.mk (R6.out.put (.int .i64 (srch (lf p l m) 50 0 1000000000000000)) (.int .i64 0))
      have c1' : (w6.setCell ⟨g6, 0, none⟩ (.int .i64 (srch (lf p l m) 50 0 1000000000000000))).cell? ⟨g7, 0, none⟩ = some (.int .i64 0) := by rw [World.cell?_setCell_other _ _ _ _ (by first | (intro e; injection e with e1; exact ne e1.symm) | (intro e; injection e with e1; exact ne e1))]; exact c1
      go_wp2_with fail
      refine leaves_cons (f := 49) (args := #[.pointer (some ⟨g6, 0, none⟩), .pointer (some ⟨g7, 0, none⟩)]) (by simp) (by simp [go_sem]) ?_
      refine (of_idle ⟨g6, 0, none⟩ ⟨g7, 0, none⟩ _).mono ?_
      rintro e u' w'' ⟨rfl, rfl, rfl⟩
      have d0 := RP.out.c0
      have d1 := RP.out.c1
      obtain rfl := HX.out
      simp [Leaves, settle, results, Try.results26, go_sem, d0, d1]
      exact RP.out.below
  · have hx := HV.out
    unfold ofE at hx
    rw [if_pos ha] at hx
    obtain ⟨ae, hae⟩ : ∃ ae, askE p l m = ae := ⟨_, rfl⟩
    rw [hae] at ha hx ⊢
    have hn : (ae != 0) = true := by simpa using ha
    have HX := Aside0.mk hx
    clear hx HV ha hae LE
    have c0 := R5.out.c0
    have f0 := R5.out.f0
    have c1 := R5.out.c1
    have f1 := R5.out.f1
    have ne := R5.out.ne
    have RP := Aside0.mk (R5.out.put (.int .i64 0) (.int .i64 ae))
    have c1' : (w5.setCell ⟨g6, 0, none⟩ (.int .i64 0)).cell? ⟨g7, 0, none⟩ = some (.int .i64 0) := by rw [World.cell?_setCell_other _ _ _ _ (by first | (intro e; injection e with e1; exact ne e1.symm) | (intro e; injection e with e1; exact ne e1))]; exact c1
    go_wp2_with fail
    have d0 := RP.out.c0
    have d1 := RP.out.c1
    obtain rfl := HX.out
    simp [bodyPostD, Leaves, settle, results, Try.results26, go_sem, d0, d1]
    exact RP.out.below
end Go.Proofs.Ytfmkdledofbhdaa.Lv
/- Contracts by hand: the document's level: Left and Of. -/
namespace Go.Proofs.Ytfmkdledofbhdaa.Lv
open Go.RowKit Go.Proofs.YtfmkdledofbhdaaW.PrintWords Go.Proofs.YtfmkdledofbhdaaW.PrintLast Go.Proofs.YtfmkdledofbhdaaW.PrintMore Go.Proofs.Ytfmkdledofbhdaa.HW
open Pm Pd
set_option linter.unusedVariables false
set_option linter.unusedSimpArgs false
open Go.Proofs.Ytfmkdledofbhdaa.H
/-- The least is the least by both searches. -/
theorem lf_mono {p : Prod} {l : List Int} {m : Int} (h : askE p l m = 0) : (∀ x y, 0 ≤ x → x ≤ y → y ≤ 1000000000000000 → lf p l m x ≤ 0 → lf p l m y ≤ 0) ∧ 0 < lf p l m 0 := by
  obtain ⟨_, _, _, _, m0, m1⟩ := ask_known h
  have I : In (Gm.whole p.count) (Gm.half p.count p.round) 0 m := good_in (good_new p.count p.round) (by omega) (by omega)
  exact ⟨fun x y _ hxy _ h0 => wk_mono hxy l 0 m 0 m 0 I I (.inr ⟨rfl, Int.le_refl _⟩) (fun _ => .inr ⟨rfl, rfl⟩) h0, wk_zero l 0 m 0 I⟩
end Go.Proofs.Ytfmkdledofbhdaa.Lv
/- Plain law of schedule: the lines of a loan, or why there are none. -/
namespace Go.Proofs.Ytfmkdledofbhdaa.Sc
open Go.RowKit Go.Proofs.YtfmkdledofbhdaaW.PrintWords Go.Proofs.YtfmkdledofbhdaaW.PrintLast Go.Proofs.YtfmkdledofbhdaaW.PrintMore Go.Proofs.Ytfmkdledofbhdaa.HW
open Go.Proofs.Ytfmkdledofbhdaa.Math Go.Proofs.Ytfmkdledofbhdaa.H Go.Proofs.Ytfmkdledofbhdaa.Pd Go.Proofs.Ytfmkdledofbhdaa.Du Go.Proofs.Ytfmkdledofbhdaa.Lv Pm
set_option linter.unusedVariables false
set_option linter.unusedSimpArgs false
/-- A line: its day, the principal part, interest, what is left. -/
abbrev Ln := Int × Int × Int × Int
/-- The principal part of instalment k that bears v. -/
def prin (p : Prod) (m inst k v left : Int) : Int :=
  if k < p.grace then 0 else if k = p.times - 1 then left else if p.kind = 1 then min (inst - v) left else if p.kind = 2 then m / (p.times - p.grace) else 0
/-- What is wrong with a line. -/
def lerr (p : Prod) (m inst k left : Int) (z : Int × Int × Int) : Int :=
  if z.2.1 ≠ 0 then 3 else if prin p m inst k z.1 left < 0 then 10
  else if p.kind = 1 ∧ k = p.times - 1 ∧ (p.times < prin p m inst k z.1 left + z.1 - inst ∨ p.times < -(prin p m inst k z.1 left + z.1 - inst)) then 10 else 0
/-- The lines from instalment k on. -/
def lines (p : Prod) (W h m inst : Int) : Int → List (Int × Int) → Int → Int → List Ln × Int
  | _, [], _, _ => ([], 0)
  | k, (d, n) :: r, left, rest =>
    if lerr p m inst k left (Gm.bear W h rest left p.rate n) ≠ 0 then ([], lerr p m inst k left (Gm.bear W h rest left p.rate n))
    else if (lines p W h m inst (k + 1) r (left - prin p m inst k (Gm.bear W h rest left p.rate n).1 left) (Gm.bear W h rest left p.rate n).2.2).2 = 0 then
      ((d, prin p m inst k (Gm.bear W h rest left p.rate n).1 left, (Gm.bear W h rest left p.rate n).1, left - prin p m inst k (Gm.bear W h rest left p.rate n).1 left) :: (lines p W h m inst (k + 1) r (left - prin p m inst k (Gm.bear W h rest left p.rate n).1 left) (Gm.bear W h rest left p.rate n).2.2).1, 0)
    else ([], (lines p W h m inst (k + 1) r (left - prin p m inst k (Gm.bear W h rest left p.rate n).1 left) (Gm.bear W h rest left p.rate n).2.2).2)
/-- What has been made, and what comes. -/
def join (pre : List Ln) (r : List Ln × Int) : List Ln × Int := if r.2 = 0 then (pre ++ r.1, 0) else ([], r.2)
theorem join_nil (r : List Ln × Int) (h : r.2 ≠ 0 → r.1 = []) : join [] r = r := by
  unfold join
  by_cases e : r.2 = 0
  · rw [if_pos e]; exact Prod.ext (List.nil_append _) e.symm
  · rw [if_neg e]; exact Prod.ext (h e).symm rfl
theorem lines_err (p : Prod) (W h m inst : Int) : ∀ (l : List (Int × Int)) (k left rest : Int), (lines p W h m inst k l left rest).2 ≠ 0 → (lines p W h m inst k l left rest).1 = []
  | [], k, left, rest, e => by simp [lines] at e
  | (d, n) :: r, k, left, rest, e => by
    rw [lines] at e ⊢
    split
    · rfl
    · rename_i h1
      rw [if_neg h1] at e
      split
      · rename_i h2; rw [if_pos h2] at e; exact absurd rfl e
      · rfl
theorem lines_cons {p : Prod} {W h m inst k left rest d n : Int} {r : List (Int × Int)} {z : Int × Int × Int} (hz : Gm.bear W h rest left p.rate n = z) (pre : List Ln) :
    join pre (lines p W h m inst k ((d, n) :: r) left rest) = if lerr p m inst k left z ≠ 0 then ([], lerr p m inst k left z) else join (pre ++ [(d, prin p m inst k z.1 left, z.1, left - prin p m inst k z.1 left)]) (lines p W h m inst (k + 1) r (left - prin p m inst k z.1 left) z.2.2) := by
  subst hz
  rw [lines]
  by_cases e : lerr p m inst k left (Gm.bear W h rest left p.rate n) ≠ 0
  · rw [if_pos e, if_pos e, join, if_neg e]
  · rw [if_neg e, if_neg e]
    by_cases e2 : (lines p W h m inst (k + 1) r (left - prin p m inst k (Gm.bear W h rest left p.rate n).1 left) (Gm.bear W h rest left p.rate n).2.2).2 = 0
    · rw [if_pos e2, join, join, if_pos rfl, if_pos e2, List.append_assoc]; rfl
    · rw [if_neg e2, join, join, if_neg e2, if_neg e2]
/-- What is known between two instalments. -/
structure Mid (p : Prod) (m k left : Int) : Prop where
  l0 : 0 ≤ left
  l1 : left ≤ m
  eq : p.kind = 2 → k < p.times → left = m - (max 0 (k - p.grace)) * (m / (p.times - p.grace))
theorem part_bd {m n j : Int} (m0 : 0 ≤ m) (n0 : 1 ≤ n) (j0 : 0 ≤ j) (j1 : j ≤ n) : 0 ≤ m / n ∧ j * (m / n) ≤ m := by
  have a : 0 ≤ m / n := Int.ediv_nonneg m0 (by omega)
  have b : j * (m / n) ≤ n * (m / n) := Int.mul_le_mul_of_nonneg_right j1 a
  have c := Int.mul_ediv_self_le (x := m) (k := n) (by omega)
  exact ⟨a, by omega⟩
theorem prin_bd {p : Prod} {m inst k v left : Int} (M : Mid p m k left) (m0 : 0 ≤ m) (g0 : 0 ≤ p.grace) (gt : p.grace < p.times) (k0 : 0 ≤ k) (k1 : k < p.times) :
    prin p m inst k v left ≤ left ∧ (p.kind ≠ 1 → 0 ≤ prin p m inst k v left) ∧ (0 ≤ prin p m inst k v left → Mid p m (k + 1) (left - prin p m inst k v left)) := by
  obtain ⟨l0, l1, eq⟩ := M
  unfold prin
  by_cases h1 : k < p.grace
  · rw [if_pos h1]
    refine ⟨l0, fun _ => Int.le_refl _, fun _ => ⟨by omega, by omega, fun h hk => ?_⟩⟩
    have := eq h k1
    rw [show max 0 (k - p.grace) = 0 by omega] at this
    rw [show max 0 (k + 1 - p.grace) = 0 by omega]
    omega
  · rw [if_neg h1]
    by_cases h2 : k = p.times - 1
    · rw [if_pos h2]
      exact ⟨Int.le_refl _, fun _ => l0, fun _ => ⟨by omega, by omega, fun h hk => by omega⟩⟩
    · rw [if_neg h2]
      by_cases h3 : p.kind = 1
      · rw [if_pos h3]
        exact ⟨by omega, fun h => absurd h3 h, fun _ => ⟨by omega, by omega, fun h _ => by omega⟩⟩
      · rw [if_neg h3]
        by_cases h4 : p.kind = 2
        · rw [if_pos h4]
          have e := eq h4 k1
          rw [show max 0 (k - p.grace) = k - p.grace by omega] at e
          obtain ⟨b1, b2⟩ := part_bd (m := m) (n := p.times - p.grace) (j := k - p.grace + 1) m0 (by omega) (by omega) (by omega)
          rw [Int.add_mul, Int.one_mul] at b2
          refine ⟨by omega, fun _ => b1, fun _ => ⟨by omega, by omega, fun _ _ => ?_⟩⟩
          rw [show max 0 (k + 1 - p.grace) = k - p.grace + 1 by omega, Int.add_mul, Int.one_mul]
          omega
        · rw [if_neg h4]
          exact ⟨l0, fun _ => Int.le_refl _, fun _ => ⟨by omega, by omega, fun h _ => absurd h h4⟩⟩
end Go.Proofs.Ytfmkdledofbhdaa.Sc
/- Plain law of schedule: which errors there are; the whole of it. -/
namespace Go.Proofs.Ytfmkdledofbhdaa.Sc
open Go.RowKit Go.Proofs.YtfmkdledofbhdaaW.PrintWords Go.Proofs.YtfmkdledofbhdaaW.PrintLast Go.Proofs.YtfmkdledofbhdaaW.PrintMore Go.Proofs.Ytfmkdledofbhdaa.HW
open Go.Proofs.Ytfmkdledofbhdaa.Math Go.Proofs.Ytfmkdledofbhdaa.H Go.Proofs.Ytfmkdledofbhdaa.Pd Go.Proofs.Ytfmkdledofbhdaa.Du Go.Proofs.Ytfmkdledofbhdaa.Lv Pm
set_option linter.unusedVariables false
set_option linter.unusedSimpArgs false
theorem place_may {c a b : Int} (hc : c = 1 ∨ c = 2 ∨ c = 3) (ha : isDay a) (hb : isDay b) (h : a ≤ b) : 0 ≤ place c b - place c a ∧ place c b - place c a ≤ 53436000 := by
  obtain ⟨p1, p2⟩ := id ha
  obtain ⟨q1, q2⟩ := id hb
  obtain ⟨y1, y2, m1, m2, d1, d2⟩ := date_bd ha
  obtain ⟨y3, y4, m3, m4, d3, d4⟩ := date_bd hb
  unfold place
  rcases hc with rfl | rfl | rfl
  · simp only [if_true]
    have := thirty_le ha hb h
    unfold thirty at this ⊢
    rw [if_pos ha, if_pos hb] at this ⊢
    omega
  · simp only [show ¬ ((2 : Int) = 1) by decide, if_false, if_true]; omega
  · simp only [show ¬ ((3 : Int) = 1) by decide, show ¬ ((3 : Int) = 2) by decide, if_false]
    have hbb : isDay (a + ((b - a).toNat : Int)) := by rw [show a + ((b - a).toNat : Int) = b by omega]; exact hb
    have u := actual_most (b - a).toNat ha hbb
    have v := actual_up (b - a).toNat ha hbb
    rw [show a + ((b - a).toNat : Int) = b by omega] at u v
    omega
theorem parts_may {c : Int} (hc : c = 1 ∨ c = 2 ∨ c = 3) : ∀ (l : List Int) (s : Int), isDay s → (∀ d ∈ l, isDay d) → rise s l = true → ∀ n ∈ rpartsL c s l, 0 ≤ n ∧ n ≤ 53436000
  | [], s, _, _, _, n, hn => by simp [rpartsL] at hn
  | d :: r, s, hs, hd, hr, n, hn => by
    rw [rise, Bool.and_eq_true] at hr
    obtain ⟨r1, r2⟩ := hr
    have r1 := of_decide_eq_true r1
    have hdd := hd d (by simp)
    rw [rpartsL, between_ok hc hs hdd] at hn
    rcases List.mem_cons.1 hn with rfl | hn
    · exact place_may hc hs hdd (by omega)
    · exact parts_may hc r d hdd (fun x hx => hd x (by simp [hx])) r2 n hn
/-- A schedule, or why none. -/
def linesP (p : Prod) (start m inst : Int) : List Ln × Int := lines p (Gm.whole p.count) (Gm.half p.count p.round) m inst 0 ((daysP p start).1.zip (partsP p start).1) m 0
def schedP (p : Prod) (start m : Int) : List Ln × Int :=
  if (daysP p start).2 ≠ 0 then ([], (daysP p start).2)
  else if ¬ (1 ≤ m ∧ m ≤ 10000000000000) then ([], 16)
  else if p.kind = 1 then (if (ofE p (partsP p start).1 m).2 ≠ 0 then ([], (ofE p (partsP p start).1 m).2) else linesP p start m (ofE p (partsP p start).1 m).1)
  else linesP p start m 0
end Go.Proofs.Ytfmkdledofbhdaa.Sc
/- Contracts by hand: schedule: the principal part of an instalment. -/
namespace Go.Proofs.Ytfmkdledofbhdaa.Sc
open Go.RowKit Go.Proofs.YtfmkdledofbhdaaW.PrintWords Go.Proofs.YtfmkdledofbhdaaW.PrintLast Go.Proofs.YtfmkdledofbhdaaW.PrintMore Go.Proofs.Ytfmkdledofbhdaa.HW
open Go.Proofs.Ytfmkdledofbhdaa.Math Go.Proofs.Ytfmkdledofbhdaa.H Go.Proofs.Ytfmkdledofbhdaa.Pd Go.Proofs.Ytfmkdledofbhdaa.Du Go.Proofs.Ytfmkdledofbhdaa.Lv Pm
set_option linter.unusedVariables false
set_option linter.unusedSimpArgs false
attribute [local go_sem] max2_int min2_int max_two min_two

/-- What makes lines, by its cells. -/
abbrev mcs (p : Prod) (A1 : Option Addr) (c1 : Nat) (A2 : Option Addr) (c2 : Nat) (A3 : Option Addr) (c3 : Nat) (m inst left : Int) (b : Value) : Array Value := #[.string p.name, .int .i64 p.count, .int .i64 p.round, .int .i64 p.kind, .int .i64 p.every, .int .i64 p.times, .int .i64 p.grace, .int .i64 p.rate, .slice A1 p.resets.length c1, .int .i64 p.penalty, .int .i64 p.o1, .int .i64 p.o2, .int .i64 p.o3, .int .i64 p.o4, .int .i64 p.over, .slice A2 p.late.length c2, .int .i64 p.cap, .int .i64 p.roll, .slice A3 p.hol.length c3, .int .i64 m, .int .i64 inst, .int .i64 left, b]
theorem mk_cells {p : Prod} {A1 : Option Addr} {c1 : Nat} {A2 : Option Addr} {c2 : Nat} {A3 : Option Addr} {c3 : Nat} {m inst left : Int} {b : Value} {w : World} {g : Nat} {t : TypeId} (h : w.heap[g]? = some (.cells (mcs p A1 c1 A2 c2 A3 c3 m inst left b) t (0, 0))) :
    w.cell? ⟨g, 3, none⟩ = some (.int .i64 p.kind) ∧ w.cell? ⟨g, 5, none⟩ = some (.int .i64 p.times) ∧ w.cell? ⟨g, 6, none⟩ = some (.int .i64 p.grace) ∧ w.cell? ⟨g, 7, none⟩ = some (.int .i64 p.rate) ∧ w.cell? ⟨g, 19, none⟩ = some (.int .i64 m) ∧ w.cell? ⟨g, 20, none⟩ = some (.int .i64 inst) ∧ w.cell? ⟨g, 21, none⟩ = some (.int .i64 left) ∧ w.cell? ⟨g, 22, none⟩ = some b :=
  ⟨(blk_cell h 3).trans rfl, (blk_cell h 5).trans rfl, (blk_cell h 6).trans rfl, (blk_cell h 7).trans rfl, (blk_cell h 19).trans rfl, (blk_cell h 20).trans rfl, (blk_cell h 21).trans rfl, (blk_cell h 22).trans rfl⟩
set_option maxRecDepth 100000 in
set_option maxHeartbeats 4000000 in
theorem principal_any (p : Prod) (A1 : Option Addr) (c1 : Nat) (A2 : Option Addr) (c2 : Nat) (A3 : Option Addr) (c3 : Nat) (m inst left : Int) (b : Value) (k v : Int) (w : World) (g : Nat) (hb : w.heap[g]? = some (.cells (mcs p A1 c1 A2 c2 A3 c3 m inst left b) 63 (0, 0))) (g0 : 0 ≤ p.grace) (g1 : p.grace < p.times) (t1 : p.times ≤ 600) (k0 : 0 ≤ k) (k1 : k < p.times) (m0 : 0 ≤ m) (m1 : m ≤ 10000000000000) (i0 : 0 ≤ inst) (i1 : inst ≤ 1000000000000000) (v0 : 0 ≤ v) (v1 : v ≤ 1000000000000000) (l0 : 0 ≤ left) (l1 : left ≤ 10000000000000) :
    Calls Try.prog 59 #[.pointer (some ⟨g, 0, none⟩), .int .i64 k, .int .i64 v] w fun e w' => e = .returned (.int .i64 (prin p m inst k v left)) ∧ Drawn0 w w' := by
  obtain ⟨q3, q5, q6, -, q19, q20, q21, -⟩ := mk_cells hb
  have st : IntKind.i64.wrap (p.times - 1) = p.times - 1 := IntWalk.i64_in _ (by omega)
  obtain ⟨pr, hpr⟩ : ∃ x, prin p m inst k v left = x := ⟨_, rfl⟩
  rw [hpr]
  unfold prin at hpr
  clear hb
  by_cases h1 : k < p.grace
  · rw [if_pos h1] at hpr
    have HP := Aside0.mk hpr
    clear hpr
    go_enter Try.func59, Try.ntmps59
    go_wp2_with fail
    go_ret
    obtain rfl := HP.out
    exact ⟨rfl, Drawn0.refl _⟩
  · rw [if_neg h1] at hpr
    by_cases h2 : k = p.times - 1
    · rw [if_pos h2] at hpr
      have hq : (k == p.times - 1) = true := by simpa using h2
      have HP := Aside0.mk hpr
      clear hpr h2
      go_enter Try.func59, Try.ntmps59
      go_wp2_with fail
      go_ret
      obtain rfl := HP.out
      exact ⟨rfl, Drawn0.refl _⟩
    · rw [if_neg h2] at hpr
      have hq : (k == p.times - 1) = false := by simpa using h2
      clear h2
      by_cases h3 : p.kind = 1
      · rw [if_pos h3] at hpr
        have hk : (p.kind == 1) = true := by simpa using h3
        have si : IntKind.i64.wrap (inst - v) = inst - v := IntWalk.i64_in _ (by omega)
        have hm : (if left < inst - v then left else inst - v) = pr := by rw [← hpr]; split <;> omega
        clear hpr h3
        go_enter Try.func59, Try.ntmps59
        go_wp2_with fail
        go_region_held3 (fun W => W.cell? ⟨g, 20, none⟩ = some (.int .i64 inst) ∧ W.cell? ⟨g, 21, none⟩ = some (.int .i64 left)) (first | exact ⟨q20, q21⟩ | go_keep) (fail)
        go_wp2_with fail
        go_ret
        exact ⟨by first | rfl | (rw [← hm]), ⟨_, rfl⟩⟩
      · rw [if_neg h3] at hpr
        have hk : (p.kind == 1) = false := by simpa using h3
        clear h3
        by_cases h4 : p.kind = 2
        · rw [if_pos h4] at hpr
          have hk2 : (p.kind == 2) = true := by simpa using h4
          obtain ⟨N, hN⟩ : ∃ N, p.times - p.grace = N := ⟨_, rfl⟩
          rw [hN] at hpr
          have sN : IntKind.i64.wrap (p.times - p.grace) = N := by rw [hN]; exact IntWalk.i64_in _ (by omega)
          have n1 : 1 ≤ N := by omega
          have nz : (N == 0) = false := by simp; omega
          have nz3 : ¬ N = 0 := by omega
          have nm : (N == -1) = false := by simp; omega
          have p0 : 0 ≤ pr := by rw [← hpr]; exact Int.ediv_nonneg m0 (by omega)
          have p1 : pr ≤ m := by rw [← hpr]; exact Int.ediv_le_self _ m0
          have sd : IntKind.i64.wrap (Int.tdiv m N) = pr := by rw [Int.tdiv_eq_ediv_of_nonneg m0, hpr]; exact IntWalk.i64_in _ (by omega)
          clear hpr h4 hN
          go_enter Try.func59, Try.ntmps59
          go_wp2_with fail
          go_region_held3 (fun W => W.cell? ⟨g, 19, none⟩ = some (.int .i64 m) ∧ W.cell? ⟨g, 5, none⟩ = some (.int .i64 p.times) ∧ W.cell? ⟨g, 6, none⟩ = some (.int .i64 p.grace)) (first | exact ⟨q19, q5, q6⟩ | go_keep) (fail)
          go_wp2_with fail
          go_ret
          exact ⟨rfl, ⟨_, rfl⟩⟩
        · rw [if_neg h4] at hpr
          have hk2 : (p.kind == 2) = false := by simpa using h4
          have HP := Aside0.mk hpr
          clear hpr h4
          go_enter Try.func59, Try.ntmps59
          go_wp2_with fail
          go_ret
          obtain rfl := HP.out
          exact ⟨rfl, Drawn0.refl _⟩
end Go.Proofs.Ytfmkdledofbhdaa.Sc
/- Contracts by hand: schedule: one line. -/
namespace Go.Proofs.Ytfmkdledofbhdaa.Sc
open Go.RowKit Go.Proofs.YtfmkdledofbhdaaW.PrintWords Go.Proofs.YtfmkdledofbhdaaW.PrintLast Go.Proofs.YtfmkdledofbhdaaW.PrintMore Go.Proofs.Ytfmkdledofbhdaa.HW
open Go.Proofs.Ytfmkdledofbhdaa.Math Go.Proofs.Ytfmkdledofbhdaa.H Go.Proofs.Ytfmkdledofbhdaa.Pd Go.Proofs.Ytfmkdledofbhdaa.Du Go.Proofs.Ytfmkdledofbhdaa.Lv Pm
set_option linter.unusedVariables false
set_option linter.unusedSimpArgs false
attribute [local go_sem] max2_int min2_int max_two min_two

theorem info_line : (Try.prog.info? 36).map (·.size) = some 4 := by kernel_rfl
theorem line_one (a b c d : Int) : (#[Value.int .i64 a, .int .i64 b, .int .i64 c, .int .i64 d]).all (·.oneCell') = true := by simp [Value.oneCell']
theorem built_line0 : Try.prog.built 36 [] = some #[.int .i64 0, .int .i64 0, .int .i64 0, .int .i64 0] := by kernel_rfl
theorem built_line (a b c d : Int) : Try.prog.built 36 [(0, .int .i64 a), (1, .int .i64 b), (2, .int .i64 c), (3, .int .i64 d)] = some #[.int .i64 a, .int .i64 b, .int .i64 c, .int .i64 d] := by kernel_rfl
theorem results_cell_tmp {P : Program} {fn : Func} {p q : Tmp} {ty : TypeId} (h : fn.results = #[.cell p ty, .tmp q]) (tmps : Array Value) (w : World) (g : Nat) (t : TypeId) (cs : Array Value) (d : TypeDesc)
    (hp : tmps.getD p undef = .pointer (some ⟨g, 0, none⟩)) (hg : w.heap[g]? = some (.cells cs t (0, 0)))
    (hu : P.underlying ty = some d) (hd : (match d with | .struct _ | .array _ _ => true | _ => false) = true) (hi : (P.info? ty).map (·.size) = some cs.size) :
    (results fn tmps).run P w = .ok (.tuple #[.agg cs, tmps.getD q undef]) w := by
  have hp' : tmps[p]?.getD undef = .pointer (some ⟨g, 0, none⟩) := by simpa using hp
  simp [results, h, hp', asAddr, run_loadVar_row w g t ty cs (0, 0) d hg hu hd hi]
/-- All blocks but two are as1 they were. -/
structure But2 (a b : Nat) (w w' : World) : Prop where
  os : w'.os = w.os
  tape : w'.tape = w.tape
  output : w'.output = w.output
  size : w.heap.size ≤ w'.heap.size
  block : ∀ k, k < w.heap.size → k ≠ a → k ≠ b → w'.heap[k]? = w.heap[k]?
theorem But2.of {a b : Nat} {w w' : World} (h : Below w.heap.size w w') : But2 a b w w' := ⟨h.os, h.tape, h.output, h.size, fun k hk _ _ => h.block k hk⟩
theorem But2.below {a b : Nat} {w w1 w2 : World} (h : But2 a b w w1) (hb : Below w1.heap.size w1 w2) : But2 a b w w2 :=
  ⟨hb.os.trans h.os, hb.tape.trans h.tape, hb.output.trans h.output, Nat.le_trans h.size hb.size, fun k hk h1 h2 => (hb.block k (Nat.lt_of_lt_of_le hk h.size)).trans (h.block k hk h1 h2)⟩
theorem But2.but {a b g : Nat} {w w1 w2 : World} (h : But2 a b w w1) (hb : H.But g w1 w2) (hg : g = a ∨ g = b ∨ w.heap.size ≤ g) : But2 a b w w2 :=
  ⟨hb.os.trans h.os, hb.tape.trans h.tape, hb.output.trans h.output, Nat.le_trans h.size hb.size, fun k hk h1 h2 => (hb.block k (Nat.lt_of_lt_of_le hk h.size) (by rcases hg with rfl | rfl | hg; exact h1; exact h2; omega)).trans (h.block k hk h1 h2)⟩
/-- What a line does: it is told, and the maker and the bearer go on; or why there is none. -/
def Lined (p : Prod) (A1 : Option Addr) (c1 : Nat) (A2 : Option Addr) (c2 : Nat) (A3 : Option Addr) (c3 : Nat) (m inst left : Int) (W h : Int) (gm gb : Nat) (k d : Int) (z : Int × Int × Int) (w : World) (e : Ending) (w' : World) : Prop :=
  But2 gm gb w w' ∧ ∃ v, e = .returned (.tuple #[.agg v, .int .i64 (lerr p m inst k left z)]) ∧
    (lerr p m inst k left z = 0 → v = #[.int .i64 d, .int .i64 (prin p m inst k z.1 left), .int .i64 z.1, .int .i64 (left - prin p m inst k z.1 left)] ∧ w'.heap[gm]? = some (.cells (mcs p A1 c1 A2 c2 A3 c3 m inst (left - prin p m inst k z.1 left) (.pointer (some ⟨gb, 0, none⟩))) 63 (0, 0)) ∧ BearAt w' gb W h z.2.2) ∧ (lerr p m inst k left z ≠ 0 → v = #[.int .i64 0, .int .i64 0, .int .i64 0, .int .i64 0])
theorem bear_bdL {W h rest bal rate n : Int} (G : H.Good W h rest) (b0 : 0 ≤ bal) (b1 : bal ≤ 1000000000000000) : 0 ≤ (Gm.bear W h rest bal rate n).1 ∧ (Gm.bear W h rest bal rate n).1 ≤ 1000000000000000 := by
  rw [bear_eq]
  split
  · rename_i hm
    split
    · rename_i hq
      exact ⟨(Gm.step (W := W) (h := h) (rest := rest) (x := bal * rate * n) (by have := G.w0; omega) (Int.mul_nonneg (Int.mul_nonneg hm.1 hm.2.2.1) hm.2.2.2.2.1) G.r0).1, hq⟩
    · simp
  · simp
set_option maxRecDepth 100000 in
set_option maxHeartbeats 8000000 in
theorem line_any (p : Prod) (A1 : Option Addr) (c1 : Nat) (A2 : Option Addr) (c2 : Nat) (A3 : Option Addr) (c3 : Nat) (m inst left W h rest n k d : Int) (gm gb : Nat) (w : World) (z : Int × Int × Int) (hz : Gm.bear W h rest left p.rate n = z) (A : BearAt w gb W h rest) (G : H.Good W h rest) (hm : w.heap[gm]? = some (.cells (mcs p A1 c1 A2 c2 A3 c3 m inst left (.pointer (some ⟨gb, 0, none⟩))) 63 (0, 0))) (hne : gm ≠ gb) (MM : Mid p m k left) (g0 : 0 ≤ p.grace) (g1 : p.grace < p.times) (t1 : p.times ≤ 600) (k0 : 0 ≤ k) (k1 : k < p.times) (m0 : 0 ≤ m) (m1 : m ≤ 10000000000000) (i0 : 0 ≤ inst) (i1 : inst ≤ 1000000000000000) (hk : p.kind = 1 ∨ p.kind = 2 ∨ p.kind = 3) :
    Calls Try.prog 31 #[.pointer (some ⟨gm, 0, none⟩), .int .i64 k, .int .i64 d, .int .i64 n] w (Lined p A1 c1 A2 c2 A3 c3 m inst left W h gm gb k d z w) := by
  have l0 := MM.l0
  have l1 : left ≤ 10000000000000 := by have := MM.l1; omega
  have RB := Aside0.mk (fun (U : World) (A : BearAt U gb W h rest) => bear_any (bal := left) (rate := p.rate) (n := n) A G)
  rw [hz] at RB
  obtain ⟨z1, z2, z3⟩ := z
  have zb := bear_bdL (rate := p.rate) (n := n) G l0 (show left ≤ 1000000000000000 by omega)
  rw [hz] at zb
  simp only [] at zb
  obtain ⟨pr, hpr⟩ : ∃ x, prin p m inst k z1 left = x := ⟨_, rfl⟩
  have PA := Aside0.mk (fun (U : World) (hU : U.heap[gm]? = some (.cells (mcs p A1 c1 A2 c2 A3 c3 m inst left (.pointer (some ⟨gb, 0, none⟩))) 63 (0, 0))) => show Calls Try.prog 59 #[.pointer (some ⟨gm, 0, none⟩), .int .i64 k, .int .i64 z1] U fun e w' => e = .returned (.int .i64 pr) ∧ Below U.heap.size U w' from by have := principal_any p A1 c1 A2 c2 A3 c3 m inst left (.pointer (some ⟨gb, 0, none⟩)) k z1 U gm hU g0 g1 t1 k0 k1 m0 m1 i0 i1 zb.1 zb.2 l0 l1; rw [hpr] at this; exact this.mono fun e w' h => ⟨h.1, h.2.below⟩)
  obtain ⟨p1, p2, p3⟩ := prin_bd (inst := inst) (v := z1) MM m0 g0 g1 k0 k1
  rw [hpr] at p1 p2
  have BA0 := Aside0.mk A
  have GM0 := Aside0.mk hm
  have gmlt := blk_lt hm
  have gblt := A.lt
  have st : IntKind.i64.wrap (p.times - 1) = p.times - 1 := IntWalk.i64_in _ (by omega)
  have NE := Aside0.mk hne
  clear A hm G MM p3
  go_enter Try.func31, Try.ntmps31
  go_wp2_with ((with_reducible refine gate_dst (N := 8) rfl ?_); refine box_event ?hg (N := 8) ?hd (cs := #[.int .i64 0, .int .i64 0, .int .i64 0, .int .i64 0]) (t := 36) ?hr ?_; (case hd => rfl); (case hg => rfl); (case hr => first | (go_simp; done) | (go_simp; rfl)); intro g8 hg w1 hb1 hbl1; have g8ge := (show w.heap.size ≤ g8 by rw [hg]; exact Nat.le_refl _); clear hg; have G8 := Aside0.mk hb1; have BT := Aside0.mk (But2.of (a := gm) (b := gb) hbl1); have GM := Aside0.mk (Pd.blk_below GM0.out hbl1); have BA := Aside0.mk ((BA0.out.below hbl1).below (w1 := w1.drew) (Below.drew (Below.refl _ _))); clear hb1 hbl1; obtain ⟨-, -, -, q7, -, q20, q21, q22⟩ := mk_cells GM.out)
  have g8ne : g8 ≠ gb := by omega
  have g8m : g8 ≠ gm := by omega
  have gmlt1 : gm < w1.heap.size := blk_lt GM.out
  have L8 := Aside0.mk (blk_lt G8.out)
  have LM := Aside0.mk gmlt1
  go_region_held3 (fun U => U.cell? ⟨gm, 22, none⟩ = some (.pointer (some ⟨gb, 0, none⟩)) ∧ U.cell? ⟨gm, 21, none⟩ = some (.int .i64 left) ∧ U.cell? ⟨gm, 7, none⟩ = some (.int .i64 p.rate)) (first | exact ⟨q22, q21, q7⟩ | go_keep) ((go_at_call 58; (with_reducible refine (RB.out _ BA.out).mono ?_); rintro e yy ⟨rfl, hba, hbut⟩; have q22 := (hbut.cell (p := ⟨gm, 22, none⟩) LM.out NE.out).trans q22; have q21 := (hbut.cell (p := ⟨gm, 21, none⟩) LM.out NE.out).trans q21; have q7 := (hbut.cell (p := ⟨gm, 7, none⟩) LM.out NE.out).trans q7))
  have BA := Aside0.mk hba
  have GM := Aside0.mk ((hbut.block gm LM.out NE.out).trans GM.out)
  have G8 := Aside0.mk ((hbut.block g8 L8.out g8ne).trans G8.out)
  have BT := Aside0.mk ((BT.out.below (Below.drew (Below.refl _ _))).but hbut (.inr (.inl rfl)))
  clear hba hbut q22 q7 gmlt1 LM L8
  by_cases hz2 : z2 = 0
  · subst hz2
    by_cases hn : pr < 0
    · have hL : lerr p m inst k left (z1, 0, z3) = 10 := by unfold lerr; rw [if_neg (fun h => h rfl)]; simp only []; rw [hpr, if_pos hn]
      have HL := Aside0.mk hL
      clear hL
      go_wp2_with (first
        | ((go_at_call 59; (with_reducible refine (PA.out _ GM.out).mono ?_); rintro e w5 ⟨rfl, hb⟩; have GM := Aside0.mk (Pd.blk_below GM.out hb); have G8 := Aside0.mk (Pd.blk_below G8.out hb); have BT := Aside0.mk (BT.out.below hb); have BA := Aside0.mk (BA.out.below hb); clear hb; obtain ⟨q3, q5, -, -, -, q20, q21, -⟩ := mk_cells GM.out; have f21 := frozen_of_row w5 gm 21 _ _ GM.out))
        | ((with_reducible refine gate_dst (N := 41) rfl ?_); refine build_event rfl (t := 36) rfl (cs := #[.int .i64 0, .int .i64 0, .int .i64 0, .int .i64 0]) ?hb ?_; (case hb => simp only [List.map_toArray, List.map_cons, List.map_nil]; exact built_line0))
        | ((with_reducible refine gate_store (t := 36) (p := 8) rfl ?_); refine row_event rfl (t := 36) (p := 8) (v := .tmp 41) rfl rfl (g := g8) (cs := #[.int .i64 0, .int .i64 0, .int .i64 0, .int .i64 0]) (zs := #[.int .i64 0, .int .i64 0, .int .i64 0, .int .i64 0]) rfl rfl G8.out info_line rfl (line_one 0 0 0 0) ?_; intro w9 hb8 hbut; have G8 := Aside0.mk hb8; have BT := Aside0.mk (BT.out.but hbut (.inr (.inr g8ge))); clear hb8 hbut))
      exact bodyPost_ret (v := .tuple #[.agg #[.int .i64 0, .int .i64 0, .int .i64 0, .int .i64 0], .int .i64 10]) (results_cell_tmp (g := g8) (cs := #[.int .i64 0, .int .i64 0, .int .i64 0, .int .i64 0]) Try.results31 _ _ _ _ rfl G8.out Try.underlying36 rfl info_line) rfl ⟨BT.out, _, by rw [HL.out], fun h => by rw [HL.out] at h; exact absurd h (by decide), fun _ => rfl⟩
    · have s1 : IntKind.i64.wrap (pr + z1) = pr + z1 := IntWalk.i64_in _ (by omega)
      obtain ⟨ap, hap⟩ : ∃ x, pr + z1 - inst = x := ⟨_, rfl⟩
      have s2 : IntKind.i64.wrap (pr + z1 - inst) = ap := by rw [hap]; exact IntWalk.i64_in _ (by omega)
      have s3 : IntKind.i64.wrap (left - pr) = left - pr := IntWalk.i64_in _ (by omega)
      have s4 : IntKind.i64.wrap (-ap) = -ap := IntWalk.i64_in _ (by omega)
      obtain ⟨mx, hmx⟩ : ∃ x, (if ap < -ap then -ap else ap) = x := ⟨_, rfl⟩
      have hmx2 : mx = ap ∧ 0 ≤ ap ∨ mx = -ap ∧ ap < 0 := by rw [← hmx]; split <;> omega
      have hL0 : lerr p m inst k left (z1, 0, z3) = if p.kind = 1 ∧ k = p.times - 1 ∧ (p.times < ap ∨ p.times < -ap) then 10 else 0 := by
        unfold lerr
        rw [if_neg (fun h => h rfl)]
        simp only []
        rw [hpr, if_neg hn, hap]
      by_cases hbad : p.kind = 1 ∧ k = p.times - 1 ∧ (p.times < ap ∨ p.times < -ap)
      · rw [if_pos hbad] at hL0
        obtain ⟨e1, e2, e3⟩ := hbad
        have hk1 : (p.kind == 1) = true := by simpa using e1
        have hq : (k == p.times - 1) = true := by simpa using e2
        have hmt : p.times < mx := by omega
        have HL := Aside0.mk hL0
        clear hap hmx2 e1 e2 e3 hpr hL0 hk
        go_wp2_with (first
          | ((go_at_call 59; (with_reducible refine (PA.out _ GM.out).mono ?_); rintro e w5 ⟨rfl, hb⟩; have GM := Aside0.mk (Pd.blk_below GM.out hb); have G8 := Aside0.mk (Pd.blk_below G8.out hb); have BT := Aside0.mk (BT.out.below hb); have BA := Aside0.mk (BA.out.below hb); clear hb; obtain ⟨q3, q5, -, -, -, q20, q21, -⟩ := mk_cells GM.out; have f21 := frozen_of_row w5 gm 21 _ _ GM.out))
          | ((with_reducible refine gate_dst (N := 78) rfl ?_); refine build_event rfl (t := 36) rfl (cs := #[.int .i64 0, .int .i64 0, .int .i64 0, .int .i64 0]) ?hb ?_; (case hb => simp only [List.map_toArray, List.map_cons, List.map_nil]; exact built_line0))
          | ((with_reducible refine gate_store (t := 36) (p := 8) rfl ?_); refine row_event rfl (t := 36) (p := 8) (v := .tmp 78) rfl rfl (g := g8) (cs := #[.int .i64 0, .int .i64 0, .int .i64 0, .int .i64 0]) (zs := #[.int .i64 0, .int .i64 0, .int .i64 0, .int .i64 0]) rfl rfl G8.out info_line rfl (line_one 0 0 0 0) ?_; intro w9 hb8 hbut; have G8 := Aside0.mk hb8; have BT := Aside0.mk (BT.out.but hbut (.inr (.inr g8ge))); clear hb8 hbut))
        exact bodyPost_ret (v := .tuple #[.agg #[.int .i64 0, .int .i64 0, .int .i64 0, .int .i64 0], .int .i64 10]) (results_cell_tmp (g := g8) (cs := #[.int .i64 0, .int .i64 0, .int .i64 0, .int .i64 0]) Try.results31 _ _ _ _ rfl G8.out Try.underlying36 rfl info_line) rfl ⟨BT.out, _, by rw [HL.out], fun h => by rw [HL.out] at h; exact absurd h (by decide), fun _ => rfl⟩
      · rw [if_neg hbad] at hL0
        have HPR := Aside0.mk hpr
        have HL := Aside0.mk hL0
        have hcs : (p.kind == 1) = false ∨ ((p.kind == 1) = true ∧ (k == p.times - 1) = false) ∨ ((p.kind == 1) = true ∧ (k == p.times - 1) = true ∧ mx ≤ p.times) := by
          by_cases e1 : p.kind = 1
          · by_cases e2 : k = p.times - 1
            · exact .inr (.inr ⟨by simpa using e1, by simpa using e2, by have : ¬ (p.times < ap ∨ p.times < -ap) := fun g => hbad ⟨e1, e2, g⟩; omega⟩)
            · exact .inr (.inl ⟨by simpa using e1, by simpa using e2⟩)
          · exact .inl (by simpa using e1)
        clear hap hmx2 hpr hL0 hbad hk
        rcases hcs with e1 | ⟨e1, e2⟩ | ⟨e1, e2, e3⟩
        all_goals
          go_wp2_with (first
            | ((go_at_call 59; (with_reducible refine (PA.out _ GM.out).mono ?_); rintro e w5 ⟨rfl, hb⟩; have GM := Aside0.mk (Pd.blk_below GM.out hb); have G8 := Aside0.mk (Pd.blk_below G8.out hb); have BT := Aside0.mk (BT.out.below hb); have BA := Aside0.mk (BA.out.below hb); clear hb; obtain ⟨q3, q5, -, -, -, q20, q21, -⟩ := mk_cells GM.out; have f21 := frozen_of_row w5 gm 21 _ _ GM.out))
            | ((with_reducible refine gate_store (t := 2) (p := 86) rfl ?_); refine put_event rfl (t := 2) (p := 86) (v := .tmp 84) rfl rfl (g := gm) (i := 21) (cs := mcs p A1 c1 A2 c2 A3 c3 m inst left (.pointer (some ⟨gb, 0, none⟩))) (cs' := mcs p A1 c1 A2 c2 A3 c3 m inst (left - pr) (.pointer (some ⟨gb, 0, none⟩))) (x := .int .i64 (left - pr)) ?hr GM.out ?hc ?_; (case hc => rfl); (case hr => go_simp); intro w8 hb8 hbut; have GM := Aside0.mk hb8; have G8 := Aside0.mk ((hbut.block g8 (blk_lt G8.out) g8m).trans G8.out); have BA := Aside0.mk (BA.out.but hbut (Ne.symm NE.out)); have BT := Aside0.mk (BT.out.but hbut (.inl rfl)); have q21 : w8.cell? ⟨gm, 21, none⟩ = some (.int .i64 (left - pr)) := (blk_cell GM.out 21).trans rfl; clear hb8 hbut)
            | ((with_reducible refine gate_dst (N := 94) rfl ?_); refine build_event rfl (t := 36) rfl (cs := #[.int .i64 d, .int .i64 pr, .int .i64 z1, .int .i64 (left - pr)]) ?hb ?_; (case hb => simp only [List.map_toArray, List.map_cons, List.map_nil]; exact built_line d pr z1 (left - pr)))
            | ((with_reducible refine gate_store (t := 36) (p := 8) rfl ?_); refine row_event rfl (t := 36) (p := 8) (v := .tmp 94) rfl rfl (g := g8) (cs := #[.int .i64 d, .int .i64 pr, .int .i64 z1, .int .i64 (left - pr)]) (zs := #[.int .i64 0, .int .i64 0, .int .i64 0, .int .i64 0]) rfl rfl G8.out info_line rfl (line_one _ _ _ _) ?_; intro w9 hb8 hbut; have G8 := Aside0.mk hb8; have GM := Aside0.mk ((hbut.block gm (blk_lt GM.out) (Ne.symm g8m)).trans GM.out); have BA := Aside0.mk (BA.out.but hbut (Ne.symm g8ne)); have BT := Aside0.mk (BT.out.but hbut (.inr (.inr g8ge))); clear hb8 hbut))
          exact bodyPost_ret (v := .tuple #[.agg #[.int .i64 d, .int .i64 pr, .int .i64 z1, .int .i64 (left - pr)], .int .i64 0]) (results_cell_tmp (g := g8) (cs := #[.int .i64 d, .int .i64 pr, .int .i64 z1, .int .i64 (left - pr)]) Try.results31 _ _ _ _ rfl G8.out Try.underlying36 rfl info_line) rfl ⟨BT.out, _, by rw [HL.out], fun _ => ⟨by simp only []; rw [HPR.out], by simp only []; rw [HPR.out]; exact GM.out, BA.out⟩, fun h => absurd HL.out h⟩
  · have hL : lerr p m inst k left (z1, z2, z3) = 3 := by unfold lerr; rw [if_pos (by simpa using hz2)]
    have hzb : (z2 != 0) = true := by simpa using hz2
    have HL := Aside0.mk hL
    clear hz2 hL
    go_wp2_with (first
      | ((with_reducible refine gate_dst (N := 34) rfl ?_); refine build_event rfl (t := 36) rfl (cs := #[.int .i64 0, .int .i64 0, .int .i64 0, .int .i64 0]) ?hb ?_; (case hb => simp only [List.map_toArray, List.map_cons, List.map_nil]; exact built_line0))
      | ((with_reducible refine gate_store (t := 36) (p := 8) rfl ?_); refine row_event rfl (t := 36) (p := 8) (v := .tmp 34) rfl rfl (g := g8) (cs := #[.int .i64 0, .int .i64 0, .int .i64 0, .int .i64 0]) (zs := #[.int .i64 0, .int .i64 0, .int .i64 0, .int .i64 0]) rfl rfl G8.out info_line rfl (line_one 0 0 0 0) ?_; intro w9 hb8 hbut; have G8 := Aside0.mk hb8; have BT := Aside0.mk (BT.out.but hbut (.inr (.inr g8ge))); clear hb8 hbut))
    exact bodyPost_ret (v := .tuple #[.agg #[.int .i64 0, .int .i64 0, .int .i64 0, .int .i64 0], .int .i64 3]) (results_cell_tmp (g := g8) (cs := #[.int .i64 0, .int .i64 0, .int .i64 0, .int .i64 0]) Try.results31 _ _ _ _ rfl G8.out Try.underlying36 rfl info_line) rfl ⟨BT.out, _, by rw [HL.out], fun h => by rw [HL.out] at h; exact absurd h (by decide), fun _ => rfl⟩
end Go.Proofs.Ytfmkdledofbhdaa.Sc
/- Plain law of schedule: what holds of lines that are there. -/
namespace Go.Proofs.Ytfmkdledofbhdaa.Sc
open Go.RowKit Go.Proofs.YtfmkdledofbhdaaW.PrintWords Go.Proofs.YtfmkdledofbhdaaW.PrintLast Go.Proofs.YtfmkdledofbhdaaW.PrintMore Go.Proofs.Ytfmkdledofbhdaa.HW
open Go.Proofs.Ytfmkdledofbhdaa.Math Go.Proofs.Ytfmkdledofbhdaa.H Go.Proofs.Ytfmkdledofbhdaa.Pd Go.Proofs.Ytfmkdledofbhdaa.Du Go.Proofs.Ytfmkdledofbhdaa.Lv Pm
set_option linter.unusedVariables false
set_option linter.unusedSimpArgs false
/-- Lines hang together. -/
def Chain (p : Prod) (W h m inst : Int) : Int → Int → Int → List (Int × Int) → List Ln → Prop
  | k, left, rest, [], [] => True
  | k, left, rest, (d, n) :: r, x :: t =>
    (Gm.bear W h rest left p.rate n).2.1 = 0 ∧ lerr p m inst k left (Gm.bear W h rest left p.rate n) = 0 ∧ x.1 = d ∧ x.2.1 = prin p m inst k (Gm.bear W h rest left p.rate n).1 left ∧ x.2.2.1 = (Gm.bear W h rest left p.rate n).1 ∧ x.2.2.2 = left - x.2.1 ∧ 0 ≤ x.2.1 ∧
      Chain p W h m inst (k + 1) x.2.2.2 (Gm.bear W h rest left p.rate n).2.2 r t
  | _, _, _, _, _ => False
theorem lerr_zero {p : Prod} {m inst k left : Int} {z : Int × Int × Int} (h : lerr p m inst k left z = 0) : z.2.1 = 0 ∧ 0 ≤ prin p m inst k z.1 left ∧ (p.kind = 1 → k = p.times - 1 → prin p m inst k z.1 left + z.1 - inst ≤ p.times ∧ -(prin p m inst k z.1 left + z.1 - inst) ≤ p.times) := by
  unfold lerr at h
  split at h
  · simp at h
  · rename_i h1
    split at h
    · simp at h
    · rename_i h2
      split at h
      · simp at h
      · rename_i h3
        exact ⟨by simpa using h1, by omega, fun a b => by
          have : ¬ (p.times < prin p m inst k z.1 left + z.1 - inst ∨ p.times < -(prin p m inst k z.1 left + z.1 - inst)) := fun g => h3 ⟨a, b, g⟩
          omega⟩
theorem lines_chain {p : Prod} {W h m inst : Int} : ∀ (l : List (Int × Int)) (k left rest : Int) (ls : List Ln), lines p W h m inst k l left rest = (ls, 0) → Chain p W h m inst k left rest l ls
  | [], k, left, rest, ls, e => by
    rw [lines] at e
    obtain ⟨rfl, -⟩ := Prod.mk.inj e
    trivial
  | (d, n) :: r, k, left, rest, ls, e => by
    rw [lines] at e
    split at e
    · rename_i h1
      exact absurd (congrArg Prod.snd e) h1
    · rename_i h1
      have h1 : lerr p m inst k left (Gm.bear W h rest left p.rate n) = 0 := by simpa using h1
      split at e
      · rename_i h2
        obtain ⟨rfl, -⟩ := Prod.mk.inj e
        obtain ⟨z0, pr, _⟩ := lerr_zero h1
        exact ⟨z0, h1, rfl, rfl, rfl, rfl, pr, lines_chain r _ _ _ _ (Prod.ext rfl h2)⟩
      · rename_i h2
        exact absurd (congrArg Prod.snd e) h2
theorem chain_len {p : Prod} {W h m inst : Int} : ∀ (l : List (Int × Int)) (k left rest : Int) (ls : List Ln), Chain p W h m inst k left rest l ls → ls.length = l.length
  | [], k, left, rest, [], c => rfl
  | [], k, left, rest, x :: t, c => by simp [Chain] at c
  | y :: r, k, left, rest, [], c => by simp [Chain] at c
  | (d, n) :: r, k, left, rest, x :: t, c => by
    obtain ⟨_, _, _, _, _, _, _, c⟩ := c
    simp [chain_len r _ _ _ t c]
/-- A law's look at the lines of a loan, one by one. -/
def looks (p : Prod) : Int → Int → Int → List Ln → Prop
  | k, left, day, [] => left = 0
  | k, left, day, x :: t => x.2.2.2 = left - x.2.1 ∧ 0 ≤ x.2.1 ∧ 0 ≤ x.2.2.1 ∧ 0 ≤ x.2.2.2 ∧ (k < p.grace → x.2.1 = 0) ∧ day < x.1 ∧ looks p (k + 1) x.2.2.2 x.1 t
theorem chain_looks {p : Prod} {m inst : Int} {W h : Int} (m0 : 0 ≤ m) (m1 : m ≤ 10000000000000) (g0 : 0 ≤ p.grace) (gt : p.grace < p.times) : ∀ (l : List (Int × Int)) (k left rest day : Int) (ls : List Ln), H.Good W h rest → Chain p W h m inst k left rest l ls → Mid p m k left → 0 ≤ k → k + l.length = p.times → 0 < l.length ∨ left = 0 → rise day (l.map (·.1)) = true → looks p k left day ls
  | [], k, left, rest, day, [], G, c, M, k0, kl, hn, hr => by
    rcases hn with h | h
    · simp at h
    · exact h
  | [], k, left, rest, day, x :: t, G, c, M, k0, kl, hn, hr => by simp [Chain] at c
  | y :: r, k, left, rest, day, [], G, c, M, k0, kl, hn, hr => by simp [Chain] at c
  | (d, n) :: r, k, left, rest, day, x :: t, G, c, M, k0, kl, hn, hr => by
    obtain ⟨c1, c2, c3, c4, c5, c6, c7, c8⟩ := c
    simp only [List.length_cons] at kl
    have kt : k < p.times := by omega
    obtain ⟨p1, p2, p3⟩ := prin_bd (inst := inst) (v := (Gm.bear W h rest left p.rate n).1) M m0 g0 gt k0 kt
    rw [List.map_cons, rise, Bool.and_eq_true] at hr
    obtain ⟨r1, r2⟩ := hr
    have r1 := of_decide_eq_true r1
    have M2 := p3 (by omega)
    rw [← c4, ← c6] at M2
    obtain ⟨hm, hq, he⟩ := bear_ok c1
    have v0 : 0 ≤ (Gm.bear W h rest left p.rate n).1 := by
      rw [he]
      exact (Gm.step (W := W) (h := h) (rest := rest) (x := left * p.rate * n) (by have := G.w0; omega) (Int.mul_nonneg (Int.mul_nonneg hm.1 hm.2.2.1) hm.2.2.2.2.1) G.r0).1
    refine ⟨c6, c7, by omega, M2.l0, fun hk => ?_, by omega, ?_⟩
    · rw [c4]; unfold prin; rw [if_pos hk]
    · refine chain_looks m0 m1 g0 gt r (k + 1) x.2.2.2 _ x.1 t (good_bear G) c8 M2 (by omega) (by omega) ?_ (by rw [c3]; exact r2)
      rcases (by omega : 0 < r.length ∨ r.length = 0) with h1 | h1
      · exact .inl h1
      · right
        have kk : k = p.times - 1 := by omega
        rw [c6, c4]
        unfold prin
        rw [if_neg (by omega), if_pos kk]
        omega
end Go.Proofs.Ytfmkdledofbhdaa.Sc
