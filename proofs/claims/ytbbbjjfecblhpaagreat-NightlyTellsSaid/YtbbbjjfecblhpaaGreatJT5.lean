/- Texts of this claim, joined in build order. -/
import Derived.RowKit
import Derived.Below
import Derived.Test.YtbbbjjfecblhpaaGreatProg
import Derived.Deep.Draws
import Derived.Deep.AppendLies
import Derived.Maps.AppendAt
import Derived.OwnWalk
import Derived.Laws.BytesArg
import Derived.Laws.MakeOwn
import Derived.Laws.OwnMore
import Derived.Tactics
import Derived.Lib.ConvBytes
import Derived.Laws.Slices
import Derived.WalkKit
import Derived.KernelRfl
import Derived.RowKit3
import Derived.Deep.LoopGhost
import Derived.Deep.QuietTactic
import Derived.BigQuiet
import Derived.WideLaws
import Derived.Deep.DeepCutAuto
import Derived.Deep.CutBlock
import Derived.Deep.RegionHeld3
import Derived.Lib.AppendStr
import Derived.ArgAppend
import Derived.Laws.IdiomCopy
import Derived.OrdersHeld
import Derived.Laws.BitsLemmas
import Derived.Laws.StructEq
import Derived.WalkLawsBesides
import Derived.WalkSpells
import Derived.Lib.IndexMore
import Derived.Deep.Slices
import Derived.Deep.Fields
import Derived.ChangeSame
import Derived.Lib.SmallJoins
import Derived.ProofKit
import Derived.Defers
import Derived.Laws.Tables
import Derived.Deep.WholeRow
import Derived.Recover
import Derived.StillTailTactics
import Derived.SizedLaws
import Derived.ChangeSlices
import Derived.IntWalk
import Derived.Shelf.Small.Bits
import Derived.Shelf.Strconv.Itoa0
import Derived.Shelf.Strings.Search1
import Derived.Shelf.Strings.Search2
import Derived.Shelf.Strings.Search3
import Derived.Shelf.LaysM
import Derived.Shelf.Strings.Shaped
import Derived.Shelf.Bits.Mul64
import Derived.Ground.Names2Prog
import Derived.Shelf.Slices.Clone
import Derived.Ground.SlgnProg
import Derived.Shelf.SlicesE.Clone
import Derived.Lib.SlBytesConst
import Derived.Deep.RegionWith
import Derived.Lib.Hide
import Derived.BigFrame
import Derived.Deep.MidRow
import Derived.Lib.BitFns
import Derived.Laws.BitsAllLaws
import Derived.Laws.Externs
import Derived.RegionTactic
import Derived.Laws.AppendOwnNone
import Derived.OpenShut
import Derived.ShutString
import Derived.ChangeOld
import Derived.Laws.IdiomArrays
import Derived.HandedShaped
import Derived.Shelf.Vars
import Derived.Test.YtbbbjjfecblhpaaGreatJT1
import Derived.Test.YtbbbjjfecblhpaaGreatJT2
import Derived.Test.YtbbbjjfecblhpaaGreatJT3
import Derived.Test.YtbbbjjfecblhpaaGreatJT4
set_option linter.unusedVariables false
set_option linter.unusedSimpArgs false
-- Written by a program of this session (wip/tools/myprint.py) with the help of the printer of the kit; Lean checks it.
namespace Go.Proofs.YtbbbjjfecblhpaaGreat.PM
open Go.RowKit Go.Proofs.YtbbbjjfecblhpaaGreatW.PrintWords Go.Proofs.YtbbbjjfecblhpaaGreatW.PrintLast Go.Proofs.YtbbbjjfecblhpaaGreatW.PrintMore Go.Proofs.YtbbbjjfecblhpaaGreat.HW
attribute [local go_sem] run_makeFunc_ max2_int min2_int max_two min_two max_three min_three max_four min_four   -- for this text's walks alone
set_option linter.unusedVariables false
set_option linter.unusedSimpArgs false

/-! ### bits_Div64: function 98 -/
mutual
def bits_Div64.j2 : Nat → Int → Int → Int → Int → Int → Int → Int → Int → Option (Int × Int)
  | 0, _, _, _, _, _, _, _, _ => none
  | k + 1, x2, x8, x9, x10, x11, x13, x14, x15 => if x9 = 0 then (none) else (bits_Div64.l1 k x2 x8 x9 x10 x14 x15 (IntKind.u64.wrap ((IntKind.u64.wrap ((IntKind.u64.wrap ((IntKind.u64.wrap (x11 * 4294967296)) + x13)) - (IntKind.u64.wrap (x15 * x2)))) - (IntKind.u64.wrap ((IntKind.u64.wrap (Int.tdiv (IntKind.u64.wrap ((IntKind.u64.wrap ((IntKind.u64.wrap (x11 * 4294967296)) + x13)) - (IntKind.u64.wrap (x15 * x2)))) x9)) * x9)))) (IntKind.u64.wrap ((IntKind.u64.wrap ((IntKind.u64.wrap (x11 * 4294967296)) + x13)) - (IntKind.u64.wrap (x15 * x2)))) (IntKind.u64.wrap (Int.tdiv (IntKind.u64.wrap ((IntKind.u64.wrap ((IntKind.u64.wrap (x11 * 4294967296)) + x13)) - (IntKind.u64.wrap (x15 * x2)))) x9)))
def bits_Div64.l1 : Nat → Int → Int → Int → Int → Int → Int → Int → Int → Int → Option (Int × Int)
  | 0, _, _, _, _, _, _, _, _, _ => none
  | k + 1, x2, x8, x9, x10, x14, x15, x16, x17, x18 => if x18 ≥ 4294967296 then (bits_Div64.j4 k x2 x8 x9 x10 x14 x15 x16 x17 x18 true) else (bits_Div64.j4 k x2 x8 x9 x10 x14 x15 x16 x17 x18 (decide ((IntKind.u64.wrap (x18 * x10)) > (IntKind.u64.wrap ((IntKind.u64.wrap (4294967296 * x16)) + x14)))))
def bits_Div64.j4 : Nat → Int → Int → Int → Int → Int → Int → Int → Int → Int → Bool → Option (Int × Int)
  | 0, _, _, _, _, _, _, _, _, _, _ => none
  | k + 1, x2, x8, x9, x10, x14, x15, x16, x17, x18, x113 => if x113 = true then (if (IntKind.u64.wrap (x16 + x9)) ≥ 4294967296 then (if 0 ≤ x8 then (some (IntKind.u64.wrap ((IntKind.u64.wrap (x15 * 4294967296)) + (IntKind.u64.wrap (x18 - 1))), shr .u64 (IntKind.u64.wrap ((IntKind.u64.wrap ((IntKind.u64.wrap (x17 * 4294967296)) + x14)) - (IntKind.u64.wrap ((IntKind.u64.wrap (x18 - 1)) * x2)))) x8)) else (none)) else (bits_Div64.l1 k x2 x8 x9 x10 x14 x15 (IntKind.u64.wrap (x16 + x9)) x17 (IntKind.u64.wrap (x18 - 1)))) else (if 0 ≤ x8 then (some (IntKind.u64.wrap ((IntKind.u64.wrap (x15 * 4294967296)) + x18), shr .u64 (IntKind.u64.wrap ((IntKind.u64.wrap ((IntKind.u64.wrap (x17 * 4294967296)) + x14)) - (IntKind.u64.wrap (x18 * x2)))) x8)) else (none))
def bits_Div64.l0 : Nat → Int → Int → Int → Int → Int → Int → Int → Int → Int → Option (Int × Int)
  | 0, _, _, _, _, _, _, _, _, _ => none
  | k + 1, x2, x8, x9, x10, x11, x13, x14, x15, x16 => if x15 ≥ 4294967296 then (bits_Div64.j1 k x2 x8 x9 x10 x11 x13 x14 x15 x16 true) else (bits_Div64.j1 k x2 x8 x9 x10 x11 x13 x14 x15 x16 (decide ((IntKind.u64.wrap (x15 * x10)) > (IntKind.u64.wrap ((IntKind.u64.wrap (4294967296 * x16)) + x13)))))
def bits_Div64.j1 : Nat → Int → Int → Int → Int → Int → Int → Int → Int → Int → Bool → Option (Int × Int)
  | 0, _, _, _, _, _, _, _, _, _, _ => none
  | k + 1, x2, x8, x9, x10, x11, x13, x14, x15, x16, x78 => if x78 = true then (if (IntKind.u64.wrap (x16 + x9)) ≥ 4294967296 then (bits_Div64.j2 k x2 x8 x9 x10 x11 x13 x14 (IntKind.u64.wrap (x15 - 1))) else (bits_Div64.l0 k x2 x8 x9 x10 x11 x13 x14 (IntKind.u64.wrap (x15 - 1)) (IntKind.u64.wrap (x16 + x9)))) else (bits_Div64.j2 k x2 x8 x9 x10 x11 x13 x14 x15)
end
def bits_Div64.f (k : Nat) (a0 : Int) (a1 : Int) (a2 : Int) : Option (Int × Int) := if a2 = 0 then (none) else (if a2 ≤ a0 then (none) else (if a0 = 0 then (some (IntKind.u64.wrap (Int.tdiv a1 a2), Int.tmod a1 a2)) else ((Go.Proofs.YtbbbjjfecblhpaaGreat.H.bits_LeadingZeros64.f a2).bind fun t101 => (if 0 ≤ (IntKind.u64.wrap (t101)) then (if 0 ≤ (IntKind.u64.wrap (64 - (IntKind.u64.wrap (t101)))) then (if ((shl .u64 a2 (IntKind.u64.wrap (t101))) / 4294967296) = 0 then (none) else (bits_Div64.l0 k (shl .u64 a2 (IntKind.u64.wrap (t101))) (IntKind.u64.wrap (t101)) ((shl .u64 a2 (IntKind.u64.wrap (t101))) / 4294967296) (Go.bits .and .u64 (shl .u64 a2 (IntKind.u64.wrap (t101))) 4294967295) (Go.bits .or .u64 (shl .u64 a0 (IntKind.u64.wrap (t101))) (shr .u64 a1 (IntKind.u64.wrap (64 - (IntKind.u64.wrap (t101)))))) ((shl .u64 a1 (IntKind.u64.wrap (t101))) / 4294967296) (Go.bits .and .u64 (shl .u64 a1 (IntKind.u64.wrap (t101))) 4294967295) (IntKind.u64.wrap (Int.tdiv (Go.bits .or .u64 (shl .u64 a0 (IntKind.u64.wrap (t101))) (shr .u64 a1 (IntKind.u64.wrap (64 - (IntKind.u64.wrap (t101)))))) ((shl .u64 a2 (IntKind.u64.wrap (t101))) / 4294967296))) (IntKind.u64.wrap ((Go.bits .or .u64 (shl .u64 a0 (IntKind.u64.wrap (t101))) (shr .u64 a1 (IntKind.u64.wrap (64 - (IntKind.u64.wrap (t101)))))) - (IntKind.u64.wrap ((IntKind.u64.wrap (Int.tdiv (Go.bits .or .u64 (shl .u64 a0 (IntKind.u64.wrap (t101))) (shr .u64 a1 (IntKind.u64.wrap (64 - (IntKind.u64.wrap (t101)))))) ((shl .u64 a2 (IntKind.u64.wrap (t101))) / 4294967296))) * ((shl .u64 a2 (IntKind.u64.wrap (t101))) / 4294967296))))))) else (none)) else (none)))))
theorem bits_Div64.mono_l : ∀ k, (∀ y0 y1 y2 y3 y4 y5 y6 y7, LeO (bits_Div64.j2 k y0 y1 y2 y3 y4 y5 y6 y7) (bits_Div64.j2 (k + 1) y0 y1 y2 y3 y4 y5 y6 y7)) ∧ (∀ y0 y1 y2 y3 y4 y5 y6 y7 y8, LeO (bits_Div64.l1 k y0 y1 y2 y3 y4 y5 y6 y7 y8) (bits_Div64.l1 (k + 1) y0 y1 y2 y3 y4 y5 y6 y7 y8)) ∧ (∀ y0 y1 y2 y3 y4 y5 y6 y7 y8 y9, LeO (bits_Div64.j4 k y0 y1 y2 y3 y4 y5 y6 y7 y8 y9) (bits_Div64.j4 (k + 1) y0 y1 y2 y3 y4 y5 y6 y7 y8 y9)) ∧ (∀ y0 y1 y2 y3 y4 y5 y6 y7 y8, LeO (bits_Div64.l0 k y0 y1 y2 y3 y4 y5 y6 y7 y8) (bits_Div64.l0 (k + 1) y0 y1 y2 y3 y4 y5 y6 y7 y8)) ∧ (∀ y0 y1 y2 y3 y4 y5 y6 y7 y8 y9, LeO (bits_Div64.j1 k y0 y1 y2 y3 y4 y5 y6 y7 y8 y9) (bits_Div64.j1 (k + 1) y0 y1 y2 y3 y4 y5 y6 y7 y8 y9))
  | 0 => ⟨fun _ _ _ _ _ _ _ _ r h => by simp [bits_Div64.j2] at h, fun _ _ _ _ _ _ _ _ _ r h => by simp [bits_Div64.l1] at h, fun _ _ _ _ _ _ _ _ _ _ r h => by simp [bits_Div64.j4] at h, fun _ _ _ _ _ _ _ _ _ r h => by simp [bits_Div64.l0] at h, fun _ _ _ _ _ _ _ _ _ _ r h => by simp [bits_Div64.j1] at h⟩
  | k + 1 => by
    obtain ⟨ih0, ih1, ih2, ih3, ih4⟩ := bits_Div64.mono_l k
    refine ⟨?_, ?_, ?_, ?_, ?_⟩
    · intro y0 y1 y2 y3 y4 y5 y6 y7
      unfold bits_Div64.j2
      repeat' first
      | (with_reducible exact ih0 _ _ _ _ _ _ _ _)
      | (with_reducible exact ih1 _ _ _ _ _ _ _ _ _)
      | (with_reducible exact ih2 _ _ _ _ _ _ _ _ _ _)
      | (with_reducible exact ih3 _ _ _ _ _ _ _ _ _)
      | (with_reducible exact ih4 _ _ _ _ _ _ _ _ _ _)
      | (with_reducible exact LeO.refl _)
      | (with_reducible exact LeO.none _)
      | (with_reducible refine LeO.ite ?_ ?_)
      | (with_reducible refine LeO.bind ?_ (fun _ => ?_))
      | exact ih0 _ _ _ _ _ _ _ _
      | exact ih1 _ _ _ _ _ _ _ _ _
      | exact ih2 _ _ _ _ _ _ _ _ _ _
      | exact ih3 _ _ _ _ _ _ _ _ _
      | exact ih4 _ _ _ _ _ _ _ _ _ _
      | exact LeO.none _
      | refine LeO.ite ?_ ?_
      | refine LeO.bind ?_ (fun _ => ?_)
    · intro y0 y1 y2 y3 y4 y5 y6 y7 y8
      unfold bits_Div64.l1
      repeat' first
      | (with_reducible exact ih0 _ _ _ _ _ _ _ _)
      | (with_reducible exact ih1 _ _ _ _ _ _ _ _ _)
      | (with_reducible exact ih2 _ _ _ _ _ _ _ _ _ _)
      | (with_reducible exact ih3 _ _ _ _ _ _ _ _ _)
      | (with_reducible exact ih4 _ _ _ _ _ _ _ _ _ _)
      | (with_reducible exact LeO.refl _)
      | (with_reducible exact LeO.none _)
      | (with_reducible refine LeO.ite ?_ ?_)
      | (with_reducible refine LeO.bind ?_ (fun _ => ?_))
      | exact ih0 _ _ _ _ _ _ _ _
      | exact ih1 _ _ _ _ _ _ _ _ _
      | exact ih2 _ _ _ _ _ _ _ _ _ _
      | exact ih3 _ _ _ _ _ _ _ _ _
      | exact ih4 _ _ _ _ _ _ _ _ _ _
      | exact LeO.none _
      | refine LeO.ite ?_ ?_
      | refine LeO.bind ?_ (fun _ => ?_)
    · intro y0 y1 y2 y3 y4 y5 y6 y7 y8 y9
      unfold bits_Div64.j4
      repeat' first
      | (with_reducible exact ih0 _ _ _ _ _ _ _ _)
      | (with_reducible exact ih1 _ _ _ _ _ _ _ _ _)
      | (with_reducible exact ih2 _ _ _ _ _ _ _ _ _ _)
      | (with_reducible exact ih3 _ _ _ _ _ _ _ _ _)
      | (with_reducible exact ih4 _ _ _ _ _ _ _ _ _ _)
      | (with_reducible exact LeO.refl _)
      | (with_reducible exact LeO.none _)
      | (with_reducible refine LeO.ite ?_ ?_)
      | (with_reducible refine LeO.bind ?_ (fun _ => ?_))
      | exact ih0 _ _ _ _ _ _ _ _
      | exact ih1 _ _ _ _ _ _ _ _ _
      | exact ih2 _ _ _ _ _ _ _ _ _ _
      | exact ih3 _ _ _ _ _ _ _ _ _
      | exact ih4 _ _ _ _ _ _ _ _ _ _
      | exact LeO.none _
      | refine LeO.ite ?_ ?_
      | refine LeO.bind ?_ (fun _ => ?_)
    · intro y0 y1 y2 y3 y4 y5 y6 y7 y8
      unfold bits_Div64.l0
      repeat' first
      | (with_reducible exact ih0 _ _ _ _ _ _ _ _)
      | (with_reducible exact ih1 _ _ _ _ _ _ _ _ _)
      | (with_reducible exact ih2 _ _ _ _ _ _ _ _ _ _)
      | (with_reducible exact ih3 _ _ _ _ _ _ _ _ _)
      | (with_reducible exact ih4 _ _ _ _ _ _ _ _ _ _)
      | (with_reducible exact LeO.refl _)
      | (with_reducible exact LeO.none _)
      | (with_reducible refine LeO.ite ?_ ?_)
      | (with_reducible refine LeO.bind ?_ (fun _ => ?_))
      | exact ih0 _ _ _ _ _ _ _ _
      | exact ih1 _ _ _ _ _ _ _ _ _
      | exact ih2 _ _ _ _ _ _ _ _ _ _
      | exact ih3 _ _ _ _ _ _ _ _ _
      | exact ih4 _ _ _ _ _ _ _ _ _ _
      | exact LeO.none _
      | refine LeO.ite ?_ ?_
      | refine LeO.bind ?_ (fun _ => ?_)
    · intro y0 y1 y2 y3 y4 y5 y6 y7 y8 y9
      unfold bits_Div64.j1
      repeat' first
      | (with_reducible exact ih0 _ _ _ _ _ _ _ _)
      | (with_reducible exact ih1 _ _ _ _ _ _ _ _ _)
      | (with_reducible exact ih2 _ _ _ _ _ _ _ _ _ _)
      | (with_reducible exact ih3 _ _ _ _ _ _ _ _ _)
      | (with_reducible exact ih4 _ _ _ _ _ _ _ _ _ _)
      | (with_reducible exact LeO.refl _)
      | (with_reducible exact LeO.none _)
      | (with_reducible refine LeO.ite ?_ ?_)
      | (with_reducible refine LeO.bind ?_ (fun _ => ?_))
      | exact ih0 _ _ _ _ _ _ _ _
      | exact ih1 _ _ _ _ _ _ _ _ _
      | exact ih2 _ _ _ _ _ _ _ _ _ _
      | exact ih3 _ _ _ _ _ _ _ _ _
      | exact ih4 _ _ _ _ _ _ _ _ _ _
      | exact LeO.none _
      | refine LeO.ite ?_ ?_
      | refine LeO.bind ?_ (fun _ => ?_)
theorem bits_Div64.mono : ∀ a0 a1 a2 k, LeO (bits_Div64.f k a0 a1 a2) (bits_Div64.f (k + 1) a0 a1 a2) := by
  intro a0 a1 a2 k
  obtain ⟨ih0, ih1, ih2, ih3, ih4⟩ := bits_Div64.mono_l k
  unfold bits_Div64.f
  repeat' first
      | (with_reducible exact ih0 _ _ _ _ _ _ _ _)
      | (with_reducible exact ih1 _ _ _ _ _ _ _ _ _)
      | (with_reducible exact ih2 _ _ _ _ _ _ _ _ _ _)
      | (with_reducible exact ih3 _ _ _ _ _ _ _ _ _)
      | (with_reducible exact ih4 _ _ _ _ _ _ _ _ _ _)
      | (with_reducible exact LeO.refl _)
      | (with_reducible exact LeO.none _)
      | (with_reducible refine LeO.ite ?_ ?_)
      | (with_reducible refine LeO.bind ?_ (fun _ => ?_))
      | exact ih0 _ _ _ _ _ _ _ _
      | exact ih1 _ _ _ _ _ _ _ _ _
      | exact ih2 _ _ _ _ _ _ _ _ _ _
      | exact ih3 _ _ _ _ _ _ _ _ _
      | exact ih4 _ _ _ _ _ _ _ _ _ _
      | exact LeO.none _
      | refine LeO.ite ?_ ?_
      | refine LeO.bind ?_ (fun _ => ?_)
set_option maxHeartbeats 8000000 in
set_option maxRecDepth 100000 in
theorem bits_Div64.calls (k : Nat) (a0 : Int) (a1 : Int) (a2 : Int) (r1 : Int) (r2 : Int) (w : World) (h : bits_Div64.f k a0 a1 a2 = some (r1, r2)) :
    Calls Tryz.prog 98 #[.int .u64 a0, .int .u64 a1, .int .u64 a2] w fun e w' => e = .returned (.tuple #[.int .u64 r1, .int .u64 r2]) ∧ Drawn0 w w' := by
  have H : (if a2 = 0 then (none) else (if a2 ≤ a0 then (none) else (if a0 = 0 then (some (IntKind.u64.wrap (Int.tdiv a1 a2), Int.tmod a1 a2)) else ((Go.Proofs.YtbbbjjfecblhpaaGreat.H.bits_LeadingZeros64.f a2).bind fun t101 => (if 0 ≤ (IntKind.u64.wrap (t101)) then (if 0 ≤ (IntKind.u64.wrap (64 - (IntKind.u64.wrap (t101)))) then (if ((shl .u64 a2 (IntKind.u64.wrap (t101))) / 4294967296) = 0 then (none) else (bits_Div64.l0 k (shl .u64 a2 (IntKind.u64.wrap (t101))) (IntKind.u64.wrap (t101)) ((shl .u64 a2 (IntKind.u64.wrap (t101))) / 4294967296) (Go.bits .and .u64 (shl .u64 a2 (IntKind.u64.wrap (t101))) 4294967295) (Go.bits .or .u64 (shl .u64 a0 (IntKind.u64.wrap (t101))) (shr .u64 a1 (IntKind.u64.wrap (64 - (IntKind.u64.wrap (t101)))))) ((shl .u64 a1 (IntKind.u64.wrap (t101))) / 4294967296) (Go.bits .and .u64 (shl .u64 a1 (IntKind.u64.wrap (t101))) 4294967295) (IntKind.u64.wrap (Int.tdiv (Go.bits .or .u64 (shl .u64 a0 (IntKind.u64.wrap (t101))) (shr .u64 a1 (IntKind.u64.wrap (64 - (IntKind.u64.wrap (t101)))))) ((shl .u64 a2 (IntKind.u64.wrap (t101))) / 4294967296))) (IntKind.u64.wrap ((Go.bits .or .u64 (shl .u64 a0 (IntKind.u64.wrap (t101))) (shr .u64 a1 (IntKind.u64.wrap (64 - (IntKind.u64.wrap (t101)))))) - (IntKind.u64.wrap ((IntKind.u64.wrap (Int.tdiv (Go.bits .or .u64 (shl .u64 a0 (IntKind.u64.wrap (t101))) (shr .u64 a1 (IntKind.u64.wrap (64 - (IntKind.u64.wrap (t101)))))) ((shl .u64 a2 (IntKind.u64.wrap (t101))) / 4294967296))) * ((shl .u64 a2 (IntKind.u64.wrap (t101))) / 4294967296))))))) else (none)) else (none)))))) = some (r1, r2) := h
  clear h
  by_cases c4 : a2 = 0
  · rw [if_pos c4] at H
    exact absurd H (by simp)
  · rw [if_neg c4] at H
    have c4b0 : (a2 == 0) = false := beq_eq_false_iff_ne.mpr c4
    have c4b1 : (a2 != 0) = true := bne_iff_ne.mpr c4
    by_cases c5 : a2 ≤ a0
    · rw [if_pos c5] at H
      exact absurd H (by simp)
    · rw [if_neg c5] at H
      have c5b0 : decide (a2 ≤ a0) = false := decide_eq_false c5
      clear c5
      by_cases c6 : a0 = 0
      · rw [if_pos c6] at H
        have c6b0 : (a0 == 0) = true := beq_iff_eq.mpr c6
        have c6b1 : (a0 != 0) = false := bne_eq_false_iff_eq.mpr c6
        clear c6
        simp only [Option.some.injEq, Prod.mk.injEq] at H
        obtain ⟨rfl, rfl⟩ := H
        go_enter Tryz.func98, Tryz.ntmps98
        go_wp2
        repeat (go_quiet (fail); try go_wp2)
        go_ret2
        exact ⟨by first | rfl | (simp; done) | (simp [*]; done), by repeat (first | exact Drawn0.refl _ | apply Drawn0.step)⟩
      · rw [if_neg c6] at H
        have c6b0 : (a0 == 0) = false := beq_eq_false_iff_ne.mpr c6
        have c6b1 : (a0 != 0) = true := bne_iff_ne.mpr c6
        replace H := Option.bind_eq_some_iff.mp H
        obtain ⟨t101, A70, H⟩ := H
        replace H : (if 0 ≤ (IntKind.u64.wrap (t101)) then (if 0 ≤ (IntKind.u64.wrap (64 - (IntKind.u64.wrap (t101)))) then (if ((shl .u64 a2 (IntKind.u64.wrap (t101))) / 4294967296) = 0 then (none) else (bits_Div64.l0 k (shl .u64 a2 (IntKind.u64.wrap (t101))) (IntKind.u64.wrap (t101)) ((shl .u64 a2 (IntKind.u64.wrap (t101))) / 4294967296) (Go.bits .and .u64 (shl .u64 a2 (IntKind.u64.wrap (t101))) 4294967295) (Go.bits .or .u64 (shl .u64 a0 (IntKind.u64.wrap (t101))) (shr .u64 a1 (IntKind.u64.wrap (64 - (IntKind.u64.wrap (t101)))))) ((shl .u64 a1 (IntKind.u64.wrap (t101))) / 4294967296) (Go.bits .and .u64 (shl .u64 a1 (IntKind.u64.wrap (t101))) 4294967295) (IntKind.u64.wrap (Int.tdiv (Go.bits .or .u64 (shl .u64 a0 (IntKind.u64.wrap (t101))) (shr .u64 a1 (IntKind.u64.wrap (64 - (IntKind.u64.wrap (t101)))))) ((shl .u64 a2 (IntKind.u64.wrap (t101))) / 4294967296))) (IntKind.u64.wrap ((Go.bits .or .u64 (shl .u64 a0 (IntKind.u64.wrap (t101))) (shr .u64 a1 (IntKind.u64.wrap (64 - (IntKind.u64.wrap (t101)))))) - (IntKind.u64.wrap ((IntKind.u64.wrap (Int.tdiv (Go.bits .or .u64 (shl .u64 a0 (IntKind.u64.wrap (t101))) (shr .u64 a1 (IntKind.u64.wrap (64 - (IntKind.u64.wrap (t101)))))) ((shl .u64 a2 (IntKind.u64.wrap (t101))) / 4294967296))) * ((shl .u64 a2 (IntKind.u64.wrap (t101))) / 4294967296))))))) else (none)) else (none)) = some (r1, r2) := H
        have A7 := Aside0.mk A70
        clear A70
        obtain ⟨ji8, hji8⟩ : ∃ j_ : Int, (IntKind.u64.wrap (t101)) = j_ := ⟨_, rfl⟩
        replace H : (if 0 ≤ (ji8) then (if 0 ≤ (IntKind.u64.wrap (64 - (ji8))) then (if ((shl .u64 a2 (ji8)) / 4294967296) = 0 then (none) else (bits_Div64.l0 k (shl .u64 a2 (ji8)) ji8 ((shl .u64 a2 (ji8)) / 4294967296) (Go.bits .and .u64 (shl .u64 a2 (ji8)) 4294967295) (Go.bits .or .u64 (shl .u64 a0 (ji8)) (shr .u64 a1 (IntKind.u64.wrap (64 - (ji8))))) ((shl .u64 a1 (ji8)) / 4294967296) (Go.bits .and .u64 (shl .u64 a1 (ji8)) 4294967295) (IntKind.u64.wrap (Int.tdiv (Go.bits .or .u64 (shl .u64 a0 (ji8)) (shr .u64 a1 (IntKind.u64.wrap (64 - (ji8))))) ((shl .u64 a2 (ji8)) / 4294967296))) (IntKind.u64.wrap ((Go.bits .or .u64 (shl .u64 a0 (ji8)) (shr .u64 a1 (IntKind.u64.wrap (64 - (ji8))))) - (IntKind.u64.wrap ((IntKind.u64.wrap (Int.tdiv (Go.bits .or .u64 (shl .u64 a0 (ji8)) (shr .u64 a1 (IntKind.u64.wrap (64 - (ji8))))) ((shl .u64 a2 (ji8)) / 4294967296))) * ((shl .u64 a2 (ji8)) / 4294967296))))))) else (none)) else (none)) = some (r1, r2) := by first | (rw [hji8] at H; exact H) | (simp only [hji8] at H ⊢; exact H)
        (try rw [hji8] at A7)
        by_cases c9 : 0 ≤ (ji8)
        · rw [if_pos c9] at H
          have c9b0 := eq_true c9
          have c9b1 : decide (0 ≤ (ji8)) = true := decide_eq_true c9
          clear c9
          obtain ⟨ji10, hji10⟩ : ∃ j_ : Int, (shl .u64 a2 (ji8)) = j_ := ⟨_, rfl⟩
          replace H : (if 0 ≤ (IntKind.u64.wrap (64 - (ji8))) then (if ((ji10) / 4294967296) = 0 then (none) else (bits_Div64.l0 k ji10 ji8 ((ji10) / 4294967296) (Go.bits .and .u64 (ji10) 4294967295) (Go.bits .or .u64 (shl .u64 a0 (ji8)) (shr .u64 a1 (IntKind.u64.wrap (64 - (ji8))))) ((shl .u64 a1 (ji8)) / 4294967296) (Go.bits .and .u64 (shl .u64 a1 (ji8)) 4294967295) (IntKind.u64.wrap (Int.tdiv (Go.bits .or .u64 (shl .u64 a0 (ji8)) (shr .u64 a1 (IntKind.u64.wrap (64 - (ji8))))) ((ji10) / 4294967296))) (IntKind.u64.wrap ((Go.bits .or .u64 (shl .u64 a0 (ji8)) (shr .u64 a1 (IntKind.u64.wrap (64 - (ji8))))) - (IntKind.u64.wrap ((IntKind.u64.wrap (Int.tdiv (Go.bits .or .u64 (shl .u64 a0 (ji8)) (shr .u64 a1 (IntKind.u64.wrap (64 - (ji8))))) ((ji10) / 4294967296))) * ((ji10) / 4294967296))))))) else (none)) = some (r1, r2) := by first | (rw [hji10] at H; exact H) | (simp only [hji10] at H ⊢; exact H)
          (try rw [hji10] at A7)
          have hji10_ : (IntKind.u64.wrap (a2 * 2 ^ min (ji8).toNat 64)) = ji10 := hji10
          have hji10z : (ji8) ≤ 64 → (IntKind.u64.wrap (a2 * 2 ^ (ji8).toNat)) = ji10 := shl_small hji10
          have c11b0 := eq_true (of_decide_eq_true (by first | (with_reducible assumption) | assumption) : 0 ≤ (ji8))
          obtain ⟨ji12, hji12⟩ : ∃ j_ : Int, (shl .u64 a0 (ji8)) = j_ := ⟨_, rfl⟩
          replace H : (if 0 ≤ (IntKind.u64.wrap (64 - (ji8))) then (if ((ji10) / 4294967296) = 0 then (none) else (bits_Div64.l0 k ji10 ji8 ((ji10) / 4294967296) (Go.bits .and .u64 (ji10) 4294967295) (Go.bits .or .u64 (ji12) (shr .u64 a1 (IntKind.u64.wrap (64 - (ji8))))) ((shl .u64 a1 (ji8)) / 4294967296) (Go.bits .and .u64 (shl .u64 a1 (ji8)) 4294967295) (IntKind.u64.wrap (Int.tdiv (Go.bits .or .u64 (ji12) (shr .u64 a1 (IntKind.u64.wrap (64 - (ji8))))) ((ji10) / 4294967296))) (IntKind.u64.wrap ((Go.bits .or .u64 (ji12) (shr .u64 a1 (IntKind.u64.wrap (64 - (ji8))))) - (IntKind.u64.wrap ((IntKind.u64.wrap (Int.tdiv (Go.bits .or .u64 (ji12) (shr .u64 a1 (IntKind.u64.wrap (64 - (ji8))))) ((ji10) / 4294967296))) * ((ji10) / 4294967296))))))) else (none)) = some (r1, r2) := by first | (rw [hji12] at H; exact H) | (simp only [hji12] at H ⊢; exact H)
          (try rw [hji12] at A7)
          have hji12_ : (IntKind.u64.wrap (a0 * 2 ^ min (ji8).toNat 64)) = ji12 := hji12
          have hji12z : (ji8) ≤ 64 → (IntKind.u64.wrap (a0 * 2 ^ (ji8).toNat)) = ji12 := shl_small hji12
          obtain ⟨ji13, hji13⟩ : ∃ j_ : Int, (IntKind.u64.wrap (64 - (ji8))) = j_ := ⟨_, rfl⟩
          replace H : (if 0 ≤ (ji13) then (if ((ji10) / 4294967296) = 0 then (none) else (bits_Div64.l0 k ji10 ji8 ((ji10) / 4294967296) (Go.bits .and .u64 (ji10) 4294967295) (Go.bits .or .u64 (ji12) (shr .u64 a1 (ji13))) ((shl .u64 a1 (ji8)) / 4294967296) (Go.bits .and .u64 (shl .u64 a1 (ji8)) 4294967295) (IntKind.u64.wrap (Int.tdiv (Go.bits .or .u64 (ji12) (shr .u64 a1 (ji13))) ((ji10) / 4294967296))) (IntKind.u64.wrap ((Go.bits .or .u64 (ji12) (shr .u64 a1 (ji13))) - (IntKind.u64.wrap ((IntKind.u64.wrap (Int.tdiv (Go.bits .or .u64 (ji12) (shr .u64 a1 (ji13))) ((ji10) / 4294967296))) * ((ji10) / 4294967296))))))) else (none)) = some (r1, r2) := by first | (rw [hji13] at H; exact H) | (simp only [hji13] at H ⊢; exact H)
          (try rw [hji13] at A7)
          by_cases c14 : 0 ≤ (ji13)
          · rw [if_pos c14] at H
            have c14b0 := eq_true c14
            have c14b1 : decide (0 ≤ (ji13)) = true := decide_eq_true c14
            clear c14
            obtain ⟨ji15, hji15⟩ : ∃ j_ : Int, (shr .u64 a1 (ji13)) = j_ := ⟨_, rfl⟩
            replace H : (if ((ji10) / 4294967296) = 0 then (none) else (bits_Div64.l0 k ji10 ji8 ((ji10) / 4294967296) (Go.bits .and .u64 (ji10) 4294967295) (Go.bits .or .u64 (ji12) (ji15)) ((shl .u64 a1 (ji8)) / 4294967296) (Go.bits .and .u64 (shl .u64 a1 (ji8)) 4294967295) (IntKind.u64.wrap (Int.tdiv (Go.bits .or .u64 (ji12) (ji15)) ((ji10) / 4294967296))) (IntKind.u64.wrap ((Go.bits .or .u64 (ji12) (ji15)) - (IntKind.u64.wrap ((IntKind.u64.wrap (Int.tdiv (Go.bits .or .u64 (ji12) (ji15)) ((ji10) / 4294967296))) * ((ji10) / 4294967296))))))) = some (r1, r2) := by first | (rw [hji15] at H; exact H) | (simp only [hji15] at H ⊢; exact H)
            (try rw [hji15] at A7)
            have hji15_ : (a1 / 2 ^ min (ji13).toNat 64) = ji15 := hji15
            have hji15z : (ji13) ≤ 64 → (a1 / 2 ^ (ji13).toNat) = ji15 := shr_small hji15
            have c16b0 := eq_true (of_decide_eq_true (by first | (with_reducible assumption) | assumption) : 0 ≤ (ji8))
            obtain ⟨ji17, hji17⟩ : ∃ j_ : Int, (shl .u64 a1 (ji8)) = j_ := ⟨_, rfl⟩
            replace H : (if ((ji10) / 4294967296) = 0 then (none) else (bits_Div64.l0 k ji10 ji8 ((ji10) / 4294967296) (Go.bits .and .u64 (ji10) 4294967295) (Go.bits .or .u64 (ji12) (ji15)) ((ji17) / 4294967296) (Go.bits .and .u64 (ji17) 4294967295) (IntKind.u64.wrap (Int.tdiv (Go.bits .or .u64 (ji12) (ji15)) ((ji10) / 4294967296))) (IntKind.u64.wrap ((Go.bits .or .u64 (ji12) (ji15)) - (IntKind.u64.wrap ((IntKind.u64.wrap (Int.tdiv (Go.bits .or .u64 (ji12) (ji15)) ((ji10) / 4294967296))) * ((ji10) / 4294967296))))))) = some (r1, r2) := by first | (rw [hji17] at H; exact H) | (simp only [hji17] at H ⊢; exact H)
            (try rw [hji17] at A7)
            have hji17_ : (IntKind.u64.wrap (a1 * 2 ^ min (ji8).toNat 64)) = ji17 := hji17
            have hji17z : (ji8) ≤ 64 → (IntKind.u64.wrap (a1 * 2 ^ (ji8).toNat)) = ji17 := shl_small hji17
            by_cases c18 : ((ji10) / 4294967296) = 0
            · rw [if_pos c18] at H
              exact absurd H (by simp)
            · rw [if_neg c18] at H
              have c18b0 : (((ji10) / 4294967296) == 0) = false := beq_eq_false_iff_ne.mpr c18
              have c18b1 : (((ji10) / 4294967296) != 0) = true := bne_iff_ne.mpr c18
              have HC19 := Aside0.mk H
              clear H
              go_enter Tryz.func98, Tryz.ntmps98
              go_upto_block 0 with (first | (go_at_call 100; (with_reducible refine (Go.Proofs.YtbbbjjfecblhpaaGreat.H.bits_LeadingZeros64.calls a2 t101 _ A7.out).mono ?_); rintro e w' ⟨rfl, ⟨nd, rfl⟩⟩; (try first | exact ⟨rfl, _, World.drewN_drewN _ _ _⟩ | exact ⟨rfl, _, Eq.trans (World.drewN_drewN _ _ _) (congrArg (World.drewN _) (Nat.add_assoc _ _ _))⟩)))
              repeat (go_quiet (first | (go_at_call 100; (with_reducible refine (Go.Proofs.YtbbbjjfecblhpaaGreat.H.bits_LeadingZeros64.calls a2 t101 _ A7.out).mono ?_); rintro e w' ⟨rfl, ⟨nd, rfl⟩⟩; (try first | exact ⟨rfl, _, World.drewN_drewN _ _ _⟩ | exact ⟨rfl, _, Eq.trans (World.drewN_drewN _ _ _) (congrArg (World.drewN _) (Nat.add_assoc _ _ _))⟩))); go_upto_block 0 with (first | (go_at_call 100; (with_reducible refine (Go.Proofs.YtbbbjjfecblhpaaGreat.H.bits_LeadingZeros64.calls a2 t101 _ A7.out).mono ?_); rintro e w' ⟨rfl, ⟨nd, rfl⟩⟩; (try first | exact ⟨rfl, _, World.drewN_drewN _ _ _⟩ | exact ⟨rfl, _, Eq.trans (World.drewN_drewN _ _ _) (congrArg (World.drewN _) (Nat.add_assoc _ _ _))⟩))))
              (try simp only [Act.put, List.setIfInBounds_toArray, List.set_cons_zero, List.set_cons_succ])
              go_cut [15] (fun v15 wc => ∃ (kq : Nat) (x15_18 : Int), v15 = .int .u64 x15_18 ∧ Aside0 (bits_Div64.j2 kq ji10 ji8 ((ji10) / 4294967296) (Go.bits .and .u64 (ji10) 4294967295) (Go.bits .or .u64 (ji12) (ji15)) ((ji17) / 4294967296) (Go.bits .and .u64 (ji17) 4294967295) x15_18 = some (r1, r2)) ∧ Aside0 (kq ≤ k) ∧ Drawn0 w wc)
              case first =>
                have H := HC19.out
                clear HC19
                have H' := Aside0.mk H
                clear H
                go_wp2
                repeat (go_quiet (fail); try go_wp2)
                go_loopg [15, 16] k (fun kq v15 v16 w' => ∃ (x15_1 : Int) (x16_1 : Int), v15 = .int .u64 x15_1 ∧ v16 = .int .u64 x16_1 ∧ Aside0 (bits_Div64.l0 kq ji10 ji8 ((ji10) / 4294967296) (Go.bits .and .u64 (ji10) 4294967295) (Go.bits .or .u64 (ji12) (ji15)) ((ji17) / 4294967296) (Go.bits .and .u64 (ji17) 4294967295) x15_1 x16_1 = some (r1, r2)) ∧ Aside0 (kq ≤ k) ∧ Drawn0 w w')
                case atStart => exact ⟨(IntKind.u64.wrap (Int.tdiv (Go.bits .or .u64 (ji12) (ji15)) ((ji10) / 4294967296))), (IntKind.u64.wrap ((Go.bits .or .u64 (ji12) (ji15)) - (IntKind.u64.wrap ((IntKind.u64.wrap (Int.tdiv (Go.bits .or .u64 (ji12) (ji15)) ((ji10) / 4294967296))) * ((ji10) / 4294967296))))), (by first | rfl | (simp; done) | (simp only [← hji10, ← hji12, ← hji15] <;> (first | rfl | simp)) | (simp [*]; done)), (by first | rfl | (simp; done) | (simp only [← hji10, ← hji12, ← hji15] <;> (first | rfl | simp)) | (simp [*]; done)), H', ⟨Nat.le_refl _⟩, by repeat (first | exact Drawn0.refl _ | apply Drawn0.step)⟩
                case round =>
                  clear H'
                  try clear c1
                  try clear p2
                  try clear c4
                  try clear c4b0
                  try clear c4b1
                  try clear c5
                  try clear c5b0
                  try clear c6
                  try clear c6b0
                  try clear c6b1
                  try clear c9
                  try clear c9b0
                  try clear c9b1
                  try clear c11
                  try clear c11b0
                  try clear c14
                  try clear c14b0
                  try clear c14b1
                  try clear c16
                  try clear c16b0
                  try clear c18
                  try clear c18b0
                  try clear c18b1
                  obtain ⟨x15_1, x16_1, rfl, rfl, HA, HK1, ⟨m1, rfl⟩⟩ := hrel
                  cases gk with
                  | zero => exact absurd HA.out (by simp [bits_Div64.l0])
                  | succ k1 =>
                    have H := HA.out
                    clear HA
                    simp only [bits_Div64.l0] at H
                    have HC20 := Aside0.mk H
                    clear H
                    go_upto_region 17 with (fail)
                    repeat (go_quiet (fail); go_upto_region 17 with (fail))
                    go_cut [78] (fun v78 wc => ∃ (kq : Nat) (x78_19 : Bool), v78 = .bool x78_19 ∧ Aside0 (bits_Div64.j1 kq ji10 ji8 ((ji10) / 4294967296) (Go.bits .and .u64 (ji10) 4294967295) (Go.bits .or .u64 (ji12) (ji15)) ((ji17) / 4294967296) (Go.bits .and .u64 (ji17) 4294967295) x15_1 x16_1 x78_19 = some (r1, r2)) ∧ Aside0 (kq ≤ k1) ∧ Drawn0 w wc)
                    case first =>
                      have H := HC20.out
                      clear HC20
                      by_cases c21 : x15_1 ≥ 4294967296
                      · rw [if_pos c21] at H
                        have c21b0 : decide (4294967296 ≤ x15_1) = true := decide_eq_true c21
                        clear c21
                        (first | rw [c21b0] | (simp only [i64_w, i32_w]; rw [c21b0]) | skip)
                        have H' := Aside0.mk H
                        clear H
                        go_wp2
                        repeat (go_quiet (fail); try go_wp2)
                        go_meet
                        case rel => exact ⟨_, (true), (by first | rfl | (simp; done) | (simp [*]; done)), H', ⟨by have := HK1.out; first | omega | exact Nat.le_refl _⟩, by repeat (first | exact Drawn0.refl _ | apply Drawn0.step)⟩
                      · rw [if_neg c21] at H
                        have c21b0 : decide (4294967296 ≤ x15_1) = false := decide_eq_false c21
                        clear c21
                        (first | rw [c21b0] | (simp only [i64_w, i32_w]; rw [c21b0]) | skip)
                        have H' := Aside0.mk H
                        clear H
                        go_wp2
                        repeat (go_quiet (fail); try go_wp2)
                        go_meet
                        case rel => exact ⟨_, (decide ((IntKind.u64.wrap (x15_1 * (Go.bits .and .u64 (ji10) 4294967295))) > (IntKind.u64.wrap ((IntKind.u64.wrap (4294967296 * x16_1)) + ((ji17) / 4294967296))))), (by first | rfl | (simp; done) | (simp only [← hji10, ← hji17] <;> (first | rfl | simp)) | (simp [*]; done)), H', ⟨by have := HK1.out; first | omega | exact Nat.le_refl _⟩, by repeat (first | exact Drawn0.refl _ | apply Drawn0.step)⟩
                    case rest =>
                      clear HC20
                      try clear c1
                      try clear c2
                      try clear p2
                      try clear c4
                      try clear c4b0
                      try clear c4b1
                      try clear c5
                      try clear c5b0
                      try clear c6
                      try clear c6b0
                      try clear c6b1
                      try clear c9
                      try clear c9b0
                      try clear c9b1
                      try clear c11
                      try clear c11b0
                      try clear c14
                      try clear c14b0
                      try clear c14b1
                      try clear c16
                      try clear c16b0
                      try clear c18
                      try clear c18b0
                      try clear c18b1
                      try clear c21
                      try clear c21b0
                      try clear p2
                      obtain ⟨kq, x78_19, rfl, HA, HJ19, ⟨mc19, rfl⟩⟩ := hcut
                      cases kq with
                      | zero => exact absurd HA.out (by simp [bits_Div64.j1])
                      | succ kj19 =>
                        have H := HA.out
                        clear HA
                        simp only [bits_Div64.j1] at H
                        by_cases c22 : x78_19 = true
                        · subst c22
                          have H1 : (if (IntKind.u64.wrap (x16_1 + ((ji10) / 4294967296))) ≥ 4294967296 then (bits_Div64.j2 kj19 ji10 ji8 ((ji10) / 4294967296) (Go.bits .and .u64 (ji10) 4294967295) (Go.bits .or .u64 (ji12) (ji15)) ((ji17) / 4294967296) (Go.bits .and .u64 (ji17) 4294967295) (IntKind.u64.wrap (x15_1 - 1))) else (bits_Div64.l0 kj19 ji10 ji8 ((ji10) / 4294967296) (Go.bits .and .u64 (ji10) 4294967295) (Go.bits .or .u64 (ji12) (ji15)) ((ji17) / 4294967296) (Go.bits .and .u64 (ji17) 4294967295) (IntKind.u64.wrap (x15_1 - 1)) (IntKind.u64.wrap (x16_1 + ((ji10) / 4294967296))))) = some (r1, r2) := by rw [if_pos rfl] at H; exact H
                          clear H
                          have H := H1
                          clear H1
                          by_cases c23 : (IntKind.u64.wrap (x16_1 + ((ji10) / 4294967296))) ≥ 4294967296
                          · rw [if_pos c23] at H
                            have c23b0 : decide (4294967296 ≤ (IntKind.u64.wrap (x16_1 + ((ji10) / 4294967296)))) = true := decide_eq_true c23
                            clear c23
                            have H' := Aside0.mk H
                            clear H
                            go_wp2
                            repeat (go_quiet (fail); try go_wp2)
                            go_meet
                            case rel => exact ⟨_, (IntKind.u64.wrap (x15_1 - 1)), (by first | rfl | (simp; done) | (simp [*]; done)), H', ⟨by have := HK1.out; have := HJ19.out; first | omega | exact Nat.le_refl _⟩, by repeat (first | exact Drawn0.refl _ | apply Drawn0.step)⟩
                          · rw [if_neg c23] at H
                            have c23b0 : decide (4294967296 ≤ (IntKind.u64.wrap (x16_1 + ((ji10) / 4294967296)))) = false := decide_eq_false c23
                            clear c23
                            have H' := Aside0.mk H
                            clear H
                            go_wp2
                            repeat (go_quiet (fail); try go_wp2)
                            go_roundg kj19
                            case measure => have := HK1.out; have := HJ19.out; omega
                            case rel => exact ⟨(IntKind.u64.wrap (x15_1 - 1)), (IntKind.u64.wrap (x16_1 + ((ji10) / 4294967296))), (by first | rfl | (simp; done) | (simp [*]; done)), (by first | rfl | (simp; done) | (simp only [← hji10] <;> (first | rfl | simp)) | (simp [*]; done)), H', ⟨by have := HK1.out; have := HJ19.out; omega⟩, by repeat (first | exact Drawn0.refl _ | apply Drawn0.step)⟩
                        · replace c22 := Bool.eq_false_iff.mpr c22
                          subst c22
                          have H1 : (bits_Div64.j2 kj19 ji10 ji8 ((ji10) / 4294967296) (Go.bits .and .u64 (ji10) 4294967295) (Go.bits .or .u64 (ji12) (ji15)) ((ji17) / 4294967296) (Go.bits .and .u64 (ji17) 4294967295) x15_1) = some (r1, r2) := by rw [if_neg (show ¬ (false = true) by decide)] at H; exact H
                          clear H
                          have H := H1
                          clear H1
                          have H' := Aside0.mk H
                          clear H
                          go_wp2
                          repeat (go_quiet (fail); try go_wp2)
                          go_meet
                          case rel => exact ⟨_, (x15_1), (by first | rfl | (simp; done) | (simp [*]; done)), H', ⟨by have := HK1.out; have := HJ19.out; first | omega | exact Nat.le_refl _⟩, by repeat (first | exact Drawn0.refl _ | apply Drawn0.step)⟩
              case rest =>
                clear HC19
                try clear c1
                try clear c2
                try clear p2
                try clear c4
                try clear c4b0
                try clear c4b1
                try clear c5
                try clear c5b0
                try clear c6
                try clear c6b0
                try clear c6b1
                try clear c9
                try clear c9b0
                try clear c9b1
                try clear c11
                try clear c11b0
                try clear c14
                try clear c14b0
                try clear c14b1
                try clear c16
                try clear c16b0
                try clear c18
                try clear c18b0
                try clear c18b1
                try clear c19
                try clear c21
                try clear c21b0
                try clear c22
                try clear c23
                try clear c23b0
                try clear p2
                obtain ⟨kq, x15_18, rfl, HA, HJ18, ⟨mc18, rfl⟩⟩ := hcut
                cases kq with
                | zero => exact absurd HA.out (by simp [bits_Div64.j2])
                | succ kj18 =>
                  have H := HA.out
                  clear HA
                  simp only [bits_Div64.j2] at H
                  by_cases c24 : ((ji10) / 4294967296) = 0
                  · rw [if_pos c24] at H
                    exact absurd H (by simp)
                  · rw [if_neg c24] at H
                    have c24b0 : (((ji10) / 4294967296) == 0) = false := beq_eq_false_iff_ne.mpr c24
                    have c24b1 : (((ji10) / 4294967296) != 0) = true := bne_iff_ne.mpr c24
                    have H' := Aside0.mk H
                    clear H
                    go_wp2
                    repeat (go_quiet (fail); try go_wp2)
                    go_loopg [16, 18] kj18 (fun kq v16 v18 w' => ∃ (x16_2 : Int) (x18_2 : Int), v16 = .int .u64 x16_2 ∧ v18 = .int .u64 x18_2 ∧ Aside0 (bits_Div64.l1 kq ji10 ji8 ((ji10) / 4294967296) (Go.bits .and .u64 (ji10) 4294967295) (Go.bits .and .u64 (ji17) 4294967295) x15_18 x16_2 (IntKind.u64.wrap ((IntKind.u64.wrap ((IntKind.u64.wrap ((Go.bits .or .u64 (ji12) (ji15)) * 4294967296)) + ((ji17) / 4294967296))) - (IntKind.u64.wrap (x15_18 * ji10)))) x18_2 = some (r1, r2)) ∧ Aside0 (kq ≤ kj18) ∧ Drawn0 w w')
                    case atStart => exact ⟨(IntKind.u64.wrap ((IntKind.u64.wrap ((IntKind.u64.wrap ((IntKind.u64.wrap ((Go.bits .or .u64 (ji12) (ji15)) * 4294967296)) + ((ji17) / 4294967296))) - (IntKind.u64.wrap (x15_18 * ji10)))) - (IntKind.u64.wrap ((IntKind.u64.wrap (Int.tdiv (IntKind.u64.wrap ((IntKind.u64.wrap ((IntKind.u64.wrap ((Go.bits .or .u64 (ji12) (ji15)) * 4294967296)) + ((ji17) / 4294967296))) - (IntKind.u64.wrap (x15_18 * ji10)))) ((ji10) / 4294967296))) * ((ji10) / 4294967296))))), (IntKind.u64.wrap (Int.tdiv (IntKind.u64.wrap ((IntKind.u64.wrap ((IntKind.u64.wrap ((Go.bits .or .u64 (ji12) (ji15)) * 4294967296)) + ((ji17) / 4294967296))) - (IntKind.u64.wrap (x15_18 * ji10)))) ((ji10) / 4294967296))), (by first | rfl | (simp; done) | (simp only [← hji10, ← hji12, ← hji15, ← hji17] <;> (first | rfl | simp)) | (simp [*]; done)), (by first | rfl | (simp; done) | (simp only [← hji10, ← hji12, ← hji15, ← hji17] <;> (first | rfl | simp)) | (simp [*]; done)), H', ⟨Nat.le_refl _⟩, by repeat (first | exact Drawn0.refl _ | apply Drawn0.step)⟩
                    case round =>
                      clear H'
                      try clear c1
                      try clear c2
                      try clear p2
                      try clear c4
                      try clear c4b0
                      try clear c4b1
                      try clear c5
                      try clear c5b0
                      try clear c6
                      try clear c6b0
                      try clear c6b1
                      try clear c9
                      try clear c9b0
                      try clear c9b1
                      try clear c11
                      try clear c11b0
                      try clear c14
                      try clear c14b0
                      try clear c14b1
                      try clear c16
                      try clear c16b0
                      try clear c18
                      try clear c18b0
                      try clear c18b1
                      try clear c19
                      try clear c21
                      try clear c21b0
                      try clear c22
                      try clear c23
                      try clear c23b0
                      try clear c24
                      try clear c24b0
                      try clear c24b1
                      try clear p2
                      obtain ⟨x16_2, x18_2, rfl, rfl, HA, HK2, ⟨m2, rfl⟩⟩ := hrel
                      cases gk with
                      | zero => exact absurd HA.out (by simp [bits_Div64.l1])
                      | succ k2 =>
                        have H := HA.out
                        clear HA
                        simp only [bits_Div64.l1] at H
                        have HC25 := Aside0.mk H
                        clear H
                        go_upto_region 24 with (fail)
                        repeat (go_quiet (fail); go_upto_region 24 with (fail))
                        go_cut [113] (fun v113 wc => ∃ (kq : Nat) (x113_24 : Bool), v113 = .bool x113_24 ∧ Aside0 (bits_Div64.j4 kq ji10 ji8 ((ji10) / 4294967296) (Go.bits .and .u64 (ji10) 4294967295) (Go.bits .and .u64 (ji17) 4294967295) x15_18 x16_2 (IntKind.u64.wrap ((IntKind.u64.wrap ((IntKind.u64.wrap ((Go.bits .or .u64 (ji12) (ji15)) * 4294967296)) + ((ji17) / 4294967296))) - (IntKind.u64.wrap (x15_18 * ji10)))) x18_2 x113_24 = some (r1, r2)) ∧ Aside0 (kq ≤ k2) ∧ Drawn0 w wc)
                        case first =>
                          have H := HC25.out
                          clear HC25
                          by_cases c26 : x18_2 ≥ 4294967296
                          · rw [if_pos c26] at H
                            have c26b0 : decide (4294967296 ≤ x18_2) = true := decide_eq_true c26
                            clear c26
                            (first | rw [c26b0] | (simp only [i64_w, i32_w]; rw [c26b0]) | skip)
                            have H' := Aside0.mk H
                            clear H
                            go_wp2
                            repeat (go_quiet (fail); try go_wp2)
                            go_meet
                            case rel => exact ⟨_, (true), (by first | rfl | (simp; done) | (simp [*]; done)), H', ⟨by have := HJ18.out; have := HK2.out; first | omega | exact Nat.le_refl _⟩, by repeat (first | exact Drawn0.refl _ | apply Drawn0.step)⟩
                          · rw [if_neg c26] at H
                            have c26b0 : decide (4294967296 ≤ x18_2) = false := decide_eq_false c26
                            clear c26
                            (first | rw [c26b0] | (simp only [i64_w, i32_w]; rw [c26b0]) | skip)
                            have H' := Aside0.mk H
                            clear H
                            go_wp2
                            repeat (go_quiet (fail); try go_wp2)
                            go_meet
                            case rel => exact ⟨_, (decide ((IntKind.u64.wrap (x18_2 * (Go.bits .and .u64 (ji10) 4294967295))) > (IntKind.u64.wrap ((IntKind.u64.wrap (4294967296 * x16_2)) + (Go.bits .and .u64 (ji17) 4294967295))))), (by first | rfl | (simp; done) | (simp only [← hji10, ← hji17] <;> (first | rfl | simp)) | (simp [*]; done)), H', ⟨by have := HJ18.out; have := HK2.out; first | omega | exact Nat.le_refl _⟩, by repeat (first | exact Drawn0.refl _ | apply Drawn0.step)⟩
                        case rest =>
                          clear HC25
                          try clear c1
                          try clear c2
                          try clear p2
                          try clear c4
                          try clear c4b0
                          try clear c4b1
                          try clear c5
                          try clear c5b0
                          try clear c6
                          try clear c6b0
                          try clear c6b1
                          try clear c9
                          try clear c9b0
                          try clear c9b1
                          try clear c11
                          try clear c11b0
                          try clear c14
                          try clear c14b0
                          try clear c14b1
                          try clear c16
                          try clear c16b0
                          try clear c18
                          try clear c18b0
                          try clear c18b1
                          try clear c19
                          try clear c21
                          try clear c21b0
                          try clear c22
                          try clear c23
                          try clear c23b0
                          try clear c24
                          try clear c24b0
                          try clear c24b1
                          try clear c26
                          try clear c26b0
                          try clear p2
                          obtain ⟨kq, x113_24, rfl, HA, HJ24, ⟨mc24, rfl⟩⟩ := hcut
                          cases kq with
                          | zero => exact absurd HA.out (by simp [bits_Div64.j4])
                          | succ kj24 =>
                            have H := HA.out
                            clear HA
                            simp only [bits_Div64.j4] at H
                            by_cases c27 : x113_24 = true
                            · subst c27
                              have H1 : (if (IntKind.u64.wrap (x16_2 + ((ji10) / 4294967296))) ≥ 4294967296 then (if 0 ≤ ji8 then (some (IntKind.u64.wrap ((IntKind.u64.wrap (x15_18 * 4294967296)) + (IntKind.u64.wrap (x18_2 - 1))), shr .u64 (IntKind.u64.wrap ((IntKind.u64.wrap ((IntKind.u64.wrap ((IntKind.u64.wrap ((IntKind.u64.wrap ((IntKind.u64.wrap ((Go.bits .or .u64 (ji12) (ji15)) * 4294967296)) + ((ji17) / 4294967296))) - (IntKind.u64.wrap (x15_18 * ji10)))) * 4294967296)) + (Go.bits .and .u64 (ji17) 4294967295))) - (IntKind.u64.wrap ((IntKind.u64.wrap (x18_2 - 1)) * ji10)))) ji8)) else (none)) else (bits_Div64.l1 kj24 ji10 ji8 ((ji10) / 4294967296) (Go.bits .and .u64 (ji10) 4294967295) (Go.bits .and .u64 (ji17) 4294967295) x15_18 (IntKind.u64.wrap (x16_2 + ((ji10) / 4294967296))) (IntKind.u64.wrap ((IntKind.u64.wrap ((IntKind.u64.wrap ((Go.bits .or .u64 (ji12) (ji15)) * 4294967296)) + ((ji17) / 4294967296))) - (IntKind.u64.wrap (x15_18 * ji10)))) (IntKind.u64.wrap (x18_2 - 1)))) = some (r1, r2) := by rw [if_pos rfl] at H; exact H
                              clear H
                              have H := H1
                              clear H1
                              by_cases c28 : (IntKind.u64.wrap (x16_2 + ((ji10) / 4294967296))) ≥ 4294967296
                              · rw [if_pos c28] at H
                                have c28b0 : decide (4294967296 ≤ (IntKind.u64.wrap (x16_2 + ((ji10) / 4294967296)))) = true := decide_eq_true c28
                                clear c28
                                by_cases c29 : 0 ≤ ji8
                                · rw [if_pos c29] at H
                                  have c29b0 := eq_true c29
                                  have c29b1 : decide (0 ≤ ji8) = true := decide_eq_true c29
                                  clear c29
                                  obtain ⟨ji30, hji30⟩ : ∃ j_ : Int, (shr .u64 (IntKind.u64.wrap ((IntKind.u64.wrap ((IntKind.u64.wrap ((IntKind.u64.wrap ((IntKind.u64.wrap ((IntKind.u64.wrap ((Go.bits .or .u64 (ji12) (ji15)) * 4294967296)) + ((ji17) / 4294967296))) - (IntKind.u64.wrap (x15_18 * ji10)))) * 4294967296)) + (Go.bits .and .u64 (ji17) 4294967295))) - (IntKind.u64.wrap ((IntKind.u64.wrap (x18_2 - 1)) * ji10)))) ji8) = j_ := ⟨_, rfl⟩
                                  replace H : (some (IntKind.u64.wrap ((IntKind.u64.wrap (x15_18 * 4294967296)) + (IntKind.u64.wrap (x18_2 - 1))), ji30)) = some (r1, r2) := by first | (rw [hji30] at H; exact H) | (simp only [hji30] at H ⊢; exact H)
                                  have hji30_ : ((IntKind.u64.wrap ((IntKind.u64.wrap ((IntKind.u64.wrap ((IntKind.u64.wrap ((IntKind.u64.wrap ((IntKind.u64.wrap ((Go.bits .or .u64 (ji12) (ji15)) * 4294967296)) + ((ji17) / 4294967296))) - (IntKind.u64.wrap (x15_18 * ji10)))) * 4294967296)) + (Go.bits .and .u64 (ji17) 4294967295))) - (IntKind.u64.wrap ((IntKind.u64.wrap (x18_2 - 1)) * ji10)))) / 2 ^ min ji8.toNat 64) = ji30 := hji30
                                  have hji30z : ji8 ≤ 64 → ((IntKind.u64.wrap ((IntKind.u64.wrap ((IntKind.u64.wrap ((IntKind.u64.wrap ((IntKind.u64.wrap ((IntKind.u64.wrap ((Go.bits .or .u64 (ji12) (ji15)) * 4294967296)) + ((ji17) / 4294967296))) - (IntKind.u64.wrap (x15_18 * ji10)))) * 4294967296)) + (Go.bits .and .u64 (ji17) 4294967295))) - (IntKind.u64.wrap ((IntKind.u64.wrap (x18_2 - 1)) * ji10)))) / 2 ^ ji8.toNat) = ji30 := shr_small hji30
                                  simp only [Option.some.injEq, Prod.mk.injEq] at H
                                  obtain ⟨rfl, rfl⟩ := H
                                  go_wp2
                                  repeat (go_quiet (fail); try go_wp2)
                                  go_ret2
                                  exact ⟨by first | rfl | (simp; done) | (simp only [← hji8, ← hji10, ← hji12, ← hji13, ← hji15, ← hji17, ← hji30] <;> (first | rfl | simp)) | (simp [*]; done), by repeat (first | exact Drawn0.refl _ | apply Drawn0.step)⟩
                                · rw [if_neg c29] at H
                                  exact absurd H (by simp)
                              · rw [if_neg c28] at H
                                have c28b0 : decide (4294967296 ≤ (IntKind.u64.wrap (x16_2 + ((ji10) / 4294967296)))) = false := decide_eq_false c28
                                clear c28
                                have H' := Aside0.mk H
                                clear H
                                go_wp2
                                repeat (go_quiet (fail); try go_wp2)
                                go_roundg kj24
                                case measure => have := HJ18.out; have := HK2.out; have := HJ24.out; omega
                                case rel => exact ⟨(IntKind.u64.wrap (x16_2 + ((ji10) / 4294967296))), (IntKind.u64.wrap (x18_2 - 1)), (by first | rfl | (simp; done) | (simp only [← hji10] <;> (first | rfl | simp)) | (simp [*]; done)), (by first | rfl | (simp; done) | (simp [*]; done)), H', ⟨by have := HJ18.out; have := HK2.out; have := HJ24.out; omega⟩, by repeat (first | exact Drawn0.refl _ | apply Drawn0.step)⟩
                            · replace c27 := Bool.eq_false_iff.mpr c27
                              subst c27
                              have H1 : (if 0 ≤ ji8 then (some (IntKind.u64.wrap ((IntKind.u64.wrap (x15_18 * 4294967296)) + x18_2), shr .u64 (IntKind.u64.wrap ((IntKind.u64.wrap ((IntKind.u64.wrap ((IntKind.u64.wrap ((IntKind.u64.wrap ((IntKind.u64.wrap ((Go.bits .or .u64 (ji12) (ji15)) * 4294967296)) + ((ji17) / 4294967296))) - (IntKind.u64.wrap (x15_18 * ji10)))) * 4294967296)) + (Go.bits .and .u64 (ji17) 4294967295))) - (IntKind.u64.wrap (x18_2 * ji10)))) ji8)) else (none)) = some (r1, r2) := by rw [if_neg (show ¬ (false = true) by decide)] at H; exact H
                              clear H
                              have H := H1
                              clear H1
                              by_cases c31 : 0 ≤ ji8
                              · rw [if_pos c31] at H
                                have c31b0 := eq_true c31
                                have c31b1 : decide (0 ≤ ji8) = true := decide_eq_true c31
                                clear c31
                                obtain ⟨ji32, hji32⟩ : ∃ j_ : Int, (shr .u64 (IntKind.u64.wrap ((IntKind.u64.wrap ((IntKind.u64.wrap ((IntKind.u64.wrap ((IntKind.u64.wrap ((IntKind.u64.wrap ((Go.bits .or .u64 (ji12) (ji15)) * 4294967296)) + ((ji17) / 4294967296))) - (IntKind.u64.wrap (x15_18 * ji10)))) * 4294967296)) + (Go.bits .and .u64 (ji17) 4294967295))) - (IntKind.u64.wrap (x18_2 * ji10)))) ji8) = j_ := ⟨_, rfl⟩
                                replace H : (some (IntKind.u64.wrap ((IntKind.u64.wrap (x15_18 * 4294967296)) + x18_2), ji32)) = some (r1, r2) := by first | (rw [hji32] at H; exact H) | (simp only [hji32] at H ⊢; exact H)
                                have hji32_ : ((IntKind.u64.wrap ((IntKind.u64.wrap ((IntKind.u64.wrap ((IntKind.u64.wrap ((IntKind.u64.wrap ((IntKind.u64.wrap ((Go.bits .or .u64 (ji12) (ji15)) * 4294967296)) + ((ji17) / 4294967296))) - (IntKind.u64.wrap (x15_18 * ji10)))) * 4294967296)) + (Go.bits .and .u64 (ji17) 4294967295))) - (IntKind.u64.wrap (x18_2 * ji10)))) / 2 ^ min ji8.toNat 64) = ji32 := hji32
                                have hji32z : ji8 ≤ 64 → ((IntKind.u64.wrap ((IntKind.u64.wrap ((IntKind.u64.wrap ((IntKind.u64.wrap ((IntKind.u64.wrap ((IntKind.u64.wrap ((Go.bits .or .u64 (ji12) (ji15)) * 4294967296)) + ((ji17) / 4294967296))) - (IntKind.u64.wrap (x15_18 * ji10)))) * 4294967296)) + (Go.bits .and .u64 (ji17) 4294967295))) - (IntKind.u64.wrap (x18_2 * ji10)))) / 2 ^ ji8.toNat) = ji32 := shr_small hji32
                                simp only [Option.some.injEq, Prod.mk.injEq] at H
                                obtain ⟨rfl, rfl⟩ := H
                                go_wp2
                                repeat (go_quiet (fail); try go_wp2)
                                go_ret2
                                exact ⟨by first | rfl | (simp; done) | (simp only [← hji8, ← hji10, ← hji12, ← hji13, ← hji15, ← hji17, ← hji32] <;> (first | rfl | simp)) | (simp [*]; done), by repeat (first | exact Drawn0.refl _ | apply Drawn0.step)⟩
                              · rw [if_neg c31] at H
                                exact absurd H (by simp)
          · rw [if_neg c14] at H
            exact absurd H (by simp)
        · rw [if_neg c9] at H
          exact absurd H (by simp)

end Go.Proofs.YtbbbjjfecblhpaaGreat.PM
/- bits.Div64, as1 it is printed, is division. -/
namespace Go.Proofs.YtbbbjjfecblhpaaGreat.H
open Go.RowKit Go.Proofs.YtbbbjjfecblhpaaGreatW.PrintWords Go.Proofs.YtbbbjjfecblhpaaGreatW.PrintLast
open Go.Proofs.YtbbbjjfecblhpaaGreat.Math64
set_option linter.unusedVariables false
set_option linter.unusedSimpArgs false

theorem u64w (x : Int) : IntKind.u64.wrap x = x % 18446744073709551616 := by simp [IntKind.wrap, IntKind.signed, IntKind.bits]
theorem u64s {x : Int} (h0 : 0 ≤ x) (h1 : x < 18446744073709551616) : IntKind.u64.wrap x = x := by rw [u64w]; omega
theorem loop1 {y1 y0 u d : Int} (b : Base y1 y0 u d) (x2 x8 x14 : Int) (n : Nat) : ∀ (k : Nat) (q r : Int), 2 * n + 2 ≤ k → Inv y1 y0 u d q r → r < 4294967296 → 4294967296 ≤ r + n * 2147483648 →
    ∃ j, k ≤ j + 2 * n + 2 ∧ PM.bits_Div64.l0 k x2 x8 y1 y0 u d x14 q r = PM.bits_Div64.j2 j x2 x8 y1 y0 u d x14 (dig y1 y0 u d) := by
  induction n with
  | zero => intro k q r hk h hr hn; omega
  | succ n ih =>
    intro k q r hk h hr hn
    obtain ⟨k, rfl⟩ : ∃ m, k = m + 2 := ⟨k - 2, by omega⟩
    have hb := mul_bd b h.q0 h.q1
    have h0 := dig_lo b
    have a1 := h.q1
    have a2 := h.r0
    have a3 := b.y1lo
    have a4 := b.y1hi
    have a5 := b.dlo
    have a6 := b.dhi
    have e1 : IntKind.u64.wrap (q * y0) = q * y0 := u64s hb.1 (by omega)
    have e2 : IntKind.u64.wrap (IntKind.u64.wrap (4294967296 * r) + d) = 4294967296 * r + d := by rw [u64s (x := 4294967296 * r) (by omega) (by omega), u64s (by omega) (by omega)]
    have e3 : IntKind.u64.wrap (r + y1) = r + y1 := u64s (by omega) (by omega)
    -- a step down
    have down : dig y1 y0 u d < q → ∃ j, k + 2 ≤ j + 2 * (n + 1) + 2 ∧ PM.bits_Div64.j1 (k + 1) x2 x8 y1 y0 u d x14 q r true = PM.bits_Div64.j2 j x2 x8 y1 y0 u d x14 (dig y1 y0 u d) := by
      intro hl
      have e4 : IntKind.u64.wrap (q - 1) = q - 1 := u64s (by omega) (by omega)
      simp only [PM.bits_Div64.j1, if_true]
      rw [e3, e4]
      by_cases hr2 : r + y1 ≥ 4294967296
      · rw [if_pos hr2, h.last b hl hr2]
        exact ⟨k, by omega, rfl⟩
      · rw [if_neg hr2]
        obtain ⟨j, hj, e⟩ := ih k (q - 1) (r + y1) (by omega) (h.next b hl) (by omega) (by omega)
        exact ⟨j, by omega, e⟩
    simp only [PM.bits_Div64.l0]
    rw [e1, e2]
    by_cases c1 : q ≥ 4294967296
    · rw [if_pos c1]; exact down (h.big b c1)
    · rw [if_neg c1]
      by_cases c2 : q * y0 > 4294967296 * r + d
      · rw [decide_eq_true c2]; exact down (h.more b c2)
      · rw [decide_eq_false c2]
        simp only [PM.bits_Div64.j1, Bool.false_eq_true, if_false]
        rw [h.done b c2]
        exact ⟨k, by omega, rfl⟩

theorem loop2 {y1 y0 u d : Int} (b : Base y1 y0 u d) (x2 x8 x15 : Int) (h8 : 0 ≤ x8) (n : Nat) : ∀ (k : Nat) (q r : Int), 2 * n + 2 ≤ k → Inv y1 y0 u d q r → r < 4294967296 → 4294967296 ≤ r + n * 2147483648 →
    PM.bits_Div64.l1 k x2 x8 y1 y0 d x15 r u q = some (IntKind.u64.wrap (IntKind.u64.wrap (x15 * 4294967296) + dig y1 y0 u d), shr .u64 (IntKind.u64.wrap (IntKind.u64.wrap (IntKind.u64.wrap (u * 4294967296) + d) - IntKind.u64.wrap (dig y1 y0 u d * x2))) x8) := by
  induction n with
  | zero => intro k q r hk h hr hn; omega
  | succ n ih =>
    intro k q r hk h hr hn
    obtain ⟨k, rfl⟩ : ∃ m, k = m + 2 := ⟨k - 2, by omega⟩
    have hb := mul_bd b h.q0 h.q1
    have h0 := dig_lo b
    have a1 := h.q1
    have a2 := h.r0
    have a3 := b.y1lo
    have a4 := b.y1hi
    have a5 := b.dlo
    have a6 := b.dhi
    have e1 : IntKind.u64.wrap (q * y0) = q * y0 := u64s hb.1 (by omega)
    have e2 : IntKind.u64.wrap (IntKind.u64.wrap (4294967296 * r) + d) = 4294967296 * r + d := by rw [u64s (x := 4294967296 * r) (by omega) (by omega), u64s (by omega) (by omega)]
    have e3 : IntKind.u64.wrap (r + y1) = r + y1 := u64s (by omega) (by omega)
    have down : dig y1 y0 u d < q → PM.bits_Div64.j4 (k + 1) x2 x8 y1 y0 d x15 r u q true = some (IntKind.u64.wrap (IntKind.u64.wrap (x15 * 4294967296) + dig y1 y0 u d), shr .u64 (IntKind.u64.wrap (IntKind.u64.wrap (IntKind.u64.wrap (u * 4294967296) + d) - IntKind.u64.wrap (dig y1 y0 u d * x2))) x8) := by
      intro hl
      have e4 : IntKind.u64.wrap (q - 1) = q - 1 := u64s (by omega) (by omega)
      simp only [PM.bits_Div64.j4, if_true]
      rw [e3, e4]
      by_cases hr2 : r + y1 ≥ 4294967296
      · rw [if_pos hr2, if_pos h8, h.last b hl hr2]
      · rw [if_neg hr2]
        exact ih k (q - 1) (r + y1) (by omega) (h.next b hl) (by omega) (by omega)
    simp only [PM.bits_Div64.l1]
    rw [e1, e2]
    by_cases c1 : q ≥ 4294967296
    · rw [if_pos c1]; exact down (h.big b c1)
    · rw [if_neg c1]
      by_cases c2 : q * y0 > 4294967296 * r + d
      · rw [decide_eq_true c2]; exact down (h.more b c2)
      · rw [decide_eq_false c2]
        simp only [PM.bits_Div64.j4, Bool.false_eq_true, if_false]
        rw [if_pos h8, h.done b c2]
end Go.Proofs.YtbbbjjfecblhpaaGreat.H
/- bits.Div64 is division: the whole of it. -/
namespace Go.Proofs.YtbbbjjfecblhpaaGreat.H
open Go.RowKit Go.Proofs.YtbbbjjfecblhpaaGreatW.PrintWords Go.Proofs.YtbbbjjfecblhpaaGreatW.PrintLast
open Go.Proofs.YtbbbjjfecblhpaaGreat.Math64
set_option linter.unusedVariables false
set_option linter.unusedSimpArgs false

theorem tmod_pos {a : Int} (h : 0 ≤ a) (b : Int) : Int.tmod a b = a % b := Int.tmod_eq_emod_of_nonneg h
theorem tdiv_pos {a : Int} (h : 0 ≤ a) (b : Int) : Int.tdiv a b = a / b := Int.tdiv_eq_ediv_of_nonneg h
theorem and32 {x : Int} (h0 : 0 ≤ x) (h1 : x < 18446744073709551616) : Go.bits .and .u64 x 4294967295 = x % 4294967296 := by
  obtain ⟨n, rfl⟩ := Int.eq_ofNat_of_zero_le h0
  rw [u64_and (n : Int) 4294967295 (by omega) h1 (by omega) (by omega)]
  have := Nat.and_two_pow_sub_one_eq_mod n 32
  simp only [Nat.reducePow, Nat.reduceSub] at this
  simp only [Int.toNat_natCast]
  rw [show (4294967295 : Int).toNat = 4294967295 from rfl, this]
  omega
/-- The upper words, shifted to the left. -/
theorem upper {hi lo y P Q : Int} (h0 : 0 ≤ hi) (h1 : hi < y) (l0 : 0 ≤ lo) (l1 : lo < 18446744073709551616) (hP : 0 < P) (hQ : 0 < Q) (hPQ : P * Q = 18446744073709551616) :
    0 ≤ lo / Q ∧ lo / Q < P ∧ 0 ≤ hi * P ∧ hi * P + lo / Q < y * P ∧ lo * P % 18446744073709551616 = lo % Q * P ∧ (hi * 18446744073709551616 + lo) * P = (hi * P + lo / Q) * 18446744073709551616 + lo % Q * P := by
  have a1 := Int.ediv_nonneg l0 (show 0 ≤ Q by omega)
  have a2 : lo / Q < P := Int.ediv_lt_of_lt_mul hQ (by omega)
  have a3 := Int.mul_nonneg h0 (show 0 ≤ P by omega)
  have a4 := Int.mul_le_mul_of_nonneg_right (show hi ≤ y - 1 by omega) (show 0 ≤ P by omega)
  rw [Int.sub_mul, Int.one_mul] at a4
  have m0 := Int.emod_nonneg lo (show Q ≠ 0 by omega)
  have m1 := Int.emod_lt_of_pos lo hQ
  have e := Int.emod_add_mul_ediv lo Q
  have r0 := Int.mul_nonneg m0 (show 0 ≤ P by omega)
  have r1 := Int.mul_le_mul_of_nonneg_right (show lo % Q ≤ Q - 1 by omega) (show 0 ≤ P by omega)
  rw [Int.sub_mul, Int.one_mul, Int.mul_comm Q P, hPQ] at r1
  have e2 : lo * P = lo % Q * P + 18446744073709551616 * (lo / Q) := by
    calc lo * P = (lo % Q + Q * (lo / Q)) * P := by rw [e]
      _ = lo % Q * P + Q * (lo / Q) * P := Int.add_mul ..
      _ = lo % Q * P + P * Q * (lo / Q) := by rw [Int.mul_comm (Q * (lo / Q)) P, ← Int.mul_assoc]
      _ = _ := by rw [hPQ]
  refine ⟨a1, a2, a3, by omega, ?_, ?_⟩
  · rw [e2]; omega
  · rw [Int.add_mul, e2, Int.add_mul, Int.mul_assoc hi, Int.mul_comm 18446744073709551616 P, ← Int.mul_assoc]; omega
theorem pow_parts {L : Nat} (h1 : 1 ≤ L) (h2 : L ≤ 64) : (2 : Int) ^ (64 - L) * 2 ^ L = 18446744073709551616 ∧ 0 < (2 : Int) ^ (64 - L) ∧ 0 < (2 : Int) ^ L := by
  refine ⟨?_, Int.pow_pos (by decide), Int.pow_pos (by decide)⟩
  rw [← Int.pow_add, show 64 - L + L = 64 by omega]; rfl
theorem or_sum {P hi b : Nat} {i : Nat} (hP : P = 2 ^ i) (hb : b < P) (hl : hi * P + b < 18446744073709551616) : Go.bits .or .u64 ((hi * P : Nat) : Int) (b : Int) = ((hi * P + b : Nat) : Int) := by
  rw [u64_or_nat _ _ (by omega) (by omega)]
  subst hP
  rw [Nat.mul_comm hi, Nat.two_pow_add_eq_or_of_lt hb]
set_option maxHeartbeats 1000000 in
theorem div64 (k : Nat) (hk : 20 ≤ k) {hi lo y : Int} (h0 : 0 ≤ hi) (h1 : hi < y) (h2 : y < 18446744073709551616) (l0 : 0 ≤ lo) (l1 : lo < 18446744073709551616) :
    PM.bits_Div64.f k hi lo y = some ((hi * 18446744073709551616 + lo) / y, (hi * 18446744073709551616 + lo) % y) := by
  unfold PM.bits_Div64.f
  rw [if_neg (by omega), if_neg (by omega)]
  by_cases hz : hi = 0
  · subst hz
    have a := Int.ediv_nonneg l0 (show 0 ≤ y by omega)
    have b : lo / y < 18446744073709551616 := Int.ediv_lt_of_lt_mul (by omega) (by have := Int.mul_le_mul_of_nonneg_left (show 1 ≤ y by omega) (show (0 : Int) ≤ 18446744073709551616 by decide); omega)
    rw [if_pos rfl, tdiv_pos l0, tmod_pos l0, u64s a b]
    simp
  rw [if_neg hz]
  simp only [bits_LeadingZeros64.f]
  rw [if_pos (by omega)]
  simp only [Option.bind_some]
  obtain ⟨yn, rfl⟩ := Int.eq_ofNat_of_zero_le (show 0 ≤ y by omega)
  obtain ⟨hn, rfl⟩ := Int.eq_ofNat_of_zero_le h0
  obtain ⟨ln, rfl⟩ := Int.eq_ofNat_of_zero_le l0
  obtain ⟨b1, b2, b3, b4⟩ := Go.Proofs.YtbbbjjfecblhpaaGreat.Math64.bitLen_spec (x := yn) (by omega) (by omega)
  rw [Int.toNat_natCast]
  generalize Lib.bitLen yn = L at *
  obtain ⟨hPQ, hP, hQ⟩ := pow_parts b1 b2
  have es : IntKind.u64.wrap (64 - (L : Int)) = 64 - (L : Int) := u64s (by omega) (by omega)
  have es2 : IntKind.u64.wrap (64 - (64 - (L : Int))) = L := by rw [u64s (by omega) (by omega)]; omega
  rw [es, es2, if_pos (by omega), if_pos (by omega)]
  have t1 : min (64 - (L : Int)).toNat (IntKind.u64.bits) = 64 - L := by simp [IntKind.bits] <;> omega
  have t2 : min (L : Int).toNat (IntKind.u64.bits) = L := by simp [IntKind.bits] <;> omega
  unfold shl
  rw [t1]
  have esr : shr .u64 (ln : Int) (L : Int) = (ln : Int) / 2 ^ L := by unfold shr; rw [t2]
  rw [esr]
  obtain ⟨q1, q2, q3, q4, q5, q6⟩ := upper (hi := hn) (lo := ln) (y := yn) h0 h1 l0 l1 hP hQ hPQ
  have hnat : (yn : Int) * 2 ^ (64 - L) < 18446744073709551616 := by
    have c1 : (yn : Int) ≤ 2 ^ L - 1 := by
      have : ((2 ^ L : Nat) : Int) = (2 : Int) ^ L := by simp
      omega
    have := Int.mul_le_mul_of_nonneg_right c1 (show 0 ≤ (2 : Int) ^ (64 - L) by omega)
    rw [Int.sub_mul, Int.one_mul, Int.mul_comm ((2 : Int) ^ L), hPQ] at this
    omega
  have hbig : 9223372036854775808 ≤ (yn : Int) * 2 ^ (64 - L) := by
    have c1 : (2 : Int) ^ (L - 1) ≤ yn := by
      have : ((2 ^ (L - 1) : Nat) : Int) = (2 : Int) ^ (L - 1) := by simp
      omega
    have := Int.mul_le_mul_of_nonneg_right c1 (show 0 ≤ (2 : Int) ^ (64 - L) by omega)
    rw [← Int.pow_add, show L - 1 + (64 - L) = 63 by omega] at this
    exact this
  have hor : Go.bits .or .u64 (IntKind.u64.wrap ((hn : Int) * 2 ^ (64 - L))) ((ln : Int) / 2 ^ L) = (hn : Int) * 2 ^ (64 - L) + (ln : Int) / 2 ^ L := by
    rw [u64s q3 (by omega)]
    have e1 : (hn : Int) * 2 ^ (64 - L) = ((hn * 2 ^ (64 - L) : Nat) : Int) := by simp
    have e2 : (ln : Int) / 2 ^ L = ((ln / 2 ^ L : Nat) : Int) := by simp
    have e3 : ((2 ^ (64 - L) : Nat) : Int) = (2 : Int) ^ (64 - L) := by simp
    have k1 : ((ln / 2 ^ L : Nat) : Int) < ((2 ^ (64 - L) : Nat) : Int) := by rw [e3, ← e2]; exact q2
    have k2 : ((hn * 2 ^ (64 - L) + ln / 2 ^ L : Nat) : Int) < ((18446744073709551616 : Nat) : Int) := by rw [Int.natCast_add, ← e1, ← e2]; omega
    rw [e1, e2, or_sum (i := 64 - L) rfl (Int.ofNat_lt.1 k1) (Int.ofNat_lt.1 k2), Int.natCast_add]
  rw [hor, u64s (x := (yn : Int) * 2 ^ (64 - L)) (by omega) hnat, u64w ((ln : Int) * 2 ^ (64 - L)), q5]
  have lt0 := Int.mul_nonneg (Int.emod_nonneg (ln : Int) (show (2 : Int) ^ L ≠ 0 by omega)) (show 0 ≤ (2 : Int) ^ (64 - L) by omega)
  have lt1 : (ln : Int) % 2 ^ L * 2 ^ (64 - L) < 18446744073709551616 := by rw [← q5]; omega
  generalize hu : (hn : Int) * 2 ^ (64 - L) + (ln : Int) / 2 ^ L = u at *
  generalize hv : (ln : Int) % 2 ^ L * 2 ^ (64 - L) = v at *
  have eqy : (yn : Int) * 2 ^ (64 - L) / ((2 : Int) ^ (64 - L)) = yn := Int.mul_ediv_cancel _ (by omega)
  have hX1 := Int.mul_ediv_mul_of_pos_left ((hn : Int) * 18446744073709551616 + ln) (yn : Int) hP
  have hX2 : ((hn : Int) * 18446744073709551616 + ln) * 2 ^ (64 - L) % ((yn : Int) * 2 ^ (64 - L)) = ((hn : Int) * 18446744073709551616 + ln) % yn * 2 ^ (64 - L) := by
    rw [Int.mul_comm _ ((2 : Int) ^ (64 - L)), Int.mul_comm (yn : Int), Int.mul_emod_mul_of_pos _ _ hP, Int.mul_comm]
  rw [q6] at hX1 hX2
  generalize hY : (yn : Int) * 2 ^ (64 - L) = Y at *
  have bs : Base (Y / 4294967296) (Y % 4294967296) u (v / 4294967296) := ⟨by omega, by omega, by omega, by omega, by omega, by omega, by omega, by omega⟩
  have f1 := Inv.first bs
  have f2 := first_lt bs
  have l3 := left_bd bs
  have g0 := dig_lo bs
  have g1 := dig_hi bs
  have hYY : Y / 4294967296 * 4294967296 + Y % 4294967296 = Y := by omega
  rw [hYY] at l3
  rw [if_neg (by omega), and32 (by omega) (by omega), and32 (by omega) (by omega)]
  have hdu : 0 ≤ u / (Y / 4294967296) := f1.q0
  have hdm := f1.hu
  have e5 : IntKind.u64.wrap (Int.tdiv u (Y / 4294967296)) = u / (Y / 4294967296) := by rw [tdiv_pos (by omega)]; exact u64s hdu (by have := f1.q1; omega)
  have e6 : IntKind.u64.wrap (u - IntKind.u64.wrap (u / (Y / 4294967296) * (Y / 4294967296))) = u - u / (Y / 4294967296) * (Y / 4294967296) := by
    have := f1.r0
    have := Int.mul_nonneg hdu (show 0 ≤ Y / 4294967296 by omega)
    rw [u64s (x := u / (Y / 4294967296) * (Y / 4294967296)) (by omega) (by omega), u64s (by omega) (by omega)]
  rw [e5, e6]
  obtain ⟨j, hj, e⟩ := loop1 bs Y (64 - L) (v % 4294967296) 2 k _ _ (by omega) f1 f2 (by have := f1.r0; omega)
  rw [e]
  obtain ⟨j, rfl⟩ : ∃ m, j = m + 1 := ⟨j - 1, by omega⟩
  simp only [PM.bits_Div64.j2]
  rw [if_neg (by omega)]
  generalize hD : dig (Y / 4294967296) (Y % 4294967296) u (v / 4294967296) = D at *
  have e7 : IntKind.u64.wrap (IntKind.u64.wrap (IntKind.u64.wrap (u * 4294967296) + v / 4294967296) - IntKind.u64.wrap (D * Y)) = u * 4294967296 + v / 4294967296 - D * Y := by
    rw [u64w, u64w, u64w, u64w]; omega
  rw [e7]
  generalize hR : u * 4294967296 + v / 4294967296 - D * Y = R at *
  have bs2 : Base (Y / 4294967296) (Y % 4294967296) R (v % 4294967296) := ⟨by omega, by omega, by omega, by omega, by omega, by omega, by omega, by omega⟩
  have f3 := Inv.first bs2
  have f4 := first_lt bs2
  have l4 := left_bd bs2
  have g2 := dig_lo bs2
  have g3 := dig_hi bs2
  rw [hYY] at l4
  have hdu2 : 0 ≤ R / (Y / 4294967296) := f3.q0
  have e8 : IntKind.u64.wrap (Int.tdiv R (Y / 4294967296)) = R / (Y / 4294967296) := by rw [tdiv_pos (by omega)]; exact u64s hdu2 (by have := f3.q1; omega)
  have e9 : IntKind.u64.wrap (R - IntKind.u64.wrap (R / (Y / 4294967296) * (Y / 4294967296))) = R - R / (Y / 4294967296) * (Y / 4294967296) := by
    have := f3.r0
    have := f3.hu
    have := Int.mul_nonneg hdu2 (show 0 ≤ Y / 4294967296 by omega)
    rw [u64s (x := R / (Y / 4294967296) * (Y / 4294967296)) (by omega) (by omega), u64s (by omega) (by omega)]
  rw [e8, e9, loop2 bs2 Y (64 - L) D (by omega) 2 j _ _ (by omega) f3 f4 (by have := f3.r0; omega)]
  generalize hE : dig (Y / 4294967296) (Y % 4294967296) R (v % 4294967296) = E at *
  have e10 : IntKind.u64.wrap (IntKind.u64.wrap (IntKind.u64.wrap (R * 4294967296) + v % 4294967296) - IntKind.u64.wrap (E * Y)) = R * 4294967296 + v % 4294967296 - E * Y := by
    rw [u64w, u64w, u64w, u64w]; omega
  have e11 : IntKind.u64.wrap (IntKind.u64.wrap (D * 4294967296) + E) = D * 4294967296 + E := by rw [u64s (x := D * 4294967296) (by omega) (by omega), u64s (by omega) (by omega)]
  rw [e10, e11]
  obtain ⟨z1, z2⟩ := two_digits (y := Y) (u := u) (d := v / 4294967296) (e := v % 4294967296) (q1 := D) (q0 := E) (by omega) hR l4.1 l4.2
  rw [show u * 18446744073709551616 + v / 4294967296 * 4294967296 + v % 4294967296 = u * 18446744073709551616 + v by omega] at z1 z2
  rw [← z2, ← z1, hX1, hX2]
  unfold shr
  rw [t1, Int.mul_ediv_cancel _ (by omega)]
end Go.Proofs.YtbbbjjfecblhpaaGreat.H
namespace Go.Proofs.YtbbbjjfecblhpaaGreat.H
open Go.RowKit Go.Proofs.YtbbbjjfecblhpaaGreatW.PrintWords Go.Proofs.YtbbbjjfecblhpaaGreatW.PrintLast
def bits_Div64.f (hi lo y : Int) : Option (Int × Int) := if 0 ≤ hi ∧ hi < y ∧ y < 18446744073709551616 ∧ 0 ≤ lo ∧ lo < 18446744073709551616 then some ((hi * 18446744073709551616 + lo) / y, (hi * 18446744073709551616 + lo) % y) else none
theorem bits_Div64.calls (a0 a1 a2 r1 r2 : Int) (w : World) (h : bits_Div64.f a0 a1 a2 = some (r1, r2)) : Calls Tryz.prog 98 #[.int .u64 a0, .int .u64 a1, .int .u64 a2] w fun e w' => e = .returned (.tuple #[.int .u64 r1, .int .u64 r2]) ∧ Drawn0 w w' := by
  unfold bits_Div64.f at h
  split at h
  · rename_i hb
    obtain ⟨h1, h2, h3, h4, h5⟩ := hb
    exact PM.bits_Div64.calls 20 a0 a1 a2 r1 r2 w ((div64 20 (by omega) h1 h2 h3 h4 h5).trans h)
  · cases h
end Go.Proofs.YtbbbjjfecblhpaaGreat.H
/- Contracts by hand: growth: what a balance bears, exactly. -/
namespace Go.Proofs.YtbbbjjfecblhpaaGreat.H
open Go.RowKit Go.Proofs.YtbbbjjfecblhpaaGreatW.PrintWords Go.Proofs.YtbbbjjfecblhpaaGreatW.PrintLast Go.Proofs.YtbbbjjfecblhpaaGreatW.PrintMore Go.Proofs.YtbbbjjfecblhpaaGreat.HW
set_option linter.unusedVariables false
set_option linter.unusedSimpArgs false
/-- A bearer lies in block gb: its whole, its half, its rest. -/
structure BearAt (w : World) (gb : Nat) (W h rest : Int) : Prop where
  c0 : w.cell? ⟨gb, 0, none⟩ = some (.int .i64 W)
  c1 : w.cell? ⟨gb, 1, none⟩ = some (.int .i64 h)
  c2 : w.cell? ⟨gb, 2, none⟩ = some (.int .i64 rest)
  f2 : w.frozen? ⟨gb, 2, none⟩ = false
  lt : gb < w.heap.size
theorem BearAt.below {w w1 : World} {gb : Nat} {W h rest : Int} (H : BearAt w gb W h rest) (hb : Below w.heap.size w w1) : BearAt w1 gb W h rest :=
  ⟨by rw [hb.cell (by exact H.lt)]; exact H.c0, by rw [hb.cell (by exact H.lt)]; exact H.c1, by rw [hb.cell (by exact H.lt)]; exact H.c2, by rw [hb.frozen (by exact H.lt)]; exact H.f2, Nat.lt_of_lt_of_le H.lt hb.size⟩
/-- A whole and a half of a bearer, and its rest, are in their bounds. -/
structure Good (W h rest : Int) : Prop where
  w0 : 360000000000 ≤ W
  w1 : W ≤ 133590000000000
  h0 : 0 ≤ h
  h1 : 2 * h ≤ W
  r0 : -h ≤ rest
  r1 : rest < W - h
theorem Good.next {W h rest x : Int} (G : Good W h rest) (hx : 0 ≤ x) : Good W h (Gm.r W h rest x) := by
  have := G.w0
  obtain ⟨_, h2, h3, _⟩ := Gm.step (W := W) (h := h) (rest := rest) (x := x) (by omega) hx G.r0
  exact ⟨G.w0, G.w1, G.h0, G.h1, h2, h3⟩

theorem add64_run (x y : Int) (hx : 0 ≤ x) (hy : 0 ≤ y) (w : World) : (callFunc 97 #[.int .u64 x, .int .u64 y, .int .u64 0]).run Tryz.prog w = .ok (.value (.tuple #[.int .u64 ((x + y + 0) % 18446744073709551616), .int .u64 ((x + y + 0) / 18446744073709551616)])) w := by
  rw [run_callFunc_extern Tryz.func97 (by kernel_rfl) (by kernel_rfl) (by kernel_rfl) (e := add64Entry) (by kernel_rfl), run_add64 x y 0 hx hy (by omega) (by omega)]
  rfl
theorem mul_any {x y hi lo : Int} (x0 : 0 ≤ x) (x1 : x ≤ 18446744073709551615) (y0 : 0 ≤ y) (y1 : y ≤ 18446744073709551615) (h1 : x * y / 18446744073709551616 = hi) (h2 : x * y % 18446744073709551616 = lo) (w : World) :
    Calls Tryz.prog 96 #[.int .u64 x, .int .u64 y] w fun e w' => e = .returned (.tuple #[.int .u64 hi, .int .u64 lo]) ∧ Drawn0 w w' :=
  bits_Mul64.calls x y hi lo w (by unfold bits_Mul64.f; rw [if_pos ⟨x0, x1, y0, y1⟩, h1, h2])
theorem div_any {hi lo y q r : Int} (h0 : 0 ≤ hi) (h1 : hi < y) (h2 : y < 18446744073709551616) (l0 : 0 ≤ lo) (l1 : lo < 18446744073709551616) (e1 : (hi * 18446744073709551616 + lo) / y = q) (e2 : (hi * 18446744073709551616 + lo) % y = r) (w : World) :
    Calls Tryz.prog 98 #[.int .u64 hi, .int .u64 lo, .int .u64 y] w fun e w' => e = .returned (.tuple #[.int .u64 q, .int .u64 r]) ∧ Drawn0 w w' :=
  bits_Div64.calls hi lo y q r w (by unfold bits_Div64.f; rw [if_pos ⟨h0, h1, h2, l0, l1⟩, e1, e2])

/-- The product of three, and what is added, in two parts of 64 bits. -/
theorem parts128 {bal rate n s : Int} (a0 : 0 ≤ bal) (a1 : bal ≤ 1000000000000000) (b0 : 0 ≤ rate) (b1 : rate ≤ 1000000000) (n0 : 0 ≤ n) (n1 : n ≤ 53436000) (s0 : 0 ≤ s) (s1 : s ≤ 133590000000000) :
    ∃ high low over lo u lo3 carry : Int, bal * rate / 18446744073709551616 = high ∧ bal * rate % 18446744073709551616 = low ∧ low * n / 18446744073709551616 = over ∧ low * n % 18446744073709551616 = lo ∧ high * n = u ∧
      0 ≤ high ∧ high ≤ 100000 ∧ 0 ≤ low ∧ low ≤ 18446744073709551615 ∧ 0 ≤ over ∧ over ≤ 53436000 ∧ 0 ≤ lo ∧ lo ≤ 18446744073709551615 ∧ 0 ≤ u ∧ u ≤ 5343600000000 ∧
      (lo + s + 0) % 18446744073709551616 = lo3 ∧ (lo + s + 0) / 18446744073709551616 = carry ∧ 0 ≤ lo3 ∧ lo3 ≤ 18446744073709551615 ∧ 0 ≤ carry ∧ carry ≤ 1 ∧
      (u + over + carry) * 18446744073709551616 + lo3 = bal * rate * n + s := by
  have hP := Gm.mul_le a0 b0 a1 b1
  have g1 : 0 ≤ bal * rate / 18446744073709551616 ∧ bal * rate / 18446744073709551616 ≤ 100000 := by omega
  have g2 : 0 ≤ bal * rate % 18446744073709551616 ∧ bal * rate % 18446744073709551616 ≤ 18446744073709551615 := by omega
  have hU := Gm.mul_le g1.1 n0 g1.2 n1
  have hV := Gm.mul_le g2.1 n0 g2.2 n1
  have e : bal * rate * n = bal * rate / 18446744073709551616 * n * 18446744073709551616 + bal * rate % 18446744073709551616 * n := by
    rw [Int.mul_right_comm _ n, ← Int.add_mul]
    congr 1
    omega
  refine ⟨_, _, _, _, _, _, _, rfl, rfl, rfl, rfl, rfl, g1.1, g1.2, g2.1, g2.2, ?_, ?_, ?_, ?_, hU.1, by omega, rfl, rfl, ?_, ?_, ?_, ?_, ?_⟩ <;> omega
end Go.Proofs.YtbbbjjfecblhpaaGreat.H
/- Contracts by hand: growth: borne. -/
namespace Go.Proofs.YtbbbjjfecblhpaaGreat.H
open Go.RowKit Go.Proofs.YtbbbjjfecblhpaaGreatW.PrintWords Go.Proofs.YtbbbjjfecblhpaaGreatW.PrintLast Go.Proofs.YtbbbjjfecblhpaaGreatW.PrintMore Go.Proofs.YtbbbjjfecblhpaaGreat.HW
set_option linter.unusedVariables false
set_option linter.unusedSimpArgs false
set_option maxHeartbeats 1000000 in
theorem borne_yes {gb : Nat} {W h rest bal rate n : Int} {w : World} (A : BearAt w gb W h rest) (G : Good W h rest) (hm : Gm.may bal rate n) (hq : Gm.q W h rest (bal * rate * n) ≤ 1000000000000000) :
    Calls Tryz.prog 91 #[.pointer (some ⟨gb, 0, none⟩), .int .u64 bal, .int .u64 rate, .int .u64 n] w fun e w' => e = .returned (.tuple #[.int .i64 (Gm.q W h rest (bal * rate * n)), .int .i64 (Gm.r W h rest (bal * rate * n))]) ∧ Drawn0 w w' := by
  obtain ⟨a0, a1, b0, b1, n0, n1⟩ := hm
  obtain ⟨w0, w1, h0, h1, r0, r1⟩ := G
  obtain ⟨c0, c1, c2, f2, lt⟩ := A
  obtain ⟨high, low, over, lo, u, lo3, carry, e1, e2, e3, e4, e5, p1, p2, p3, p4, p5, p6, p7, p8, p9, p10, e6, e7, p11, p12, p13, p14, tot⟩ := parts128 a0 a1 b0 b1 n0 n1 (show 0 ≤ rest + h by omega) (by omega)
  obtain ⟨st1, st2, st3, st4⟩ := Gm.step (W := W) (h := h) (rest := rest) (x := bal * rate * n) (by omega) (Int.mul_nonneg (Int.mul_nonneg a0 b0) n0) r0
  have eq1 : ((u + over + carry) * 18446744073709551616 + lo3) / W = Gm.q W h rest (bal * rate * n) := by rw [tot]; rfl
  have eq2 : ((u + over + carry) * 18446744073709551616 + lo3) % W = Gm.r W h rest (bal * rate * n) + h := by rw [tot]; unfold Gm.r; omega
  have hlt : u + over + carry < W := by
    rcases Int.lt_or_le (u + over + carry) W with hh | hh
    · exact hh
    · exfalso
      have hh2 : 18446744073709551616 ≤ Gm.q W h rest (bal * rate * n) := by
        rw [← eq1]
        refine (Int.le_ediv_iff_mul_le (by omega)).2 ?_
        omega
      omega
  generalize Gm.q W h rest (bal * rate * n) = q at *
  generalize Gm.r W h rest (bal * rate * n) = r at *
  have U := Aside0.mk e5
  have E1 := Aside0.mk e1
  have E2 := Aside0.mk e2
  have E3 := Aside0.mk e3
  have E4 := Aside0.mk e4
  have E6 := Aside0.mk e6
  have E7 := Aside0.mk e7
  have Q1 := Aside0.mk eq1
  have Q2 := Aside0.mk eq2
  clear e1 e2 e3 e4 e6 e7 eq1 eq2 tot st4
  go_enter Tryz.func91, Tryz.ntmps91
  go_wp2_with fail
  refine (mul_any a0 (by omega) b0 (by omega) E1.out E2.out _).mono ?_
  rintro e w1 ⟨rfl, ⟨m1, rfl⟩⟩
  go_wp2_with fail
  refine (mul_any p3 p4 n0 (by omega) E3.out E4.out _).mono ?_
  rintro e w1 ⟨rfl, ⟨m2, rfl⟩⟩
  go_wp2_with fail
  obtain ⟨s, hs⟩ : ∃ s, rest + h = s := ⟨_, rfl⟩
  have hi64 : IntKind.i64.wrap (rest + h) = s := by rw [hs]; exact IntWalk.i64_in _ (by omega)
  have hu64 : IntKind.u64.wrap s = s := IntWalk.u64_in _ (by omega)
  have hadd : ∀ w : World, (callFunc 97 #[.int .u64 lo, .int .u64 s, .int .u64 0]).run Tryz.prog w = .ok (.value (.tuple #[.int .u64 lo3, .int .u64 carry])) w := fun w => by rw [add64_run lo s (by omega) (by omega) w, ← hs, E6.out, E7.out]
  clear hs
  go_quiet (fail)
  clear hi64 hu64 hadd
  have hWu : IntKind.u64.wrap W = W := IntWalk.u64_in _ (by omega)
  go_wp2_with fail
  refine (div_any (by omega) (by omega) (by omega) (by omega) (by omega) Q1.out Q2.out _).mono ?_
  rintro e w1 ⟨rfl, ⟨m3, rfl⟩⟩
  have hq2 : decide (1000000000000000 < q) = false := decide_eq_false (by omega)
  go_wp2_with fail
  have k1 : IntKind.i64.wrap q = q := IntWalk.i64_in _ (by omega)
  have k2 : IntKind.i64.wrap (r + h) = r + h := IntWalk.i64_in _ (by omega)
  have k3 : IntKind.i64.wrap (r + h - h) = r := by rw [show r + h - h = r by omega]; exact IntWalk.i64_in _ (by omega)
  go_quiet (fail)
  go_wp2_with fail
  go_ret2
  exact ⟨rfl, ⟨_, by first | rfl | (simp only [World.drewN_drewN]; rfl)⟩⟩
set_option maxHeartbeats 1000000 in
theorem borne_no {gb : Nat} {W h rest bal rate n : Int} {w : World} (A : BearAt w gb W h rest) (G : Good W h rest) (hm : Gm.may bal rate n) (hq : 1000000000000000 < Gm.q W h rest (bal * rate * n)) :
    Calls Tryz.prog 91 #[.pointer (some ⟨gb, 0, none⟩), .int .u64 bal, .int .u64 rate, .int .u64 n] w fun e w' => e = .panicked [{ v := .iface 140 (.int .i64 3), recovered := false }] ∧ Drawn0 w w' := by
  obtain ⟨a0, a1, b0, b1, n0, n1⟩ := hm
  obtain ⟨w0, w1, h0, h1, r0, r1⟩ := G
  obtain ⟨c0, c1, c2, f2, lt⟩ := A
  obtain ⟨high, low, over, lo, u, lo3, carry, e1, e2, e3, e4, e5, p1, p2, p3, p4, p5, p6, p7, p8, p9, p10, e6, e7, p11, p12, p13, p14, tot⟩ := parts128 a0 a1 b0 b1 n0 n1 (show 0 ≤ rest + h by omega) (by omega)
  obtain ⟨st1, st2, st3, st4⟩ := Gm.step (W := W) (h := h) (rest := rest) (x := bal * rate * n) (by omega) (Int.mul_nonneg (Int.mul_nonneg a0 b0) n0) r0
  have eq1 : ((u + over + carry) * 18446744073709551616 + lo3) / W = Gm.q W h rest (bal * rate * n) := by rw [tot]; rfl
  have eq2 : ((u + over + carry) * 18446744073709551616 + lo3) % W = Gm.r W h rest (bal * rate * n) + h := by rw [tot]; unfold Gm.r; omega
  have hqm : u + over + carry < W → Gm.q W h rest (bal * rate * n) < 18446744073709551616 := by
    intro hh
    rw [← eq1]
    refine Int.ediv_lt_of_lt_mul (by omega) ?_
    omega
  generalize Gm.q W h rest (bal * rate * n) = q at *
  generalize Gm.r W h rest (bal * rate * n) = r at *
  have U := Aside0.mk e5
  have E1 := Aside0.mk e1
  have E2 := Aside0.mk e2
  have E3 := Aside0.mk e3
  have E4 := Aside0.mk e4
  have E6 := Aside0.mk e6
  have E7 := Aside0.mk e7
  have Q1 := Aside0.mk eq1
  have Q2 := Aside0.mk eq2
  have QM := Aside0.mk hqm
  clear e1 e2 e3 e4 e6 e7 eq1 eq2 tot st4 hqm
  have hadd0 := Aside0.mk (fun (s : Int) (hs : rest + h = s) (w : World) => show (callFunc 97 #[.int .u64 lo, .int .u64 s, .int .u64 0]).run Tryz.prog w = .ok (.value (.tuple #[.int .u64 lo3, .int .u64 carry])) w by rw [add64_run lo s (by omega) (by omega) w, ← hs, E6.out, E7.out])
  by_cases hlt : u + over + carry < W
  · have hqm := QM.out hlt
    go_enter Tryz.func91, Tryz.ntmps91
    go_wp2_with fail
    refine (mul_any a0 (by omega) b0 (by omega) E1.out E2.out _).mono ?_
    rintro e w1 ⟨rfl, ⟨m1, rfl⟩⟩
    go_wp2_with fail
    refine (mul_any p3 p4 n0 (by omega) E3.out E4.out _).mono ?_
    rintro e w1 ⟨rfl, ⟨m2, rfl⟩⟩
    go_wp2_with fail
    obtain ⟨s, hs⟩ : ∃ s, rest + h = s := ⟨_, rfl⟩
    have hi64 : IntKind.i64.wrap (rest + h) = s := by rw [hs]; exact IntWalk.i64_in _ (by omega)
    have hu64 : IntKind.u64.wrap s = s := IntWalk.u64_in _ (by omega)
    have hadd := hadd0.out s hs
    clear hs
    go_quiet (fail)
    clear hi64 hu64 hadd
    have hWu : IntKind.u64.wrap W = W := IntWalk.u64_in _ (by omega)
    go_wp2_with fail
    refine (div_any (by omega) (by omega) (by omega) (by omega) (by omega) Q1.out Q2.out _).mono ?_
    rintro e w1 ⟨rfl, ⟨m3, rfl⟩⟩
    have hq2 : decide (1000000000000000 < q) = true := decide_eq_true (by omega)
    go_wp2_with fail
    exact ⟨rfl, rfl, ⟨_, by first | rfl | (simp only [World.drewN_drewN]; rfl)⟩⟩
  · go_enter Tryz.func91, Tryz.ntmps91
    go_wp2_with fail
    refine (mul_any a0 (by omega) b0 (by omega) E1.out E2.out _).mono ?_
    rintro e w1 ⟨rfl, ⟨m1, rfl⟩⟩
    go_wp2_with fail
    refine (mul_any p3 p4 n0 (by omega) E3.out E4.out _).mono ?_
    rintro e w1 ⟨rfl, ⟨m2, rfl⟩⟩
    go_wp2_with fail
    obtain ⟨s, hs⟩ : ∃ s, rest + h = s := ⟨_, rfl⟩
    have hi64 : IntKind.i64.wrap (rest + h) = s := by rw [hs]; exact IntWalk.i64_in _ (by omega)
    have hu64 : IntKind.u64.wrap s = s := IntWalk.u64_in _ (by omega)
    have hadd := hadd0.out s hs
    clear hs
    go_quiet (fail)
    clear hi64 hu64 hadd
    have hWu : IntKind.u64.wrap W = W := IntWalk.u64_in _ (by omega)
    go_wp2_with fail
    exact ⟨rfl, rfl, ⟨_, by first | rfl | (simp only [World.drewN_drewN]; rfl)⟩⟩
end Go.Proofs.YtbbbjjfecblhpaaGreat.H
/- Contracts by hand: parts of a year: what is thrown, and caught. -/
namespace Go.Proofs.YtbbbjjfecblhpaaGreat.Fr
open Go.RowKit Go.Proofs.YtbbbjjfecblhpaaGreatW.PrintWords Go.Proofs.YtbbbjjfecblhpaaGreatW.PrintLast Go.Proofs.YtbbbjjfecblhpaaGreatW.PrintMore
set_option linter.unusedVariables false
set_option linter.unusedSimpArgs false
/-- What does not recover is walked as1 ever. -/
theorem rest_plain {P : Program} {c : Code} {Q0 : Exit → Act → List Frame → World → Prop} {a : Act} {cs : List Frame} {w : World}
    (h : ∀ Q : Exit → Act → World → Prop, Aside0 (∀ e a' w', Q0 e a' cs w' → Q e a' w') → c.wp P Q a w) : c.wpS P Q0 a cs w :=
  wpS_of_wp (h _ ⟨fun _ _ _ x => x⟩)
/-- Two result cells, new at w. -/
structure Res2 (w W : World) (x y : Value) : Prop where
  below : Below w.heap.size w W
  c0 : W.cell? ⟨w.heap.size, 0, none⟩ = some x
  c1 : W.cell? ⟨w.heap.size + 1, 0, none⟩ = some y
  f0 : W.frozen? ⟨w.heap.size, 0, none⟩ = false
  f1 : W.frozen? ⟨w.heap.size + 1, 0, none⟩ = false
  size : w.heap.size + 2 ≤ W.heap.size
theorem Res2.made (w : World) (x y : Value) (t u : TypeId) : Res2 w ((w.alloc (.cells #[x] t)).alloc (.cells #[y] u)) x y := by
  refine ⟨((Below.refl _ _).alloc (Nat.le_refl _) _).alloc (by simp) _, ?_, ?_, ?_, ?_, ?_⟩ <;> simp [go_sem]
theorem Res2.step {w W W' : World} {x y : Value} (h : Res2 w W x y) (hb : Below W.heap.size W W') : Res2 w W' x y := by
  have hs := h.size
  refine ⟨h.below.trans (hb.mono (by omega)), ?_, ?_, ?_, ?_, Nat.le_trans h.size hb.size⟩
  · rw [hb.cell (by simp; omega)]; exact h.c0
  · rw [hb.cell (by simp; omega)]; exact h.c1
  · rw [hb.frozen (by simp; omega)]; exact h.f0
  · rw [hb.frozen (by simp; omega)]; exact h.f1
theorem Res2.drawn {w W W' : World} {x y : Value} (h : Res2 w W x y) (hb : Drawn0 W W') : Res2 w W' x y := h.step hb.below
theorem Res2.put {w W : World} {x y : Value} (h : Res2 w W x y) (u v : Value) : Below w.heap.size w ((W.setCell ⟨w.heap.size, 0, none⟩ u).setCell ⟨w.heap.size + 1, 0, none⟩ v) :=
  (h.below.setCell (by simp) _).setCell (by simp) _

theorem frac_idle (pv pe : Addr) (w : World) :
    CallsD Tryz.prog 73 #[.pointer (some pv), .pointer (some pe)] .returning w fun e u' w' => e = .returned (.tuple #[]) ∧ u' = .returning ∧ w' = w := by
  refine callsD_of_wpS Tryz.func73 rfl fun c₀ cs hu => ?_
  simp only [Tryz.ntmps73, List.size_toArray, List.length_cons, List.length_nil, Nat.reduceAdd, Nat.reduceSub, Array.replicate_succ, Array.replicate_zero, List.push_toArray, List.append_toArray, List.nil_append, List.cons_append]
  apply wpS_seq
  apply wpS_region
  simp [wpOpsS, go_sem, recoverD, hu, Exit.thenS]
  refine rest_plain fun Q HQ => ?_
  go_wp2
  refine HQ.out _ _ _ ?_
  clear HQ
  simp [bodyPostS, results, Tryz.results73, hu]
  cases c₀
  simp_all
theorem frac_thrown (pv pe : Addr) (x y : Int) (c : Int) (older : List PanicEntry) (w : World) (hne : pv.block ≠ pe.block) (hx : w.cell? pv = some (.int .i64 x)) (hy : w.cell? pe = some (.int .i64 y)) (fx : w.frozen? pv = false) (fy : w.frozen? pe = false) :
    CallsD Tryz.prog 73 #[.pointer (some pv), .pointer (some pe)] (.panicking ({ v := .iface 139 (.int .i64 c), recovered := false } :: older)) w fun e u' w' =>
      e = .returned (.tuple #[]) ∧ u' = .panicking ({ v := .iface 139 (.int .i64 c), recovered := true } :: older) ∧ w' = (w.setCell pv (.int .i64 0)).setCell pe (.int .i64 c) := by
  refine callsD_of_wpS Tryz.func73 rfl fun c₀ cs hu => ?_
  simp only [Tryz.ntmps73, List.size_toArray, List.length_cons, List.length_nil, Nat.reduceAdd, Nat.reduceSub, Array.replicate_succ, Array.replicate_zero, List.push_toArray, List.append_toArray, List.nil_append, List.cons_append]
  apply wpS_seq
  apply wpS_region
  simp [wpOpsS, go_sem, recoverD, hu, Exit.thenS]
  refine rest_plain fun Q HQ => ?_
  have hta : ∀ w, (Instr.typeAssert (.iface 139 (.int .i64 c)) 20 139 true).run Tryz.prog w = .ok (.tuple #[.int .i64 c, .bool true]) w := fun _ => by kernel_rfl
  have hy2 : (w.setCell pv (.int .i64 0)).cell? pe = some (.int .i64 y) := by rw [World.cell?_setCell_other]; exact hy; exact fun e => hne (by rw [e])
  go_wp2
  refine HQ.out _ _ _ ?_
  clear HQ
  simp [bodyPostS, results, Tryz.results73, hu]

/-- How many parts a year has, or which error. -/
def parts (c : Int) : Int × Int := if c = 1 then (360, 0) else if c = 2 then (365, 0) else if c = 3 then (133590, 0) else (0, 1)
theorem year_yes {c v : Int} (h : parts c = (v, 0)) (w : World) : Calls Tryz.prog 74 #[.int .i64 c] w fun e w' => e = .returned (.int .i64 v) ∧ Drawn0 w w' := by
  unfold parts at h
  by_cases h1 : c = 1
  · subst h1
    rw [if_pos rfl] at h
    obtain ⟨rfl, _⟩ := Prod.mk.inj h
    clear h
    go_enter Tryz.func74, Tryz.ntmps74
    go_wp2
    go_ret
    exact ⟨rfl, Drawn0.refl _⟩
  · rw [if_neg h1] at h
    by_cases h2 : c = 2
    · subst h2
      rw [if_pos rfl] at h
      obtain ⟨rfl, _⟩ := Prod.mk.inj h
      clear h h1
      go_enter Tryz.func74, Tryz.ntmps74
      go_wp2
      go_ret
      exact ⟨rfl, Drawn0.refl _⟩
    · rw [if_neg h2] at h
      by_cases h3 : c = 3
      · subst h3
        rw [if_pos rfl] at h
        obtain ⟨rfl, _⟩ := Prod.mk.inj h
        clear h h1 h2
        go_enter Tryz.func74, Tryz.ntmps74
        go_wp2
        go_ret
        exact ⟨rfl, Drawn0.refl _⟩
      · rw [if_neg h3] at h
        cases h
theorem year_no {c : Int} (h1 : (c == 1) = false) (h2 : (c == 2) = false) (h3 : (c == 3) = false) (w : World) : Calls Tryz.prog 74 #[.int .i64 c] w fun e w' => e = .panicked [{ v := .iface 139 (.int .i64 1), recovered := false }] ∧ w' = w := by
  go_enter Tryz.func74, Tryz.ntmps74
  go_wp2
  exact ⟨rfl, rfl, rfl⟩
theorem Parts_yes {c v : Int} (h : parts c = (v, 0)) (w : World) : Calls Tryz.prog 84 #[.int .i64 c] w fun e w' => e = .returned (.tuple #[.int .i64 v, .int .i64 0]) ∧ Below w.heap.size w w' := by
  have R0 := Aside0.mk (Res2.made w (.int .i64 0) (.int .i64 0) 2 41)
  have HY := Aside0.mk h
  clear h
  go_enter_defers Tryz.func84, Tryz.ntmps84
  go_wp2_with fail
  refine (year_yes HY.out _).mono ?_
  rintro e w1 ⟨rfl, hd⟩
  have R1 := R0.out.drawn hd
  have c0 := R1.c0
  have c1 := R1.c1
  have f0 := R1.f0
  have f1 := R1.f1
  have RR := Aside0.mk R1
  clear hd R1 R0
  go_wp2
  refine leaves_cons (f := 73) (args := #[.pointer (some ⟨w.heap.size, 0, none⟩), .pointer (some ⟨w.heap.size + 1, 0, none⟩)]) (by simp) (by simp [go_sem]) ?_
  refine (frac_idle _ _ _).mono ?_
  rintro e u' w'' ⟨rfl, rfl, rfl⟩
  simp [Leaves, settle, results, Tryz.results84, go_sem, c0, c1]
  exact RR.out.put _ _
theorem Parts_no {c : Int} (h1 : (c == 1) = false) (h2 : (c == 2) = false) (h3 : (c == 3) = false) (w : World) : Calls Tryz.prog 84 #[.int .i64 c] w fun e w' => e = .returned (.tuple #[.int .i64 0, .int .i64 1]) ∧ Below w.heap.size w w' := by
  have R0 := Aside0.mk (Res2.made w (.int .i64 0) (.int .i64 0) 2 41)
  go_enter_defers Tryz.func84, Tryz.ntmps84
  go_wp2_with fail
  refine (year_no h1 h2 h3 _).mono ?_
  rintro e w1 ⟨rfl, rfl⟩
  refine leaves_cons (f := 73) (args := #[.pointer (some ⟨w.heap.size, 0, none⟩), .pointer (some ⟨w.heap.size + 1, 0, none⟩)]) (by simp) (by simp [go_sem]) ?_
  refine (frac_thrown _ _ 0 0 1 [] _ (by simp) R0.out.c0 R0.out.c1 R0.out.f0 R0.out.f1).mono ?_
  rintro e u' w'' ⟨rfl, rfl, rfl⟩
  have c0 := R0.out.c0
  have c1 := R0.out.c1
  simp [Leaves, settle, results, Tryz.results84, go_sem, c0, c1]
  first | exact R0.out.put _ _ | exact ((Below.refl _ _).alloc (Nat.le_refl _) _).alloc (by simp) _
theorem parts_cases (c : Int) : (∃ v, parts c = (v, 0) ∧ (c = 1 ∨ c = 2 ∨ c = 3)) ∨ (parts c = (0, 1) ∧ (c == 1) = false ∧ (c == 2) = false ∧ (c == 3) = false) := by
  unfold parts
  by_cases h1 : c = 1
  · left; exact ⟨360, by simp [h1], Or.inl h1⟩
  by_cases h2 : c = 2
  · left; exact ⟨365, by simp [h2], Or.inr (Or.inl h2)⟩
  by_cases h3 : c = 3
  · left; exact ⟨133590, by simp [h3], Or.inr (Or.inr h3)⟩
  · right; simp [h1, h2, h3]
theorem parts_any (c : Int) (w : World) : Calls Tryz.prog 84 #[.int .i64 c] w fun e w' => e = .returned (.tuple #[.int .i64 (parts c).1, .int .i64 (parts c).2]) ∧ Below w.heap.size w w' := by
  rcases parts_cases c with ⟨v, hp, _⟩ | ⟨hp, h1, h2, h3⟩
  · rw [hp]; exact Parts_yes hp w
  · rw [hp]; exact Parts_no h1 h2 h3 w
end Go.Proofs.YtbbbjjfecblhpaaGreat.Fr
/- Contracts by hand: growth: a bearer made, its rest, a fork. -/
namespace Go.Proofs.YtbbbjjfecblhpaaGreat.H
open Go.RowKit Go.Proofs.YtbbbjjfecblhpaaGreatW.PrintWords Go.Proofs.YtbbbjjfecblhpaaGreatW.PrintLast Go.Proofs.YtbbbjjfecblhpaaGreatW.PrintMore Go.Proofs.YtbbbjjfecblhpaaGreat.HW
set_option linter.unusedVariables false
set_option linter.unusedSimpArgs false
theorem good_new (c r : Int) : Good (Gm.whole c) (Gm.half c r) 0 := by
  obtain ⟨h1, h2, h3⟩ := Gm.whole_bd c
  obtain ⟨h4, h5⟩ := Gm.half_bd c r
  exact ⟨h1, h2, h4, h5, by omega, by omega⟩
/-- A bearer, made new. -/
def Newly (c r : Int) (w : World) (e : Ending) (w' : World) : Prop := Below w.heap.size w w' ∧ ∃ gb, w.heap.size ≤ gb ∧ e = .returned (.tuple #[.pointer (some ⟨gb, 0, none⟩), .int .i64 0]) ∧ BearAt w' gb (Gm.whole c) (Gm.half c r) 0
theorem bnew_any {c r : Int} (hc : c = 1 ∨ c = 2 ∨ c = 3) (hr : r = 1 ∨ r = 3) (w : World) : Calls Tryz.prog 71 #[.int .i64 c, .int .i64 r] w (Newly c r w) := by
  obtain ⟨v, hp, hw, v0, v1⟩ : ∃ v, Fr.parts c = (v, 0) ∧ Gm.whole c = 1000000000 * v ∧ 360 ≤ v ∧ v ≤ 133590 := by
    rcases hc with rfl | rfl | rfl <;> exact ⟨_, rfl, rfl, by decide, by decide⟩
  have HP := Aside0.mk (fun w => by have := Fr.parts_any c w; rw [hp] at this; exact this)
  have HW := Aside0.mk hw
  have HH := Aside0.mk (show Gm.half c 1 = 1000000000 * v / 2 by unfold Gm.half; rw [if_pos rfl, hw])
  have HH3 := Aside0.mk (show Gm.half c 3 = 0 from rfl)
  clear hp hc hw
  rcases hr with rfl | rfl
  · go_enter Tryz.func71, Tryz.ntmps71
    go_wp2_with fail
    refine (HP.out _).mono ?_
    rintro e w1 ⟨rfl, hb⟩
    have HB := Aside0.mk hb
    clear hb
    go_wp2_with fail
    go_ret2
    refine ⟨HB.out.alloc HB.out.size _, w1.heap.size, HB.out.size, rfl, ?_⟩
    rw [HW.out, HH.out]
    constructor <;> simp [go_sem]
  · go_enter Tryz.func71, Tryz.ntmps71
    go_wp2_with fail
    refine (HP.out _).mono ?_
    rintro e w1 ⟨rfl, hb⟩
    have HB := Aside0.mk hb
    clear hb
    go_wp2_with fail
    go_ret2
    refine ⟨HB.out.alloc HB.out.size _, w1.heap.size, HB.out.size, rfl, ?_⟩
    rw [HW.out, HH3.out]
    constructor <;> simp [go_sem]
end Go.Proofs.YtbbbjjfecblhpaaGreat.H
/- Contracts by hand: growth: what a balance bears, and the rest then; or why nothing. -/
namespace Go.Proofs.YtbbbjjfecblhpaaGreat.H
open Go.RowKit Go.Proofs.YtbbbjjfecblhpaaGreatW.PrintWords Go.Proofs.YtbbbjjfecblhpaaGreatW.PrintLast Go.Proofs.YtbbbjjfecblhpaaGreatW.PrintMore Go.Proofs.YtbbbjjfecblhpaaGreat.HW
set_option linter.unusedVariables false
set_option linter.unusedSimpArgs false
theorem bcaught_idle (pv pe : Addr) (w : World) :
    CallsD Tryz.prog 90 #[.pointer (some pv), .pointer (some pe)] .returning w fun e u' w' => e = .returned (.tuple #[]) ∧ u' = .returning ∧ w' = w := by
  refine callsD_of_wpS Tryz.func90 rfl fun c₀ cs hu => ?_
  simp only [Tryz.ntmps90, List.size_toArray, List.length_cons, List.length_nil, Nat.reduceAdd, Nat.reduceSub, Array.replicate_succ, Array.replicate_zero, List.push_toArray, List.append_toArray, List.nil_append, List.cons_append]
  apply wpS_seq
  apply wpS_region
  simp [wpOpsS, go_sem, recoverD, hu, Exit.thenS]
  refine rest_plain fun Q HQ => ?_
  go_wp2
  refine HQ.out _ _ _ ?_
  clear HQ
  simp [bodyPostS, results, Tryz.results90, hu]
  cases c₀
  simp_all
theorem bcaught_thrown (pv pe : Addr) (x y : Int) (c : Int) (older : List PanicEntry) (w : World) (hne : pv.block ≠ pe.block) (hx : w.cell? pv = some (.int .i64 x)) (hy : w.cell? pe = some (.int .i64 y)) (fx : w.frozen? pv = false) (fy : w.frozen? pe = false) :
    CallsD Tryz.prog 90 #[.pointer (some pv), .pointer (some pe)] (.panicking ({ v := .iface 140 (.int .i64 c), recovered := false } :: older)) w fun e u' w' =>
      e = .returned (.tuple #[]) ∧ u' = .panicking ({ v := .iface 140 (.int .i64 c), recovered := true } :: older) ∧ w' = (w.setCell pv (.int .i64 0)).setCell pe (.int .i64 c) := by
  refine callsD_of_wpS Tryz.func90 rfl fun c₀ cs hu => ?_
  simp only [Tryz.ntmps90, List.size_toArray, List.length_cons, List.length_nil, Nat.reduceAdd, Nat.reduceSub, Array.replicate_succ, Array.replicate_zero, List.push_toArray, List.append_toArray, List.nil_append, List.cons_append]
  apply wpS_seq
  apply wpS_region
  simp [wpOpsS, go_sem, recoverD, hu, Exit.thenS]
  refine rest_plain fun Q HQ => ?_
  have hta : ∀ w, (Instr.typeAssert (.iface 140 (.int .i64 c)) 20 140 true).run Tryz.prog w = .ok (.tuple #[.int .i64 c, .bool true]) w := fun _ => by kernel_rfl
  have hy2 : (w.setCell pv (.int .i64 0)).cell? pe = some (.int .i64 y) := by rw [World.cell?_setCell_other]; exact hy; exact fun e => hne (by rw [e])
  go_wp2
  refine HQ.out _ _ _ ?_
  clear HQ
  simp [bodyPostS, results, Tryz.results90, hu]

theorem bear_arg {gb : Nat} {bal rate n : Int} (hm : ¬ Gm.may bal rate n) (w : World) : Calls Tryz.prog 76 #[.pointer (some ⟨gb, 0, none⟩), .int .i64 bal, .int .i64 rate, .int .i64 n] w fun e w' => e = .returned (.tuple #[.int .i64 0, .int .i64 1]) ∧ Below w.heap.size w w' := by
  have R0 := Aside0.mk (Fr.Res2.made w (.int .i64 0) (.int .i64 0) 2 41)
  have hno : bal < 0 ∨ (0 ≤ bal ∧ 1000000000000000 < bal) ∨ (0 ≤ bal ∧ bal ≤ 1000000000000000 ∧ rate < 0) ∨ (0 ≤ bal ∧ bal ≤ 1000000000000000 ∧ 0 ≤ rate ∧ 1000000000 < rate) ∨ (0 ≤ bal ∧ bal ≤ 1000000000000000 ∧ 0 ≤ rate ∧ rate ≤ 1000000000 ∧ n < 0) ∨ (0 ≤ bal ∧ bal ≤ 1000000000000000 ∧ 0 ≤ rate ∧ rate ≤ 1000000000 ∧ 0 ≤ n ∧ 53436000 < n) := by
    unfold Gm.may at hm
    omega
  clear hm
  rcases hno with h1 | ⟨h1, h2⟩ | ⟨h1, h2, h3⟩ | ⟨h1, h2, h3, h4⟩ | ⟨h1, h2, h3, h4, h5⟩ | ⟨h1, h2, h3, h4, h5, h6⟩
  all_goals
    go_enter_defers Tryz.func76, Tryz.ntmps76
    go_wp2_with fail
    refine leaves_cons (f := 90) (args := #[.pointer (some ⟨w.heap.size, 0, none⟩), .pointer (some ⟨w.heap.size + 1, 0, none⟩)]) (by simp) (by simp [go_sem]) ?_
    refine (bcaught_thrown _ _ 0 0 1 [] _ (by simp) R0.out.c0 R0.out.c1 R0.out.f0 R0.out.f1).mono ?_
    rintro e u' w'' ⟨rfl, rfl, rfl⟩
    have c0 := R0.out.c0
    have c1 := R0.out.c1
    simp [Leaves, settle, results, Tryz.results76, go_sem, c0, c1]
    first | exact R0.out.put _ _ | exact ((Below.refl _ _).alloc (Nat.le_refl _) _).alloc (by simp) _
/-- What Bear does: it answers, and the bearer has another rest; no other block has turned. -/
def Bore (gb : Nat) (W h : Int) (x : Int × Int × Int) (w : World) (e : Ending) (w' : World) : Prop :=
  e = .returned (.tuple #[.int .i64 x.1, .int .i64 x.2.1]) ∧ BearAt w' gb W h x.2.2 ∧ But gb w w'
set_option maxHeartbeats 1000000 in
theorem bear_yes {gb : Nat} {W h rest bal rate n : Int} {w : World} (A : BearAt w gb W h rest) (G : Good W h rest) (hm : Gm.may bal rate n) (hq : Gm.q W h rest (bal * rate * n) ≤ 1000000000000000) :
    Calls Tryz.prog 76 #[.pointer (some ⟨gb, 0, none⟩), .int .i64 bal, .int .i64 rate, .int .i64 n] w (Bore gb W h (Gm.q W h rest (bal * rate * n), 0, Gm.r W h rest (bal * rate * n)) w) := by
  have R0 := Aside0.mk (Fr.Res2.made w (.int .i64 0) (.int .i64 0) 2 41)
  have HB := Aside0.mk (fun (w1 : World) (A1 : BearAt w1 gb W h rest) => borne_yes A1 G hm hq)
  have lt := A.lt
  have hne : ¬ gb = w.heap.size := by omega
  have hne1 : ¬ gb = w.heap.size + 1 := by omega
  obtain ⟨a0, a1, b0, b1, n0, n1⟩ := hm
  have u1 : IntKind.u64.wrap bal = bal := IntWalk.u64_in _ (by omega)
  have u2 : IntKind.u64.wrap rate = rate := IntWalk.u64_in _ (by omega)
  have u3 : IntKind.u64.wrap n = n := IntWalk.u64_in _ (by omega)
  have AA := Aside0.mk A
  clear hq G A
  generalize Gm.q W h rest (bal * rate * n) = q at *
  generalize Gm.r W h rest (bal * rate * n) = r at *
  go_enter_defers Tryz.func76, Tryz.ntmps76
  go_wp2_with fail
  refine (HB.out _ (AA.out.below R0.out.below)).mono ?_
  rintro e w1 ⟨rfl, hd⟩
  have R1 := R0.out.drawn hd
  have A1 := (AA.out.below R0.out.below).below hd.below
  have BU := Aside0.mk (But.of (gb := gb) R1.below)
  have c0 := R1.c0
  have c1 := R1.c1
  have f0 := R1.f0
  have f1 := R1.f1
  have g2 := A1.c2
  have gf := A1.f2
  have RR := Aside0.mk R1
  have AB := Aside0.mk A1
  clear hd R0 R1 A1
  go_wp2
  refine leaves_cons (f := 90) (args := #[.pointer (some ⟨w.heap.size, 0, none⟩), .pointer (some ⟨w.heap.size + 1, 0, none⟩)]) (by simp) (by simp [go_sem]) ?_
  refine (bcaught_idle _ _ _).mono ?_
  rintro e u' w'' ⟨rfl, rfl, rfl⟩
  simp [Leaves, settle, results, Tryz.results76, go_sem, c0, c1]
  obtain ⟨k0, k1, k2, k3, k4⟩ := AB.out
  refine ⟨rfl, ⟨?_, ?_, ?_, ?_, ?_⟩, (((BU.out.setCell (Or.inr (Nat.le_refl _)) _).setCell (Or.inl rfl) _).setCell (Or.inr (Nat.le_refl _)) _).setCell (Or.inr (by simp)) _⟩
  · rw [World.cell?_setCell_other _ _ _ _ (by first | (simp; done) | (simp; omega)), World.cell?_setCell_other _ _ _ _ (by first | (simp; done) | (simp; omega)), World.cell?_setCell_other _ _ _ _ (by simp), World.cell?_setCell_other _ _ _ _ (by first | (simp; done) | (simp; omega))]; exact k0
  · rw [World.cell?_setCell_other _ _ _ _ (by first | (simp; done) | (simp; omega)), World.cell?_setCell_other _ _ _ _ (by first | (simp; done) | (simp; omega)), World.cell?_setCell_other _ _ _ _ (by simp), World.cell?_setCell_other _ _ _ _ (by first | (simp; done) | (simp; omega))]; exact k1
  · rw [World.cell?_setCell_other _ _ _ _ (by first | (simp; done) | (simp; omega)), World.cell?_setCell_other _ _ _ _ (by first | (simp; done) | (simp; omega))]
    have k2' : (w1.setCell ⟨w.heap.size, 0, none⟩ (.int .i64 q)).cell? ⟨gb, 2, none⟩ = some (.int .i64 rest) := by rw [World.cell?_setCell_other _ _ _ _ (by first | (simp; done) | (simp; omega))]; exact k2
    simp [World.cell?_setCell_same, k2']
  · simp [go_sem, k3]
  · simp [go_sem]; exact k4
theorem bear_range {gb : Nat} {W h rest bal rate n : Int} {w : World} (A : BearAt w gb W h rest) (G : Good W h rest) (hm : Gm.may bal rate n) (hq : 1000000000000000 < Gm.q W h rest (bal * rate * n)) :
    Calls Tryz.prog 76 #[.pointer (some ⟨gb, 0, none⟩), .int .i64 bal, .int .i64 rate, .int .i64 n] w fun e w' => e = .returned (.tuple #[.int .i64 0, .int .i64 3]) ∧ Below w.heap.size w w' := by
  have R0 := Aside0.mk (Fr.Res2.made w (.int .i64 0) (.int .i64 0) 2 41)
  have HB := Aside0.mk (fun (w1 : World) (A1 : BearAt w1 gb W h rest) => borne_no A1 G hm hq)
  have lt := A.lt
  have hne : ¬ gb = w.heap.size := by omega
  have hne1 : ¬ gb = w.heap.size + 1 := by omega
  obtain ⟨a0, a1, b0, b1, n0, n1⟩ := hm
  have u1 : IntKind.u64.wrap bal = bal := IntWalk.u64_in _ (by omega)
  have u2 : IntKind.u64.wrap rate = rate := IntWalk.u64_in _ (by omega)
  have u3 : IntKind.u64.wrap n = n := IntWalk.u64_in _ (by omega)
  have AA := Aside0.mk A
  clear hq G A
  go_enter_defers Tryz.func76, Tryz.ntmps76
  go_wp2_with fail
  refine (HB.out _ (AA.out.below R0.out.below)).mono ?_
  rintro e w1 ⟨rfl, hd⟩
  have R1 := Aside0.mk (R0.out.drawn hd)
  clear hd R0
  refine leaves_cons (f := 90) (args := #[.pointer (some ⟨w.heap.size, 0, none⟩), .pointer (some ⟨w.heap.size + 1, 0, none⟩)]) (by simp) (by simp [go_sem]) ?_
  refine (bcaught_thrown _ _ 0 0 3 [] _ (by simp) R1.out.c0 R1.out.c1 R1.out.f0 R1.out.f1).mono ?_
  rintro e u' w'' ⟨rfl, rfl, rfl⟩
  have c0 := R1.out.c0
  have c1 := R1.out.c1
  simp [Leaves, settle, results, Tryz.results76, go_sem, c0, c1]
  exact R1.out.put _ _
theorem bear_any {gb : Nat} {W h rest bal rate n : Int} {w : World} (A : BearAt w gb W h rest) (G : Good W h rest) :
    Calls Tryz.prog 76 #[.pointer (some ⟨gb, 0, none⟩), .int .i64 bal, .int .i64 rate, .int .i64 n] w (Bore gb W h (Gm.bear W h rest bal rate n) w) := by
  unfold Gm.bear
  by_cases hm : Gm.may bal rate n
  · rw [if_pos hm]
    by_cases hq : Gm.q W h rest (bal * rate * n) ≤ 1000000000000000
    · rw [if_pos hq]; exact bear_yes A G hm hq
    · rw [if_neg hq]
      exact (bear_range A G hm (by omega)).mono fun e w' ⟨h1, h2⟩ => ⟨h1, A.below h2, But.of h2⟩
  · rw [if_neg hm]
    exact (bear_arg hm w).mono fun e w' ⟨h1, h2⟩ => ⟨h1, A.below h2, But.of h2⟩
end Go.Proofs.YtbbbjjfecblhpaaGreat.H
/- Contracts by hand: a bearer with a rest. -/
namespace Go.Proofs.YtbbbjjfecblhpaaGreat.Nt
open Go.RowKit Go.Proofs.YtbbbjjfecblhpaaGreatW.PrintWords Go.Proofs.YtbbbjjfecblhpaaGreatW.PrintLast Go.Proofs.YtbbbjjfecblhpaaGreatW.PrintMore Go.Proofs.YtbbbjjfecblhpaaGreat.HW
open Go.Proofs.YtbbbjjfecblhpaaGreat.Math Go.Proofs.YtbbbjjfecblhpaaGreat.H Go.Proofs.YtbbbjjfecblhpaaGreat.Pd Go.Proofs.YtbbbjjfecblhpaaGreat.Du Go.Proofs.YtbbbjjfecblhpaaGreat.Lv Pm
set_option linter.unusedVariables false
set_option linter.unusedSimpArgs false
attribute [local go_sem] max2_int min2_int max_two min_two
theorem _root_.Go.Proofs.YtbbbjjfecblhpaaGreat.H.BearAt.set {w : World} {gb : Nat} {W h r : Int} (A : BearAt w gb W h r) (x : Int) : BearAt (w.setCell ⟨gb, 2, none⟩ (.int .i64 x)) gb W h x :=
  ⟨by rw [World.cell?_setCell_other _ _ _ _ (by simp)]; exact A.c0, by rw [World.cell?_setCell_other _ _ _ _ (by simp)]; exact A.c1, by simp [World.cell?_setCell_same, A.c2], by simp [go_sem, A.f2], by simp [go_sem]; exact A.lt⟩
theorem brest_any {gb : Nat} {W h rest : Int} {w : World} (A : BearAt w gb W h rest) : Calls Tryz.prog 77 #[.pointer (some ⟨gb, 0, none⟩)] w fun e w' => e = .returned (.int .i64 rest) ∧ w' = w := by
  obtain ⟨c0, c1, c2, f2, lt⟩ := A
  go_enter Tryz.func77, Tryz.ntmps77
  go_wp2
  go_ret
  exact ⟨rfl, rfl⟩
theorem with_no {c r : Int} (hc : c = 1 ∨ c = 2 ∨ c = 3) (hr : r = 1 ∨ r = 3) (rest : Int) (h : ¬ (-(Gm.half c r) ≤ rest ∧ rest < Gm.whole c - Gm.half c r)) (w : World) :
    Calls Tryz.prog 54 #[.int .i64 c, .int .i64 r, .int .i64 rest] w fun e w' => e = .returned (.tuple #[.pointer none, .bool false]) ∧ Below w.heap.size w w' := by
  have NA := Aside0.mk (fun W => bnew_any hc hr W)
  have G := good_new c r
  obtain ⟨Wh, hW⟩ : ∃ x, Gm.whole c = x := ⟨_, rfl⟩
  obtain ⟨Hf, hH⟩ : ∃ x, Gm.half c r = x := ⟨_, rfl⟩
  unfold Newly at NA
  rw [hW, hH] at NA G h
  have g0 := G.w0
  have g1 := G.w1
  have g2 := G.h0
  have g3 := G.h1
  have s1 : IntKind.i64.wrap (-Hf) = -Hf := IntWalk.i64_in _ (by omega)
  have s2 : IntKind.i64.wrap (Wh - Hf) = Wh - Hf := IntWalk.i64_in _ (by omega)
  rcases (by omega : rest < -Hf ∨ ¬ rest < -Hf ∧ Wh - Hf ≤ rest) with h1 | ⟨h1, h2⟩
  · have o1 : decide (rest < -Hf) = true := decide_eq_true h1
    clear hc hr G hW hH h g0 g1 g2 g3 h1
    go_enter Tryz.func54, Tryz.ntmps54
    go_wp2_with (go_at_call 71; (with_reducible refine (NA.out _).mono ?_); rintro e w1 ⟨hb, gb, hge, rfl, hA⟩; have AA := Aside0.mk hA; have HB := Aside0.mk hb; obtain ⟨c0, c1, c2, f2, lt⟩ := hA; clear hb)
    go_quiet (fail)
    go_wp2_with fail
    go_ret2
    exact ⟨rfl, (by first | exact HB.out | exact Below.drew HB.out | exact pw_below_drewN HB.out _)⟩
  · have o1 : decide (rest < -Hf) = false := decide_eq_false h1
    have o2 : decide (Wh - Hf ≤ rest) = true := decide_eq_true h2
    clear hc hr G hW hH h g0 g1 g2 g3 h1 h2
    go_enter Tryz.func54, Tryz.ntmps54
    go_wp2_with (go_at_call 71; (with_reducible refine (NA.out _).mono ?_); rintro e w1 ⟨hb, gb, hge, rfl, hA⟩; have AA := Aside0.mk hA; have HB := Aside0.mk hb; obtain ⟨c0, c1, c2, f2, lt⟩ := hA; clear hb)
    go_quiet (fail)
    go_wp2_with fail
    go_ret2
    exact ⟨rfl, (by first | exact HB.out | exact Below.drew HB.out | exact pw_below_drewN HB.out _)⟩
theorem with_yes {c r : Int} (hc : c = 1 ∨ c = 2 ∨ c = 3) (hr : r = 1 ∨ r = 3) (rest : Int) (h : -(Gm.half c r) ≤ rest ∧ rest < Gm.whole c - Gm.half c r) (w : World) :
    Calls Tryz.prog 54 #[.int .i64 c, .int .i64 r, .int .i64 rest] w fun e w' => Below w.heap.size w w' ∧ ∃ gb, w.heap.size ≤ gb ∧ e = .returned (.tuple #[.pointer (some ⟨gb, 0, none⟩), .bool true]) ∧ BearAt w' gb (Gm.whole c) (Gm.half c r) rest := by
  have NA := Aside0.mk (fun W => bnew_any hc hr W)
  have G := good_new c r
  obtain ⟨Wh, hW⟩ : ∃ x, Gm.whole c = x := ⟨_, rfl⟩
  obtain ⟨Hf, hH⟩ : ∃ x, Gm.half c r = x := ⟨_, rfl⟩
  unfold Newly at NA
  rw [hW, hH] at NA G h ⊢
  have g0 := G.w0
  have g1 := G.w1
  have g2 := G.h0
  have g3 := G.h1
  have s1 : IntKind.i64.wrap (-Hf) = -Hf := IntWalk.i64_in _ (by omega)
  have s2 : IntKind.i64.wrap (Wh - Hf) = Wh - Hf := IntWalk.i64_in _ (by omega)
  have o1 : decide (rest < -Hf) = false := decide_eq_false (by omega)
  have o2 : decide (Wh - Hf ≤ rest) = false := decide_eq_false (by omega)
  clear hc hr G hW hH h g0 g1 g2 g3
  go_enter Tryz.func54, Tryz.ntmps54
  go_wp2_with (go_at_call 71; (with_reducible refine (NA.out _).mono ?_); rintro e w1 ⟨hb, gb, hge, rfl, hA⟩; have AA := Aside0.mk hA; have HB := Aside0.mk hb; obtain ⟨c0, c1, c2, f2, lt⟩ := hA; clear hb)
  go_quiet (fail)
  obtain ⟨wq, hwq⟩ : ∃ x, w1.drewN nq = x := ⟨_, rfl⟩
  have B0 : Below w1.heap.size w1 wq := by rw [← hwq]; exact pw_below_drewN (Below.refl _ _) nq
  rw [hwq]
  have AA := Aside0.mk (AA.out.below B0)
  have HB := Aside0.mk (below_step HB.out B0)
  clear hwq B0 c0 c1 c2 f2 lt
  obtain ⟨c0, c1, c2, f2, lt⟩ := AA.out
  go_wp2_with fail
  go_ret2
  exact ⟨Below.setCell HB.out hge _, gb, hge, rfl, AA.out.set rest⟩
end Go.Proofs.YtbbbjjfecblhpaaGreat.Nt
/- Contracts by hand: what a balance bears, of a night; what is thrown. -/
namespace Go.Proofs.YtbbbjjfecblhpaaGreat.Nt
open Go.RowKit Go.Proofs.YtbbbjjfecblhpaaGreatW.PrintWords Go.Proofs.YtbbbjjfecblhpaaGreatW.PrintLast Go.Proofs.YtbbbjjfecblhpaaGreatW.PrintMore Go.Proofs.YtbbbjjfecblhpaaGreat.HW
open Go.Proofs.YtbbbjjfecblhpaaGreat.Math Go.Proofs.YtbbbjjfecblhpaaGreat.H Go.Proofs.YtbbbjjfecblhpaaGreat.Pd Go.Proofs.YtbbbjjfecblhpaaGreat.Du Go.Proofs.YtbbbjjfecblhpaaGreat.Lv Pm
set_option linter.unusedVariables false
set_option linter.unusedSimpArgs false
attribute [local go_sem] max2_int min2_int max_two min_two
/-- What a night throws. -/
abbrev thrownE (c : Int) : Ending := .panicked [{ v := .iface 103 (.int .i64 c), recovered := false }]
theorem nmust_yes (c : Int) (w : World) : Calls Tryz.prog 35 #[.bool true, .int .i64 c] w fun e w' => e = .returned (.tuple #[]) ∧ w' = w := by
  go_enter Tryz.func35, Tryz.ntmps35
  go_wp2
  go_end0
  exact ⟨rfl, rfl⟩
theorem nmust_no (c : Int) (w : World) : Calls Tryz.prog 35 #[.bool false, .int .i64 c] w fun e w' => e = thrownE c ∧ w' = w := by
  go_enter Tryz.func35, Tryz.ntmps35
  go_wp2
  exact ⟨rfl, rfl, rfl⟩
set_option maxRecDepth 100000 in
set_option maxHeartbeats 4000000 in
theorem nbear_yes (P : Pm.Prod) (A1 : Option Addr) (c1 : Nat) (A2 : Option Addr) (c2 : Nat) (A3 : Option Addr) (c3 : Nat) (rest bal rate n v r2 : Int) (w : World) (hc : P.count = 1 ∨ P.count = 2 ∨ P.count = 3) (hr : P.round = 1 ∨ P.round = 3) (h : -(Gm.half P.count P.round) ≤ rest ∧ rest < Gm.whole P.count - Gm.half P.count P.round) (hz : Gm.bear (Gm.whole P.count) (Gm.half P.count P.round) rest bal rate n = (v, 0, r2)) :
    Calls Tryz.prog 57 #[pv P A1 c1 A2 c2 A3 c3, .int .i64 rest, .int .i64 bal, .int .i64 rate, .int .i64 n] w fun e w' => e = .returned (.tuple #[.int .i64 v, .int .i64 r2]) ∧ Below w.heap.size w w' := by
  have WA := Aside0.mk (fun W => with_yes hc hr rest h W)
  have G : H.Good (Gm.whole P.count) (Gm.half P.count P.round) rest := by
    have g := good_new P.count P.round
    exact ⟨g.w0, g.w1, g.h0, g.h1, h.1, h.2⟩
  have BA := Aside0.mk (fun (W : World) (gb : Nat) (A : BearAt W gb (Gm.whole P.count) (Gm.half P.count P.round) rest) => by have h := bear_any (bal := bal) (rate := rate) (n := n) A G; rw [hz] at h; exact h)
  have MA := Aside0.mk (fun W => nmust_yes 3 W)
  unfold Bore at BA
  clear hc hr h hz G
  go_enter Tryz.func57, Tryz.ntmps57
  go_wp2_with ((with_reducible refine gate_dst (N := 5) rfl ?_); refine box_event ?hg (N := 5) ?hd (cs := pcs P A1 c1 A2 c2 A3 c3) (t := 27) ?hr ?_; (case hd => rfl); (case hg => rfl); (case hr => first | (go_simp; done) | (go_simp; rfl)); intro gp hg w1 hb1 hb; clear hg; have GP := Aside0.mk hb1; have HB := Aside0.mk hb; clear hb1 hb; refine Hid.out ?_)
  refine Lib.hid ?_
  have u1 := (show w1.cell? ⟨gp, 1, none⟩ = some (.int .i64 P.count) from (blk_cell GP.out 1).trans rfl)
  have u2 := (show w1.cell? ⟨gp, 2, none⟩ = some (.int .i64 P.round) from (blk_cell GP.out 2).trans rfl)
  go_wp2_with (first
    | (go_at_call 54; (with_reducible refine (WA.out _).mono ?_); rintro e w2 ⟨hb, gb, hge, rfl, hA⟩; have AA := Aside0.mk hA; have gbge := Nat.le_trans HB.out.size hge; have HB := Aside0.mk (below_step HB.out hb); clear hb hA hge u1 u2)
    | (go_at_call 76; (with_reducible refine (BA.out _ _ AA.out).mono ?_); rintro e w3 ⟨rfl, hA, hbut⟩; have AA := Aside0.mk hA; have HB := Aside0.mk (But.below HB.out HB.out.size gbge hbut); clear hA hbut)
    | (go_at_call 35; (with_reducible refine (MA.out _).mono ?_); rintro e w' ⟨rfl, rfl⟩)
    | (go_at_call 77; (with_reducible refine (brest_any AA.out).mono ?_); rintro e w' ⟨rfl, rfl⟩))
  go_ret2
  exact ⟨rfl, HB.out⟩
set_option maxRecDepth 100000 in
set_option maxHeartbeats 4000000 in
theorem nbear_no (P : Pm.Prod) (A1 : Option Addr) (c1 : Nat) (A2 : Option Addr) (c2 : Nat) (A3 : Option Addr) (c3 : Nat) (rest bal rate n : Int) (w : World) (hc : P.count = 1 ∨ P.count = 2 ∨ P.count = 3) (hr : P.round = 1 ∨ P.round = 3) (h : -(Gm.half P.count P.round) ≤ rest ∧ rest < Gm.whole P.count - Gm.half P.count P.round) (hz : (Gm.bear (Gm.whole P.count) (Gm.half P.count P.round) rest bal rate n).2.1 ≠ 0) :
    Calls Tryz.prog 57 #[pv P A1 c1 A2 c2 A3 c3, .int .i64 rest, .int .i64 bal, .int .i64 rate, .int .i64 n] w fun e w' => e = thrownE 3 ∧ Below w.heap.size w w' := by
  have WA := Aside0.mk (fun W => with_yes hc hr rest h W)
  have G : H.Good (Gm.whole P.count) (Gm.half P.count P.round) rest := by
    have g := good_new P.count P.round
    exact ⟨g.w0, g.w1, g.h0, g.h1, h.1, h.2⟩
  obtain ⟨⟨v, z2, r2⟩, hzz⟩ : ∃ z, Gm.bear (Gm.whole P.count) (Gm.half P.count P.round) rest bal rate n = z := ⟨_, rfl⟩
  have BA := Aside0.mk (fun (W : World) (gb : Nat) (A : BearAt W gb (Gm.whole P.count) (Gm.half P.count P.round) rest) => by have h := bear_any (bal := bal) (rate := rate) (n := n) A G; rw [hzz] at h; exact h)
  rw [hzz] at hz
  have hz : (z2 == 0) = false := by simpa using hz
  have MA := Aside0.mk (fun W => nmust_no 3 W)
  unfold Bore at BA
  clear hc hr h hzz G
  go_enter Tryz.func57, Tryz.ntmps57
  go_wp2_with ((with_reducible refine gate_dst (N := 5) rfl ?_); refine box_event ?hg (N := 5) ?hd (cs := pcs P A1 c1 A2 c2 A3 c3) (t := 27) ?hr ?_; (case hd => rfl); (case hg => rfl); (case hr => first | (go_simp; done) | (go_simp; rfl)); intro gp hg w1 hb1 hb; clear hg; have GP := Aside0.mk hb1; have HB := Aside0.mk hb; clear hb1 hb; refine Hid.out ?_)
  refine Lib.hid ?_
  have u1 := (show w1.cell? ⟨gp, 1, none⟩ = some (.int .i64 P.count) from (blk_cell GP.out 1).trans rfl)
  have u2 := (show w1.cell? ⟨gp, 2, none⟩ = some (.int .i64 P.round) from (blk_cell GP.out 2).trans rfl)
  go_wp2_with (first
    | (go_at_call 54; (with_reducible refine (WA.out _).mono ?_); rintro e w2 ⟨hb, gb, hge, rfl, hA⟩; have AA := Aside0.mk hA; have gbge := Nat.le_trans HB.out.size hge; have HB := Aside0.mk (below_step HB.out hb); clear hb hA hge u1 u2)
    | (go_at_call 76; (with_reducible refine (BA.out _ _ AA.out).mono ?_); rintro e w3 ⟨rfl, hA, hbut⟩; have AA := Aside0.mk hA; have HB := Aside0.mk (But.below HB.out HB.out.size gbge hbut); clear hA hbut)
    | (go_at_call 35; (with_reducible refine (MA.out _).mono ?_); rintro e w' ⟨rfl, rfl⟩)
    | (go_at_call 77; (with_reducible refine (brest_any AA.out).mono ?_); rintro e w' ⟨rfl, rfl⟩))
  exact ⟨rfl, rfl, HB.out⟩
end Go.Proofs.YtbbbjjfecblhpaaGreat.Nt
/- A loan's state in memory: its cells; parts of a block put anew. -/
namespace Go.Proofs.YtbbbjjfecblhpaaGreat.Nt
open Go.RowKit Go.Proofs.YtbbbjjfecblhpaaGreatW.PrintWords Go.Proofs.YtbbbjjfecblhpaaGreatW.PrintLast Go.Proofs.YtbbbjjfecblhpaaGreatW.PrintMore Go.Proofs.YtbbbjjfecblhpaaGreat.HW
open Go.Proofs.YtbbbjjfecblhpaaGreat.Math Go.Proofs.YtbbbjjfecblhpaaGreat.H Go.Proofs.YtbbbjjfecblhpaaGreat.Pd Go.Proofs.YtbbbjjfecblhpaaGreat.Du Go.Proofs.YtbbbjjfecblhpaaGreat.Lv Pm
set_option linter.unusedVariables false
set_option linter.unusedSimpArgs false
/-- A state, by its cells: its list of principal parts at L, its dues at D. -/
abbrev scs (s : St) (L : Option Addr) (lc : Nat) (D : Option Addr) (dc : Nat) : Array Value := #[.int .i64 s.day, .bool s.opn, .int .i64 s.start, .slice L s.plan.length lc, .int .i64 s.next, .int .i64 s.rate, .int .i64 s.m.p, .int .i64 s.m.acc, .slice D s.m.dues.length dc, .int .i64 s.m.pen, .int .i64 s.m.fees, .int .i64 s.m.un, .int .i64 s.m.cash, .int .i64 s.m.earned, .int .i64 s.m.fined, .int .i64 s.m.charged, .int .i64 s.lateFees, .int .i64 s.residue, .int .i64 s.fine]
abbrev sv (s : St) (L : Option Addr) (lc : Nat) (D : Option Addr) (dc : Nat) : Value := .agg (scs s L lc D dc)
theorem info_state : (Tryz.prog.info? 33).map (·.size) = some 19 := by kernel_rfl
theorem built_state0 : Tryz.prog.built 33 [] = some (scs zeroS none 0 none 0) := by kernel_rfl
def putAll : Array Value → Nat → List Value → Array Value
  | cs, _, [] => cs
  | cs, o, v :: vs => putAll (cs.setIfInBounds o v) (o + 1) vs
theorem blk_setCells {g : Nat} {t : TypeId} : ∀ (vs : List Value) (o : Nat) (cs : Array Value) {w : World}, w.heap[g]? = some (.cells cs t (0, 0)) → (w.setCells g o vs).heap[g]? = some (.cells (putAll cs o vs) t (0, 0))
  | [], o, cs, w, h => h
  | v :: vs, o, cs, w, h => blk_setCells vs (o + 1) _ (blk_set h o v)
theorem but_setCells {g : Nat} : ∀ (vs : List Value) (o : Nat) {w w1 : World}, H.But g w w1 → H.But g w (w1.setCells g o vs)
  | [], o, w, w1, h => h
  | v :: vs, o, w, w1, h => but_setCells vs (o + 1) (h.setCell (Or.inl rfl) v)
section
variable {P : Program} {ops : Array Oper} {rest : List Oper} {a : Act} {Q : Exit → Act → World → Prop}
/-- Some cells within a block, put anew at once. -/
theorem mid_event {W : World} {op : Oper} (hgd : op.guard = none) {ty : TypeId} {x y : Operand} (ho : op.op = .store ty x y) (hd : op.dst = none) {g o : Nat} {cs cs' vs : Array Value} {t : TypeId}
    (hx : a.eval x = .pointer (some ⟨g, o, none⟩)) (hy : a.eval y = .agg vs) (hb : W.heap[g]? = some (.cells cs t (0, 0))) (hi : (P.info? ty).map (·.size) = some vs.size) (h1 : vs.all (·.oneCell') = true) (ht : W.there g o vs.size) (hc : putAll cs o vs.toList = cs')
    (h : ∀ w1, w1.heap[g]? = some (.cells cs' t (0, 0)) → H.But g W w1 → wpList P ops Q rest a w1) : wpList P ops Q (op :: rest) a W := by
  refine wpList_store_mid hgd ty x y ho g o vs hx hy ht hi h1 ?_
  rw [hd]
  exact h _ (by rw [← hc]; exact blk_setCells _ _ _ hb) (but_setCells _ _ (H.But.of (Below.refl _ _)))
end
end Go.Proofs.YtbbbjjfecblhpaaGreat.Nt
/- Contracts by hand: what so many nights make of a state. -/
namespace Go.Proofs.YtbbbjjfecblhpaaGreat.Nt
open Go.RowKit Go.Proofs.YtbbbjjfecblhpaaGreatW.PrintWords Go.Proofs.YtbbbjjfecblhpaaGreatW.PrintLast Go.Proofs.YtbbbjjfecblhpaaGreatW.PrintMore Go.Proofs.YtbbbjjfecblhpaaGreat.HW
open Go.Proofs.YtbbbjjfecblhpaaGreat.Math Go.Proofs.YtbbbjjfecblhpaaGreat.H Go.Proofs.YtbbbjjfecblhpaaGreat.Pd Go.Proofs.YtbbbjjfecblhpaaGreat.Du Go.Proofs.YtbbbjjfecblhpaaGreat.Lv Pm
set_option linter.unusedVariables false
set_option linter.unusedSimpArgs false
attribute [local go_sem] max2_int min2_int max_two min_two
theorem mny_range {w : World} {g : Nat} {s : St} {L : Option Addr} {lc : Nat} {D : Option Addr} {dc : Nat} {t : TypeId} (h : w.heap[g]? = some (.cells (scs s L lc D dc) t (0, 0))) : w.rangeAt g 6 (mcs s.m D dc).toList := by
  have := World.rangeAt_of_block h 6 10
  exact this
set_option maxRecDepth 100000 in
set_option maxHeartbeats 8000000 in
theorem nights_range1 (P : Pm.Prod) (A1 : Option Addr) (c1 : Nat) (A2 : Option Addr) (c2 : Nat) (A3 : Option Addr) (c3 : Nat) (s : St) (L : Option Addr) (lc : Nat) (D : Option Addr) (dc : Nat) (n : Int) (w : World) (hc : P.count = 1 ∨ P.count = 2 ∨ P.count = 3) (hr : P.round = 1 ∨ P.round = 3) (h1 : -(Gm.half P.count P.round) ≤ s.residue ∧ s.residue < Gm.whole P.count - Gm.half P.count P.round) (h2 : -(Gm.half P.count P.round) ≤ s.fine ∧ s.fine < Gm.whole P.count - Gm.half P.count P.round) (hd : isDay s.day) (hd2 : isDay (s.day + n)) (hm : MAt w s.m D) (hz : (Gm.bear (Gm.whole P.count) (Gm.half P.count P.round) s.residue s.m.p s.rate (place P.count (s.day + n) - place P.count s.day)).2.1 ≠ 0) :
    Calls Tryz.prog 37 #[pv P A1 c1 A2 c2 A3 c3, sv s L lc D dc, .int .i64 n] w fun e w' => e = thrownE 3 ∧ Below w.heap.size w w' := by
  have TA := Aside0.mk (fun W => between_any P.count s.day (s.day + n) _ 0 (between_ok hc hd hd2) W)
  have MY := Aside0.mk (fun W => nmust_yes 0 W)
  have BN := Aside0.mk (fun W => nbear_no P A1 c1 A2 c2 A3 c3 s.residue s.m.p s.rate (place P.count (s.day + n) - place P.count s.day) W hc hr h1 hz)
  have sw : IntKind.i64.wrap (s.day + n) = s.day + n := IntWalk.i64_in _ (by have a := hd2.1; have b := hd2.2; omega)
  obtain ⟨pn, hpn⟩ : ∃ x, (place P.count (s.day + n) - place P.count s.day) = x := ⟨_, rfl⟩
  rw [hpn] at TA BN
  clear hc hr h1 h2 hd hd2 hm hz hpn
  go_enter Tryz.func37, Tryz.ntmps37
  go_wp2_with (first
    | ((with_reducible refine gate_dst (N := 3) rfl ?_); refine box_event ?hg (N := 3) ?hd (cs := pcs P A1 c1 A2 c2 A3 c3) (t := 27) ?hr ?_; (case hd => rfl); (case hg => rfl); (case hr => first | (go_simp; done) | (go_simp; rfl)); intro gp hg y1_ hb1 hb; clear hg; have GP := Aside0.mk hb1; have HB := Aside0.mk hb; clear hb1 hb)
    | ((with_reducible refine gate_dst (N := 4) rfl ?_); refine box_event ?hg (N := 4) ?hd (cs := scs s L lc D dc) (t := 33) ?hr ?_; (case hd => rfl); (case hg => rfl); (case hr => first | (go_simp; done) | (go_simp; rfl)); intro gs hg y2_ hb1 hb; have gsge := (show w.heap.size ≤ gs by rw [hg]; exact HB.out.size); have gps := (show gp ≠ gs by have := blk_lt GP.out; omega); clear hg; have GS := Aside0.mk hb1; have GP := Aside0.mk (Pd.blk_below GP.out hb); have HB := Aside0.mk (below_step HB.out hb); clear hb1 hb)
    | ((with_reducible refine gate_dst (N := 6) rfl ?_); refine box_event rfl (N := 6) rfl (cs := scs zeroS none 0 none 0) (t := 33) ?hr ?_; (case hr => first | (go_simp; done) | (go_simp; rfl)); intro gr hg v3 hb1 hb; have grge := (show w.heap.size ≤ gr by rw [hg]; exact HB.out.size); have gpr := (show gp ≠ gr by have := blk_lt GP.out; omega); have gsr := (show gs ≠ gr by have := blk_lt GS.out; omega); clear hg; have GR := Aside0.mk hb1; have GP := Aside0.mk (Pd.blk_below GP.out hb); have GS := Aside0.mk (Pd.blk_below GS.out hb); have HB := Aside0.mk (below_step HB.out hb); clear hb1 hb; refine Hid.out ?_))
  refine Lib.hid ?_
  have u1 := (show v3.cell? ⟨gp, 1, none⟩ = some (.int .i64 P.count) from (blk_cell GP.out 1).trans rfl)
  have s0 := (show v3.cell? ⟨gs, 0, none⟩ = some (.int .i64 s.day) from (blk_cell GS.out 0).trans rfl)
  go_wp2_with (first
    | (go_at_call 56; (with_reducible refine (TA.out _).mono ?_); rintro e v4 ⟨rfl, hb⟩; have GP := Aside0.mk (Pd.blk_below GP.out hb); have GS := Aside0.mk (Pd.blk_below GS.out hb); have GR := Aside0.mk (Pd.blk_below GR.out hb); have HB := Aside0.mk (below_step HB.out hb); clear hb u1 s0)
    | (go_at_call 35; (with_reducible refine (MY.out _).mono ?_); rintro e w' ⟨rfl, rfl⟩)
    | ((with_reducible refine gate_dst (N := 31) rfl ?_); refine wpList_load_mid rfl 31 (.tmp 30) rfl gs 6 ?hx (mcs s.m D dc).toList _ (mny_range GS.out) Tryz.underlying31 rfl info_mny ?_; (case hx => first | rfl | (go_simp; done) | (go_simp; rfl)))
    | ((with_reducible refine gate_dst (N := 9) rfl ?_); refine copy_event rfl (N := 9) rfl rfl rfl (t := 31) (v := .tmp 31) rfl (cs := mcs s.m D dc) (zs := mcs zeroM none 0) ?hr rfl rfl info_mny ?hz (by simp [Value.oneCell']) ?_; (case hr => first | (go_simp; done) | (go_simp; rfl)); (case hz => rfl); intro gm hg v5 hb1 hb; have gmge := (show w.heap.size ≤ gm by rw [hg]; exact HB.out.size); have gpm := (show gp ≠ gm by have := blk_lt GP.out; omega); have gsm := (show gs ≠ gm by have := blk_lt GS.out; omega); have grm := (show gr ≠ gm by have := blk_lt GR.out; omega); clear hg; have GM := Aside0.mk hb1; have GP := Aside0.mk (Pd.blk_below GP.out hb); have GS := Aside0.mk (Pd.blk_below GS.out hb); have GR := Aside0.mk (Pd.blk_below GR.out hb); have HB := Aside0.mk (below_step HB.out hb); clear hb1 hb; have s8 := (show v5.cell? ⟨gs, 17, none⟩ = some (.int .i64 s.residue) from (blk_cell GS.out 17).trans rfl); have s5 := (show v5.cell? ⟨gs, 5, none⟩ = some (.int .i64 s.rate) from (blk_cell GS.out 5).trans rfl); have m0 := (show v5.cell? ⟨gm, 0, none⟩ = some (.int .i64 s.m.p) from (blk_cell GM.out 0).trans rfl))
    | ((with_reducible refine gate_dst (N := 33) rfl ?_); refine wpList_load_row rfl 27 (.tmp 3) rfl gp rfl 27 _ (0, 0) _ GP.out Tryz.underlying27 rfl info_prod ?_)
    | (go_at_call 57; (with_reducible refine (BN.out _).mono ?_); rintro e v6 ⟨rfl, hb⟩; have HB := Aside0.mk (below_step HB.out hb); clear hb))
  exact ⟨rfl, rfl, HB.out⟩
end Go.Proofs.YtbbbjjfecblhpaaGreat.Nt
/- Contracts by hand: nights, where the second balance is too great. -/
namespace Go.Proofs.YtbbbjjfecblhpaaGreat.Nt
open Go.RowKit Go.Proofs.YtbbbjjfecblhpaaGreatW.PrintWords Go.Proofs.YtbbbjjfecblhpaaGreatW.PrintLast Go.Proofs.YtbbbjjfecblhpaaGreatW.PrintMore Go.Proofs.YtbbbjjfecblhpaaGreat.HW
open Go.Proofs.YtbbbjjfecblhpaaGreat.Math Go.Proofs.YtbbbjjfecblhpaaGreat.H Go.Proofs.YtbbbjjfecblhpaaGreat.Pd Go.Proofs.YtbbbjjfecblhpaaGreat.Du Go.Proofs.YtbbbjjfecblhpaaGreat.Lv Pm
set_option linter.unusedVariables false
set_option linter.unusedSimpArgs false
attribute [local go_sem] max2_int min2_int max_two min_two
theorem blk_rangeN {w : World} {g : Nat} {cs : Array Value} {t : TypeId} (h : w.heap[g]? = some (.cells cs t (0, 0))) : w.rangeAt g 0 cs.toList := by
  intro j v hj
  rw [Array.getElem?_toList] at hj
  rw [Nat.zero_add, blk_cell h j]
  exact hj
set_option maxRecDepth 100000 in
set_option maxHeartbeats 8000000 in
theorem nights_range2 (P : Pm.Prod) (A1 : Option Addr) (c1 : Nat) (A2 : Option Addr) (c2 : Nat) (A3 : Option Addr) (c3 : Nat) (s : St) (L : Option Addr) (lc : Nat) (D : Option Addr) (dc : Nat) (n : Int) (w : World) (hc : P.count = 1 ∨ P.count = 2 ∨ P.count = 3) (hr : P.round = 1 ∨ P.round = 3) (h1 : -(Gm.half P.count P.round) ≤ s.residue ∧ s.residue < Gm.whole P.count - Gm.half P.count P.round) (h2 : -(Gm.half P.count P.round) ≤ s.fine ∧ s.fine < Gm.whole P.count - Gm.half P.count P.round) (hd : isDay s.day) (hd2 : isDay (s.day + n)) (hm : MAt w s.m D) (v r2 : Int) (hz : Gm.bear (Gm.whole P.count) (Gm.half P.count P.round) s.residue s.m.p s.rate (place P.count (s.day + n) - place P.count s.day) = (v, 0, r2)) (hz2 : (Gm.bear (Gm.whole P.count) (Gm.half P.count P.round) s.fine (owedP s.m) P.penalty (place P.count (s.day + n) - place P.count s.day)).2.1 ≠ 0) :
    Calls Tryz.prog 37 #[pv P A1 c1 A2 c2 A3 c3, sv s L lc D dc, .int .i64 n] w fun e w' => e = thrownE 3 ∧ Below w.heap.size w w' := by
  have TA := Aside0.mk (fun W => between_any P.count s.day (s.day + n) _ 0 (between_ok hc hd hd2) W)
  have MY := Aside0.mk (fun W => nmust_yes 0 W)
  have OW := Aside0.mk (fun (W : World) (hb : Below w.heap.size w W) => owed_any s.m D dc W (hm.below hb))
  have B1 := Aside0.mk (fun W => nbear_yes P A1 c1 A2 c2 A3 c3 s.residue s.m.p s.rate (place P.count (s.day + n) - place P.count s.day) v r2 W hc hr h1 hz)
  have B2 := Aside0.mk (fun W => nbear_no P A1 c1 A2 c2 A3 c3 s.fine (owedP s.m) P.penalty (place P.count (s.day + n) - place P.count s.day) W hc hr h2 hz2)
  have sw : IntKind.i64.wrap (s.day + n) = s.day + n := IntWalk.i64_in _ (by have a := hd2.1; have b := hd2.2; omega)
  obtain ⟨pn, hpn⟩ : ∃ x, (place P.count (s.day + n) - place P.count s.day) = x := ⟨_, rfl⟩
  obtain ⟨ow, how⟩ : ∃ x, owedP s.m = x := ⟨_, rfl⟩
  rw [how] at OW
  rw [hpn] at TA B1
  rw [hpn, how] at B2
  clear hc hr h1 h2 hd hd2 hm hz hz2 hpn how
  go_enter Tryz.func37, Tryz.ntmps37
  go_wp2_with (first
    | ((with_reducible refine gate_dst (N := 3) rfl ?_); refine box_event ?hg (N := 3) ?hd (cs := pcs P A1 c1 A2 c2 A3 c3) (t := 27) ?hr ?_; (case hd => rfl); (case hg => rfl); (case hr => first | (go_simp; done) | (go_simp; rfl)); intro gp hg y1_ hb1 hb; clear hg; have GP := Aside0.mk hb1; have HB := Aside0.mk hb; clear hb1 hb)
    | ((with_reducible refine gate_dst (N := 4) rfl ?_); refine box_event ?hg (N := 4) ?hd (cs := scs s L lc D dc) (t := 33) ?hr ?_; (case hd => rfl); (case hg => rfl); (case hr => first | (go_simp; done) | (go_simp; rfl)); intro gs hg y2_ hb1 hb; have gsge := (show w.heap.size ≤ gs by rw [hg]; exact HB.out.size); have gps := (show gp ≠ gs by have := blk_lt GP.out; omega); clear hg; have GS := Aside0.mk hb1; have GP := Aside0.mk (Pd.blk_below GP.out hb); have HB := Aside0.mk (below_step HB.out hb); clear hb1 hb)
    | ((with_reducible refine gate_dst (N := 6) rfl ?_); refine box_event rfl (N := 6) rfl (cs := scs zeroS none 0 none 0) (t := 33) ?hr ?_; (case hr => first | (go_simp; done) | (go_simp; rfl)); intro gr hg v3 hb1 hb; have grge := (show w.heap.size ≤ gr by rw [hg]; exact HB.out.size); have gpr := (show gp ≠ gr by have := blk_lt GP.out; omega); have gsr := (show gs ≠ gr by have := blk_lt GS.out; omega); clear hg; have GR := Aside0.mk hb1; have GP := Aside0.mk (Pd.blk_below GP.out hb); have GS := Aside0.mk (Pd.blk_below GS.out hb); have HB := Aside0.mk (below_step HB.out hb); clear hb1 hb; refine Hid.out ?_))
  refine Lib.hid ?_
  have u1 := (show v3.cell? ⟨gp, 1, none⟩ = some (.int .i64 P.count) from (blk_cell GP.out 1).trans rfl)
  have s0 := (show v3.cell? ⟨gs, 0, none⟩ = some (.int .i64 s.day) from (blk_cell GS.out 0).trans rfl)
  go_wp2_with (first
    | (go_at_call 56; (with_reducible refine (TA.out _).mono ?_); rintro e v4 ⟨rfl, hb⟩; have GP := Aside0.mk (Pd.blk_below GP.out hb); have GS := Aside0.mk (Pd.blk_below GS.out hb); have GR := Aside0.mk (Pd.blk_below GR.out hb); have HB := Aside0.mk (below_step HB.out hb); clear hb u1 s0)
    | (go_at_call 35; (with_reducible refine (MY.out _).mono ?_); rintro e w' ⟨rfl, rfl⟩)
    | ((with_reducible refine gate_dst (N := 31) rfl ?_); refine wpList_load_mid rfl 31 (.tmp 30) rfl gs 6 ?hx (mcs s.m D dc).toList _ (mny_range GS.out) Tryz.underlying31 rfl info_mny ?_; (case hx => first | rfl | (go_simp; done) | (go_simp; rfl)))
    | ((with_reducible refine gate_dst (N := 9) rfl ?_); refine copy_event rfl (N := 9) rfl rfl rfl (t := 31) (v := .tmp 31) rfl (cs := mcs s.m D dc) (zs := mcs zeroM none 0) ?hr rfl rfl info_mny ?hz (by simp [Value.oneCell']) ?_; (case hr => first | (go_simp; done) | (go_simp; rfl)); (case hz => rfl); intro gm hg v5 hb1 hb; have gmge := (show w.heap.size ≤ gm by rw [hg]; exact HB.out.size); have gpm := (show gp ≠ gm by have := blk_lt GP.out; omega); have gsm := (show gs ≠ gm by have := blk_lt GS.out; omega); have grm := (show gr ≠ gm by have := blk_lt GR.out; omega); clear hg; have GM := Aside0.mk hb1; have GP := Aside0.mk (Pd.blk_below GP.out hb); have GS := Aside0.mk (Pd.blk_below GS.out hb); have GR := Aside0.mk (Pd.blk_below GR.out hb); have HB := Aside0.mk (below_step HB.out hb); clear hb1 hb; have s8 := (show v5.cell? ⟨gs, 17, none⟩ = some (.int .i64 s.residue) from (blk_cell GS.out 17).trans rfl); have s5 := (show v5.cell? ⟨gs, 5, none⟩ = some (.int .i64 s.rate) from (blk_cell GS.out 5).trans rfl); have m0 := (show v5.cell? ⟨gm, 0, none⟩ = some (.int .i64 s.m.p) from (blk_cell GM.out 0).trans rfl))
    | ((with_reducible refine gate_dst (N := 33) rfl ?_); refine wpList_load_row rfl 27 (.tmp 3) rfl gp rfl 27 _ (0, 0) _ GP.out Tryz.underlying27 rfl info_prod ?_)
    | (go_at_call 57; (with_reducible refine (B1.out _).mono ?_); rintro e v6 ⟨rfl, hb⟩; have GP := Aside0.mk (Pd.blk_below GP.out hb); have GS := Aside0.mk (Pd.blk_below GS.out hb); have GR := Aside0.mk (Pd.blk_below GR.out hb); have HB := Aside0.mk (below_step HB.out hb); have GM := Aside0.mk (Pd.blk_below GM.out hb); clear hb s8 s5 m0))
  refine wp_region_held_drew (S := fun W => W.heap[gp]? = some (.cells (pcs P A1 c1 A2 c2 A3 c3) 27 (0, 0)) ∧ W.heap[gs]? = some (.cells (scs s L lc D dc) 33 (0, 0)) ∧ W.heap[gm]? = some (.cells (mcs s.m D dc) 31 (0, 0))) (by kernel_rfl) ⟨GP.out, GS.out, GM.out⟩ (fun hHeld => ?_)
  refine wpAnyH_take (i := 0) (v := _) rfl (by kernel_rfl) (by kernel_rfl) (by kernel_rfl) (fun _ _ _ h => h) (yieldsIf_load_mid (by rfl) 27 _ rfl gp 0 rfl (pcs P A1 c1 A2 c2 A3 c3).toList _ (fun W hSw => blk_rangeN hSw.1) Tryz.underlying27 rfl info_prod) (by assumption) ?_
  (try simp only [Act.put, List.setIfInBounds_toArray, List.set_cons_zero, List.set_cons_succ])
  refine wpAnyH_take (i := 1) (v := ?_) rfl (by kernel_rfl) (by kernel_rfl) (by kernel_rfl) (fun _ _ _ h => h) (Or.inl ⟨by kernel_rfl, ?_⟩) (by assumption) ?_
  rotate_left
  · intro W hSw; (try dsimp only at hSw); clear hSw; go_simp; first | done | with_reducible rfl
  (try simp only [Act.put, List.setIfInBounds_toArray, List.set_cons_zero, List.set_cons_succ])
  refine wpAnyH_take (i := 2) (v := ?_) rfl (by kernel_rfl) (by kernel_rfl) (by kernel_rfl) (fun _ _ _ h => h) (Or.inl ⟨by kernel_rfl, ?_⟩) (by assumption) ?_
  rotate_left
  · intro W hSw; (try dsimp only at hSw); have c18 := (show W.cell? ⟨gs, 18, none⟩ = some (.int .i64 s.fine) from (blk_cell hSw.2.1 18).trans rfl); clear hSw; go_simp; first | done | with_reducible rfl
  (try simp only [Act.put, List.setIfInBounds_toArray, List.set_cons_zero, List.set_cons_succ])
  refine wpAnyH_take (i := 3) (v := _) rfl (by kernel_rfl) (by kernel_rfl) (by kernel_rfl) (fun _ _ _ h => h) (yieldsIf_load_mid (by rfl) 31 _ rfl gm 0 rfl (mcs s.m D dc).toList _ (fun W hSw => blk_rangeN hSw.2.2) Tryz.underlying31 rfl info_mny) (by assumption) ?_
  (try simp only [Act.put, List.setIfInBounds_toArray, List.set_cons_zero, List.set_cons_succ])
  refine wpAnyH_take (i := 5) (v := ?_) rfl (by kernel_rfl) (by kernel_rfl) (by kernel_rfl) (fun _ _ _ h => h) (Or.inl ⟨by kernel_rfl, ?_⟩) (by assumption) ?_
  rotate_left
  · intro W hSw; (try dsimp only at hSw); clear hSw; go_simp; first | done | with_reducible rfl
  (try simp only [Act.put, List.setIfInBounds_toArray, List.set_cons_zero, List.set_cons_succ])
  refine wpAnyH_take (i := 6) (v := ?_) rfl (by kernel_rfl) (by kernel_rfl) (by kernel_rfl) (fun _ _ _ h => h) (Or.inl ⟨by kernel_rfl, ?_⟩) (by assumption) ?_
  rotate_left
  · intro W hSw; (try dsimp only at hSw); have c9 := (show W.cell? ⟨gp, 9, none⟩ = some (.int .i64 P.penalty) from (blk_cell hSw.1 9).trans rfl); clear hSw; go_simp; first | done | with_reducible rfl
  (try simp only [Act.put, List.setIfInBounds_toArray, List.set_cons_zero, List.set_cons_succ])
  refine wpAnyH_take (i := 7) (v := ?_) rfl (by kernel_rfl) (by kernel_rfl) (by kernel_rfl) (fun _ _ _ h => h) (Or.inl ⟨by kernel_rfl, ?_⟩) (by assumption) ?_
  rotate_left
  · intro W hSw; (try dsimp only at hSw); clear hSw; go_simp; first | done | with_reducible rfl
  (try simp only [Act.put, List.setIfInBounds_toArray, List.set_cons_zero, List.set_cons_succ])
  refine wpAnyH_ready (rs := [4]) (by kernel_rfl) (by simp) ?_
  refine AllReadyH.cons rfl (fun K hK => ?_) AllReadyH.nil
  go_simp
  go_at_call 58
  refine (OW.out _ (Below.drew HB.out)).mono ?_
  rintro e v7 ⟨rfl, hb⟩
  have GP := Aside0.mk (Pd.blk_below (by exact GP.out) hb)
  have GS := Aside0.mk (Pd.blk_below (by exact GS.out) hb)
  have GR := Aside0.mk (Pd.blk_below (by exact GR.out) hb)
  have GM := Aside0.mk (Pd.blk_below (by exact GM.out) hb)
  have HB := Aside0.mk (below_step (Below.drew HB.out) hb)
  clear hb
  try go_wp2_with fail
  refine hK.out _ _ ⟨GP.out, GS.out, GM.out⟩ (fun hHeld => ?_)
  clear hK K
  (try simp only [Act.put, List.setIfInBounds_toArray, List.set_cons_zero, List.set_cons_succ])
  refine wpAnyH_ready (rs := [8]) (by kernel_rfl) (by simp) ?_
  refine AllReadyH.cons rfl (fun K hK => ?_) AllReadyH.nil
  go_simp
  go_at_call 57
  refine (B2.out _).mono ?_
  rintro e v8 ⟨rfl, hb⟩
  have HB := Aside0.mk (below_step HB.out hb)
  exact ⟨rfl, rfl, HB.out⟩
end Go.Proofs.YtbbbjjfecblhpaaGreat.Nt
/- Contracts by hand: nights, where both balances are borne. -/
namespace Go.Proofs.YtbbbjjfecblhpaaGreat.Nt
open Go.RowKit Go.Proofs.YtbbbjjfecblhpaaGreatW.PrintWords Go.Proofs.YtbbbjjfecblhpaaGreatW.PrintLast Go.Proofs.YtbbbjjfecblhpaaGreatW.PrintMore Go.Proofs.YtbbbjjfecblhpaaGreat.HW
open Go.Proofs.YtbbbjjfecblhpaaGreat.Math Go.Proofs.YtbbbjjfecblhpaaGreat.H Go.Proofs.YtbbbjjfecblhpaaGreat.Pd Go.Proofs.YtbbbjjfecblhpaaGreat.Du Go.Proofs.YtbbbjjfecblhpaaGreat.Lv Pm
set_option linter.unusedVariables false
set_option linter.unusedSimpArgs false
attribute [local go_sem] max2_int min2_int max_two min_two
/-- Money behind a night. -/
abbrev mN (m : Mny) (v v2 : Int) : Mny := { m with acc := m.acc + v, earned := m.earned + v, pen := m.pen + v2, fined := m.fined + v2 }
abbrev sN1 (s : St) (v v2 : Int) : St := { s with m := mN s.m v v2 }
/-- A state behind nights. -/
abbrev sN (s : St) (n v v2 r2 r4 : Int) : St := { s with m := mN s.m v v2, residue := r2, fine := r4, day := s.day + n }
theorem put_mny (s : St) (m : Mny) (L : Option Addr) (lc : Nat) (D : Option Addr) (dc : Nat) : putAll (scs s L lc D dc) 6 (mcs m D dc).toList = scs { s with m := m } L lc D dc := by
  simp only [putAll, List.setIfInBounds_toArray, List.set_cons_zero, List.set_cons_succ]
theorem set_sN (s : St) (n v v2 r2 r4 : Int) (L : Option Addr) (lc : Nat) (D : Option Addr) (dc : Nat) : (((scs (sN1 s v v2) L lc D dc).setIfInBounds 17 (.int .i64 r2)).setIfInBounds 18 (.int .i64 r4)).setIfInBounds 0 (.int .i64 (s.day + n)) = scs (sN s n v v2 r2 r4) L lc D dc := by
  simp only [List.setIfInBounds_toArray, List.set_cons_zero, List.set_cons_succ]
theorem thereN {w : World} {g : Nat} {cs : Array Value} {t : TypeId} (h : w.heap[g]? = some (.cells cs t (0, 0))) (o n : Nat) (hn : o + n ≤ cs.size) : w.there g o n := fun j hj =>
  ⟨by rw [blk_cell h, Array.getElem?_eq_getElem (by omega)]; rfl, frozen_of_row w g (o + j) _ _ h⟩
set_option maxRecDepth 100000 in
set_option maxHeartbeats 8000000 in
theorem nights_wrong (P : Pm.Prod) (A1 : Option Addr) (c1 : Nat) (A2 : Option Addr) (c2 : Nat) (A3 : Option Addr) (c3 : Nat) (s : St) (L : Option Addr) (lc : Nat) (D : Option Addr) (dc : Nat) (n : Int) (w : World) (hc : P.count = 1 ∨ P.count = 2 ∨ P.count = 3) (hr : P.round = 1 ∨ P.round = 3) (h1 : -(Gm.half P.count P.round) ≤ s.residue ∧ s.residue < Gm.whole P.count - Gm.half P.count P.round) (h2 : -(Gm.half P.count P.round) ≤ s.fine ∧ s.fine < Gm.whole P.count - Gm.half P.count P.round) (hd : isDay s.day) (hd2 : isDay (s.day + n)) (hm : MAt w s.m D) (v r2 v2 r4 : Int) (hz : Gm.bear (Gm.whole P.count) (Gm.half P.count P.round) s.residue s.m.p s.rate (place P.count (s.day + n) - place P.count s.day) = (v, 0, r2)) (hz2 : Gm.bear (Gm.whole P.count) (Gm.half P.count P.round) s.fine (owedP s.m) P.penalty (place P.count (s.day + n) - place P.count s.day) = (v2, 0, r4)) (hw : IntKind.i64.wrap (s.m.acc + v) = s.m.acc + v ∧ IntKind.i64.wrap (s.m.earned + v) = s.m.earned + v ∧ IntKind.i64.wrap (s.m.pen + v2) = s.m.pen + v2 ∧ IntKind.i64.wrap (s.m.fined + v2) = s.m.fined + v2) (hR : (readM (mN s.m v v2)).isSome = false) :
    Calls Tryz.prog 37 #[pv P A1 c1 A2 c2 A3 c3, sv s L lc D dc, .int .i64 n] w fun e w' => e = thrownE 3 ∧ Below w.heap.size w w' := by
  have TA := Aside0.mk (fun W => between_any P.count s.day (s.day + n) _ 0 (between_ok hc hd hd2) W)
  have MY := Aside0.mk (fun W => nmust_yes 0 W)
  have OW := Aside0.mk (fun (W : World) (hb : Below w.heap.size w W) => owed_any s.m D dc W (hm.below hb))
  have B1 := Aside0.mk (fun W => nbear_yes P A1 c1 A2 c2 A3 c3 s.residue s.m.p s.rate (place P.count (s.day + n) - place P.count s.day) v r2 W hc hr h1 hz)
  have B2 := Aside0.mk (fun W => nbear_yes P A1 c1 A2 c2 A3 c3 s.fine (owedP s.m) P.penalty (place P.count (s.day + n) - place P.count s.day) v2 r4 W hc hr h2 hz2)
  have RI := Aside0.mk (fun (W : World) (hb : Below w.heap.size w W) => by have h := right_any (mN s.m v v2) D dc W ⟨(hm.below hb).rows, hm.len⟩; rw [hR] at h; exact h)
  have MN3 := Aside0.mk (fun W => nmust_no 3 W)
  have sw : IntKind.i64.wrap (s.day + n) = s.day + n := IntWalk.i64_in _ (by have a := hd2.1; have b := hd2.2; omega)
  obtain ⟨pn, hpn⟩ : ∃ x, (place P.count (s.day + n) - place P.count s.day) = x := ⟨_, rfl⟩
  obtain ⟨ow, how⟩ : ∃ x, owedP s.m = x := ⟨_, rfl⟩
  rw [how] at OW
  rw [hpn] at TA B1
  rw [hpn, how] at B2
  obtain ⟨k1, k2, k3, k4⟩ := hw
  clear hc hr h1 h2 hd hd2 hm hz hz2 hpn how hR
  go_enter Tryz.func37, Tryz.ntmps37
  go_wp2_with (first
    | ((with_reducible refine gate_dst (N := 3) rfl ?_); refine box_event ?hg (N := 3) ?hd (cs := pcs P A1 c1 A2 c2 A3 c3) (t := 27) ?hr ?_; (case hd => rfl); (case hg => rfl); (case hr => first | (go_simp; done) | (go_simp; rfl)); intro gp hg y1_ hb1 hb; clear hg; have GP := Aside0.mk hb1; have HB := Aside0.mk hb; clear hb1 hb)
    | ((with_reducible refine gate_dst (N := 4) rfl ?_); refine box_event ?hg (N := 4) ?hd (cs := scs s L lc D dc) (t := 33) ?hr ?_; (case hd => rfl); (case hg => rfl); (case hr => first | (go_simp; done) | (go_simp; rfl)); intro gs hg y2_ hb1 hb; have gsge := (show w.heap.size ≤ gs by rw [hg]; exact HB.out.size); have gps := (show gp ≠ gs by have := blk_lt GP.out; omega); clear hg; have GS := Aside0.mk hb1; have GP := Aside0.mk (Pd.blk_below GP.out hb); have HB := Aside0.mk (below_step HB.out hb); clear hb1 hb)
    | ((with_reducible refine gate_dst (N := 6) rfl ?_); refine box_event rfl (N := 6) rfl (cs := scs zeroS none 0 none 0) (t := 33) ?hr ?_; (case hr => first | (go_simp; done) | (go_simp; rfl)); intro gr hg v3 hb1 hb; have grge := (show w.heap.size ≤ gr by rw [hg]; exact HB.out.size); have gpr := (show gp ≠ gr by have := blk_lt GP.out; omega); have gsr := (show gs ≠ gr by have := blk_lt GS.out; omega); clear hg; have GR := Aside0.mk hb1; have GP := Aside0.mk (Pd.blk_below GP.out hb); have GS := Aside0.mk (Pd.blk_below GS.out hb); have HB := Aside0.mk (below_step HB.out hb); clear hb1 hb; refine Hid.out ?_))
  refine Lib.hid ?_
  have u1 := (show v3.cell? ⟨gp, 1, none⟩ = some (.int .i64 P.count) from (blk_cell GP.out 1).trans rfl)
  have s0 := (show v3.cell? ⟨gs, 0, none⟩ = some (.int .i64 s.day) from (blk_cell GS.out 0).trans rfl)
  go_wp2_with (first
    | (go_at_call 56; (with_reducible refine (TA.out _).mono ?_); rintro e v4 ⟨rfl, hb⟩; have GP := Aside0.mk (Pd.blk_below GP.out hb); have GS := Aside0.mk (Pd.blk_below GS.out hb); have GR := Aside0.mk (Pd.blk_below GR.out hb); have HB := Aside0.mk (below_step HB.out hb); clear hb u1 s0)
    | (go_at_call 35; (with_reducible refine (MY.out _).mono ?_); rintro e w' ⟨rfl, rfl⟩)
    | ((with_reducible refine gate_dst (N := 31) rfl ?_); refine wpList_load_mid rfl 31 (.tmp 30) rfl gs 6 ?hx (mcs s.m D dc).toList _ (mny_range GS.out) Tryz.underlying31 rfl info_mny ?_; (case hx => first | rfl | (go_simp; done) | (go_simp; rfl)))
    | ((with_reducible refine gate_dst (N := 9) rfl ?_); refine copy_event rfl (N := 9) rfl rfl rfl (t := 31) (v := .tmp 31) rfl (cs := mcs s.m D dc) (zs := mcs zeroM none 0) ?hr rfl rfl info_mny ?hz (by simp [Value.oneCell']) ?_; (case hr => first | (go_simp; done) | (go_simp; rfl)); (case hz => rfl); intro gm hg v5 hb1 hb; have gmge := (show w.heap.size ≤ gm by rw [hg]; exact HB.out.size); have gpm := (show gp ≠ gm by have := blk_lt GP.out; omega); have gsm := (show gs ≠ gm by have := blk_lt GS.out; omega); have grm := (show gr ≠ gm by have := blk_lt GR.out; omega); clear hg; have GM := Aside0.mk hb1; have GP := Aside0.mk (Pd.blk_below GP.out hb); have GS := Aside0.mk (Pd.blk_below GS.out hb); have GR := Aside0.mk (Pd.blk_below GR.out hb); have HB := Aside0.mk (below_step HB.out hb); clear hb1 hb; have s8 := (show v5.cell? ⟨gs, 17, none⟩ = some (.int .i64 s.residue) from (blk_cell GS.out 17).trans rfl); have s5 := (show v5.cell? ⟨gs, 5, none⟩ = some (.int .i64 s.rate) from (blk_cell GS.out 5).trans rfl); have m0 := (show v5.cell? ⟨gm, 0, none⟩ = some (.int .i64 s.m.p) from (blk_cell GM.out 0).trans rfl))
    | ((with_reducible refine gate_dst (N := 33) rfl ?_); refine wpList_load_row rfl 27 (.tmp 3) rfl gp rfl 27 _ (0, 0) _ GP.out Tryz.underlying27 rfl info_prod ?_)
    | (go_at_call 57; (with_reducible refine (B1.out _).mono ?_); rintro e v6 ⟨rfl, hb⟩; have GP := Aside0.mk (Pd.blk_below GP.out hb); have GS := Aside0.mk (Pd.blk_below GS.out hb); have GR := Aside0.mk (Pd.blk_below GR.out hb); have HB := Aside0.mk (below_step HB.out hb); have GM := Aside0.mk (Pd.blk_below GM.out hb); clear hb s8 s5 m0))
  refine wp_region_held_drew (S := fun W => W.heap[gp]? = some (.cells (pcs P A1 c1 A2 c2 A3 c3) 27 (0, 0)) ∧ W.heap[gs]? = some (.cells (scs s L lc D dc) 33 (0, 0)) ∧ W.heap[gm]? = some (.cells (mcs s.m D dc) 31 (0, 0))) (by kernel_rfl) ⟨GP.out, GS.out, GM.out⟩ (fun hHeld => ?_)
  refine wpAnyH_take (i := 0) (v := _) rfl (by kernel_rfl) (by kernel_rfl) (by kernel_rfl) (fun _ _ _ h => h) (yieldsIf_load_mid (by rfl) 27 _ rfl gp 0 rfl (pcs P A1 c1 A2 c2 A3 c3).toList _ (fun W hSw => blk_rangeN hSw.1) Tryz.underlying27 rfl info_prod) (by assumption) ?_
  (try simp only [Act.put, List.setIfInBounds_toArray, List.set_cons_zero, List.set_cons_succ])
  refine wpAnyH_take (i := 1) (v := ?_) rfl (by kernel_rfl) (by kernel_rfl) (by kernel_rfl) (fun _ _ _ h => h) (Or.inl ⟨by kernel_rfl, ?_⟩) (by assumption) ?_
  rotate_left
  · intro W hSw; (try dsimp only at hSw); clear hSw; go_simp; first | done | with_reducible rfl
  (try simp only [Act.put, List.setIfInBounds_toArray, List.set_cons_zero, List.set_cons_succ])
  refine wpAnyH_take (i := 2) (v := ?_) rfl (by kernel_rfl) (by kernel_rfl) (by kernel_rfl) (fun _ _ _ h => h) (Or.inl ⟨by kernel_rfl, ?_⟩) (by assumption) ?_
  rotate_left
  · intro W hSw; (try dsimp only at hSw); have c18 := (show W.cell? ⟨gs, 18, none⟩ = some (.int .i64 s.fine) from (blk_cell hSw.2.1 18).trans rfl); clear hSw; go_simp; first | done | with_reducible rfl
  (try simp only [Act.put, List.setIfInBounds_toArray, List.set_cons_zero, List.set_cons_succ])
  refine wpAnyH_take (i := 3) (v := _) rfl (by kernel_rfl) (by kernel_rfl) (by kernel_rfl) (fun _ _ _ h => h) (yieldsIf_load_mid (by rfl) 31 _ rfl gm 0 rfl (mcs s.m D dc).toList _ (fun W hSw => blk_rangeN hSw.2.2) Tryz.underlying31 rfl info_mny) (by assumption) ?_
  (try simp only [Act.put, List.setIfInBounds_toArray, List.set_cons_zero, List.set_cons_succ])
  refine wpAnyH_take (i := 5) (v := ?_) rfl (by kernel_rfl) (by kernel_rfl) (by kernel_rfl) (fun _ _ _ h => h) (Or.inl ⟨by kernel_rfl, ?_⟩) (by assumption) ?_
  rotate_left
  · intro W hSw; (try dsimp only at hSw); clear hSw; go_simp; first | done | with_reducible rfl
  (try simp only [Act.put, List.setIfInBounds_toArray, List.set_cons_zero, List.set_cons_succ])
  refine wpAnyH_take (i := 6) (v := ?_) rfl (by kernel_rfl) (by kernel_rfl) (by kernel_rfl) (fun _ _ _ h => h) (Or.inl ⟨by kernel_rfl, ?_⟩) (by assumption) ?_
  rotate_left
  · intro W hSw; (try dsimp only at hSw); have c9 := (show W.cell? ⟨gp, 9, none⟩ = some (.int .i64 P.penalty) from (blk_cell hSw.1 9).trans rfl); clear hSw; go_simp; first | done | with_reducible rfl
  (try simp only [Act.put, List.setIfInBounds_toArray, List.set_cons_zero, List.set_cons_succ])
  refine wpAnyH_take (i := 7) (v := ?_) rfl (by kernel_rfl) (by kernel_rfl) (by kernel_rfl) (fun _ _ _ h => h) (Or.inl ⟨by kernel_rfl, ?_⟩) (by assumption) ?_
  rotate_left
  · intro W hSw; (try dsimp only at hSw); clear hSw; go_simp; first | done | with_reducible rfl
  (try simp only [Act.put, List.setIfInBounds_toArray, List.set_cons_zero, List.set_cons_succ])
  refine wpAnyH_ready (rs := [4]) (by kernel_rfl) (by simp) ?_
  refine AllReadyH.cons rfl (fun K hK => ?_) AllReadyH.nil
  go_simp
  go_at_call 58
  refine (OW.out _ (Below.drew HB.out)).mono ?_
  rintro e v7 ⟨rfl, hb⟩
  have GP := Aside0.mk (Pd.blk_below (by exact GP.out) hb)
  have GS := Aside0.mk (Pd.blk_below (by exact GS.out) hb)
  have GR := Aside0.mk (Pd.blk_below (by exact GR.out) hb)
  have GM := Aside0.mk (Pd.blk_below (by exact GM.out) hb)
  have HB := Aside0.mk (below_step (Below.drew HB.out) hb)
  clear hb
  try go_wp2_with fail
  refine hK.out _ _ ⟨GP.out, GS.out, GM.out⟩ (fun hHeld => ?_)
  clear hK K
  (try simp only [Act.put, List.setIfInBounds_toArray, List.set_cons_zero, List.set_cons_succ])
  refine wpAnyH_ready (rs := [8]) (by kernel_rfl) (by simp) ?_
  refine AllReadyH.cons rfl (fun K hK => ?_) AllReadyH.nil
  go_simp
  go_at_call 57
  refine (B2.out _).mono ?_
  rintro e v8 ⟨rfl, hb⟩
  have GP := Aside0.mk (Pd.blk_below GP.out hb); have GS := Aside0.mk (Pd.blk_below GS.out hb); have GR := Aside0.mk (Pd.blk_below GR.out hb); have HB := Aside0.mk (below_step HB.out hb)
  have GM := Aside0.mk (Pd.blk_below GM.out hb)
  clear hb
  try go_wp2_with fail
  refine hK.out _ _ ⟨GP.out, GS.out, GM.out⟩ (fun hHeld => ?_)
  clear hK K
  (try simp only [Act.put, List.setIfInBounds_toArray, List.set_cons_zero, List.set_cons_succ])
  refine wpAnyH_take (i := 9) (v := ?_) rfl (by kernel_rfl) (by kernel_rfl) (by kernel_rfl) (fun _ _ _ h => h) (Or.inl ⟨by kernel_rfl, ?_⟩) (by assumption) ?_
  rotate_left
  · intro W hSw; (try dsimp only at hSw); clear hSw; go_simp; first | done | with_reducible rfl
  (try simp only [Act.put, List.setIfInBounds_toArray, List.set_cons_zero, List.set_cons_succ])
  refine wpAnyH_take (i := 10) (v := ?_) rfl (by kernel_rfl) (by kernel_rfl) (by kernel_rfl) (fun _ _ _ h => h) (Or.inl ⟨by kernel_rfl, ?_⟩) (by assumption) ?_
  rotate_left
  · intro W hSw; (try dsimp only at hSw); clear hSw; go_simp; first | done | with_reducible rfl
  (try simp only [Act.put, List.setIfInBounds_toArray, List.set_cons_zero, List.set_cons_succ])
  refine wpAnyH_take (i := 11) (v := ?_) rfl (by kernel_rfl) (by kernel_rfl) (by kernel_rfl) (fun _ _ _ h => h) (Or.inl ⟨by kernel_rfl, ?_⟩) (by assumption) ?_
  rotate_left
  · intro W hSw; (try dsimp only at hSw); clear hSw; go_simp; first | done | with_reducible rfl
  (try simp only [Act.put, List.setIfInBounds_toArray, List.set_cons_zero, List.set_cons_succ])
  refine wpAnyH_ready (rs := [12]) (by kernel_rfl) (by simp) ?_
  refine AllReadyH.cons rfl (fun K hK => ?_) AllReadyH.nil
  go_simp
  refine hK.out _ _ ⟨GP.out, GS.out, GM.out⟩ (fun hHeld => ?_)
  clear hK K
  (try simp only [Act.put, List.setIfInBounds_toArray, List.set_cons_zero, List.set_cons_succ])
  refine wpAnyH_ready (rs := [13]) (by kernel_rfl) (by simp) ?_
  refine AllReadyH.cons rfl (fun K hK => ?_) AllReadyH.nil
  go_simp
  refine hK.out _ _ ⟨GP.out, GS.out, GM.out⟩ (fun hHeld => ?_)
  clear hK K
  (try simp only [Act.put, List.setIfInBounds_toArray, List.set_cons_zero, List.set_cons_succ])
  refine wpAnyH_done (by kernel_rfl) ?_ _
  clear hHeld
  have q1 := (show v8.cell? ⟨gm, 1, none⟩ = some (.int .i64 s.m.acc) from (blk_cell GM.out 1).trans rfl)
  have q7 := (show v8.cell? ⟨gm, 7, none⟩ = some (.int .i64 s.m.earned) from (blk_cell GM.out 7).trans rfl)
  have q3 := (show v8.cell? ⟨gm, 3, none⟩ = some (.int .i64 s.m.pen) from (blk_cell GM.out 3).trans rfl)
  have q8 := (show v8.cell? ⟨gm, 8, none⟩ = some (.int .i64 s.m.fined) from (blk_cell GM.out 8).trans rfl)
  have f1 := frozen_of_row v8 gm 1 _ _ GM.out
  have f7 := frozen_of_row v8 gm 7 _ _ GM.out
  have f3 := frozen_of_row v8 gm 3 _ _ GM.out
  have f8 := frozen_of_row v8 gm 8 _ _ GM.out
  go_upto_region 10 with (fail)
  obtain ⟨v9, hv9⟩ : ∃ x, (((v8.setCell ⟨gm, 1, none⟩ (.int .i64 (s.m.acc + v))).setCell ⟨gm, 7, none⟩ (.int .i64 (s.m.earned + v))).setCell ⟨gm, 3, none⟩ (.int .i64 (s.m.pen + v2))).setCell ⟨gm, 8, none⟩ (.int .i64 (s.m.fined + v2)) = x := ⟨_, rfl⟩
  have GM := Aside0.mk (show v9.heap[gm]? = some (.cells (mcs (mN s.m v v2) D dc) 31 (0, 0)) by rw [← hv9]; exact blk_set (blk_set (blk_set (blk_set GM.out 1 _) 7 _) 3 _) 8 _)
  have GP := Aside0.mk (show v9.heap[gp]? = some (.cells (pcs P A1 c1 A2 c2 A3 c3) 27 (0, 0)) by rw [← hv9]; exact blk_far (blk_far (blk_far (blk_far GP.out gpm _) gpm _) gpm _) gpm _)
  have GS := Aside0.mk (show v9.heap[gs]? = some (.cells (scs s L lc D dc) 33 (0, 0)) by rw [← hv9]; exact blk_far (blk_far (blk_far (blk_far GS.out gsm _) gsm _) gsm _) gsm _)
  have GR := Aside0.mk (show v9.heap[gr]? = some (.cells (scs zeroS none 0 none 0) 33 (0, 0)) by rw [← hv9]; exact blk_far (blk_far (blk_far (blk_far GR.out grm _) grm _) grm _) grm _)
  have HB := Aside0.mk (show Below w.heap.size w v9 by rw [← hv9]; exact Below.setCell (Below.setCell (Below.setCell (Below.setCell HB.out gmge _) gmge _) gmge _) gmge _)
  rw [hv9]
  clear hv9 q1 q7 q3 q8 f1 f7 f3 f8
  go_wp2_with (first
    | ((with_reducible refine gate_dst (N := 76) rfl ?_); refine wpList_load_row rfl 31 (.tmp 9) rfl gm rfl 31 _ (0, 0) _ GM.out Tryz.underlying31 rfl info_mny ?_)
    | (go_at_call 55; (with_reducible refine (RI.out _ HB.out).mono ?_); rintro e v10 ⟨rfl, hb⟩; have GP := Aside0.mk (Pd.blk_below GP.out hb); have GS := Aside0.mk (Pd.blk_below GS.out hb); have GR := Aside0.mk (Pd.blk_below GR.out hb); have HB := Aside0.mk (below_step HB.out hb); have GM := Aside0.mk (Pd.blk_below GM.out hb); clear hb)
    | (go_at_call 35; (with_reducible refine (MN3.out _).mono ?_); rintro e w' ⟨rfl, rfl⟩))
  exact ⟨rfl, rfl, HB.out⟩
set_option maxRecDepth 100000 in
set_option maxHeartbeats 8000000 in
theorem nights_right (P : Pm.Prod) (A1 : Option Addr) (c1 : Nat) (A2 : Option Addr) (c2 : Nat) (A3 : Option Addr) (c3 : Nat) (s : St) (L : Option Addr) (lc : Nat) (D : Option Addr) (dc : Nat) (n : Int) (w : World) (hc : P.count = 1 ∨ P.count = 2 ∨ P.count = 3) (hr : P.round = 1 ∨ P.round = 3) (h1 : -(Gm.half P.count P.round) ≤ s.residue ∧ s.residue < Gm.whole P.count - Gm.half P.count P.round) (h2 : -(Gm.half P.count P.round) ≤ s.fine ∧ s.fine < Gm.whole P.count - Gm.half P.count P.round) (hd : isDay s.day) (hd2 : isDay (s.day + n)) (hm : MAt w s.m D) (v r2 v2 r4 : Int) (hz : Gm.bear (Gm.whole P.count) (Gm.half P.count P.round) s.residue s.m.p s.rate (place P.count (s.day + n) - place P.count s.day) = (v, 0, r2)) (hz2 : Gm.bear (Gm.whole P.count) (Gm.half P.count P.round) s.fine (owedP s.m) P.penalty (place P.count (s.day + n) - place P.count s.day) = (v2, 0, r4)) (hw : IntKind.i64.wrap (s.m.acc + v) = s.m.acc + v ∧ IntKind.i64.wrap (s.m.earned + v) = s.m.earned + v ∧ IntKind.i64.wrap (s.m.pen + v2) = s.m.pen + v2 ∧ IntKind.i64.wrap (s.m.fined + v2) = s.m.fined + v2) (hR : (readM (mN s.m v v2)).isSome = true) :
    Calls Tryz.prog 37 #[pv P A1 c1 A2 c2 A3 c3, sv s L lc D dc, .int .i64 n] w fun e w' => e = .returned (sv (sN s n v v2 r2 r4) L lc D dc) ∧ Below w.heap.size w w' := by
  have TA := Aside0.mk (fun W => between_any P.count s.day (s.day + n) _ 0 (between_ok hc hd hd2) W)
  have MY := Aside0.mk (fun W => nmust_yes 0 W)
  have OW := Aside0.mk (fun (W : World) (hb : Below w.heap.size w W) => owed_any s.m D dc W (hm.below hb))
  have B1 := Aside0.mk (fun W => nbear_yes P A1 c1 A2 c2 A3 c3 s.residue s.m.p s.rate (place P.count (s.day + n) - place P.count s.day) v r2 W hc hr h1 hz)
  have B2 := Aside0.mk (fun W => nbear_yes P A1 c1 A2 c2 A3 c3 s.fine (owedP s.m) P.penalty (place P.count (s.day + n) - place P.count s.day) v2 r4 W hc hr h2 hz2)
  have RI := Aside0.mk (fun (W : World) (hb : Below w.heap.size w W) => by have h := right_any (mN s.m v v2) D dc W ⟨(hm.below hb).rows, hm.len⟩; rw [hR] at h; exact h)
  have MY3 := Aside0.mk (fun W => nmust_yes 3 W)
  have sw : IntKind.i64.wrap (s.day + n) = s.day + n := IntWalk.i64_in _ (by have a := hd2.1; have b := hd2.2; omega)
  obtain ⟨pn, hpn⟩ : ∃ x, (place P.count (s.day + n) - place P.count s.day) = x := ⟨_, rfl⟩
  obtain ⟨ow, how⟩ : ∃ x, owedP s.m = x := ⟨_, rfl⟩
  rw [how] at OW
  rw [hpn] at TA B1
  rw [hpn, how] at B2
  obtain ⟨k1, k2, k3, k4⟩ := hw
  clear hc hr h1 h2 hd hd2 hm hz hz2 hpn how hR
  go_enter Tryz.func37, Tryz.ntmps37
  go_wp2_with (first
    | ((with_reducible refine gate_dst (N := 3) rfl ?_); refine box_event ?hg (N := 3) ?hd (cs := pcs P A1 c1 A2 c2 A3 c3) (t := 27) ?hr ?_; (case hd => rfl); (case hg => rfl); (case hr => first | (go_simp; done) | (go_simp; rfl)); intro gp hg y1_ hb1 hb; clear hg; have GP := Aside0.mk hb1; have HB := Aside0.mk hb; clear hb1 hb)
    | ((with_reducible refine gate_dst (N := 4) rfl ?_); refine box_event ?hg (N := 4) ?hd (cs := scs s L lc D dc) (t := 33) ?hr ?_; (case hd => rfl); (case hg => rfl); (case hr => first | (go_simp; done) | (go_simp; rfl)); intro gs hg y2_ hb1 hb; have gsge := (show w.heap.size ≤ gs by rw [hg]; exact HB.out.size); have gps := (show gp ≠ gs by have := blk_lt GP.out; omega); clear hg; have GS := Aside0.mk hb1; have GP := Aside0.mk (Pd.blk_below GP.out hb); have HB := Aside0.mk (below_step HB.out hb); clear hb1 hb)
    | ((with_reducible refine gate_dst (N := 6) rfl ?_); refine box_event rfl (N := 6) rfl (cs := scs zeroS none 0 none 0) (t := 33) ?hr ?_; (case hr => first | (go_simp; done) | (go_simp; rfl)); intro gr hg v3 hb1 hb; have grge := (show w.heap.size ≤ gr by rw [hg]; exact HB.out.size); have gpr := (show gp ≠ gr by have := blk_lt GP.out; omega); have gsr := (show gs ≠ gr by have := blk_lt GS.out; omega); clear hg; have GR := Aside0.mk hb1; have GP := Aside0.mk (Pd.blk_below GP.out hb); have GS := Aside0.mk (Pd.blk_below GS.out hb); have HB := Aside0.mk (below_step HB.out hb); clear hb1 hb; refine Hid.out ?_))
  refine Lib.hid ?_
  have u1 := (show v3.cell? ⟨gp, 1, none⟩ = some (.int .i64 P.count) from (blk_cell GP.out 1).trans rfl)
  have s0 := (show v3.cell? ⟨gs, 0, none⟩ = some (.int .i64 s.day) from (blk_cell GS.out 0).trans rfl)
  go_wp2_with (first
    | (go_at_call 56; (with_reducible refine (TA.out _).mono ?_); rintro e v4 ⟨rfl, hb⟩; have GP := Aside0.mk (Pd.blk_below GP.out hb); have GS := Aside0.mk (Pd.blk_below GS.out hb); have GR := Aside0.mk (Pd.blk_below GR.out hb); have HB := Aside0.mk (below_step HB.out hb); clear hb u1 s0)
    | (go_at_call 35; (with_reducible refine (MY.out _).mono ?_); rintro e w' ⟨rfl, rfl⟩)
    | ((with_reducible refine gate_dst (N := 31) rfl ?_); refine wpList_load_mid rfl 31 (.tmp 30) rfl gs 6 ?hx (mcs s.m D dc).toList _ (mny_range GS.out) Tryz.underlying31 rfl info_mny ?_; (case hx => first | rfl | (go_simp; done) | (go_simp; rfl)))
    | ((with_reducible refine gate_dst (N := 9) rfl ?_); refine copy_event rfl (N := 9) rfl rfl rfl (t := 31) (v := .tmp 31) rfl (cs := mcs s.m D dc) (zs := mcs zeroM none 0) ?hr rfl rfl info_mny ?hz (by simp [Value.oneCell']) ?_; (case hr => first | (go_simp; done) | (go_simp; rfl)); (case hz => rfl); intro gm hg v5 hb1 hb; have gmge := (show w.heap.size ≤ gm by rw [hg]; exact HB.out.size); have gpm := (show gp ≠ gm by have := blk_lt GP.out; omega); have gsm := (show gs ≠ gm by have := blk_lt GS.out; omega); have grm := (show gr ≠ gm by have := blk_lt GR.out; omega); clear hg; have GM := Aside0.mk hb1; have GP := Aside0.mk (Pd.blk_below GP.out hb); have GS := Aside0.mk (Pd.blk_below GS.out hb); have GR := Aside0.mk (Pd.blk_below GR.out hb); have HB := Aside0.mk (below_step HB.out hb); clear hb1 hb; have s8 := (show v5.cell? ⟨gs, 17, none⟩ = some (.int .i64 s.residue) from (blk_cell GS.out 17).trans rfl); have s5 := (show v5.cell? ⟨gs, 5, none⟩ = some (.int .i64 s.rate) from (blk_cell GS.out 5).trans rfl); have m0 := (show v5.cell? ⟨gm, 0, none⟩ = some (.int .i64 s.m.p) from (blk_cell GM.out 0).trans rfl))
    | ((with_reducible refine gate_dst (N := 33) rfl ?_); refine wpList_load_row rfl 27 (.tmp 3) rfl gp rfl 27 _ (0, 0) _ GP.out Tryz.underlying27 rfl info_prod ?_)
    | (go_at_call 57; (with_reducible refine (B1.out _).mono ?_); rintro e v6 ⟨rfl, hb⟩; have GP := Aside0.mk (Pd.blk_below GP.out hb); have GS := Aside0.mk (Pd.blk_below GS.out hb); have GR := Aside0.mk (Pd.blk_below GR.out hb); have HB := Aside0.mk (below_step HB.out hb); have GM := Aside0.mk (Pd.blk_below GM.out hb); clear hb s8 s5 m0))
  refine wp_region_held_drew (S := fun W => W.heap[gp]? = some (.cells (pcs P A1 c1 A2 c2 A3 c3) 27 (0, 0)) ∧ W.heap[gs]? = some (.cells (scs s L lc D dc) 33 (0, 0)) ∧ W.heap[gm]? = some (.cells (mcs s.m D dc) 31 (0, 0))) (by kernel_rfl) ⟨GP.out, GS.out, GM.out⟩ (fun hHeld => ?_)
  refine wpAnyH_take (i := 0) (v := _) rfl (by kernel_rfl) (by kernel_rfl) (by kernel_rfl) (fun _ _ _ h => h) (yieldsIf_load_mid (by rfl) 27 _ rfl gp 0 rfl (pcs P A1 c1 A2 c2 A3 c3).toList _ (fun W hSw => blk_rangeN hSw.1) Tryz.underlying27 rfl info_prod) (by assumption) ?_
  (try simp only [Act.put, List.setIfInBounds_toArray, List.set_cons_zero, List.set_cons_succ])
  refine wpAnyH_take (i := 1) (v := ?_) rfl (by kernel_rfl) (by kernel_rfl) (by kernel_rfl) (fun _ _ _ h => h) (Or.inl ⟨by kernel_rfl, ?_⟩) (by assumption) ?_
  rotate_left
  · intro W hSw; (try dsimp only at hSw); clear hSw; go_simp; first | done | with_reducible rfl
  (try simp only [Act.put, List.setIfInBounds_toArray, List.set_cons_zero, List.set_cons_succ])
  refine wpAnyH_take (i := 2) (v := ?_) rfl (by kernel_rfl) (by kernel_rfl) (by kernel_rfl) (fun _ _ _ h => h) (Or.inl ⟨by kernel_rfl, ?_⟩) (by assumption) ?_
  rotate_left
  · intro W hSw; (try dsimp only at hSw); have c18 := (show W.cell? ⟨gs, 18, none⟩ = some (.int .i64 s.fine) from (blk_cell hSw.2.1 18).trans rfl); clear hSw; go_simp; first | done | with_reducible rfl
  (try simp only [Act.put, List.setIfInBounds_toArray, List.set_cons_zero, List.set_cons_succ])
  refine wpAnyH_take (i := 3) (v := _) rfl (by kernel_rfl) (by kernel_rfl) (by kernel_rfl) (fun _ _ _ h => h) (yieldsIf_load_mid (by rfl) 31 _ rfl gm 0 rfl (mcs s.m D dc).toList _ (fun W hSw => blk_rangeN hSw.2.2) Tryz.underlying31 rfl info_mny) (by assumption) ?_
  (try simp only [Act.put, List.setIfInBounds_toArray, List.set_cons_zero, List.set_cons_succ])
  refine wpAnyH_take (i := 5) (v := ?_) rfl (by kernel_rfl) (by kernel_rfl) (by kernel_rfl) (fun _ _ _ h => h) (Or.inl ⟨by kernel_rfl, ?_⟩) (by assumption) ?_
  rotate_left
  · intro W hSw; (try dsimp only at hSw); clear hSw; go_simp; first | done | with_reducible rfl
  (try simp only [Act.put, List.setIfInBounds_toArray, List.set_cons_zero, List.set_cons_succ])
  refine wpAnyH_take (i := 6) (v := ?_) rfl (by kernel_rfl) (by kernel_rfl) (by kernel_rfl) (fun _ _ _ h => h) (Or.inl ⟨by kernel_rfl, ?_⟩) (by assumption) ?_
  rotate_left
  · intro W hSw; (try dsimp only at hSw); have c9 := (show W.cell? ⟨gp, 9, none⟩ = some (.int .i64 P.penalty) from (blk_cell hSw.1 9).trans rfl); clear hSw; go_simp; first | done | with_reducible rfl
  (try simp only [Act.put, List.setIfInBounds_toArray, List.set_cons_zero, List.set_cons_succ])
  refine wpAnyH_take (i := 7) (v := ?_) rfl (by kernel_rfl) (by kernel_rfl) (by kernel_rfl) (fun _ _ _ h => h) (Or.inl ⟨by kernel_rfl, ?_⟩) (by assumption) ?_
  rotate_left
  · intro W hSw; (try dsimp only at hSw); clear hSw; go_simp; first | done | with_reducible rfl
  (try simp only [Act.put, List.setIfInBounds_toArray, List.set_cons_zero, List.set_cons_succ])
  refine wpAnyH_ready (rs := [4]) (by kernel_rfl) (by simp) ?_
  refine AllReadyH.cons rfl (fun K hK => ?_) AllReadyH.nil
  go_simp
  go_at_call 58
  refine (OW.out _ (Below.drew HB.out)).mono ?_
  rintro e v7 ⟨rfl, hb⟩
  have GP := Aside0.mk (Pd.blk_below (by exact GP.out) hb)
  have GS := Aside0.mk (Pd.blk_below (by exact GS.out) hb)
  have GR := Aside0.mk (Pd.blk_below (by exact GR.out) hb)
  have GM := Aside0.mk (Pd.blk_below (by exact GM.out) hb)
  have HB := Aside0.mk (below_step (Below.drew HB.out) hb)
  clear hb
  try go_wp2_with fail
  refine hK.out _ _ ⟨GP.out, GS.out, GM.out⟩ (fun hHeld => ?_)
  clear hK K
  (try simp only [Act.put, List.setIfInBounds_toArray, List.set_cons_zero, List.set_cons_succ])
  refine wpAnyH_ready (rs := [8]) (by kernel_rfl) (by simp) ?_
  refine AllReadyH.cons rfl (fun K hK => ?_) AllReadyH.nil
  go_simp
  go_at_call 57
  refine (B2.out _).mono ?_
  rintro e v8 ⟨rfl, hb⟩
  have GP := Aside0.mk (Pd.blk_below GP.out hb); have GS := Aside0.mk (Pd.blk_below GS.out hb); have GR := Aside0.mk (Pd.blk_below GR.out hb); have HB := Aside0.mk (below_step HB.out hb)
  have GM := Aside0.mk (Pd.blk_below GM.out hb)
  clear hb
  try go_wp2_with fail
  refine hK.out _ _ ⟨GP.out, GS.out, GM.out⟩ (fun hHeld => ?_)
  clear hK K
  (try simp only [Act.put, List.setIfInBounds_toArray, List.set_cons_zero, List.set_cons_succ])
  refine wpAnyH_take (i := 9) (v := ?_) rfl (by kernel_rfl) (by kernel_rfl) (by kernel_rfl) (fun _ _ _ h => h) (Or.inl ⟨by kernel_rfl, ?_⟩) (by assumption) ?_
  rotate_left
  · intro W hSw; (try dsimp only at hSw); clear hSw; go_simp; first | done | with_reducible rfl
  (try simp only [Act.put, List.setIfInBounds_toArray, List.set_cons_zero, List.set_cons_succ])
  refine wpAnyH_take (i := 10) (v := ?_) rfl (by kernel_rfl) (by kernel_rfl) (by kernel_rfl) (fun _ _ _ h => h) (Or.inl ⟨by kernel_rfl, ?_⟩) (by assumption) ?_
  rotate_left
  · intro W hSw; (try dsimp only at hSw); clear hSw; go_simp; first | done | with_reducible rfl
  (try simp only [Act.put, List.setIfInBounds_toArray, List.set_cons_zero, List.set_cons_succ])
  refine wpAnyH_take (i := 11) (v := ?_) rfl (by kernel_rfl) (by kernel_rfl) (by kernel_rfl) (fun _ _ _ h => h) (Or.inl ⟨by kernel_rfl, ?_⟩) (by assumption) ?_
  rotate_left
  · intro W hSw; (try dsimp only at hSw); clear hSw; go_simp; first | done | with_reducible rfl
  (try simp only [Act.put, List.setIfInBounds_toArray, List.set_cons_zero, List.set_cons_succ])
  refine wpAnyH_ready (rs := [12]) (by kernel_rfl) (by simp) ?_
  refine AllReadyH.cons rfl (fun K hK => ?_) AllReadyH.nil
  go_simp
  refine hK.out _ _ ⟨GP.out, GS.out, GM.out⟩ (fun hHeld => ?_)
  clear hK K
  (try simp only [Act.put, List.setIfInBounds_toArray, List.set_cons_zero, List.set_cons_succ])
  refine wpAnyH_ready (rs := [13]) (by kernel_rfl) (by simp) ?_
  refine AllReadyH.cons rfl (fun K hK => ?_) AllReadyH.nil
  go_simp
  refine hK.out _ _ ⟨GP.out, GS.out, GM.out⟩ (fun hHeld => ?_)
  clear hK K
  (try simp only [Act.put, List.setIfInBounds_toArray, List.set_cons_zero, List.set_cons_succ])
  refine wpAnyH_done (by kernel_rfl) ?_ _
  clear hHeld
  have q1 := (show v8.cell? ⟨gm, 1, none⟩ = some (.int .i64 s.m.acc) from (blk_cell GM.out 1).trans rfl)
  have q7 := (show v8.cell? ⟨gm, 7, none⟩ = some (.int .i64 s.m.earned) from (blk_cell GM.out 7).trans rfl)
  have q3 := (show v8.cell? ⟨gm, 3, none⟩ = some (.int .i64 s.m.pen) from (blk_cell GM.out 3).trans rfl)
  have q8 := (show v8.cell? ⟨gm, 8, none⟩ = some (.int .i64 s.m.fined) from (blk_cell GM.out 8).trans rfl)
  have f1 := frozen_of_row v8 gm 1 _ _ GM.out
  have f7 := frozen_of_row v8 gm 7 _ _ GM.out
  have f3 := frozen_of_row v8 gm 3 _ _ GM.out
  have f8 := frozen_of_row v8 gm 8 _ _ GM.out
  go_upto_region 10 with (fail)
  obtain ⟨v9, hv9⟩ : ∃ x, (((v8.setCell ⟨gm, 1, none⟩ (.int .i64 (s.m.acc + v))).setCell ⟨gm, 7, none⟩ (.int .i64 (s.m.earned + v))).setCell ⟨gm, 3, none⟩ (.int .i64 (s.m.pen + v2))).setCell ⟨gm, 8, none⟩ (.int .i64 (s.m.fined + v2)) = x := ⟨_, rfl⟩
  have GM := Aside0.mk (show v9.heap[gm]? = some (.cells (mcs (mN s.m v v2) D dc) 31 (0, 0)) by rw [← hv9]; exact blk_set (blk_set (blk_set (blk_set GM.out 1 _) 7 _) 3 _) 8 _)
  have GP := Aside0.mk (show v9.heap[gp]? = some (.cells (pcs P A1 c1 A2 c2 A3 c3) 27 (0, 0)) by rw [← hv9]; exact blk_far (blk_far (blk_far (blk_far GP.out gpm _) gpm _) gpm _) gpm _)
  have GS := Aside0.mk (show v9.heap[gs]? = some (.cells (scs s L lc D dc) 33 (0, 0)) by rw [← hv9]; exact blk_far (blk_far (blk_far (blk_far GS.out gsm _) gsm _) gsm _) gsm _)
  have GR := Aside0.mk (show v9.heap[gr]? = some (.cells (scs zeroS none 0 none 0) 33 (0, 0)) by rw [← hv9]; exact blk_far (blk_far (blk_far (blk_far GR.out grm _) grm _) grm _) grm _)
  have HB := Aside0.mk (show Below w.heap.size w v9 by rw [← hv9]; exact Below.setCell (Below.setCell (Below.setCell (Below.setCell HB.out gmge _) gmge _) gmge _) gmge _)
  rw [hv9]
  clear hv9 q1 q7 q3 q8 f1 f7 f3 f8
  go_upto_region 13 with (first
    | ((with_reducible refine gate_dst (N := 76) rfl ?_); refine wpList_load_row rfl 31 (.tmp 9) rfl gm rfl 31 _ (0, 0) _ GM.out Tryz.underlying31 rfl info_mny ?_)
    | (go_at_call 55; (with_reducible refine (RI.out _ HB.out).mono ?_); rintro e v10 ⟨rfl, hb⟩; have GP := Aside0.mk (Pd.blk_below GP.out hb); have GS := Aside0.mk (Pd.blk_below GS.out hb); have GR := Aside0.mk (Pd.blk_below GR.out hb); have HB := Aside0.mk (below_step HB.out hb); have GM := Aside0.mk (Pd.blk_below GM.out hb); clear hb)
    | (go_at_call 35; (with_reducible refine (MY3.out _).mono ?_); rintro e w' ⟨rfl, rfl⟩)
    | ((with_reducible refine gate_dst (N := 79) rfl ?_); refine wpList_load_row rfl 31 (.tmp 9) rfl gm rfl 31 _ (0, 0) _ GM.out Tryz.underlying31 rfl info_mny ?_)
    | ((with_reducible refine gate_store (t := 31) (p := 82) rfl ?_); refine mid_event rfl rfl rfl (g := gs) (o := 6) (cs := scs s L lc D dc) (cs' := scs (sN1 s v v2) L lc D dc) (vs := mcs (mN s.m v v2) D dc) (t := 33) ?hx ?hy GS.out info_mny ?h1 ?ht ?hc ?_; (case hx => first | rfl | (go_simp; done) | (go_simp; rfl)); (case hy => first | rfl | (go_simp; done) | (go_simp; rfl)); (case h1 => simp [Value.oneCell']); (case ht => exact thereN GS.out 6 10 (by show 16 ≤ 19; decide)); (case hc => exact put_mny s (mN s.m v v2) L lc D dc); intro v11 hb8 hbut; have GS := Aside0.mk hb8; have GR := Aside0.mk ((hbut.block gr (blk_lt GR.out) (Ne.symm gsr)).trans GR.out); have HB := Aside0.mk (But.below HB.out HB.out.size gsge hbut); clear hb8 hbut; have c17 := (show v11.cell? ⟨gs, 17, none⟩ = some (.int .i64 s.residue) from (blk_cell GS.out 17).trans rfl); have c18 := (show v11.cell? ⟨gs, 18, none⟩ = some (.int .i64 s.fine) from (blk_cell GS.out 18).trans rfl); have c0 := (show v11.cell? ⟨gs, 0, none⟩ = some (.int .i64 s.day) from (blk_cell GS.out 0).trans rfl); have f17 := frozen_of_row v11 gs 17 _ _ GS.out; have f18 := frozen_of_row v11 gs 18 _ _ GS.out; have f0 := frozen_of_row v11 gs 0 _ _ GS.out))
  obtain ⟨v12, hv12⟩ : ∃ x, ((v11.setCell ⟨gs, 17, none⟩ (.int .i64 r2)).setCell ⟨gs, 18, none⟩ (.int .i64 r4)).setCell ⟨gs, 0, none⟩ (.int .i64 (s.day + n)) = x := ⟨_, rfl⟩
  have GS := Aside0.mk (show v12.heap[gs]? = some (.cells (scs (sN s n v v2 r2 r4) L lc D dc) 33 (0, 0)) by rw [← hv12, ← set_sN]; exact blk_set (blk_set (blk_set GS.out 17 _) 18 _) 0 _)
  have GR := Aside0.mk (show v12.heap[gr]? = some (.cells (scs zeroS none 0 none 0) 33 (0, 0)) by rw [← hv12]; exact blk_far (blk_far (blk_far GR.out (Ne.symm gsr) _) (Ne.symm gsr) _) (Ne.symm gsr) _)
  have HB := Aside0.mk (show Below w.heap.size w v12 by rw [← hv12]; exact Below.setCell (Below.setCell (Below.setCell HB.out gsge _) gsge _) gsge _)
  rw [hv12]
  clear hv12 c17 c18 c0 f17 f18 f0
  go_wp2_with (first
    | ((with_reducible refine gate_dst (N := 90) rfl ?_); refine wpList_load_row rfl 33 (.tmp 4) rfl gs rfl 33 _ (0, 0) _ GS.out Tryz.underlying33 rfl info_state ?_)
    | ((with_reducible refine gate_store (t := 33) (p := 6) rfl ?_); refine row_event rfl (t := 33) (p := 6) (v := .tmp 90) rfl rfl (g := gr) (cs := scs (sN s n v v2 r2 r4) L lc D dc) (zs := scs zeroS none 0 none 0) rfl rfl GR.out info_state rfl (by simp [Value.oneCell']) ?_; intro v13 hb8 hbut; have GR := Aside0.mk hb8; have HB := Aside0.mk (But.below HB.out HB.out.size grge hbut); clear hb8 hbut))
  exact bodyPost_ret (v := sv (sN s n v v2 r2 r4) L lc D dc) (results_cell_row (g := gr) Tryz.results37 _ _ _ _ _ _ rfl GR.out Tryz.underlying33 rfl info_state) rfl ⟨rfl, HB.out⟩
end Go.Proofs.YtbbbjjfecblhpaaGreat.Nt
/- Contracts by hand: what a night looks at first. -/
namespace Go.Proofs.YtbbbjjfecblhpaaGreat.Nt
open Go.RowKit Go.Proofs.YtbbbjjfecblhpaaGreatW.PrintWords Go.Proofs.YtbbbjjfecblhpaaGreatW.PrintLast Go.Proofs.YtbbbjjfecblhpaaGreatW.PrintMore Go.Proofs.YtbbbjjfecblhpaaGreat.HW
open Go.Proofs.YtbbbjjfecblhpaaGreat.Math Go.Proofs.YtbbbjjfecblhpaaGreat.H Go.Proofs.YtbbbjjfecblhpaaGreat.Pd Go.Proofs.YtbbbjjfecblhpaaGreat.Du Go.Proofs.YtbbbjjfecblhpaaGreat.Lv Pm
set_option linter.unusedVariables false
set_option linter.unusedSimpArgs false
attribute [local go_sem] max2_int min2_int max_two min_two
set_option maxRecDepth 100000 in
set_option maxHeartbeats 8000000 in
theorem nmay_err (P : Pm.Prod) (A1 : Option Addr) (c1 : Nat) (A2 : Option Addr) (c2 : Nat) (A3 : Option Addr) (c3 : Nat) (s : St) (L : Option Addr) (lc : Nat) (D : Option Addr) (dc : Nat) (w : World) (hp : ProdAt w P A1 c1 A2 c2 A3 c3) (hs : Small P) (hgv : GV w) (he : err P ≠ 0) :
    Calls Tryz.prog 34 #[pv P A1 c1 A2 c2 A3 c3, sv s L lc D dc] w fun e w' => e = thrownE (err P) ∧ Below w.heap.size w w' := by
  have CK := Aside0.mk (fun (W : World) (hb : Below w.heap.size w W) => check_any P A1 c1 A2 c2 A3 c3 W (hgv.below hb) (hp.below hb) hs)
  obtain ⟨er, her⟩ : ∃ x, err P = x := ⟨_, rfl⟩
  rw [her] at CK he ⊢
  have hen : (er == 0) = false := by simpa using he
  have MA := Aside0.mk (fun W => nmust_no er W)
  clear hp hs hgv he her
  go_enter Tryz.func34, Tryz.ntmps34
  go_wp2_with (first
    | ((with_reducible refine gate_dst (N := 2) rfl ?_); refine box_event ?hg (N := 2) ?hd (cs := pcs P A1 c1 A2 c2 A3 c3) (t := 27) ?hr ?_; (case hd => rfl); (case hg => rfl); (case hr => first | (go_simp; done) | (go_simp; rfl)); intro gp hg y1_ hb1 hb; clear hg; have GP := Aside0.mk hb1; have HB := Aside0.mk hb; clear hb1 hb)
    | ((with_reducible refine gate_dst (N := 3) rfl ?_); refine box_event ?hg (N := 3) ?hd (cs := scs s L lc D dc) (t := 33) ?hr ?_; (case hd => rfl); (case hg => rfl); (case hr => first | (go_simp; done) | (go_simp; rfl)); intro gs hg y2_ hb1 hb; have gsge := (show w.heap.size ≤ gs by rw [hg]; exact HB.out.size); have gps := (show gp ≠ gs by have := blk_lt GP.out; omega); clear hg; have GS := Aside0.mk hb1; have GP := Aside0.mk (Pd.blk_below GP.out hb); have HB := Aside0.mk (below_step HB.out hb); clear hb1 hb; refine Hid.out ?_))
  refine Lib.hid ?_
  go_wp2_with (first
    | ((with_reducible refine gate_dst (N := 9) rfl ?_); refine wpList_load_row rfl 27 (.tmp 2) rfl gp rfl 27 _ (0, 0) _ GP.out Tryz.underlying27 rfl info_prod ?_)
    | (go_at_call 53; (with_reducible refine (CK.out _ HB.out).mono ?_); rintro e y3 ⟨rfl, hb⟩; have GP := Aside0.mk (Pd.blk_below GP.out hb); have GS := Aside0.mk (Pd.blk_below GS.out hb); have HB := Aside0.mk (below_step HB.out hb); clear hb; have u1 := (show y3.cell? ⟨gp, 1, none⟩ = some (.int .i64 P.count) from (blk_cell GP.out 1).trans rfl); have u2 := (show y3.cell? ⟨gp, 2, none⟩ = some (.int .i64 P.round) from (blk_cell GP.out 2).trans rfl); have s17 := (show y3.cell? ⟨gs, 17, none⟩ = some (.int .i64 s.residue) from (blk_cell GS.out 17).trans rfl); have s18 := (show y3.cell? ⟨gs, 18, none⟩ = some (.int .i64 s.fine) from (blk_cell GS.out 18).trans rfl); have s5 := (show y3.cell? ⟨gs, 5, none⟩ = some (.int .i64 s.rate) from (blk_cell GS.out 5).trans rfl); have s0 := (show y3.cell? ⟨gs, 0, none⟩ = some (.int .i64 s.day) from (blk_cell GS.out 0).trans rfl))
    | fail
    | fail
    | (go_at_call 35; (with_reducible refine (MA.out _).mono ?_); rintro e w' ⟨rfl, rfl⟩))
  exact ⟨rfl, rfl, HB.out⟩
theorem mid_want {PR : Program} {ops : Array Oper} {rest : List Oper} {op : Oper} {a : Act} {w : World} {Q : Exit → Act → World → Prop} (hw : Region.wanted op (yielded ops a.tmps) = true) (ty : TypeId) (x : Operand) (ho : op.op = .load ty x)
    (b o : Nat) (hx : a.eval x = .pointer (some ⟨b, o, none⟩)) (cs : List Value) (d : TypeDesc) (hc : w.rangeAt b o cs) (hu : PR.underlying ty = some d) (hd : d.isRow = true) (hi : (PR.info? ty).map (·.size) = some cs.length)
    (h : wpList PR ops Q rest (a.put op.dst (.agg cs.toArray)) w) : wpList PR ops Q (op :: rest) a w :=
  Go.BigFrame.wpList_want hw fun _ hK => wp_load_mid ty x ho b o hx cs d hc hu hd hi (hK _ _ h)
theorem with_bool {c r : Int} (hc : c = 1 ∨ c = 2 ∨ c = 3) (hr : r = 1 ∨ r = 3) (rest : Int) (b : Bool) (h : (decide (-(Gm.half c r) ≤ rest) && decide (rest < Gm.whole c - Gm.half c r)) = b) (w : World) :
    Calls Tryz.prog 54 #[.int .i64 c, .int .i64 r, .int .i64 rest] w fun e w' => ∃ x : Value, e = .returned (.tuple #[x, .bool b]) ∧ Below w.heap.size w w' := by
  cases b with
  | true =>
    simp only [Bool.and_eq_true, decide_eq_true_eq] at h
    refine (with_yes hc hr rest h w).mono ?_
    rintro e w' ⟨hb, gb, -, he, -⟩
    exact ⟨_, he, hb⟩
  | false =>
    refine (with_no hc hr rest (fun g => by rw [decide_eq_true g.1, decide_eq_true g.2] at h; cases h) w).mono ?_
    rintro e w' ⟨he, hb⟩
    exact ⟨_, he, hb⟩
/-- How a look ends. -/
def lookE (c : Int) : Ending := if c = 0 then .returned (.tuple #[]) else thrownE c
set_option maxRecDepth 100000 in
set_option maxHeartbeats 8000000 in
theorem nmay_walk (P : Pm.Prod) (A1 : Option Addr) (c1 : Nat) (A2 : Option Addr) (c2 : Nat) (A3 : Option Addr) (c3 : Nat) (s : St) (L : Option Addr) (lc : Nat) (D : Option Addr) (dc : Nat) (w : World) (hp : ProdAt w P A1 c1 A2 c2 A3 c3) (hs : Small P) (hgv : GV w) (he : err P = 0) (hc : P.count = 1 ∨ P.count = 2 ∨ P.count = 3) (hr : P.round = 1 ∨ P.round = 3) (hm : MAt w s.m D) (r1 r2 rb : Bool) (h1 : restOk P s.residue = r1) (h2 : restOk P s.fine = r2) (hb5 : (readM s.m).isSome = rb) (c : Int)
    (h : r1 = false ∧ c = 1 ∨ r1 = true ∧ (r2 = false ∧ c = 1 ∨ r2 = true ∧ (s.rate < 0 ∧ c = 1 ∨ 0 ≤ s.rate ∧ (1000000000 < s.rate ∧ c = 1 ∨ s.rate ≤ 1000000000 ∧ (rb = false ∧ c = 1 ∨ rb = true ∧ (s.day < -25567 ∧ c = 5 ∨ -25567 ≤ s.day ∧ (decide (s.day < 84370) = false ∧ c = 5 ∨ s.day < 84370 ∧ c = 0))))))) :
    Calls Tryz.prog 34 #[pv P A1 c1 A2 c2 A3 c3, sv s L lc D dc] w fun e w' => e = lookE c ∧ Below w.heap.size w w' := by
  have CK := Aside0.mk (fun (W : World) (hb : Below w.heap.size w W) => check_any P A1 c1 A2 c2 A3 c3 W (hgv.below hb) (hp.below hb) hs)
  rw [he] at CK
  have WA := Aside0.mk (fun W => with_bool hc hr s.residue r1 h1 W)
  have WB := Aside0.mk (fun W => with_bool hc hr s.fine r2 h2 W)
  have RI := Aside0.mk (fun (W : World) (hb : Below w.heap.size w W) => by have h := right_any s.m D dc W (hm.below hb); rw [hb5] at h; exact h)
  have M0 := Aside0.mk (fun W => nmust_yes 0 W)
  have M1 := Aside0.mk (fun W => nmust_yes 1 W)
  have M5 := Aside0.mk (fun W => nmust_yes 5 W)
  have N1 := Aside0.mk (fun W => nmust_no 1 W)
  have N5 := Aside0.mk (fun W => nmust_no 5 W)
  clear hp hs hgv he hc hr hm h1 h2 hb5
  rcases h with ⟨rfl, rfl⟩ | ⟨rfl, ⟨rfl, rfl⟩ | ⟨rfl, ⟨h, rfl⟩ | ⟨h3, ⟨h, rfl⟩ | ⟨h4, ⟨rfl, rfl⟩ | ⟨rfl, ⟨h, rfl⟩ | ⟨h6, ⟨h, rfl⟩ | ⟨h, rfl⟩⟩⟩⟩⟩⟩⟩
  all_goals
    go_enter Tryz.func34, Tryz.ntmps34
    go_wp2_with (first
      | ((with_reducible refine gate_dst (N := 2) rfl ?_); refine box_event ?hg (N := 2) ?hd (cs := pcs P A1 c1 A2 c2 A3 c3) (t := 27) ?hr ?_; (case hd => rfl); (case hg => rfl); (case hr => first | (go_simp; done) | (go_simp; rfl)); intro gp hg y1_ hb1 hb; clear hg; have GP := Aside0.mk hb1; have HB := Aside0.mk hb; clear hb1 hb)
      | ((with_reducible refine gate_dst (N := 3) rfl ?_); refine box_event ?hg (N := 3) ?hd (cs := scs s L lc D dc) (t := 33) ?hr ?_; (case hd => rfl); (case hg => rfl); (case hr => first | (go_simp; done) | (go_simp; rfl)); intro gs hg y2_ hb1 hb; have gsge := (show w.heap.size ≤ gs by rw [hg]; exact HB.out.size); have gps := (show gp ≠ gs by have := blk_lt GP.out; omega); clear hg; have GS := Aside0.mk hb1; have GP := Aside0.mk (Pd.blk_below GP.out hb); have HB := Aside0.mk (below_step HB.out hb); clear hb1 hb; refine Hid.out ?_))
    refine Lib.hid ?_
    go_wp2_with (first
      | ((with_reducible refine gate_dst (N := 9) rfl ?_); refine wpList_load_row rfl 27 (.tmp 2) rfl gp rfl 27 _ (0, 0) _ GP.out Tryz.underlying27 rfl info_prod ?_)
      | (go_at_call 53; (with_reducible refine (CK.out _ HB.out).mono ?_); rintro e y3 ⟨rfl, hb⟩; have GP := Aside0.mk (Pd.blk_below GP.out hb); have GS := Aside0.mk (Pd.blk_below GS.out hb); have HB := Aside0.mk (below_step HB.out hb); clear hb; have u1 := (show y3.cell? ⟨gp, 1, none⟩ = some (.int .i64 P.count) from (blk_cell GP.out 1).trans rfl); have u2 := (show y3.cell? ⟨gp, 2, none⟩ = some (.int .i64 P.round) from (blk_cell GP.out 2).trans rfl); have s17 := (show y3.cell? ⟨gs, 17, none⟩ = some (.int .i64 s.residue) from (blk_cell GS.out 17).trans rfl); have s18 := (show y3.cell? ⟨gs, 18, none⟩ = some (.int .i64 s.fine) from (blk_cell GS.out 18).trans rfl); have s5 := (show y3.cell? ⟨gs, 5, none⟩ = some (.int .i64 s.rate) from (blk_cell GS.out 5).trans rfl); have s0 := (show y3.cell? ⟨gs, 0, none⟩ = some (.int .i64 s.day) from (blk_cell GS.out 0).trans rfl))
      | (go_at_call 54; (with_reducible refine (WA.out _).mono ?_); rintro e y4 ⟨x_WA, rfl, hb⟩; have GP := Aside0.mk (Pd.blk_below GP.out hb); have GS := Aside0.mk (Pd.blk_below GS.out hb); have HB := Aside0.mk (below_step HB.out hb); clear hb; clear u1 u2 s17 s18 s5 s0; have u1 := (show y4.cell? ⟨gp, 1, none⟩ = some (.int .i64 P.count) from (blk_cell GP.out 1).trans rfl); have u2 := (show y4.cell? ⟨gp, 2, none⟩ = some (.int .i64 P.round) from (blk_cell GP.out 2).trans rfl); have s17 := (show y4.cell? ⟨gs, 17, none⟩ = some (.int .i64 s.residue) from (blk_cell GS.out 17).trans rfl); have s18 := (show y4.cell? ⟨gs, 18, none⟩ = some (.int .i64 s.fine) from (blk_cell GS.out 18).trans rfl); have s5 := (show y4.cell? ⟨gs, 5, none⟩ = some (.int .i64 s.rate) from (blk_cell GS.out 5).trans rfl); have s0 := (show y4.cell? ⟨gs, 0, none⟩ = some (.int .i64 s.day) from (blk_cell GS.out 0).trans rfl))
      | (go_at_call 54; (with_reducible refine (WB.out _).mono ?_); rintro e y5 ⟨x_WB, rfl, hb⟩; have GP := Aside0.mk (Pd.blk_below GP.out hb); have GS := Aside0.mk (Pd.blk_below GS.out hb); have HB := Aside0.mk (below_step HB.out hb); clear hb; clear u1 u2 s17 s18 s5 s0; have u1 := (show y5.cell? ⟨gp, 1, none⟩ = some (.int .i64 P.count) from (blk_cell GP.out 1).trans rfl); have u2 := (show y5.cell? ⟨gp, 2, none⟩ = some (.int .i64 P.round) from (blk_cell GP.out 2).trans rfl); have s17 := (show y5.cell? ⟨gs, 17, none⟩ = some (.int .i64 s.residue) from (blk_cell GS.out 17).trans rfl); have s18 := (show y5.cell? ⟨gs, 18, none⟩ = some (.int .i64 s.fine) from (blk_cell GS.out 18).trans rfl); have s5 := (show y5.cell? ⟨gs, 5, none⟩ = some (.int .i64 s.rate) from (blk_cell GS.out 5).trans rfl); have s0 := (show y5.cell? ⟨gs, 0, none⟩ = some (.int .i64 s.day) from (blk_cell GS.out 0).trans rfl))
      | ((with_reducible refine gate_dst (N := 51) rfl ?_); refine mid_want rfl 31 (.tmp 50) rfl gs 6 ?hx (mcs s.m D dc).toList _ (mny_range GS.out) Tryz.underlying31 rfl info_mny ?_; (case hx => first | rfl | (go_simp; done) | (go_simp; rfl)))
      | (go_at_call 55; (with_reducible refine (RI.out _ HB.out).mono ?_); rintro e y6 ⟨rfl, hb⟩; have GP := Aside0.mk (Pd.blk_below GP.out hb); have GS := Aside0.mk (Pd.blk_below GS.out hb); have HB := Aside0.mk (below_step HB.out hb); clear hb; clear u1 u2 s17 s18 s5 s0; have u1 := (show y6.cell? ⟨gp, 1, none⟩ = some (.int .i64 P.count) from (blk_cell GP.out 1).trans rfl); have u2 := (show y6.cell? ⟨gp, 2, none⟩ = some (.int .i64 P.round) from (blk_cell GP.out 2).trans rfl); have s17 := (show y6.cell? ⟨gs, 17, none⟩ = some (.int .i64 s.residue) from (blk_cell GS.out 17).trans rfl); have s18 := (show y6.cell? ⟨gs, 18, none⟩ = some (.int .i64 s.fine) from (blk_cell GS.out 18).trans rfl); have s5 := (show y6.cell? ⟨gs, 5, none⟩ = some (.int .i64 s.rate) from (blk_cell GS.out 5).trans rfl); have s0 := (show y6.cell? ⟨gs, 0, none⟩ = some (.int .i64 s.day) from (blk_cell GS.out 0).trans rfl))
      | (go_at_call 35; (with_reducible refine (M0.out _).mono ?_); rintro e w' ⟨rfl, rfl⟩)
      | (go_at_call 35; (with_reducible refine (M1.out _).mono ?_); rintro e w' ⟨rfl, rfl⟩)
      | (go_at_call 35; (with_reducible refine (M5.out _).mono ?_); rintro e w' ⟨rfl, rfl⟩)
      | (go_at_call 35; (with_reducible refine (N1.out _).mono ?_); rintro e w' ⟨rfl, rfl⟩)
      | (go_at_call 35; (with_reducible refine (N5.out _).mono ?_); rintro e w' ⟨rfl, rfl⟩))
    first
      | exact ⟨rfl, rfl, HB.out⟩
      | (go_end0; exact ⟨rfl, HB.out⟩)
end Go.Proofs.YtbbbjjfecblhpaaGreat.Nt
/- Contracts by hand: a state, its own. -/
namespace Go.Proofs.YtbbbjjfecblhpaaGreat.Nt
open Go.RowKit Go.Proofs.YtbbbjjfecblhpaaGreatW.PrintWords Go.Proofs.YtbbbjjfecblhpaaGreatW.PrintLast Go.Proofs.YtbbbjjfecblhpaaGreatW.PrintMore Go.Proofs.YtbbbjjfecblhpaaGreat.HW
open Go.Proofs.YtbbbjjfecblhpaaGreat.Math Go.Proofs.YtbbbjjfecblhpaaGreat.H Go.Proofs.YtbbbjjfecblhpaaGreat.Pd Go.Proofs.YtbbbjjfecblhpaaGreat.Du Go.Proofs.YtbbbjjfecblhpaaGreat.Lv Pm
set_option linter.unusedVariables false
set_option linter.unusedSimpArgs false
attribute [local go_sem] max2_int min2_int max_two min_two
section
variable {P : Program} {ops : Array Oper} {rest : List Oper} {op : Oper} {a : Act} {Q : Exit → Act → World → Prop}
/-- A list behind nothing: a list of its own. -/
theorem copy_list {W : World} (hgd : op.guard = none) (x : Operand) (t : TypeId) (ho : op.op = .call { callee := .builtin .append, args := #[.const (.slice none 0 0), x], argTypes := #[t, t] })
    (e : TypeId) (i : TypeInfo) (z : Value) (size bytes : Nat) (ht : P.underlying t = some (.slice e)) (hi : P.info? e = some i) (hz : i.zero = some z) (hs : i.size = size) (hby : i.bytes = bytes) (hzs : z.cells.size = size) (hsz : 0 < size)
    {A : Option Addr} {n c : Nat} (hx : a.eval x = .slice A n c) (hn : A = none → c = 0) (hc : n ≤ c) (news : List Value) (hl : news.length = n * size) (hnews : ∀ ad, A = some ad → ∀ j u, news[j]? = some u → W.cell? (ad.add j) = some u) (h1 : ∀ u ∈ news, u.oneCell' = true) (hm : n ≤ maxLen) (hb : n * bytes ≤ 140737488355328)
    (h : ∀ v' w1, w1.ownsRow W.heap.size e size v' n news → Below W.heap.size W w1 → wpList P ops Q rest (a.put op.dst v') w1) : wpList P ops Q (op :: rest) a W := by
  cases A with
  | none =>
    obtain rfl := hn rfl
    obtain rfl : n = 0 := by omega
    obtain rfl : news = [] := List.eq_nil_of_length_eq_zero (by simpa using hl)
    exact wpList_append_own_none hgd (.const (.slice none 0 0)) x t ho W.heap.size e i size ht hi (.slice none 0 0) 0 [] rfl (World.ownsRow_nil W _ e size) hx (h _ _ (World.ownsRow_nil W _ e size) (Below.refl _ _))
  | some ad =>
    refine wpList_append_own W hgd (.const (.slice none 0 0)) x t ho W.heap.size e i z size bytes ht hi hz hs hby hzs hsz (.slice none 0 0) 0 [] rfl (World.ownsRow_nil W _ e size) ad n c news hx hl (hnews ad rfl) h1 (by omega) (by rw [Nat.zero_add]; exact hb) (Nat.le_refl _) ?_
    intro v' w1 h2 h3 _
    rw [Nat.zero_add, List.nil_append] at h2
    exact h v' w1 h2 ((Below.refl W.heap.size W).grown h3 (Nat.le_refl _) (fun k hk => by cases hk))
end
theorem nums_get (l : List Int) (j : Nat) (u : Value) (h : (nums .i64 l)[j]? = some u) : j < l.length ∧ u = .int .i64 (rd l (j : Int)) := by
  have hj : j < l.length := by
    rcases Nat.lt_or_ge j l.length with h' | h'
    · exact h'
    · rw [List.getElem?_eq_none (by rw [nums_length]; exact h')] at h; cases h
  refine ⟨hj, ?_⟩
  rw [rd_nat l j hj]
  simp [nums, hj] at h
  exact h.symm
theorem news_of {w : World} {ad : Addr} {l : List Int} (hr : Kd.C (Kd.int .i64) w (some ad) l.length l) : ∀ j u, (nums .i64 l)[j]? = some u → w.cell? (ad.add j) = some u := by
  intro j u hu
  obtain ⟨hj, rfl⟩ := nums_get l j u hu
  obtain ⟨ad', e', hc⟩ := Kd.at_int hr (j : Int) (by omega) (by omega)
  obtain rfl := Option.some.inj e'
  rw [Int.toNat_natCast] at hc
  exact hc
theorem nums_one (l : List Int) : ∀ u ∈ nums .i64 l, u.oneCell' = true := by
  intro u hu
  simp [nums] at hu
  obtain ⟨a, _, rfl⟩ := hu
  rfl
theorem flatten_atn {sz : Nat} : ∀ (rows : List (List Int)) (i j : Nat) (r : List Int) (x : Int), (∀ r ∈ rows, r.length = sz) → rows[i]? = some r → r[j]? = some x → rows.flatten[i * sz + j]? = some x
  | [], i, j, r, x, _, h, _ => by simp at h
  | a :: l, 0, j, r, x, hl, h, hx => by
    obtain rfl : a = r := by simpa using h
    have hj := (List.getElem?_eq_some_iff.1 hx).1
    rw [List.flatten_cons, Nat.zero_mul, Nat.zero_add, List.getElem?_append_left hj]
    exact hx
  | a :: l, i + 1, j, r, x, hl, h, hx => by
    have ha := hl a (by simp)
    have e : (i + 1) * sz + j = a.length + (i * sz + j) := by rw [ha, Nat.add_mul]; omega
    rw [List.flatten_cons, e, List.getElem?_append_right (by omega), Nat.add_sub_cancel_left]
    exact flatten_atn l i j r x (fun r hr => hl r (List.mem_cons_of_mem _ hr)) (by simpa using h) hx
abbrev cellsV (rows : List (List Int)) : List Value := rows.flatten.map (Value.int .i64)
theorem flat_len' {sz : Nat} : ∀ rows : List (List Int), (∀ r ∈ rows, r.length = sz) → rows.flatten.length = rows.length * sz
  | [], _ => by simp
  | r :: l, h => by
    rw [List.flatten_cons, List.length_append, h r (by simp), flat_len' l (fun r hr => h r (List.mem_cons_of_mem _ hr)), List.length_cons, Nat.succ_mul, Nat.add_comm]
theorem cellsV_len {sz : Nat} {rows : List (List Int)} (h : ∀ r ∈ rows, r.length = sz) : (cellsV rows).length = rows.length * sz := by rw [List.length_map, flat_len' rows h]
theorem cellsV_one (rows : List (List Int)) : ∀ u ∈ cellsV rows, u.oneCell' = true := by
  intro u hu
  rw [List.mem_map] at hu
  obtain ⟨a, _, rfl⟩ := hu
  rfl
theorem rowsV_news {sz : Nat} (hsz : 0 < sz) {W : World} {ad : Addr} {rows : List (List Int)} (h : Op.IntRows W (some ad) sz rows) : ∀ j u, (cellsV rows)[j]? = some u → W.cell? (ad.add j) = some u := by
  intro j u hu
  have hl : ∀ r ∈ rows, r.length = sz := fun r hr => (h.1 r hr).1
  have hj : j < rows.length * sz := by
    have := (List.getElem?_eq_some_iff.1 hu).1
    rwa [cellsV_len hl] at this
  have hi : j / sz < rows.length := Nat.div_lt_of_lt_mul (by rw [Nat.mul_comm]; exact hj)
  have hm : j % sz < sz := Nat.mod_lt _ hsz
  have e : j / sz * sz + j % sz = j := by rw [Nat.mul_comm]; exact Nat.div_add_mod j sz
  have hr := List.getElem?_eq_getElem hi
  have hx : (rows[j / sz])[j % sz]? = some (rows[j / sz][j % sz]'(by rw [hl _ (List.getElem_mem hi)]; exact hm)) := List.getElem?_eq_getElem _
  have hf := flatten_atn rows _ _ _ _ hl hr hx
  rw [e] at hf
  rw [List.getElem?_map, hf] at hu
  obtain ⟨ad', e', hc⟩ := h.2 _ _ hr
  obtain rfl := Option.some.inj e'
  have := hc _ _ hx
  rw [e] at this
  rw [this]
  exact hu
/-- A state's lists, in memory. -/
structure StAt (w : World) (s : St) (L : Option Addr) (lc : Nat) (D : Option Addr) (dc : Nat) : Prop where
  plan : Kd.C (Kd.int .i64) w L s.plan.length s.plan
  pc : s.plan.length ≤ lc
  pn : L = none → lc = 0
  pl : s.plan.length ≤ 1000000
  rows : Op.IntRows w D 4 s.m.dues
  dc_ : s.m.dues.length ≤ dc
  dn : D = none → dc = 0
  dl : s.m.dues.length ≤ 1000000
theorem StAt.below {w w1 : World} {s : St} {L : Option Addr} {lc : Nat} {D : Option Addr} {dc : Nat} (h : StAt w s L lc D dc) (hb : Below w.heap.size w w1) : StAt w1 s L lc D dc :=
  ⟨Kd.C_below h.plan hb, h.pc, h.pn, h.pl, h.rows.below hb, h.dc_, h.dn, h.dl⟩
theorem StAt.m {w : World} {s : St} {L : Option Addr} {lc : Nat} {D : Option Addr} {dc : Nat} (h : StAt w s L lc D dc) : MAt w s.m D := ⟨h.rows, Nat.le_trans h.dl (by decide)⟩
/-- The same lists, another state. -/
theorem StAt.of {w : World} {s s2 : St} {L : Option Addr} {lc : Nat} {D : Option Addr} {dc : Nat} (h : StAt w s L lc D dc) (h1 : s2.plan = s.plan) (h2 : s2.m.dues = s.m.dues) : StAt w s2 L lc D dc :=
  ⟨h1 ▸ h.plan, h1 ▸ h.pc, h.pn, h1 ▸ h.pl, h2 ▸ h.rows, h2 ▸ h.dc_, h.dn, h2 ▸ h.dl⟩
theorem st_zero (w : World) : StAt w zeroS none 0 none 0 :=
  ⟨Kd.C_of_reads (d := (0 : Int)) ⟨rfl, by simp [zeroS], fun h => absurd h (by simp [zeroS])⟩, Nat.le_refl _, fun _ => rfl, by simp [zeroS], ⟨fun r hr => by simp [zeroS, zeroM] at hr, fun i r h => by simp [zeroS, zeroM] at h⟩, Nat.le_refl _, fun _ => rfl, by simp [zeroS, zeroM]⟩
theorem info_due4n : (Tryz.prog.info? 39).map (fun i => (i.zero, i.size, i.bytes)) = some (some (.agg #[.int .i64 0, .int .i64 0, .int .i64 0, .int .i64 0]), 4, 32) := by kernel_rfl
theorem own_rows {W : World} {base : Nat} {T : TypeId} {v : Value} {n : Nat} {rows : List (List Int)} (h : W.ownsRow base T 4 v n (rows.flatten.map (Value.int .i64))) (hl : rows.length = n) (hr : ∀ r ∈ rows, r.length = 4) (hw : ∀ r ∈ rows, ∀ x ∈ r, (Lit.int .i64 x).wf = true) :
    ∃ A c, v = .slice A n c ∧ n ≤ c ∧ (A = none → c = 0) ∧ Op.IntRows W A 4 rows := by
  rcases h.2 with ⟨rfl, rfl⟩ | ⟨g, cap, cur, rfl, hb, hg, hn, _, hs, ht⟩
  · obtain rfl : rows = [] := List.eq_nil_of_length_eq_zero hl
    exact ⟨none, 0, rfl, Nat.le_refl _, fun _ => rfl, (fun r hr => by simp at hr), (fun i r h => by simp at h)⟩
  · refine ⟨some ⟨g, 0, none⟩, cap, rfl, hn, (fun e => by cases e), fun r h => ⟨hr r h, hw r h⟩, fun i r hi => ⟨_, rfl, fun j x hj => ?_⟩⟩
    have hi1 := (List.getElem?_eq_some_iff.1 hi).1
    have hj1 := (List.getElem?_eq_some_iff.1 hj).1
    have h4 := hr r (List.mem_of_getElem? hi)
    have e : cur.toList[i * 4 + j]? = some (.int .i64 x) := by
      have e2 : (cur.toList.take (n * 4))[i * 4 + j]? = some (.int .i64 x) := by rw [ht, List.getElem?_map, flatten_atn rows i j r x hr hi hj]; rfl
      rw [List.getElem?_take] at e2
      split at e2
      · exact e2
      · cases e2
    rw [Addr.add_mid, Nat.zero_add, blk_cell hg, ← Array.getElem?_toList]
    exact e
theorem info_i64n : (Tryz.prog.info? 2).map (fun i => (i.zero, i.size, i.bytes)) = some (some (.int .i64 0), 1, 8) := by kernel_rfl
theorem own_plan {W : World} {base : Nat} {T : TypeId} {v : Value} {n : Nat} {l : List Int} (h : W.ownsRow base T 1 v n (nums .i64 l)) (hl : l.length = n) : ∃ A c, v = .slice A n c ∧ n ≤ c ∧ (A = none → c = 0) ∧ Kd.C (Kd.int .i64) W A l.length l := by
  subst hl
  have h' : W.ownsRow base T 1 v l.length (encs (Value.int .i64) l) := by simpa [nums, encs] using h
  obtain ⟨A, c, rfl, hle, hr⟩ := own_reads_of_le (d := (0 : Int)) h'
  refine ⟨A, c, rfl, hle, fun e => ?_, Kd.C_of_reads hr⟩
  subst e
  rcases h.2 with ⟨e1, e2⟩ | ⟨g, cap, cur, e1, _⟩
  · injection e1 with e3 e4 e5
  · injection e1 with e3
    cases e3
theorem own_shape {W : World} {base : Nat} {T : TypeId} {size : Nat} {v : Value} {n : Nat} {xs : List Value} (h : W.ownsRow base T size v n xs) : ∃ A c, v = .slice A n c := by
  rcases h.2 with ⟨rfl, rfl⟩ | ⟨g, cap, cur, rfl, _⟩
  · exact ⟨_, _, rfl⟩
  · exact ⟨_, _, rfl⟩
theorem own_but {W W1 : World} {base : Nat} {T : TypeId} {size : Nat} {v : Value} {n : Nat} {xs : List Value} {g : Nat} (h : W.ownsRow base T size v n xs) (hb : H.But g W W1) (hg : g < base) : W1.ownsRow base T size v n xs :=
  h.kept (row := some g) ⟨hb.os, hb.tape, hb.output, hb.size, fun k hk hne => hb.block k hk (fun e => hne (by rw [e]))⟩ (by
    cases e : v.ownBlock with
    | none => exact Or.inl rfl
    | some k => refine Or.inr (fun h2 => ?_); have := own_base h k e; obtain rfl := Option.some.inj h2; omega)
/-- Lists that lie at or above a place. -/
def Lies (b : Nat) (L D : Option Addr) : Prop := (∀ a, L = some a → b ≤ a.block) ∧ ∀ a, D = some a → b ≤ a.block
theorem own_lies {W : World} {base : Nat} {T : TypeId} {size : Nat} {A : Option Addr} {c n : Nat} {xs : List Value} (h : W.ownsRow base T size (.slice A n c) n xs) {b : Nat} (hb : b ≤ base) : ∀ a, A = some a → b ≤ a.block := by
  intro a ha
  rcases h.2 with ⟨e, -⟩ | ⟨g, cap, cur, e, hg, -⟩
  · injection e with e1
    rw [ha] at e1
    cases e1
  · injection e with e1
    rw [ha] at e1
    obtain rfl := Option.some.inj e1
    exact Nat.le_trans hb hg
/-- A state whose lists are its own. -/
theorem own_state {W : World} {s : St} {base1 base2 : Nat} {L : Option Addr} {lc : Nat} {D : Option Addr} {dc : Nat} (h1 : W.ownsRow base1 2 1 (.slice L s.plan.length lc) s.plan.length (nums .i64 s.plan)) (h2 : W.ownsRow base2 39 4 (.slice D s.m.dues.length dc) s.m.dues.length (cellsV s.m.dues)) (hr : ∀ r ∈ s.m.dues, r.length = 4) (hw : ∀ r ∈ s.m.dues, ∀ x ∈ r, (Lit.int .i64 x).wf = true) (hp : s.plan.length ≤ 1000000) (hd : s.m.dues.length ≤ 1000000) : StAt W s L lc D dc := by
  obtain ⟨A, c, e, k1, k2, k3⟩ := own_plan h1 rfl
  obtain ⟨B, d, e2, m1, m2, m3⟩ := own_rows h2 rfl hr hw
  injection e with e3 e4 e5
  injection e2 with e6 e7 e8
  subst e3 e5 e6 e8
  exact ⟨k3, k1, k2, hp, m3, m1, m2, hd⟩
theorem set_own3 (s : St) (L L2 : Option Addr) (lc lc2 : Nat) (D : Option Addr) (dc : Nat) : (scs s L lc D dc).setIfInBounds 3 (.slice L2 s.plan.length lc2) = scs s L2 lc2 D dc := by
  simp only [List.setIfInBounds_toArray, List.set_cons_zero, List.set_cons_succ]
theorem set_own8 (s : St) (L : Option Addr) (lc : Nat) (D D2 : Option Addr) (dc dc2 : Nat) : (scs s L lc D dc).setIfInBounds 8 (.slice D2 s.m.dues.length dc2) = scs s L lc D2 dc2 := by
  simp only [List.setIfInBounds_toArray, List.set_cons_zero, List.set_cons_succ]
set_option maxRecDepth 100000 in
set_option maxHeartbeats 8000000 in
theorem own_any (s : St) (L : Option Addr) (lc : Nat) (D : Option Addr) (dc : Nat) (w : World) (hst : StAt w s L lc D dc) :
    Calls Tryz.prog 36 #[sv s L lc D dc] w fun e w' => ∃ L2 lc2 D2 dc2, e = .returned (sv s L2 lc2 D2 dc2) ∧ StAt w' s L2 lc2 D2 dc2 ∧ Below w.heap.size w w' ∧ Lies w.heap.size L2 D2 := by
  obtain ⟨i1, hi1, hz1, hs1, hb1⟩ := info_parts info_i64n
  obtain ⟨i4, hi4, hz4, hs4, hb4⟩ := info_parts info_due4n
  have ST := Aside0.mk hst
  have LN := Aside0.mk (show s.plan.length ≤ maxLen ∧ s.plan.length * 8 ≤ 140737488355328 by have := hst.pl; unfold maxLen; omega)
  have DN := Aside0.mk (show s.m.dues.length ≤ maxLen ∧ s.m.dues.length * 32 ≤ 140737488355328 by have := hst.dl; unfold maxLen; omega)
  have R4 := Aside0.mk (show ∀ r ∈ s.m.dues, r.length = 4 from fun r hr => (hst.rows.1 r hr).1)
  have RW := Aside0.mk (show ∀ r ∈ s.m.dues, ∀ x ∈ r, (Lit.int .i64 x).wf = true from fun r hr => (hst.rows.1 r hr).2)
  clear hst
  go_enter Tryz.func36, Tryz.ntmps36
  go_wp2_with (first
    | ((with_reducible refine gate_dst (N := 1) rfl ?_); refine box_event ?hg (N := 1) ?hd (cs := scs s L lc D dc) (t := 33) ?hr ?_; (case hd => rfl); (case hg => rfl); (case hr => first | (go_simp; done) | (go_simp; rfl)); intro gs hg y1_ hb1 hb; have gsge := (show w.heap.size ≤ gs by rw [hg]; exact Nat.le_refl _); clear hg; have GS := Aside0.mk hb1; have HB := Aside0.mk hb; clear hb1 hb)
    | ((with_reducible refine gate_dst (N := 2) rfl ?_); refine box_event rfl (N := 2) rfl (cs := scs zeroS none 0 none 0) (t := 33) ?hr ?_; (case hr => first | (go_simp; done) | (go_simp; rfl)); intro gr hg v3 hb1 hb; have grge := (show w.heap.size ≤ gr by rw [hg]; exact HB.out.size); have gsr := (show gs ≠ gr by have := blk_lt GS.out; omega); clear hg; have GR := Aside0.mk hb1; have GS := Aside0.mk (Pd.blk_below GS.out hb); have HB := Aside0.mk (below_step HB.out hb); clear hb1 hb; refine Hid.out ?_))
  refine Lib.hid ?_
  have S3 := Aside0.mk (ST.out.below HB.out)
  have z3 := HB.out.size
  have c3 := (show v3.cell? ⟨gs, 3, none⟩ = some (.slice L s.plan.length lc) from (blk_cell GS.out 3).trans rfl)
  go_wp2_with (at_builtin; refine copy_list rfl _ 28 rfl 2 i1 (.int .i64 0) 1 8 Tryz.underlying28 hi1 hz1 hs1 hb1 rfl (by decide) rfl S3.out.pn S3.out.pc (nums .i64 s.plan) (by rw [nums_length, Nat.mul_one]) (fun ad e => news_of (e ▸ S3.out.plan)) (nums_one _) LN.out.1 LN.out.2 ?_; intro v5 w5 hown hb; have OW := Aside0.mk hown; have gs1 := blk_lt GS.out; have gr1 := blk_lt GR.out; have v35 := hb.size; have GS := Aside0.mk (Pd.blk_below GS.out hb); have GR := Aside0.mk (Pd.blk_below GR.out hb); have HB := Aside0.mk (below_step HB.out hb); clear hown hb c3; refine Hid.out ?_)
  refine Lib.hid ?_
  obtain ⟨L2, lc2, rfl⟩ := own_shape OW.out
  have gl1 := (show gs < v3.heap.size from gs1)
  have gl2 := (show gr < v3.heap.size from gr1)
  have c3 := (show w5.cell? ⟨gs, 3, none⟩ = some (.slice L s.plan.length lc) from (blk_cell GS.out 3).trans rfl)
  have f3 := frozen_of_row w5 gs 3 _ _ GS.out
  go_upto_region 2 with (fail)
  obtain ⟨w6, hw6⟩ : ∃ x, w5.setCell ⟨gs, 3, none⟩ (.slice L2 s.plan.length lc2) = x := ⟨_, rfl⟩
  have GS := Aside0.mk (show w6.heap[gs]? = some (.cells (scs s L2 lc2 D dc) 33 (0, 0)) by
    have h := blk_set GS.out 3 (.slice L2 s.plan.length lc2)
    rw [set_own3, hw6] at h
    exact h)
  have GR := Aside0.mk (show w6.heap[gr]? = some (.cells (scs zeroS none 0 none 0) 33 (0, 0)) by rw [← hw6]; exact blk_far GR.out (Ne.symm gsr) _)
  have HB := Aside0.mk (show Below w.heap.size w w6 by rw [← hw6]; exact Below.setCell HB.out gsge _)
  have BU := Aside0.mk (show H.But gs w5 w6 by rw [← hw6]; exact (H.But.of (gb := gs) (Below.refl w5.heap.size w5)).setCell (p := ⟨gs, 3, none⟩) (Or.inl rfl) _)
  rw [hw6]
  have OW := Aside0.mk (own_but OW.out BU.out gl1)
  have vs6 := BU.out.size
  have S6 := Aside0.mk (ST.out.below HB.out)
  have z6 := HB.out.size
  clear c3 f3 hw6 BU
  have c8 := (show w6.cell? ⟨gs, 8, none⟩ = some (.slice D s.m.dues.length dc) from (blk_cell GS.out 8).trans rfl)
  go_wp2_with (at_builtin; refine copy_list rfl _ 29 rfl 39 i4 (.agg #[.int .i64 0, .int .i64 0, .int .i64 0, .int .i64 0]) 4 32 Tryz.underlying29 hi4 hz4 hs4 hb4 rfl (by decide) rfl S6.out.dn S6.out.dc_ (cellsV s.m.dues) (cellsV_len R4.out) (fun ad e => rowsV_news (by decide) (e ▸ S6.out.rows)) (cellsV_one _) DN.out.1 DN.out.2 ?_; intro v7 w7 hown hb; have OV := Aside0.mk hown; have GS := Aside0.mk (Pd.blk_below GS.out hb); have GR := Aside0.mk (Pd.blk_below GR.out hb); have OW := Aside0.mk (pw_own_below OW.out hb); have HB := Aside0.mk (below_step HB.out hb); clear hown hb c8; refine Hid.out ?_)
  refine Lib.hid ?_
  obtain ⟨D2, dc2, rfl⟩ := own_shape OV.out
  have gm1 := (show gs < w6.heap.size by omega)
  have gm2 := (show gr < w6.heap.size by omega)
  have c8 := (show w7.cell? ⟨gs, 8, none⟩ = some (.slice D s.m.dues.length dc) from (blk_cell GS.out 8).trans rfl)
  have f8 := frozen_of_row w7 gs 8 _ _ GS.out
  go_upto_region 3 with (fail)
  obtain ⟨w8, hw8⟩ : ∃ x, w7.setCell ⟨gs, 8, none⟩ (.slice D2 s.m.dues.length dc2) = x := ⟨_, rfl⟩
  have GS := Aside0.mk (show w8.heap[gs]? = some (.cells (scs s L2 lc2 D2 dc2) 33 (0, 0)) by
    have h := blk_set GS.out 8 (.slice D2 s.m.dues.length dc2)
    rw [set_own8, hw8] at h
    exact h)
  have GR := Aside0.mk (show w8.heap[gr]? = some (.cells (scs zeroS none 0 none 0) 33 (0, 0)) by rw [← hw8]; exact blk_far GR.out (Ne.symm gsr) _)
  have HB := Aside0.mk (show Below w.heap.size w w8 by rw [← hw8]; exact Below.setCell HB.out gsge _)
  rw [hw8]
  have BU := Aside0.mk (show H.But gs w7 w8 by rw [← hw8]; exact (H.But.of (gb := gs) (Below.refl w7.heap.size w7)).setCell (p := ⟨gs, 8, none⟩) (Or.inl rfl) _)
  have OW := Aside0.mk (own_but OW.out BU.out gl1)
  have OV := Aside0.mk (own_but OV.out BU.out gm1)
  clear c8 f8 hw8 BU
  have LI := Aside0.mk (show Lies w.heap.size L2 D2 from ⟨own_lies OW.out z3, own_lies OV.out z6⟩)
  clear z3 z6
  go_wp2_with (first
    | ((with_reducible refine gate_dst (N := 13) rfl ?_); refine wpList_load_row rfl 33 (.tmp 1) rfl gs rfl 33 _ (0, 0) _ GS.out Tryz.underlying33 rfl info_state ?_)
    | ((with_reducible refine gate_store (t := 33) (p := 2) rfl ?_); refine row_event rfl (t := 33) (p := 2) (v := .tmp 13) rfl rfl (g := gr) (cs := scs s L2 lc2 D2 dc2) (zs := scs zeroS none 0 none 0) rfl rfl GR.out info_state rfl (by simp [Value.oneCell']) ?_; intro v13 hb8 hbut; have GR := Aside0.mk hb8; have HB := Aside0.mk (But.below HB.out HB.out.size grge hbut); have ST3 := Aside0.mk (own_state (own_but OW.out hbut gl2) (own_but OV.out hbut gm2) R4.out RW.out ST.out.pl ST.out.dl); clear hb8 hbut))
  exact bodyPost_ret (v := sv s L2 lc2 D2 dc2) (results_cell_row (g := gr) Tryz.results36 _ _ _ _ _ _ rfl GR.out Tryz.underlying33 rfl info_state) rfl ⟨L2, lc2, D2, dc2, rfl, ST3.out, HB.out, LI.out⟩
theorem cell_lt' {w : World} {p : Addr} {v : Value} (h : w.cell? p = some v) : p.block < w.heap.size := by
  rcases Nat.lt_or_ge p.block w.heap.size with h1 | h1
  · exact h1
  · have e : w.heap[p.block]? = none := Array.getElem?_eq_none h1
    simp [World.cell?, e] at h
theorem add_blkN (a : Addr) (n : Nat) : (a.add n).block = a.block := by unfold Addr.add; split <;> rfl
theorem cell_but {w w1 : World} {g : Nat} (hb : H.But g w w1) {b : Nat} (hg : g < b) {p : Addr} (hp : b ≤ p.block) {v : Value} (h : w.cell? p = some v) : w1.cell? p = some v := by
  rw [hb.cell (cell_lt' h) (by omega)]
  exact h
theorem rows_but {w w1 : World} {g : Nat} (hb : H.But g w w1) {b : Nat} (hg : g < b) {A : Option Addr} (hA : ∀ a, A = some a → b ≤ a.block) {sz : Nat} {rows : List (List Int)} (h : Op.IntRows w A sz rows) : Op.IntRows w1 A sz rows := by
  refine ⟨h.1, fun i r hi => ?_⟩
  obtain ⟨ad, e, hc⟩ := h.2 i r hi
  exact ⟨ad, e, fun j x hj => cell_but (p := ad.add (i * sz + j)) hb hg (by rw [add_blkN]; exact hA ad e) (hc j x hj)⟩
theorem plan_but {w w1 : World} {g : Nat} (hb : H.But g w w1) {b : Nat} (hg : g < b) {A : Option Addr} (hA : ∀ a, A = some a → b ≤ a.block) {l : List Int} (hm : l.length ≤ 1000000) (h : Kd.C (Kd.int .i64) w A l.length l) : Kd.C (Kd.int .i64) w1 A l.length l := by
  refine Kd.C_of_reads (d := (0 : Int)) ⟨rfl, by omega, fun hp => ?_⟩
  obtain ⟨ad, e, -⟩ := Kd.at_int h 0 (by omega) (by omega)
  refine ⟨ad, e, fun j hj => ?_⟩
  obtain ⟨ad2, e2, hc⟩ := Kd.at_int h (j : Int) (by omega) (by omega)
  rw [e] at e2
  obtain rfl := Option.some.inj e2
  rw [Int.toNat_natCast, rd_nat l j hj, show l[j] = l.getD j 0 from by rw [List.getD_eq_getElem?_getD, List.getElem?_eq_getElem hj]; rfl] at hc
  exact cell_but (p := ad.add j) hb hg (by rw [add_blkN]; exact hA ad e) hc
/-- A state's lists where another block was put. -/
theorem st_but {w w1 : World} {g : Nat} {s : St} {L : Option Addr} {lc : Nat} {D : Option Addr} {dc : Nat} (hb : H.But g w w1) (h : StAt w s L lc D dc) {b : Nat} (hl : Lies b L D) (hg : g < b) : StAt w1 s L lc D dc :=
  ⟨plan_but hb hg hl.1 h.pl h.plan, h.pc, h.pn, h.pl, rows_but hb hg hl.2 h.rows, h.dc_, h.dn, h.dl⟩
end Go.Proofs.YtbbbjjfecblhpaaGreat.Nt
/- Contracts by hand: what was thrown by a night, caught. -/
namespace Go.Proofs.YtbbbjjfecblhpaaGreat.Nt
open Go.RowKit Go.Proofs.YtbbbjjfecblhpaaGreatW.PrintWords Go.Proofs.YtbbbjjfecblhpaaGreatW.PrintLast Go.Proofs.YtbbbjjfecblhpaaGreatW.PrintMore Go.Proofs.YtbbbjjfecblhpaaGreat.HW
open Go.Proofs.YtbbbjjfecblhpaaGreat.Math Go.Proofs.YtbbbjjfecblhpaaGreat.H Go.Proofs.YtbbbjjfecblhpaaGreat.Pd Go.Proofs.YtbbbjjfecblhpaaGreat.Du Go.Proofs.YtbbbjjfecblhpaaGreat.Lv Pm
set_option linter.unusedVariables false
set_option linter.unusedSimpArgs false
attribute [local go_sem] max2_int min2_int max_two min_two
/-- A state and a code, to be handed back, in memory. -/
structure Out (w0 w : World) (gr ge : Nat) (c : Int) (s : St) (L : Option Addr) (lc : Nat) (D : Option Addr) (dc : Nat) : Prop where
  st : w.heap[gr]? = some (.cells (scs s L lc D dc) 33 (0, 0))
  er : w.heap[ge]? = some (.cells #[.int .i64 c] 41 (0, 0))
  r0 : w0.heap.size ≤ gr
  e0 : w0.heap.size ≤ ge
  ne : gr ≠ ge
  below : Below w0.heap.size w0 w
theorem Out.step {w0 w w1 : World} {gr ge : Nat} {c : Int} {s : St} {L : Option Addr} {lc : Nat} {D : Option Addr} {dc : Nat} (h : Out w0 w gr ge c s L lc D dc) (hb : Below w.heap.size w w1) : Out w0 w1 gr ge c s L lc D dc :=
  ⟨Pd.blk_below h.st hb, Pd.blk_below h.er hb, h.r0, h.e0, h.ne, below_step h.below hb⟩
theorem ncaught_idle (pv pe : Addr) (w : World) :
    CallsD Tryz.prog 33 #[.pointer (some pv), .pointer (some pe)] .returning w fun e u' w' => e = .returned (.tuple #[]) ∧ u' = .returning ∧ w' = w := by
  refine callsD_of_wpS Tryz.func33 rfl fun c₀ cs hu => ?_
  simp only [Tryz.ntmps33, List.size_toArray, List.length_cons, List.length_nil, Nat.reduceAdd, Nat.reduceSub, Array.replicate_succ, Array.replicate_zero, List.push_toArray, List.append_toArray, List.nil_append, List.cons_append]
  apply wpS_seq
  apply wpS_region
  simp [wpOpsS, go_sem, recoverD, hu, Exit.thenS]
  refine rest_plain fun Q HQ => ?_
  go_wp2
  refine HQ.out _ _ _ ?_
  clear HQ
  simp [bodyPostS, results, Tryz.results33, hu]
  cases c₀
  simp_all
theorem ncaught_thrown (w0 : World) (gr ge : Nat) (x c : Int) (s : St) (L : Option Addr) (lc : Nat) (D : Option Addr) (dc : Nat) (older : List PanicEntry) (w : World) (h : Out w0 w gr ge x s L lc D dc) :
    CallsD Tryz.prog 33 #[.pointer (some ⟨gr, 0, none⟩), .pointer (some ⟨ge, 0, none⟩)] (.panicking ({ v := .iface 103 (.int .i64 c), recovered := false } :: older)) w fun e u' w' =>
      e = .returned (.tuple #[]) ∧ u' = .panicking ({ v := .iface 103 (.int .i64 c), recovered := true } :: older) ∧ Out w0 w' gr ge c zeroS none 0 none 0 := by
  have H := Aside0.mk h
  clear h
  refine callsD_of_wpS Tryz.func33 rfl fun c₀ cs hu => ?_
  simp only [Tryz.ntmps33, List.size_toArray, List.length_cons, List.length_nil, Nat.reduceAdd, Nat.reduceSub, Array.replicate_succ, Array.replicate_zero, List.push_toArray, List.append_toArray, List.nil_append, List.cons_append]
  apply wpS_seq
  apply wpS_region
  simp [wpOpsS, go_sem, recoverD, hu, Exit.thenS]
  refine rest_plain fun Q HQ => ?_
  have hta : ∀ w, (Instr.typeAssert (.iface 103 (.int .i64 c)) 20 103 true).run Tryz.prog w = .ok (.tuple #[.int .i64 c, .bool true]) w := fun _ => by kernel_rfl
  go_wp2_with (first
    | ((with_reducible refine gate_dst (N := 15) rfl ?_); refine build_event rfl (t := 33) rfl (cs := scs zeroS none 0 none 0) ?hb ?_; (case hb => simp only [List.map_toArray, List.map_cons, List.map_nil]; exact built_state0))
    | ((with_reducible refine gate_store (t := 33) (p := 17) rfl ?_); refine row_event rfl (t := 33) (p := 17) (v := .tmp 15) rfl rfl (g := gr) (cs := scs zeroS none 0 none 0) (zs := scs s L lc D dc) rfl rfl H.out.st info_state rfl (by simp [Value.oneCell']) ?_; intro w1 hb1 hbut; refine Hid.out ?_))
  refine Lib.hid ?_
  have hne := H.out.ne
  have HE := Aside0.mk (show w1.heap[ge]? = some (.cells #[.int .i64 x] 41 (0, 0)) from (hbut.block ge (blk_lt H.out.er) (Ne.symm hne)).trans H.out.er)
  have HB := Aside0.mk (But.below H.out.below H.out.below.size H.out.r0 hbut)
  have c0 := (show w1.cell? ⟨ge, 0, none⟩ = some (.int .i64 x) from (blk_cell HE.out 0).trans rfl)
  have f0 := frozen_of_row w1 ge 0 _ _ HE.out
  clear hbut
  go_wp2
  refine HQ.out _ _ _ ?_
  clear HQ
  simp [bodyPostS, results, Tryz.results33, hu]
  refine ⟨blk_far hb1 hne _, ?_, H.out.r0, H.out.e0, hne, Below.setCell HB.out H.out.e0 _⟩
  exact blk_set HE.out 0 (.int .i64 c)
/-- What is handed back. -/
theorem Out.results {w0 w : World} {gr ge : Nat} {c : Int} {s : St} {L : Option Addr} {lc : Nat} {D : Option Addr} {dc : Nat} (h : Out w0 w gr ge c s L lc D dc) {fn : Func} {p q : Tmp} (hr : fn.results = #[.cell p 33, .cell q 41]) (tmps : Array Value) (hp : tmps.getD p undef = .pointer (some ⟨gr, 0, none⟩)) (hq : tmps.getD q undef = .pointer (some ⟨ge, 0, none⟩)) :
    (results fn tmps).run Tryz.prog w = .ok (.tuple #[sv s L lc D dc, .int .i64 c]) w := by
  have hp' : tmps[p]?.getD undef = .pointer (some ⟨gr, 0, none⟩) := by simpa using hp
  have hq' : tmps[q]?.getD undef = .pointer (some ⟨ge, 0, none⟩) := by simpa using hq
  have c0 : w.cell? ⟨ge, 0, none⟩ = some (.int .i64 c) := (blk_cell h.er 0).trans rfl
  have e1 := run_loadVar_row (P := Tryz.prog) w gr 33 33 _ (0, 0) _ h.st Tryz.underlying33 rfl info_state
  have e2 : (loadVar 41 ⟨ge, 0, none⟩).run Tryz.prog w = .ok (.int .i64 c) w := by simp [go_sem, c0]
  simp [Go.results, hr, hp', hq', asAddr, e1, e2]
end Go.Proofs.YtbbbjjfecblhpaaGreat.Nt
/- Contracts by hand: Nights, Night: what nights make of a state. -/
namespace Go.Proofs.YtbbbjjfecblhpaaGreat.Nt
open Go.RowKit Go.Proofs.YtbbbjjfecblhpaaGreatW.PrintWords Go.Proofs.YtbbbjjfecblhpaaGreatW.PrintLast Go.Proofs.YtbbbjjfecblhpaaGreatW.PrintMore Go.Proofs.YtbbbjjfecblhpaaGreat.HW
open Go.Proofs.YtbbbjjfecblhpaaGreat.Math Go.Proofs.YtbbbjjfecblhpaaGreat.H Go.Proofs.YtbbbjjfecblhpaaGreat.Pd Go.Proofs.YtbbbjjfecblhpaaGreat.Du Go.Proofs.YtbbbjjfecblhpaaGreat.Lv Pm
set_option linter.unusedVariables false
set_option linter.unusedSimpArgs false
attribute [local go_sem] max2_int min2_int max_two min_two
theorem err_shape {P : Pm.Prod} (h : err P = 0) : (P.count = 1 ∨ P.count = 2 ∨ P.count = 3) ∧ (P.round = 1 ∨ P.round = 3) ∧ (0 ≤ P.rate ∧ P.rate ≤ 1000000000) ∧ (0 ≤ P.penalty ∧ P.penalty ≤ 1000000000) := by
  have h1 : ok P = true := by
    unfold err at h
    split at h
    · assumption
    · cases h
  unfold ok at h1
  simp only [Bool.and_eq_true] at h1
  obtain ⟨⟨⟨⟨h2, h3⟩, -⟩, -⟩, -⟩ := h1
  unfold shapeOk at h2
  rw [Bool.and_eq_true] at h2
  have h4 := of_decide_eq_true h2.2
  unfold ratesOk at h3
  rw [Bool.and_eq_true] at h3
  have h5 := of_decide_eq_true h3.1
  exact ⟨by omega, h4.2.1, h5.1, h5.2.1⟩
theorem err_or (P : Pm.Prod) : err P = 0 ∨ err P = 9 := by
  unfold err
  split <;> simp
theorem looks_any (P : Pm.Prod) (A1 : Option Addr) (c1 : Nat) (A2 : Option Addr) (c2 : Nat) (A3 : Option Addr) (c3 : Nat) (s : St) (L : Option Addr) (lc : Nat) (D : Option Addr) (dc : Nat) (w : World) (hp : ProdAt w P A1 c1 A2 c2 A3 c3) (hs : Small P) (hgv : GV w) (hm : MAt w s.m D) :
    Calls Tryz.prog 34 #[pv P A1 c1 A2 c2 A3 c3, sv s L lc D dc] w fun e w' => e = lookE (mayE P s) ∧ Below w.heap.size w w' := by
  by_cases he : err P = 0
  · obtain ⟨hc, hr, -, -⟩ := err_shape he
    refine nmay_walk P A1 c1 A2 c2 A3 c3 s L lc D dc w hp hs hgv he hc hr hm _ _ _ rfl rfl rfl (mayE P s) ?_
    unfold mayE
    rw [if_neg (show ¬ err P ≠ 0 from fun h => h he)]
    cases h1 : restOk P s.residue with
    | false => exact Or.inl ⟨rfl, by simp⟩
    | true =>
      refine Or.inr ⟨rfl, ?_⟩
      cases h2 : restOk P s.fine with
      | false => exact Or.inl ⟨rfl, by simp⟩
      | true =>
        refine Or.inr ⟨rfl, ?_⟩
        by_cases h3 : s.rate < 0
        · exact Or.inl ⟨h3, by simp [show ¬ 0 ≤ s.rate by omega]⟩
        · refine Or.inr ⟨by omega, ?_⟩
          by_cases h4 : 1000000000 < s.rate
          · exact Or.inl ⟨h4, by simp [show ¬ s.rate ≤ 1000000000 by omega]⟩
          · refine Or.inr ⟨by omega, ?_⟩
            cases h5 : (readM s.m).isSome with
            | false => exact Or.inl ⟨rfl, by simp⟩
            | true =>
              refine Or.inr ⟨rfl, ?_⟩
              rw [if_pos (by simp [show 0 ≤ s.rate by omega, show s.rate ≤ 1000000000 by omega])]
              by_cases h6 : s.day < -25567
              · exact Or.inl ⟨h6, by rw [if_neg (by omega)]⟩
              · refine Or.inr ⟨by omega, ?_⟩
                by_cases h7 : s.day < 84370
                · exact Or.inr ⟨h7, by rw [if_pos (by omega)]⟩
                · exact Or.inl ⟨by simp [h7], by rw [if_neg (by omega)]⟩
  · refine (nmay_err P A1 c1 A2 c2 A3 c3 s L lc D dc w hp hs hgv he).mono ?_
    rintro e w' ⟨rfl, hb⟩
    have h9 : mayE P s = err P := by unfold mayE; rw [if_pos he]
    exact ⟨by rw [h9]; unfold lookE; rw [if_neg he], hb⟩
/-- What a look found right. -/
theorem mayE_zero {P : Pm.Prod} {s : St} (h : mayE P s = 0) : err P = 0 ∧ restOk P s.residue = true ∧ restOk P s.fine = true ∧ 0 ≤ s.rate ∧ s.rate ≤ 1000000000 ∧ (readM s.m).isSome = true ∧ -25567 ≤ s.day ∧ s.day < 84370 := by
  unfold mayE at h
  split at h
  · contradiction
  · rename_i h0
    split at h
    · rename_i h1
      split at h
      · rename_i h2
        simp only [Bool.and_eq_true, decide_eq_true_eq] at h1
        exact ⟨by omega, h1.1.1.1.1, h1.1.1.1.2, h1.1.1.2, h1.1.2, h1.2, h2.1, h2.2⟩
      · cases h
    · cases h
theorem restOk_bd {P : Pm.Prod} {r : Int} (h : restOk P r = true) : -(Gm.half P.count P.round) ≤ r ∧ r < Gm.whole P.count - Gm.half P.count P.round := by
  unfold restOk at h
  simpa only [Bool.and_eq_true, decide_eq_true_eq] using h
theorem readM_flat {m : Mny} (h : (readM m).isSome = true) : ∀ v ∈ m.flat, 0 ≤ v ∧ v ≤ 1000000000000000 := by
  intro v hv
  unfold readM at h
  split at h
  · rename_i h1
    exact mayB_iff.1 (List.all_eq_true.1 h1 v hv)
  · cases h
theorem bear_ok {W h rest bal rate n : Int} (hz : (Gm.bear W h rest bal rate n).2.1 = 0) : ∃ v r2, Gm.bear W h rest bal rate n = (v, 0, r2) ∧ v ≤ 1000000000000000 ∧ v = Gm.q W h rest (bal * rate * n) ∧ r2 = Gm.r W h rest (bal * rate * n) ∧ Gm.may bal rate n := by
  unfold Gm.bear at hz ⊢
  split
  · rename_i h1
    rw [if_pos h1] at hz
    split
    · rename_i h2
      exact ⟨_, _, rfl, h2, rfl, rfl, h1⟩
    · rename_i h2
      rw [if_neg h2] at hz
      cases hz
  · rename_i h1
    rw [if_neg h1] at hz
    cases hz
/-- What nights hand back, or throw. -/
def nightsE (x : St × Int) (L : Option Addr) (lc : Nat) (D : Option Addr) (dc : Nat) : Ending := if x.2 = 0 then .returned (sv x.1 L lc D dc) else thrownE x.2
theorem nights_any (P : Pm.Prod) (A1 : Option Addr) (c1 : Nat) (A2 : Option Addr) (c2 : Nat) (A3 : Option Addr) (c3 : Nat) (s : St) (L : Option Addr) (lc : Nat) (D : Option Addr) (dc : Nat) (n : Int) (w : World) (h : mayE P s = 0) (h0 : 0 ≤ n) (hn : n ≤ 84370 - s.day) (hm : MAt w s.m D) :
    Calls Tryz.prog 37 #[pv P A1 c1 A2 c2 A3 c3, sv s L lc D dc, .int .i64 n] w fun e w' => e = nightsE (nightsB P s n) L lc D dc ∧ Below w.heap.size w w' := by
  obtain ⟨he, k1, k2, k3, k4, k5, k6, k7⟩ := mayE_zero h
  obtain ⟨hc, hr, -, hpen⟩ := err_shape he
  have hd : isDay s.day := ⟨by omega, by omega⟩
  have hd2 : isDay (s.day + n) := ⟨by omega, by omega⟩
  by_cases hz : (Gm.bear (Gm.whole P.count) (Gm.half P.count P.round) s.residue s.m.p s.rate (place P.count (s.day + n) - place P.count s.day)).2.1 = 0
  · obtain ⟨v, r2, hz', hv, ev, er, hmay⟩ := bear_ok hz
    by_cases hz2 : (Gm.bear (Gm.whole P.count) (Gm.half P.count P.round) s.fine (owedP s.m) P.penalty (place P.count (s.day + n) - place P.count s.day)).2.1 = 0
    · obtain ⟨v2, r4, hz2', hv2, ev2, er2, hmay2⟩ := bear_ok hz2
      have hW := Gm.whole_bd P.count
      have hH := Gm.half_bd P.count P.round
      have f1 : 0 ≤ v := by
        rw [ev]
        exact (Gm.step (by omega) (Int.mul_nonneg (Int.mul_nonneg hmay.1 hmay.2.2.1) hmay.2.2.2.2.1) (restOk_bd k1).1).1
      have f2 : 0 ≤ v2 := by
        rw [ev2]
        exact (Gm.step (by omega) (Int.mul_nonneg (Int.mul_nonneg hmay2.1 hmay2.2.2.1) hmay2.2.2.2.2.1) (restOk_bd k2).1).1
      have m1 := readM_flat k5 s.m.acc (by simp [Mny.flat])
      have m2 := readM_flat k5 s.m.earned (by simp [Mny.flat])
      have m3 := readM_flat k5 s.m.pen (by simp [Mny.flat])
      have m4 := readM_flat k5 s.m.fined (by simp [Mny.flat])
      have hw : IntKind.i64.wrap (s.m.acc + v) = s.m.acc + v ∧ IntKind.i64.wrap (s.m.earned + v) = s.m.earned + v ∧ IntKind.i64.wrap (s.m.pen + v2) = s.m.pen + v2 ∧ IntKind.i64.wrap (s.m.fined + v2) = s.m.fined + v2 :=
        ⟨IntWalk.i64_in _ (by omega), IntWalk.i64_in _ (by omega), IntWalk.i64_in _ (by omega), IntWalk.i64_in _ (by omega)⟩
      cases hR : (readM (mN s.m v v2)).isSome with
      | false =>
        refine (nights_wrong P A1 c1 A2 c2 A3 c3 s L lc D dc n w hc hr (restOk_bd k1) (restOk_bd k2) hd hd2 hm v r2 v2 r4 hz' hz2' hw hR).mono ?_
        rintro e w' ⟨rfl, hb⟩
        refine ⟨?_, hb⟩
        have e1 : nightsB P s n = (zeroS, 3) := by
          unfold nightsB
          rw [if_neg (fun h => h hz), if_neg (fun h => h hz2)]
          simp only [hz', hz2']
          rw [if_neg (by rw [hR]; decide)]
        rw [e1]
        rfl
      | true =>
        refine (nights_right P A1 c1 A2 c2 A3 c3 s L lc D dc n w hc hr (restOk_bd k1) (restOk_bd k2) hd hd2 hm v r2 v2 r4 hz' hz2' hw hR).mono ?_
        rintro e w' ⟨rfl, hb⟩
        refine ⟨?_, hb⟩
        have e1 : nightsB P s n = (sN s n v v2 r2 r4, 0) := by
          unfold nightsB
          rw [if_neg (fun h => h hz), if_neg (fun h => h hz2)]
          simp only [hz', hz2']
          rw [if_pos hR]
        rw [e1]
        rfl
    · refine (nights_range2 P A1 c1 A2 c2 A3 c3 s L lc D dc n w hc hr (restOk_bd k1) (restOk_bd k2) hd hd2 hm v r2 hz' hz2).mono ?_
      rintro e w' ⟨rfl, hb⟩
      refine ⟨?_, hb⟩
      have e1 : nightsB P s n = (zeroS, 3) := by
        unfold nightsB
        rw [if_neg (fun h => h hz), if_pos hz2]
      rw [e1]
      rfl
  · refine (nights_range1 P A1 c1 A2 c2 A3 c3 s L lc D dc n w hc hr (restOk_bd k1) (restOk_bd k2) hd hd2 hm hz).mono ?_
    rintro e w' ⟨rfl, hb⟩
    refine ⟨?_, hb⟩
    have e1 : nightsB P s n = (zeroS, 3) := by
      unfold nightsB
      rw [if_pos hz]
    rw [e1]
    rfl
theorem nightsB_lists (P : Pm.Prod) (s : St) (n : Int) (h : (nightsB P s n).2 = 0) : (nightsB P s n).1.plan = s.plan ∧ (nightsB P s n).1.m.dues = s.m.dues := by
  unfold nightsB at h ⊢
  split
  · rename_i h1; rw [if_pos h1] at h; cases h
  · rename_i h1
    rw [if_neg h1] at h
    split
    · rename_i h2; rw [if_pos h2] at h; cases h
    · rename_i h2
      rw [if_neg h2] at h
      simp only at h ⊢
      split
      · exact ⟨rfl, rfl⟩
      · rename_i h3; rw [if_neg h3] at h; cases h
theorem nightsB_zero (P : Pm.Prod) (s : St) (n : Int) (h : (nightsB P s n).2 ≠ 0) : (nightsB P s n).1 = zeroS := by
  unfold nightsB at h ⊢
  split
  · rfl
  · rename_i h1
    rw [if_neg h1] at h
    split
    · rfl
    · rename_i h2
      rw [if_neg h2] at h
      simp only at h ⊢
      split
      · rename_i h3; rw [if_pos h3] at h; exact absurd rfl h
      · rfl
end Go.Proofs.YtbbbjjfecblhpaaGreat.Nt
