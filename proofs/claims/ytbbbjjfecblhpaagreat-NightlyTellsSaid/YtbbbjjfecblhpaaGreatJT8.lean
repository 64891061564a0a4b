/- Texts of this claim, joined in build order. -/
import Derived.RowKit
import Derived.Below
import Derived.Test.YtbbbjjfecblhpaaGreatProg
import Derived.Deep.Draws
import Derived.Deep.AppendLies
import Derived.Maps.AppendAt
import Derived.OwnWalk
import Derived.Laws.BytesArg
import Derived.Laws.MakeOwn
import Derived.Laws.OwnMore
import Derived.Tactics
import Derived.Lib.ConvBytes
import Derived.Laws.Slices
import Derived.WalkKit
import Derived.KernelRfl
import Derived.RowKit3
import Derived.Deep.LoopGhost
import Derived.Deep.QuietTactic
import Derived.BigQuiet
import Derived.WideLaws
import Derived.Deep.DeepCutAuto
import Derived.Deep.CutBlock
import Derived.Deep.RegionHeld3
import Derived.Lib.AppendStr
import Derived.ArgAppend
import Derived.Laws.IdiomCopy
import Derived.OrdersHeld
import Derived.Laws.BitsLemmas
import Derived.Laws.StructEq
import Derived.WalkLawsBesides
import Derived.WalkSpells
import Derived.Lib.IndexMore
import Derived.Deep.Slices
import Derived.Deep.Fields
import Derived.ChangeSame
import Derived.Lib.SmallJoins
import Derived.ProofKit
import Derived.Defers
import Derived.Laws.Tables
import Derived.Deep.WholeRow
import Derived.Recover
import Derived.StillTailTactics
import Derived.SizedLaws
import Derived.ChangeSlices
import Derived.IntWalk
import Derived.Shelf.Small.Bits
import Derived.Shelf.Strconv.Itoa0
import Derived.Shelf.Strings.Search1
import Derived.Shelf.Strings.Search2
import Derived.Shelf.Strings.Search3
import Derived.Shelf.LaysM
import Derived.Shelf.Strings.Shaped
import Derived.Shelf.Bits.Mul64
import Derived.Ground.Names2Prog
import Derived.Shelf.Slices.Clone
import Derived.Ground.SlgnProg
import Derived.Shelf.SlicesE.Clone
import Derived.Lib.SlBytesConst
import Derived.Deep.RegionWith
import Derived.Lib.Hide
import Derived.BigFrame
import Derived.Deep.MidRow
import Derived.Lib.BitFns
import Derived.Laws.BitsAllLaws
import Derived.Laws.Externs
import Derived.RegionTactic
import Derived.Laws.AppendOwnNone
import Derived.OpenShut
import Derived.ShutString
import Derived.ChangeOld
import Derived.Laws.IdiomArrays
import Derived.HandedShaped
import Derived.Shelf.Vars
import Derived.Test.YtbbbjjfecblhpaaGreatJT1
import Derived.Test.YtbbbjjfecblhpaaGreatJT2
import Derived.Test.YtbbbjjfecblhpaaGreatJT3
import Derived.Test.YtbbbjjfecblhpaaGreatJT4
import Derived.Test.YtbbbjjfecblhpaaGreatJT5
import Derived.Test.YtbbbjjfecblhpaaGreatJT6
import Derived.Test.YtbbbjjfecblhpaaGreatJT7
set_option linter.unusedVariables false
set_option linter.unusedSimpArgs false
/- A product handed in is within the reach: its name, its rows. -/
namespace Go.Proofs.YtbbbjjfecblhpaaGreat.Pd
open Go.ChangeShapes Go.WideShapes Go.Deep Go.RowKit Go.Joins Go.ChangeAt Go.Proofs.YtbbbjjfecblhpaaGreatW.PrintWords Go.Proofs.YtbbbjjfecblhpaaGreat.Op
open Pm
set_option linter.unusedVariables false
set_option linter.unusedSimpArgs false
section
variable {H : Type} {enc : TypeId × Value → H} {P : Program} {w : World} {base : Nat} {spare : Nat → Bool} {held : Bool}
theorem slice_weight {t e : TypeId} {fuel : Nat} {A : Option Addr} {n c : Nat} {y : DataW H × List MemPlace} (ht : P.underlying t = some (.slice e)) (h : DataW.trod enc P w base spare held fuel t [.slice A n c] = some y) (hb : 0 < P.bytesOf e)
    (hw : ∀ k ∈ y.1.weights P t, k ≤ reachBytes) : n ≤ reachBytes := by
  rcases open_slice ht h with ⟨h0, -⟩ | ⟨a, len, cap, m, n', D, Pl, hcs, -, -, -, -, hx, -⟩
  · simp at h0
    omega
  · simp at hcs
    obtain ⟨-, rfl, -⟩ := hcs
    subst hx
    have := hw ((((List.range n).map D).length + ((List.range (m - n)).map fun j => D (n + j)).length) * P.bytesOf e) (by simp [DataW.weights, ht])
    rw [List.length_map, List.length_range] at this
    have h2 : n * 1 ≤ (n + ((List.range (m - n)).map fun j => D (n + j)).length) * P.bytesOf e := Nat.mul_le_mul (by omega) hb
    omega
theorem string_weight {t : TypeId} {fuel : Nat} {s : ByteArray} {y : DataW H × List MemPlace} (ht : P.underlying t = some .string) (h : DataW.trod enc P w base spare held fuel t [.string s] = some y)
    (hw : ∀ k ∈ y.1.weights P t, k ≤ reachBytes) : s.size ≤ reachBytes := by
  cases fuel with
  | zero => simp [DataW.trod] at h
  | succ n =>
    simp [DataW.trod, ht] at h
    obtain ⟨-, rfl⟩ := h
    have := hw s.data.toList.length (by simp [DataW.weights])
    exact this
end
theorem prod_sized {H : Type} {enc : TypeId × Value → H} {w : World} {base : Nat} {held : Bool} {p : Prod} {A1 : Option Addr} {c1 : Nat} {A2 : Option Addr} {c2 : Nat} {A3 : Option Addr} {c3 : Nat} {d : DataW H} {q : List MemPlace}
    (h : DataW.Trod enc Tryz.prog w base (fun _ => true) held 27 (pv p A1 c1 A2 c2 A3 c3) d q) (hw : ∀ k ∈ d.weights Tryz.prog 27, k ≤ reachBytes) : Held p := by
  obtain ⟨fuel, hf⟩ := h
  obtain ⟨xs, n, _, hx, hl, hlen, hfl⟩ := DataW.trod_struct Tryz.underlying27 hf
  have hy : ∀ i, i < 16 → ∃ y, xs[i]? = some y := fun i hi => ⟨_, List.getElem?_eq_getElem (by rw [hlen]; exact hi)⟩
  obtain rfl : d = .agg (xs.map (·.1)) := (Prod.mk.inj hx).1
  have part : ∀ (i : Nat) (f : Field) (y : DataW H × List MemPlace), (Tryz.prog.underlying 27).bind (fun t => match t with | .struct fs => fs[i]? | _ => none) = some f → xs[i]? = some y → ∀ k ∈ y.1.weights Tryz.prog f.type, k ≤ reachBytes := by
    intro i f y hfi hyi k hk
    refine hw k ?_
    rw [Tryz.underlying27] at hfi
    simp only [DataW.weights, Tryz.underlying27]
    refine DataW.weights_mem_each (j := i) (t := f.type) (d := y.1) ?_ (by simp [hyi]) k hk
    simp only [Option.bind_some] at hfi
    rw [List.getElem?_map, Array.getElem?_toList, hfi]
    rfl
  have rb : reachBytes ≤ 140737488351232 := by decide
  obtain ⟨y0, e0⟩ := hy 0 (by decide)
  have g0 := (hfl 0 _ rfl).trans e0
  have k0 : DataW.trod enc Tryz.prog w base (fun _ => true) held n 9 [.string p.name] = some y0 := by rw [← g0]; show _ = DataW.trod _ _ _ _ _ _ _ 9 ((List.drop 0 _).take (Tryz.prog.cellsOf 9)); rw [cells_string]; rfl
  obtain ⟨y8, e8⟩ := hy 8 (by decide)
  have g8 := (hfl 8 _ rfl).trans e8
  have k8 : DataW.trod enc Tryz.prog w base (fun _ => true) held n 22 [.slice A1 p.resets.length c1] = some y8 := by rw [← g8]; show _ = DataW.trod _ _ _ _ _ _ _ 22 ((List.drop 8 _).take (Tryz.prog.cellsOf 22)); rw [cells_resets]; rfl
  obtain ⟨y12, e12⟩ := hy 12 (by decide)
  have g12 := (hfl 12 _ rfl).trans e12
  have k12 : DataW.trod enc Tryz.prog w base (fun _ => true) held n 24 [.slice A2 p.late.length c2] = some y12 := by rw [← g12]; show _ = DataW.trod _ _ _ _ _ _ _ 24 ((List.drop 15 _).take (Tryz.prog.cellsOf 24)); rw [cells_tiers]; rfl
  obtain ⟨y15, e15⟩ := hy 15 (by decide)
  have g15 := (hfl 15 _ rfl).trans e15
  have k15 : DataW.trod enc Tryz.prog w base (fun _ => true) held n 25 [.slice A3 p.hol.length c3] = some y15 := by rw [← g15]; show _ = DataW.trod _ _ _ _ _ _ _ 25 ((List.drop 18 _).take (Tryz.prog.cellsOf 25)); rw [cells_ints]; rfl
  have w0 := string_weight Tryz.underlying9 k0 (part 0 _ y0 (by rw [Tryz.underlying27]; rfl) e0)
  have w8 := slice_weight Tryz.underlying22 k8 (by decide +kernel) (part 8 _ y8 (by rw [Tryz.underlying27]; rfl) e8)
  have w12 := slice_weight Tryz.underlying24 k12 (by decide +kernel) (part 12 _ y12 (by rw [Tryz.underlying27]; rfl) e12)
  have w15 := slice_weight Tryz.underlying25 k15 (by decide +kernel) (part 15 _ y15 (by rw [Tryz.underlying27]; rfl) e15)
  exact ⟨by omega, by omega, by omega, by omega⟩
end Go.Proofs.YtbbbjjfecblhpaaGreat.Pd
