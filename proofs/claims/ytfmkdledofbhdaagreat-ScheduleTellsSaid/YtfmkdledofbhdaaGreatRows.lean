/-
  No cell of these rows narrows 'for every input' (looked for: loops, veiled, ifaces, maps, wideKeys, modest, calm, conditions, laid).
  DERIVED. THE GIVEN ROWS OF THIS SEAT. 2 by the template 'for every input the law returns true; each argument reads behind the call as it read before'; 0 by the template 'total and deterministic' (their statements: YtfmkdledofbhdaaGreatTotals.lean).
  GIVEN WITH THE SEED: the statements are not yours to turn. If you find one false, say at which input.
  Laid BY PROGRAM, IN A SANDBOX (cutbox-rows.mjs): the forced cells as the released guide's own fill.sh prints them over the translation 30a1dbb24608f1b1… (all of the seat's roots in one cut). By AI agents, Wed Nov 11 2026. No macro, syntax, notation, axiom, sorry.
-/
import Derived.Test.YtfmkdledofbhdaaGreatChecked
import GoSem.Claim
import GoSem.ClaimJoined
import GoSem.ClaimMapViews
import Derived.JoinedTies
import Derived.KernelRfl
namespace Go.Proofs.YtfmkdledofbhdaaGreat
/- THE CELL 'sum', in the pinned program and in every row, IS THE sha256 OF THE DUMP (.gsa) THAT YtfmkdledofbhdaaGreatProg.lean LOADS. Nothing in Lean hashes anything: it is a label: what it is worth is what the hold of that sum in a sandbox is worth. -/
noncomputable def Tryz.pinned : Pinned := { name := "ytfmkdledofbhdaagreat", sum := "30a1dbb24608f1b19841ba38c770fc72735feb4826fe532f40c1827e5c0da553", checked := Tryz.checked }
namespace Rows
def none {H : Type} : Left H := { results := [], args := [] }

/-- 'quittancelaw14.ScheduleTells': WHATEVER THE INPUT: true; the input reads as it did. -/
def scheduleTellsSpec : ChangeSpec := { name := "scheduleTells", fn := fun _ => fun
  | [d1, d2, d3, d4] => { results := [.lit (.bool true)], args := [d1, d2, d3, d4] }
  | _ => none }
def scheduleTellsRow : OpenClaim := { program := "ytfmkdledofbhdaagreat", sum := "30a1dbb24608f1b19841ba38c770fc72735feb4826fe532f40c1827e5c0da553", func := "quittance/quittancelaw14.ScheduleTells", spec := "scheduleTells", inPlace := ["internal/bytealg.IndexByteString", "internal/bytealg.IndexString", "math/bits.Add64"], unfollowed := true, recurses := true, named := ["internal/bytealg.MaxLen", "math/bits.divideError", "math/bits.overflowError"], apart := false }
def ScheduleTellsSaid : Prop := scheduleTellsRow.holds Tryz.pinned (OpenSpec.ofChange scheduleTellsSpec)

/-- ITS FALSE NEIGHBOUR: 'it returns false'. Refute it at one input. -/
def scheduleTellsWrong : ChangeSpec := { name := "scheduleTells", fn := fun _ => fun
  | [d1, d2, d3, d4] => { results := [.lit (.bool false)], args := [d1, d2, d3, d4] }
  | _ => none }
def ScheduleTellsWrongFalsely : Prop := scheduleTellsRow.holds Tryz.pinned (OpenSpec.ofChange scheduleTellsWrong)

/-- 'quittancelaw14.ScheduleInterest': WHATEVER THE INPUT: true; the input reads as it did. -/
def scheduleInterestSpec : ChangeSpec := { name := "scheduleInterest", fn := fun _ => fun
  | [d1, d2] => { results := [.lit (.bool true)], args := [d1, d2] }
  | _ => none }
def scheduleInterestRow : OpenClaim := { program := "ytfmkdledofbhdaagreat", sum := "30a1dbb24608f1b19841ba38c770fc72735feb4826fe532f40c1827e5c0da553", func := "quittance/quittancelaw14.ScheduleInterest", spec := "scheduleInterest", inPlace := ["internal/bytealg.IndexByteString", "internal/bytealg.IndexString", "math/bits.Add64"], unfollowed := true, recurses := true, named := ["internal/bytealg.MaxLen", "math/bits.divideError", "math/bits.overflowError"], apart := false }
def ScheduleInterestSaid : Prop := scheduleInterestRow.holds Tryz.pinned (OpenSpec.ofChange scheduleInterestSpec)

/-- ITS FALSE NEIGHBOUR: 'it returns false'. Refute it at one input. -/
def scheduleInterestWrong : ChangeSpec := { name := "scheduleInterest", fn := fun _ => fun
  | [d1, d2] => { results := [.lit (.bool false)], args := [d1, d2] }
  | _ => none }
def ScheduleInterestWrongFalsely : Prop := scheduleInterestRow.holds Tryz.pinned (OpenSpec.ofChange scheduleInterestWrong)

/- THE SECOND FORM. 'bulk': how many values and letters a reading holds, each counted each time it is reached (what is shared counts as often as it is met; a slice's spare places count too). A statement '..UptoSaid' is the law's where the arguments, and the package variables that the reading takes, are together of bulk at most 1048576: NARROWER than '..Said'. Prove '..Said' where nothing that the law and all that it calls make is longer than what came in: it says more and counts as full. Else prove '..UptoSaid'. A law counts once. -/
mutual
def uptoBulk {H : Type} : DataW H → Nat
  | .lit (.string bytes) => bytes.length + 1
  | .lit _ => 1
  | .nil => 1
  | .ptr d => uptoBulk d + 1
  | .slice elems spare => uptoBulkAll elems + uptoBulkAll spare + 1
  | .agg parts => uptoBulkAll parts + 1
  | .iface _ d => uptoBulk d + 1
  | .map entries => uptoBulkEntries entries + 1
  | .held _ => 1
def uptoBulkAll {H : Type} : List (DataW H) → Nat
  | [] => 0
  | d :: r => uptoBulk d + uptoBulkAll r
def uptoBulkEntries {H : Type} : List (Lit × DataW H) → Nat
  | [] => 0
  | x :: r => uptoBulkEntry x + uptoBulkEntries r
def uptoBulkEntry {H : Type} : Lit × DataW H → Nat
  | (.string bytes, d) => bytes.length + uptoBulk d + 1
  | (_, d) => uptoBulk d + 1
 end
def uptoSmall : (H : Type) → List (DataW H) → Bool := fun _ ds => decide (uptoBulkAll ds ≤ 1048576)
def OpenSpec.upto (s : _root_.Go.ChangeSpec) : _root_.Go.OpenSpec := { _root_.Go.OpenSpec.ofChange s with cond := some uptoSmall }

/-- 'quittancelaw14.ScheduleTells', WHERE WHAT IT READS IS OF BULK AT MOST 1048576: true; the input reads as it did. -/
def scheduleTellsUptoRow : OpenClaim := { program := "ytfmkdledofbhdaagreat", sum := "30a1dbb24608f1b19841ba38c770fc72735feb4826fe532f40c1827e5c0da553", func := "quittance/quittancelaw14.ScheduleTells", spec := "scheduleTells", inPlace := ["internal/bytealg.IndexByteString", "internal/bytealg.IndexString", "math/bits.Add64"], unfollowed := true, recurses := true, named := ["internal/bytealg.MaxLen", "math/bits.divideError", "math/bits.overflowError"], apart := false, narrowed := true }
def ScheduleTellsUptoSaid : Prop := scheduleTellsUptoRow.holds Tryz.pinned (OpenSpec.upto scheduleTellsSpec)

/-- 'quittancelaw14.ScheduleInterest', WHERE WHAT IT READS IS OF BULK AT MOST 1048576: true; the input reads as it did. -/
def scheduleInterestUptoRow : OpenClaim := { program := "ytfmkdledofbhdaagreat", sum := "30a1dbb24608f1b19841ba38c770fc72735feb4826fe532f40c1827e5c0da553", func := "quittance/quittancelaw14.ScheduleInterest", spec := "scheduleInterest", inPlace := ["internal/bytealg.IndexByteString", "internal/bytealg.IndexString", "math/bits.Add64"], unfollowed := true, recurses := true, named := ["internal/bytealg.MaxLen", "math/bits.divideError", "math/bits.overflowError"], apart := false, narrowed := true }
def ScheduleInterestUptoSaid : Prop := scheduleInterestUptoRow.holds Tryz.pinned (OpenSpec.upto scheduleInterestSpec)

end Rows
end Go.Proofs.YtfmkdledofbhdaaGreat
