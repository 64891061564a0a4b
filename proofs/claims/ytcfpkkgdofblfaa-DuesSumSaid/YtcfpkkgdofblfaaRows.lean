/-
  No cell of these rows narrows 'for every input' (looked for: loops, veiled, ifaces, maps, wideKeys, modest, calm, conditions, laid).
  DERIVED. THE GIVEN ROWS OF THIS SEAT. 8 by the template 'for every input the law returns true; each argument reads behind the call as it read before'; 0 by the template 'total and deterministic' (their statements: YtcfpkkgdofblfaaTotals.lean).
  GIVEN WITH THE SEED: the statements are not yours to turn. If you find one false, say at which input.
  Laid BY PROGRAM, IN A SANDBOX (cutbox-rows.mjs): the forced cells as the released guide's own fill.sh prints them over the translation ffc5b1b9fb09de92… (all of the seat's roots in one cut). By AI agents, Wed Nov 11 2026. No macro, syntax, notation, axiom, sorry.
-/
import Derived.Test.YtcfpkkgdofblfaaChecked
import GoSem.Claim
import GoSem.ClaimJoined
import GoSem.ClaimMapViews
import Derived.JoinedTies
import Derived.KernelRfl
namespace Go.Proofs.Ytcfpkkgdofblfaa
/- THE CELL 'sum', in the pinned program and in every row, IS THE sha256 OF THE DUMP (.gsa) THAT YtcfpkkgdofblfaaProg.lean LOADS. Nothing in Lean hashes anything: it is a label: what it is worth is what the hold of that sum in a sandbox is worth. -/
noncomputable def Try.pinned : Pinned := { name := "ytcfpkkgdofblfaa", sum := "ffc5b1b9fb09de9294b04d47c398ffe70a22ec30a02ee51fb4e54cb504c41bfa", checked := Try.checked }
namespace Rows
def none {H : Type} : Left H := { results := [], args := [] }

/-- 'quittancelaw11.DuesTell': WHATEVER THE INPUT: true; the input reads as it did. -/
def duesTellSpec : ChangeSpec := { name := "duesTell", fn := fun _ => fun
  | [d1, d2, d3] => { results := [.lit (.bool true)], args := [d1, d2, d3] }
  | _ => none }
def duesTellRow : OpenClaim := { program := "ytcfpkkgdofblfaa", sum := "ffc5b1b9fb09de9294b04d47c398ffe70a22ec30a02ee51fb4e54cb504c41bfa", func := "quittance/quittancelaw11.DuesTell", spec := "duesTell", inPlace := ["internal/bytealg.IndexByteString", "internal/bytealg.IndexString"], unfollowed := true, recurses := true, named := ["internal/bytealg.MaxLen"], apart := false }
def DuesTellSaid : Prop := duesTellRow.holds Try.pinned (OpenSpec.ofChange duesTellSpec)

/-- ITS FALSE NEIGHBOUR: 'it returns false'. Refute it at one input. -/
def duesTellWrong : ChangeSpec := { name := "duesTell", fn := fun _ => fun
  | [d1, d2, d3] => { results := [.lit (.bool false)], args := [d1, d2, d3] }
  | _ => none }
def DuesTellWrongFalsely : Prop := duesTellRow.holds Try.pinned (OpenSpec.ofChange duesTellWrong)

/-- 'quittancelaw11.DuesSum': WHATEVER THE INPUT: true; the input reads as it did. -/
def duesSumSpec : ChangeSpec := { name := "duesSum", fn := fun _ => fun
  | [d1, d2] => { results := [.lit (.bool true)], args := [d1, d2] }
  | _ => none }
def duesSumRow : OpenClaim := { program := "ytcfpkkgdofblfaa", sum := "ffc5b1b9fb09de9294b04d47c398ffe70a22ec30a02ee51fb4e54cb504c41bfa", func := "quittance/quittancelaw11.DuesSum", spec := "duesSum", inPlace := ["internal/bytealg.IndexByteString", "internal/bytealg.IndexString"], unfollowed := true, recurses := true, named := ["internal/bytealg.MaxLen"], apart := false }
def DuesSumSaid : Prop := duesSumRow.holds Try.pinned (OpenSpec.ofChange duesSumSpec)

/-- ITS FALSE NEIGHBOUR: 'it returns false'. Refute it at one input. -/
def duesSumWrong : ChangeSpec := { name := "duesSum", fn := fun _ => fun
  | [d1, d2] => { results := [.lit (.bool false)], args := [d1, d2] }
  | _ => none }
def DuesSumWrongFalsely : Prop := duesSumRow.holds Try.pinned (OpenSpec.ofChange duesSumWrong)

/-- 'quittancelaw11.DuesRefuse': WHATEVER THE INPUT: true; the input reads as it did. -/
def duesRefuseSpec : ChangeSpec := { name := "duesRefuse", fn := fun _ => fun
  | [d1, d2] => { results := [.lit (.bool true)], args := [d1, d2] }
  | _ => none }
def duesRefuseRow : OpenClaim := { program := "ytcfpkkgdofblfaa", sum := "ffc5b1b9fb09de9294b04d47c398ffe70a22ec30a02ee51fb4e54cb504c41bfa", func := "quittance/quittancelaw11.DuesRefuse", spec := "duesRefuse", inPlace := ["internal/bytealg.IndexByteString", "internal/bytealg.IndexString"], unfollowed := true, recurses := true, named := ["internal/bytealg.MaxLen"], apart := false }
def DuesRefuseSaid : Prop := duesRefuseRow.holds Try.pinned (OpenSpec.ofChange duesRefuseSpec)

/-- ITS FALSE NEIGHBOUR: 'it returns false'. Refute it at one input. -/
def duesRefuseWrong : ChangeSpec := { name := "duesRefuse", fn := fun _ => fun
  | [d1, d2] => { results := [.lit (.bool false)], args := [d1, d2] }
  | _ => none }
def DuesRefuseWrongFalsely : Prop := duesRefuseRow.holds Try.pinned (OpenSpec.ofChange duesRefuseWrong)

/-- 'quittancelaw13.LevelNothing': WHATEVER THE INPUT: true; the input reads as it did. -/
def levelNothingSpec : ChangeSpec := { name := "levelNothing", fn := fun _ => fun
  | [d1, d2, d3] => { results := [.lit (.bool true)], args := [d1, d2, d3] }
  | _ => none }
def levelNothingRow : OpenClaim := { program := "ytcfpkkgdofblfaa", sum := "ffc5b1b9fb09de9294b04d47c398ffe70a22ec30a02ee51fb4e54cb504c41bfa", func := "quittance/quittancelaw13.LevelNothing", spec := "levelNothing", inPlace := ["internal/bytealg.IndexByteString", "internal/bytealg.IndexString", "math/bits.Add64"], unfollowed := true, recurses := true, named := ["internal/bytealg.MaxLen", "math/bits.divideError", "math/bits.overflowError"], apart := false }
def LevelNothingSaid : Prop := levelNothingRow.holds Try.pinned (OpenSpec.ofChange levelNothingSpec)

/-- ITS FALSE NEIGHBOUR: 'it returns false'. Refute it at one input. -/
def levelNothingWrong : ChangeSpec := { name := "levelNothing", fn := fun _ => fun
  | [d1, d2, d3] => { results := [.lit (.bool false)], args := [d1, d2, d3] }
  | _ => none }
def LevelNothingWrongFalsely : Prop := levelNothingRow.holds Try.pinned (OpenSpec.ofChange levelNothingWrong)

/-- 'quittancelaw13.LevelTells': WHATEVER THE INPUT: true; the input reads as it did. -/
def levelTellsSpec : ChangeSpec := { name := "levelTells", fn := fun _ => fun
  | [d1, d2, d3, d4, d5] => { results := [.lit (.bool true)], args := [d1, d2, d3, d4, d5] }
  | _ => none }
def levelTellsRow : OpenClaim := { program := "ytcfpkkgdofblfaa", sum := "ffc5b1b9fb09de9294b04d47c398ffe70a22ec30a02ee51fb4e54cb504c41bfa", func := "quittance/quittancelaw13.LevelTells", spec := "levelTells", inPlace := ["internal/bytealg.IndexByteString", "internal/bytealg.IndexString", "math/bits.Add64"], unfollowed := true, recurses := true, named := ["internal/bytealg.MaxLen", "math/bits.divideError", "math/bits.overflowError"], apart := false }
def LevelTellsSaid : Prop := levelTellsRow.holds Try.pinned (OpenSpec.ofChange levelTellsSpec)

/-- ITS FALSE NEIGHBOUR: 'it returns false'. Refute it at one input. -/
def levelTellsWrong : ChangeSpec := { name := "levelTells", fn := fun _ => fun
  | [d1, d2, d3, d4, d5] => { results := [.lit (.bool false)], args := [d1, d2, d3, d4, d5] }
  | _ => none }
def LevelTellsWrongFalsely : Prop := levelTellsRow.holds Try.pinned (OpenSpec.ofChange levelTellsWrong)

/-- 'quittancelaw13.LevelLeast': WHATEVER THE INPUT: true; the input reads as it did. -/
def levelLeastSpec : ChangeSpec := { name := "levelLeast", fn := fun _ => fun
  | [d1, d2, d3] => { results := [.lit (.bool true)], args := [d1, d2, d3] }
  | _ => none }
def levelLeastRow : OpenClaim := { program := "ytcfpkkgdofblfaa", sum := "ffc5b1b9fb09de9294b04d47c398ffe70a22ec30a02ee51fb4e54cb504c41bfa", func := "quittance/quittancelaw13.LevelLeast", spec := "levelLeast", inPlace := ["internal/bytealg.IndexByteString", "internal/bytealg.IndexString", "math/bits.Add64"], unfollowed := true, recurses := true, named := ["internal/bytealg.MaxLen", "math/bits.divideError", "math/bits.overflowError"], apart := false }
def LevelLeastSaid : Prop := levelLeastRow.holds Try.pinned (OpenSpec.ofChange levelLeastSpec)

/-- ITS FALSE NEIGHBOUR: 'it returns false'. Refute it at one input. -/
def levelLeastWrong : ChangeSpec := { name := "levelLeast", fn := fun _ => fun
  | [d1, d2, d3] => { results := [.lit (.bool false)], args := [d1, d2, d3] }
  | _ => none }
def LevelLeastWrongFalsely : Prop := levelLeastRow.holds Try.pinned (OpenSpec.ofChange levelLeastWrong)

/-- 'quittancelaw13.LevelTimes': WHATEVER THE INPUT: true; the input reads as it did. -/
def levelTimesSpec : ChangeSpec := { name := "levelTimes", fn := fun _ => fun
  | [d1, d2] => { results := [.lit (.bool true)], args := [d1, d2] }
  | _ => none }
def levelTimesRow : OpenClaim := { program := "ytcfpkkgdofblfaa", sum := "ffc5b1b9fb09de9294b04d47c398ffe70a22ec30a02ee51fb4e54cb504c41bfa", func := "quittance/quittancelaw13.LevelTimes", spec := "levelTimes", inPlace := ["internal/bytealg.IndexByteString", "internal/bytealg.IndexString", "math/bits.Add64"], unfollowed := true, recurses := true, named := ["internal/bytealg.MaxLen", "math/bits.divideError", "math/bits.overflowError"], apart := false }
def LevelTimesSaid : Prop := levelTimesRow.holds Try.pinned (OpenSpec.ofChange levelTimesSpec)

/-- ITS FALSE NEIGHBOUR: 'it returns false'. Refute it at one input. -/
def levelTimesWrong : ChangeSpec := { name := "levelTimes", fn := fun _ => fun
  | [d1, d2] => { results := [.lit (.bool false)], args := [d1, d2] }
  | _ => none }
def LevelTimesWrongFalsely : Prop := levelTimesRow.holds Try.pinned (OpenSpec.ofChange levelTimesWrong)

/-- 'quittancelaw13.LevelRefuses': WHATEVER THE INPUT: true; the input reads as it did. -/
def levelRefusesSpec : ChangeSpec := { name := "levelRefuses", fn := fun _ => fun
  | [d] => { results := [.lit (.bool true)], args := [d] }
  | _ => none }
def levelRefusesRow : OpenClaim := { program := "ytcfpkkgdofblfaa", sum := "ffc5b1b9fb09de9294b04d47c398ffe70a22ec30a02ee51fb4e54cb504c41bfa", func := "quittance/quittancelaw13.LevelRefuses", spec := "levelRefuses", inPlace := ["internal/bytealg.IndexByteString", "internal/bytealg.IndexString", "math/bits.Add64"], unfollowed := true, recurses := true, named := ["internal/bytealg.MaxLen", "math/bits.divideError", "math/bits.overflowError"], apart := false }
def LevelRefusesSaid : Prop := levelRefusesRow.holds Try.pinned (OpenSpec.ofChange levelRefusesSpec)

/-- ITS FALSE NEIGHBOUR: 'it returns false'. Refute it at one input. -/
def levelRefusesWrong : ChangeSpec := { name := "levelRefuses", fn := fun _ => fun
  | [d] => { results := [.lit (.bool false)], args := [d] }
  | _ => none }
def LevelRefusesWrongFalsely : Prop := levelRefusesRow.holds Try.pinned (OpenSpec.ofChange levelRefusesWrong)

/- THE SECOND FORM. 'bulk': how many values and letters a reading holds, each counted each time it is reached (what is shared counts as often as it is met; a slice's spare places count too). A statement '..UptoSaid' is the law's where the arguments, and the package variables that the reading takes, are together of bulk at most 1048576: NARROWER than '..Said'. Prove '..Said' where nothing that the law and all that it calls make is longer than what came in: it says more and counts as full. Else prove '..UptoSaid'. A law counts once. -/
mutual
def uptoBulk {H : Type} : DataW H → Nat
  | .lit (.string bytes) => bytes.length + 1
  | .lit _ => 1
  | .nil => 1
  | .ptr d => uptoBulk d + 1
  | .slice elems spare => uptoBulkAll elems + uptoBulkAll spare + 1
  | .agg parts => uptoBulkAll parts + 1
  | .iface _ d => uptoBulk d + 1
  | .map entries => uptoBulkEntries entries + 1
  | .held _ => 1
def uptoBulkAll {H : Type} : List (DataW H) → Nat
  | [] => 0
  | d :: r => uptoBulk d + uptoBulkAll r
def uptoBulkEntries {H : Type} : List (Lit × DataW H) → Nat
  | [] => 0
  | x :: r => uptoBulkEntry x + uptoBulkEntries r
def uptoBulkEntry {H : Type} : Lit × DataW H → Nat
  | (.string bytes, d) => bytes.length + uptoBulk d + 1
  | (_, d) => uptoBulk d + 1
 end
def uptoSmall : (H : Type) → List (DataW H) → Bool := fun _ ds => decide (uptoBulkAll ds ≤ 1048576)
def OpenSpec.upto (s : _root_.Go.ChangeSpec) : _root_.Go.OpenSpec := { _root_.Go.OpenSpec.ofChange s with cond := some uptoSmall }

/-- 'quittancelaw11.DuesTell', WHERE WHAT IT READS IS OF BULK AT MOST 1048576: true; the input reads as it did. -/
def duesTellUptoRow : OpenClaim := { program := "ytcfpkkgdofblfaa", sum := "ffc5b1b9fb09de9294b04d47c398ffe70a22ec30a02ee51fb4e54cb504c41bfa", func := "quittance/quittancelaw11.DuesTell", spec := "duesTell", inPlace := ["internal/bytealg.IndexByteString", "internal/bytealg.IndexString"], unfollowed := true, recurses := true, named := ["internal/bytealg.MaxLen"], apart := false, narrowed := true }
def DuesTellUptoSaid : Prop := duesTellUptoRow.holds Try.pinned (OpenSpec.upto duesTellSpec)

/-- 'quittancelaw11.DuesSum', WHERE WHAT IT READS IS OF BULK AT MOST 1048576: true; the input reads as it did. -/
def duesSumUptoRow : OpenClaim := { program := "ytcfpkkgdofblfaa", sum := "ffc5b1b9fb09de9294b04d47c398ffe70a22ec30a02ee51fb4e54cb504c41bfa", func := "quittance/quittancelaw11.DuesSum", spec := "duesSum", inPlace := ["internal/bytealg.IndexByteString", "internal/bytealg.IndexString"], unfollowed := true, recurses := true, named := ["internal/bytealg.MaxLen"], apart := false, narrowed := true }
def DuesSumUptoSaid : Prop := duesSumUptoRow.holds Try.pinned (OpenSpec.upto duesSumSpec)

/-- 'quittancelaw11.DuesRefuse', WHERE WHAT IT READS IS OF BULK AT MOST 1048576: true; the input reads as it did. -/
def duesRefuseUptoRow : OpenClaim := { program := "ytcfpkkgdofblfaa", sum := "ffc5b1b9fb09de9294b04d47c398ffe70a22ec30a02ee51fb4e54cb504c41bfa", func := "quittance/quittancelaw11.DuesRefuse", spec := "duesRefuse", inPlace := ["internal/bytealg.IndexByteString", "internal/bytealg.IndexString"], unfollowed := true, recurses := true, named := ["internal/bytealg.MaxLen"], apart := false, narrowed := true }
def DuesRefuseUptoSaid : Prop := duesRefuseUptoRow.holds Try.pinned (OpenSpec.upto duesRefuseSpec)

/-- 'quittancelaw13.LevelNothing', WHERE WHAT IT READS IS OF BULK AT MOST 1048576: true; the input reads as it did. -/
def levelNothingUptoRow : OpenClaim := { program := "ytcfpkkgdofblfaa", sum := "ffc5b1b9fb09de9294b04d47c398ffe70a22ec30a02ee51fb4e54cb504c41bfa", func := "quittance/quittancelaw13.LevelNothing", spec := "levelNothing", inPlace := ["internal/bytealg.IndexByteString", "internal/bytealg.IndexString", "math/bits.Add64"], unfollowed := true, recurses := true, named := ["internal/bytealg.MaxLen", "math/bits.divideError", "math/bits.overflowError"], apart := false, narrowed := true }
def LevelNothingUptoSaid : Prop := levelNothingUptoRow.holds Try.pinned (OpenSpec.upto levelNothingSpec)

/-- 'quittancelaw13.LevelTells', WHERE WHAT IT READS IS OF BULK AT MOST 1048576: true; the input reads as it did. -/
def levelTellsUptoRow : OpenClaim := { program := "ytcfpkkgdofblfaa", sum := "ffc5b1b9fb09de9294b04d47c398ffe70a22ec30a02ee51fb4e54cb504c41bfa", func := "quittance/quittancelaw13.LevelTells", spec := "levelTells", inPlace := ["internal/bytealg.IndexByteString", "internal/bytealg.IndexString", "math/bits.Add64"], unfollowed := true, recurses := true, named := ["internal/bytealg.MaxLen", "math/bits.divideError", "math/bits.overflowError"], apart := false, narrowed := true }
def LevelTellsUptoSaid : Prop := levelTellsUptoRow.holds Try.pinned (OpenSpec.upto levelTellsSpec)

/-- 'quittancelaw13.LevelLeast', WHERE WHAT IT READS IS OF BULK AT MOST 1048576: true; the input reads as it did. -/
def levelLeastUptoRow : OpenClaim := { program := "ytcfpkkgdofblfaa", sum := "ffc5b1b9fb09de9294b04d47c398ffe70a22ec30a02ee51fb4e54cb504c41bfa", func := "quittance/quittancelaw13.LevelLeast", spec := "levelLeast", inPlace := ["internal/bytealg.IndexByteString", "internal/bytealg.IndexString", "math/bits.Add64"], unfollowed := true, recurses := true, named := ["internal/bytealg.MaxLen", "math/bits.divideError", "math/bits.overflowError"], apart := false, narrowed := true }
def LevelLeastUptoSaid : Prop := levelLeastUptoRow.holds Try.pinned (OpenSpec.upto levelLeastSpec)

/-- 'quittancelaw13.LevelTimes', WHERE WHAT IT READS IS OF BULK AT MOST 1048576: true; the input reads as it did. -/
def levelTimesUptoRow : OpenClaim := { program := "ytcfpkkgdofblfaa", sum := "ffc5b1b9fb09de9294b04d47c398ffe70a22ec30a02ee51fb4e54cb504c41bfa", func := "quittance/quittancelaw13.LevelTimes", spec := "levelTimes", inPlace := ["internal/bytealg.IndexByteString", "internal/bytealg.IndexString", "math/bits.Add64"], unfollowed := true, recurses := true, named := ["internal/bytealg.MaxLen", "math/bits.divideError", "math/bits.overflowError"], apart := false, narrowed := true }
def LevelTimesUptoSaid : Prop := levelTimesUptoRow.holds Try.pinned (OpenSpec.upto levelTimesSpec)

/-- 'quittancelaw13.LevelRefuses', WHERE WHAT IT READS IS OF BULK AT MOST 1048576: true; the input reads as it did. -/
def levelRefusesUptoRow : OpenClaim := { program := "ytcfpkkgdofblfaa", sum := "ffc5b1b9fb09de9294b04d47c398ffe70a22ec30a02ee51fb4e54cb504c41bfa", func := "quittance/quittancelaw13.LevelRefuses", spec := "levelRefuses", inPlace := ["internal/bytealg.IndexByteString", "internal/bytealg.IndexString", "math/bits.Add64"], unfollowed := true, recurses := true, named := ["internal/bytealg.MaxLen", "math/bits.divideError", "math/bits.overflowError"], apart := false, narrowed := true }
def LevelRefusesUptoSaid : Prop := levelRefusesUptoRow.holds Try.pinned (OpenSpec.upto levelRefusesSpec)

end Rows
end Go.Proofs.Ytcfpkkgdofblfaa
