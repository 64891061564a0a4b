/-
  No cell of these rows narrows 'for every input' (looked for: loops, veiled, ifaces, maps, wideKeys, modest, calm, conditions, laid).
  DERIVED. THE GIVEN ROWS OF THIS SEAT. 7 by the template 'for every input the law returns true; each argument reads behind the call as it read before'; 0 by the template 'total and deterministic' (their statements: YtfmkdledofbhdaaTotals.lean).
  GIVEN WITH THE SEED: the statements are not yours to turn. If you find one false, say at which input.
  Laid BY PROGRAM, IN A SANDBOX (cutbox-rows.mjs): the forced cells as the released guide's own fill.sh prints them over the translation c3814a0d85432527… (all of the seat's roots in one cut). By AI agents, Wed Nov 11 2026. No macro, syntax, notation, axiom, sorry.
-/
import Derived.Test.YtfmkdledofbhdaaChecked
import GoSem.Claim
import GoSem.ClaimJoined
import GoSem.ClaimMapViews
import Derived.JoinedTies
import Derived.KernelRfl
namespace Go.Proofs.Ytfmkdledofbhdaa
/- THE CELL 'sum', in the pinned program and in every row, IS THE sha256 OF THE DUMP (.gsa) THAT YtfmkdledofbhdaaProg.lean LOADS. Nothing in Lean hashes anything: it is a label: what it is worth is what the hold of that sum in a sandbox is worth. -/
noncomputable def Try.pinned : Pinned := { name := "ytfmkdledofbhdaa", sum := "c3814a0d85432527d27eaa71aaa1c183c7d2f41105c37c3935ea8ea5c22595d7", checked := Try.checked }
namespace Rows
def none {H : Type} : Left H := { results := [], args := [] }

/-- 'quittancelaw14.ScheduleSums': WHATEVER THE INPUT: true; the input reads as it did. -/
def scheduleSumsSpec : ChangeSpec := { name := "scheduleSums", fn := fun _ => fun
  | [d1, d2] => { results := [.lit (.bool true)], args := [d1, d2] }
  | _ => none }
def scheduleSumsRow : OpenClaim := { program := "ytfmkdledofbhdaa", sum := "c3814a0d85432527d27eaa71aaa1c183c7d2f41105c37c3935ea8ea5c22595d7", func := "quittance/quittancelaw14.ScheduleSums", spec := "scheduleSums", inPlace := ["internal/bytealg.IndexByteString", "internal/bytealg.IndexString", "math/bits.Add64"], unfollowed := true, recurses := true, named := ["internal/bytealg.MaxLen", "math/bits.divideError", "math/bits.overflowError"], apart := false }
def ScheduleSumsSaid : Prop := scheduleSumsRow.holds Try.pinned (OpenSpec.ofChange scheduleSumsSpec)

/-- ITS FALSE NEIGHBOUR: 'it returns false'. Refute it at one input. -/
def scheduleSumsWrong : ChangeSpec := { name := "scheduleSums", fn := fun _ => fun
  | [d1, d2] => { results := [.lit (.bool false)], args := [d1, d2] }
  | _ => none }
def ScheduleSumsWrongFalsely : Prop := scheduleSumsRow.holds Try.pinned (OpenSpec.ofChange scheduleSumsWrong)

/-- 'quittancelaw14.ScheduleEqual': WHATEVER THE INPUT: true; the input reads as it did. -/
def scheduleEqualSpec : ChangeSpec := { name := "scheduleEqual", fn := fun _ => fun
  | [d1, d2, d3, d4] => { results := [.lit (.bool true)], args := [d1, d2, d3, d4] }
  | _ => none }
def scheduleEqualRow : OpenClaim := { program := "ytfmkdledofbhdaa", sum := "c3814a0d85432527d27eaa71aaa1c183c7d2f41105c37c3935ea8ea5c22595d7", func := "quittance/quittancelaw14.ScheduleEqual", spec := "scheduleEqual", inPlace := ["internal/bytealg.IndexByteString", "internal/bytealg.IndexString", "math/bits.Add64"], unfollowed := true, recurses := true, named := ["internal/bytealg.MaxLen", "math/bits.divideError", "math/bits.overflowError"], apart := false }
def ScheduleEqualSaid : Prop := scheduleEqualRow.holds Try.pinned (OpenSpec.ofChange scheduleEqualSpec)

/-- ITS FALSE NEIGHBOUR: 'it returns false'. Refute it at one input. -/
def scheduleEqualWrong : ChangeSpec := { name := "scheduleEqual", fn := fun _ => fun
  | [d1, d2, d3, d4] => { results := [.lit (.bool false)], args := [d1, d2, d3, d4] }
  | _ => none }
def ScheduleEqualWrongFalsely : Prop := scheduleEqualRow.holds Try.pinned (OpenSpec.ofChange scheduleEqualWrong)

/-- 'quittancelaw14.ScheduleLonger': WHATEVER THE INPUT: true; the input reads as it did. -/
def scheduleLongerSpec : ChangeSpec := { name := "scheduleLonger", fn := fun _ => fun
  | [d1, d2, d3, d4] => { results := [.lit (.bool true)], args := [d1, d2, d3, d4] }
  | _ => none }
def scheduleLongerRow : OpenClaim := { program := "ytfmkdledofbhdaa", sum := "c3814a0d85432527d27eaa71aaa1c183c7d2f41105c37c3935ea8ea5c22595d7", func := "quittance/quittancelaw14.ScheduleLonger", spec := "scheduleLonger", inPlace := ["internal/bytealg.IndexByteString", "internal/bytealg.IndexString", "math/bits.Add64"], unfollowed := true, recurses := true, named := ["internal/bytealg.MaxLen", "math/bits.divideError", "math/bits.overflowError"], apart := false }
def ScheduleLongerSaid : Prop := scheduleLongerRow.holds Try.pinned (OpenSpec.ofChange scheduleLongerSpec)

/-- ITS FALSE NEIGHBOUR: 'it returns false'. Refute it at one input. -/
def scheduleLongerWrong : ChangeSpec := { name := "scheduleLonger", fn := fun _ => fun
  | [d1, d2, d3, d4] => { results := [.lit (.bool false)], args := [d1, d2, d3, d4] }
  | _ => none }
def ScheduleLongerWrongFalsely : Prop := scheduleLongerRow.holds Try.pinned (OpenSpec.ofChange scheduleLongerWrong)

/-- 'quittancelaw14.ScheduleRefuses': WHATEVER THE INPUT: true; the input reads as it did. -/
def scheduleRefusesSpec : ChangeSpec := { name := "scheduleRefuses", fn := fun _ => fun
  | [d] => { results := [.lit (.bool true)], args := [d] }
  | _ => none }
def scheduleRefusesRow : OpenClaim := { program := "ytfmkdledofbhdaa", sum := "c3814a0d85432527d27eaa71aaa1c183c7d2f41105c37c3935ea8ea5c22595d7", func := "quittance/quittancelaw14.ScheduleRefuses", spec := "scheduleRefuses", inPlace := ["internal/bytealg.IndexByteString", "internal/bytealg.IndexString", "math/bits.Add64"], unfollowed := true, recurses := true, named := ["internal/bytealg.MaxLen", "math/bits.divideError", "math/bits.overflowError"], apart := false }
def ScheduleRefusesSaid : Prop := scheduleRefusesRow.holds Try.pinned (OpenSpec.ofChange scheduleRefusesSpec)

/-- ITS FALSE NEIGHBOUR: 'it returns false'. Refute it at one input. -/
def scheduleRefusesWrong : ChangeSpec := { name := "scheduleRefuses", fn := fun _ => fun
  | [d] => { results := [.lit (.bool false)], args := [d] }
  | _ => none }
def ScheduleRefusesWrongFalsely : Prop := scheduleRefusesRow.holds Try.pinned (OpenSpec.ofChange scheduleRefusesWrong)

/-- 'quittancelaw11.DuesTell': WHATEVER THE INPUT: true; the input reads as it did. -/
def duesTellSpec : ChangeSpec := { name := "duesTell", fn := fun _ => fun
  | [d1, d2, d3] => { results := [.lit (.bool true)], args := [d1, d2, d3] }
  | _ => none }
def duesTellRow : OpenClaim := { program := "ytfmkdledofbhdaa", sum := "c3814a0d85432527d27eaa71aaa1c183c7d2f41105c37c3935ea8ea5c22595d7", func := "quittance/quittancelaw11.DuesTell", spec := "duesTell", inPlace := ["internal/bytealg.IndexByteString", "internal/bytealg.IndexString"], unfollowed := true, recurses := true, named := ["internal/bytealg.MaxLen"], apart := false }
def DuesTellSaid : Prop := duesTellRow.holds Try.pinned (OpenSpec.ofChange duesTellSpec)

/-- ITS FALSE NEIGHBOUR: 'it returns false'. Refute it at one input. -/
def duesTellWrong : ChangeSpec := { name := "duesTell", fn := fun _ => fun
  | [d1, d2, d3] => { results := [.lit (.bool false)], args := [d1, d2, d3] }
  | _ => none }
def DuesTellWrongFalsely : Prop := duesTellRow.holds Try.pinned (OpenSpec.ofChange duesTellWrong)

/-- 'quittancelaw13.LevelTells': WHATEVER THE INPUT: true; the input reads as it did. -/
def levelTellsSpec : ChangeSpec := { name := "levelTells", fn := fun _ => fun
  | [d1, d2, d3, d4, d5] => { results := [.lit (.bool true)], args := [d1, d2, d3, d4, d5] }
  | _ => none }
def levelTellsRow : OpenClaim := { program := "ytfmkdledofbhdaa", sum := "c3814a0d85432527d27eaa71aaa1c183c7d2f41105c37c3935ea8ea5c22595d7", func := "quittance/quittancelaw13.LevelTells", spec := "levelTells", inPlace := ["internal/bytealg.IndexByteString", "internal/bytealg.IndexString", "math/bits.Add64"], unfollowed := true, recurses := true, named := ["internal/bytealg.MaxLen", "math/bits.divideError", "math/bits.overflowError"], apart := false }
def LevelTellsSaid : Prop := levelTellsRow.holds Try.pinned (OpenSpec.ofChange levelTellsSpec)

/-- ITS FALSE NEIGHBOUR: 'it returns false'. Refute it at one input. -/
def levelTellsWrong : ChangeSpec := { name := "levelTells", fn := fun _ => fun
  | [d1, d2, d3, d4, d5] => { results := [.lit (.bool false)], args := [d1, d2, d3, d4, d5] }
  | _ => none }
def LevelTellsWrongFalsely : Prop := levelTellsRow.holds Try.pinned (OpenSpec.ofChange levelTellsWrong)

/-- 'quittancelaw13.LevelLeast': WHATEVER THE INPUT: true; the input reads as it did. -/
def levelLeastSpec : ChangeSpec := { name := "levelLeast", fn := fun _ => fun
  | [d1, d2, d3] => { results := [.lit (.bool true)], args := [d1, d2, d3] }
  | _ => none }
def levelLeastRow : OpenClaim := { program := "ytfmkdledofbhdaa", sum := "c3814a0d85432527d27eaa71aaa1c183c7d2f41105c37c3935ea8ea5c22595d7", func := "quittance/quittancelaw13.LevelLeast", spec := "levelLeast", inPlace := ["internal/bytealg.IndexByteString", "internal/bytealg.IndexString", "math/bits.Add64"], unfollowed := true, recurses := true, named := ["internal/bytealg.MaxLen", "math/bits.divideError", "math/bits.overflowError"], apart := false }
def LevelLeastSaid : Prop := levelLeastRow.holds Try.pinned (OpenSpec.ofChange levelLeastSpec)

/-- ITS FALSE NEIGHBOUR: 'it returns false'. Refute it at one input. -/
def levelLeastWrong : ChangeSpec := { name := "levelLeast", fn := fun _ => fun
  | [d1, d2, d3] => { results := [.lit (.bool false)], args := [d1, d2, d3] }
  | _ => none }
def LevelLeastWrongFalsely : Prop := levelLeastRow.holds Try.pinned (OpenSpec.ofChange levelLeastWrong)

/- THE SECOND FORM. 'bulk': how many values and letters a reading holds, each counted each time it is reached (what is shared counts as often as it is met; a slice's spare places count too). A statement '..UptoSaid' is the law's where the arguments, and the package variables that the reading takes, are together of bulk at most 1048576: NARROWER than '..Said'. Prove '..Said' where nothing that the law and all that it calls make is longer than what came in: it says more and counts as full. Else prove '..UptoSaid'. A law counts once. -/
mutual
def uptoBulk {H : Type} : DataW H → Nat
  | .lit (.string bytes) => bytes.length + 1
  | .lit _ => 1
  | .nil => 1
  | .ptr d => uptoBulk d + 1
  | .slice elems spare => uptoBulkAll elems + uptoBulkAll spare + 1
  | .agg parts => uptoBulkAll parts + 1
  | .iface _ d => uptoBulk d + 1
  | .map entries => uptoBulkEntries entries + 1
  | .held _ => 1
def uptoBulkAll {H : Type} : List (DataW H) → Nat
  | [] => 0
  | d :: r => uptoBulk d + uptoBulkAll r
def uptoBulkEntries {H : Type} : List (Lit × DataW H) → Nat
  | [] => 0
  | x :: r => uptoBulkEntry x + uptoBulkEntries r
def uptoBulkEntry {H : Type} : Lit × DataW H → Nat
  | (.string bytes, d) => bytes.length + uptoBulk d + 1
  | (_, d) => uptoBulk d + 1
 end
def uptoSmall : (H : Type) → List (DataW H) → Bool := fun _ ds => decide (uptoBulkAll ds ≤ 1048576)
def OpenSpec.upto (s : _root_.Go.ChangeSpec) : _root_.Go.OpenSpec := { _root_.Go.OpenSpec.ofChange s with cond := some uptoSmall }

/-- 'quittancelaw14.ScheduleSums', WHERE WHAT IT READS IS OF BULK AT MOST 1048576: true; the input reads as it did. -/
def scheduleSumsUptoRow : OpenClaim := { program := "ytfmkdledofbhdaa", sum := "c3814a0d85432527d27eaa71aaa1c183c7d2f41105c37c3935ea8ea5c22595d7", func := "quittance/quittancelaw14.ScheduleSums", spec := "scheduleSums", inPlace := ["internal/bytealg.IndexByteString", "internal/bytealg.IndexString", "math/bits.Add64"], unfollowed := true, recurses := true, named := ["internal/bytealg.MaxLen", "math/bits.divideError", "math/bits.overflowError"], apart := false, narrowed := true }
def ScheduleSumsUptoSaid : Prop := scheduleSumsUptoRow.holds Try.pinned (OpenSpec.upto scheduleSumsSpec)

/-- 'quittancelaw14.ScheduleEqual', WHERE WHAT IT READS IS OF BULK AT MOST 1048576: true; the input reads as it did. -/
def scheduleEqualUptoRow : OpenClaim := { program := "ytfmkdledofbhdaa", sum := "c3814a0d85432527d27eaa71aaa1c183c7d2f41105c37c3935ea8ea5c22595d7", func := "quittance/quittancelaw14.ScheduleEqual", spec := "scheduleEqual", inPlace := ["internal/bytealg.IndexByteString", "internal/bytealg.IndexString", "math/bits.Add64"], unfollowed := true, recurses := true, named := ["internal/bytealg.MaxLen", "math/bits.divideError", "math/bits.overflowError"], apart := false, narrowed := true }
def ScheduleEqualUptoSaid : Prop := scheduleEqualUptoRow.holds Try.pinned (OpenSpec.upto scheduleEqualSpec)

/-- 'quittancelaw14.ScheduleLonger', WHERE WHAT IT READS IS OF BULK AT MOST 1048576: true; the input reads as it did. -/
def scheduleLongerUptoRow : OpenClaim := { program := "ytfmkdledofbhdaa", sum := "c3814a0d85432527d27eaa71aaa1c183c7d2f41105c37c3935ea8ea5c22595d7", func := "quittance/quittancelaw14.ScheduleLonger", spec := "scheduleLonger", inPlace := ["internal/bytealg.IndexByteString", "internal/bytealg.IndexString", "math/bits.Add64"], unfollowed := true, recurses := true, named := ["internal/bytealg.MaxLen", "math/bits.divideError", "math/bits.overflowError"], apart := false, narrowed := true }
def ScheduleLongerUptoSaid : Prop := scheduleLongerUptoRow.holds Try.pinned (OpenSpec.upto scheduleLongerSpec)

/-- 'quittancelaw14.ScheduleRefuses', WHERE WHAT IT READS IS OF BULK AT MOST 1048576: true; the input reads as it did. -/
def scheduleRefusesUptoRow : OpenClaim := { program := "ytfmkdledofbhdaa", sum := "c3814a0d85432527d27eaa71aaa1c183c7d2f41105c37c3935ea8ea5c22595d7", func := "quittance/quittancelaw14.ScheduleRefuses", spec := "scheduleRefuses", inPlace := ["internal/bytealg.IndexByteString", "internal/bytealg.IndexString", "math/bits.Add64"], unfollowed := true, recurses := true, named := ["internal/bytealg.MaxLen", "math/bits.divideError", "math/bits.overflowError"], apart := false, narrowed := true }
def ScheduleRefusesUptoSaid : Prop := scheduleRefusesUptoRow.holds Try.pinned (OpenSpec.upto scheduleRefusesSpec)

/-- 'quittancelaw11.DuesTell', WHERE WHAT IT READS IS OF BULK AT MOST 1048576: true; the input reads as it did. -/
def duesTellUptoRow : OpenClaim := { program := "ytfmkdledofbhdaa", sum := "c3814a0d85432527d27eaa71aaa1c183c7d2f41105c37c3935ea8ea5c22595d7", func := "quittance/quittancelaw11.DuesTell", spec := "duesTell", inPlace := ["internal/bytealg.IndexByteString", "internal/bytealg.IndexString"], unfollowed := true, recurses := true, named := ["internal/bytealg.MaxLen"], apart := false, narrowed := true }
def DuesTellUptoSaid : Prop := duesTellUptoRow.holds Try.pinned (OpenSpec.upto duesTellSpec)

/-- 'quittancelaw13.LevelTells', WHERE WHAT IT READS IS OF BULK AT MOST 1048576: true; the input reads as it did. -/
def levelTellsUptoRow : OpenClaim := { program := "ytfmkdledofbhdaa", sum := "c3814a0d85432527d27eaa71aaa1c183c7d2f41105c37c3935ea8ea5c22595d7", func := "quittance/quittancelaw13.LevelTells", spec := "levelTells", inPlace := ["internal/bytealg.IndexByteString", "internal/bytealg.IndexString", "math/bits.Add64"], unfollowed := true, recurses := true, named := ["internal/bytealg.MaxLen", "math/bits.divideError", "math/bits.overflowError"], apart := false, narrowed := true }
def LevelTellsUptoSaid : Prop := levelTellsUptoRow.holds Try.pinned (OpenSpec.upto levelTellsSpec)

/-- 'quittancelaw13.LevelLeast', WHERE WHAT IT READS IS OF BULK AT MOST 1048576: true; the input reads as it did. -/
def levelLeastUptoRow : OpenClaim := { program := "ytfmkdledofbhdaa", sum := "c3814a0d85432527d27eaa71aaa1c183c7d2f41105c37c3935ea8ea5c22595d7", func := "quittance/quittancelaw13.LevelLeast", spec := "levelLeast", inPlace := ["internal/bytealg.IndexByteString", "internal/bytealg.IndexString", "math/bits.Add64"], unfollowed := true, recurses := true, named := ["internal/bytealg.MaxLen", "math/bits.divideError", "math/bits.overflowError"], apart := false, narrowed := true }
def LevelLeastUptoSaid : Prop := levelLeastUptoRow.holds Try.pinned (OpenSpec.upto levelLeastSpec)

end Rows
end Go.Proofs.Ytfmkdledofbhdaa
