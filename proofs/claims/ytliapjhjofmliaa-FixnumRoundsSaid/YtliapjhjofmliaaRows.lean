/-
  No cell of these rows narrows 'for every input' (looked for: loops, veiled, ifaces, maps, wideKeys, modest, calm, conditions, laid).
  DERIVED. THE GIVEN ROWS OF THIS SEAT. 13 by the template 'for every input the law returns true; each argument reads behind the call as it read before'; 0 by the template 'total and deterministic' (their statements: YtliapjhjofmliaaTotals.lean).
  GIVEN WITH THE SEED: the statements are not yours to turn. If you find one false, say at which input.
  Laid BY PROGRAM, IN A SANDBOX (cutbox-rows.mjs): the forced cells as the released guide's own fill.sh prints them over the translation a99f130e9363e011… (all of the seat's roots in one cut). By AI agents, Wed Nov 11 2026. No macro, syntax, notation, axiom, sorry.
-/
import Derived.Test.YtliapjhjofmliaaChecked
import GoSem.Claim
import GoSem.ClaimJoined
import GoSem.ClaimMapViews
import Derived.JoinedTies
import Derived.KernelRfl
namespace Go.Proofs.Ytliapjhjofmliaa
/- THE CELL 'sum', in the pinned program and in every row, IS THE sha256 OF THE DUMP (.gsa) THAT YtliapjhjofmliaaProg.lean LOADS. Nothing in Lean hashes anything: it is a label: what it is worth is what the hold of that sum in a sandbox is worth. -/
noncomputable def Try.pinned : Pinned := { name := "ytliapjhjofmliaa", sum := "a99f130e9363e011d6379038b259a60b37645c14157a29af19219593e2264aea", checked := Try.checked }
namespace Rows
def none {H : Type} : Left H := { results := [], args := [] }

/-- 'quittancelaw01.FixnumRounds': WHATEVER THE INPUT: true; the input reads as it did. -/
def fixnumRoundsSpec : ChangeSpec := { name := "fixnumRounds", fn := fun _ => fun
  | [d1, d2, d3, d4, d5] => { results := [.lit (.bool true)], args := [d1, d2, d3, d4, d5] }
  | _ => none }
def fixnumRoundsRow : OpenClaim := { program := "ytliapjhjofmliaa", sum := "a99f130e9363e011d6379038b259a60b37645c14157a29af19219593e2264aea", func := "quittance/quittancelaw01.FixnumRounds", spec := "fixnumRounds", named := ["math/bits.divideError", "math/bits.overflowError"], apart := false }
def FixnumRoundsSaid : Prop := fixnumRoundsRow.holds Try.pinned (OpenSpec.ofChange fixnumRoundsSpec)

/-- ITS FALSE NEIGHBOUR: 'it returns false'. Refute it at one input. -/
def fixnumRoundsWrong : ChangeSpec := { name := "fixnumRounds", fn := fun _ => fun
  | [d1, d2, d3, d4, d5] => { results := [.lit (.bool false)], args := [d1, d2, d3, d4, d5] }
  | _ => none }
def FixnumRoundsWrongFalsely : Prop := fixnumRoundsRow.holds Try.pinned (OpenSpec.ofChange fixnumRoundsWrong)

/-- 'quittancelaw01.FixnumHalf': WHATEVER THE INPUT: true; the input reads as it did. -/
def fixnumHalfSpec : ChangeSpec := { name := "fixnumHalf", fn := fun _ => fun
  | [d1, d2, d3] => { results := [.lit (.bool true)], args := [d1, d2, d3] }
  | _ => none }
def fixnumHalfRow : OpenClaim := { program := "ytliapjhjofmliaa", sum := "a99f130e9363e011d6379038b259a60b37645c14157a29af19219593e2264aea", func := "quittance/quittancelaw01.FixnumHalf", spec := "fixnumHalf", named := ["math/bits.divideError", "math/bits.overflowError"], apart := false }
def FixnumHalfSaid : Prop := fixnumHalfRow.holds Try.pinned (OpenSpec.ofChange fixnumHalfSpec)

/-- ITS FALSE NEIGHBOUR: 'it returns false'. Refute it at one input. -/
def fixnumHalfWrong : ChangeSpec := { name := "fixnumHalf", fn := fun _ => fun
  | [d1, d2, d3] => { results := [.lit (.bool false)], args := [d1, d2, d3] }
  | _ => none }
def FixnumHalfWrongFalsely : Prop := fixnumHalfRow.holds Try.pinned (OpenSpec.ofChange fixnumHalfWrong)

/-- 'quittancelaw01.FixnumShift': WHATEVER THE INPUT: true; the input reads as it did. -/
def fixnumShiftSpec : ChangeSpec := { name := "fixnumShift", fn := fun _ => fun
  | [d1, d2, d3, d4] => { results := [.lit (.bool true)], args := [d1, d2, d3, d4] }
  | _ => none }
def fixnumShiftRow : OpenClaim := { program := "ytliapjhjofmliaa", sum := "a99f130e9363e011d6379038b259a60b37645c14157a29af19219593e2264aea", func := "quittance/quittancelaw01.FixnumShift", spec := "fixnumShift", named := ["math/bits.divideError", "math/bits.overflowError"], apart := false }
def FixnumShiftSaid : Prop := fixnumShiftRow.holds Try.pinned (OpenSpec.ofChange fixnumShiftSpec)

/-- ITS FALSE NEIGHBOUR: 'it returns false'. Refute it at one input. -/
def fixnumShiftWrong : ChangeSpec := { name := "fixnumShift", fn := fun _ => fun
  | [d1, d2, d3, d4] => { results := [.lit (.bool false)], args := [d1, d2, d3, d4] }
  | _ => none }
def FixnumShiftWrongFalsely : Prop := fixnumShiftRow.holds Try.pinned (OpenSpec.ofChange fixnumShiftWrong)

/-- 'quittancelaw01.FixnumNone': WHATEVER THE INPUT: true; the input reads as it did. -/
def fixnumNoneSpec : ChangeSpec := { name := "fixnumNone", fn := fun _ => fun
  | [d1, d2] => { results := [.lit (.bool true)], args := [d1, d2] }
  | _ => none }
def fixnumNoneRow : OpenClaim := { program := "ytliapjhjofmliaa", sum := "a99f130e9363e011d6379038b259a60b37645c14157a29af19219593e2264aea", func := "quittance/quittancelaw01.FixnumNone", spec := "fixnumNone", named := ["math/bits.divideError", "math/bits.overflowError"], apart := false }
def FixnumNoneSaid : Prop := fixnumNoneRow.holds Try.pinned (OpenSpec.ofChange fixnumNoneSpec)

/-- ITS FALSE NEIGHBOUR: 'it returns false'. Refute it at one input. -/
def fixnumNoneWrong : ChangeSpec := { name := "fixnumNone", fn := fun _ => fun
  | [d1, d2] => { results := [.lit (.bool false)], args := [d1, d2] }
  | _ => none }
def FixnumNoneWrongFalsely : Prop := fixnumNoneRow.holds Try.pinned (OpenSpec.ofChange fixnumNoneWrong)

/-- 'quittancelaw01.FixnumTurned': WHATEVER THE INPUT: true; the input reads as it did. -/
def fixnumTurnedSpec : ChangeSpec := { name := "fixnumTurned", fn := fun _ => fun
  | [d1, d2] => { results := [.lit (.bool true)], args := [d1, d2] }
  | _ => none }
def fixnumTurnedRow : OpenClaim := { program := "ytliapjhjofmliaa", sum := "a99f130e9363e011d6379038b259a60b37645c14157a29af19219593e2264aea", func := "quittance/quittancelaw01.FixnumTurned", spec := "fixnumTurned", named := ["math/bits.divideError", "math/bits.overflowError"], apart := false }
def FixnumTurnedSaid : Prop := fixnumTurnedRow.holds Try.pinned (OpenSpec.ofChange fixnumTurnedSpec)

/-- ITS FALSE NEIGHBOUR: 'it returns false'. Refute it at one input. -/
def fixnumTurnedWrong : ChangeSpec := { name := "fixnumTurned", fn := fun _ => fun
  | [d1, d2] => { results := [.lit (.bool false)], args := [d1, d2] }
  | _ => none }
def FixnumTurnedWrongFalsely : Prop := fixnumTurnedRow.holds Try.pinned (OpenSpec.ofChange fixnumTurnedWrong)

/-- 'quittancelaw01.FixnumSums': WHATEVER THE INPUT: true; the input reads as it did. -/
def fixnumSumsSpec : ChangeSpec := { name := "fixnumSums", fn := fun _ => fun
  | [d1, d2, d3] => { results := [.lit (.bool true)], args := [d1, d2, d3] }
  | _ => none }
def fixnumSumsRow : OpenClaim := { program := "ytliapjhjofmliaa", sum := "a99f130e9363e011d6379038b259a60b37645c14157a29af19219593e2264aea", func := "quittance/quittancelaw01.FixnumSums", spec := "fixnumSums", named := ["math/bits.divideError", "math/bits.overflowError"], apart := false }
def FixnumSumsSaid : Prop := fixnumSumsRow.holds Try.pinned (OpenSpec.ofChange fixnumSumsSpec)

/-- ITS FALSE NEIGHBOUR: 'it returns false'. Refute it at one input. -/
def fixnumSumsWrong : ChangeSpec := { name := "fixnumSums", fn := fun _ => fun
  | [d1, d2, d3] => { results := [.lit (.bool false)], args := [d1, d2, d3] }
  | _ => none }
def FixnumSumsWrongFalsely : Prop := fixnumSumsRow.holds Try.pinned (OpenSpec.ofChange fixnumSumsWrong)

/-- 'quittancelaw01.FixnumBack': WHATEVER THE INPUT: true; the input reads as it did. -/
def fixnumBackSpec : ChangeSpec := { name := "fixnumBack", fn := fun _ => fun
  | [d1, d2, d3, d4] => { results := [.lit (.bool true)], args := [d1, d2, d3, d4] }
  | _ => none }
def fixnumBackRow : OpenClaim := { program := "ytliapjhjofmliaa", sum := "a99f130e9363e011d6379038b259a60b37645c14157a29af19219593e2264aea", func := "quittance/quittancelaw01.FixnumBack", spec := "fixnumBack", named := ["math/bits.divideError", "math/bits.overflowError"], apart := false }
def FixnumBackSaid : Prop := fixnumBackRow.holds Try.pinned (OpenSpec.ofChange fixnumBackSpec)

/-- ITS FALSE NEIGHBOUR: 'it returns false'. Refute it at one input. -/
def fixnumBackWrong : ChangeSpec := { name := "fixnumBack", fn := fun _ => fun
  | [d1, d2, d3, d4] => { results := [.lit (.bool false)], args := [d1, d2, d3, d4] }
  | _ => none }
def FixnumBackWrongFalsely : Prop := fixnumBackRow.holds Try.pinned (OpenSpec.ofChange fixnumBackWrong)

/-- 'quittancelaw12.GrowthSplits': WHATEVER THE INPUT: true; the input reads as it did. -/
def growthSplitsSpec : ChangeSpec := { name := "growthSplits", fn := fun _ => fun
  | [d1, d2, d3, d4, d5] => { results := [.lit (.bool true)], args := [d1, d2, d3, d4, d5] }
  | _ => none }
def growthSplitsRow : OpenClaim := { program := "ytliapjhjofmliaa", sum := "a99f130e9363e011d6379038b259a60b37645c14157a29af19219593e2264aea", func := "quittance/quittancelaw12.GrowthSplits", spec := "growthSplits", inPlace := ["math/bits.Add64"], unfollowed := true, recurses := true, named := ["math/bits.divideError", "math/bits.overflowError"], apart := false }
def GrowthSplitsSaid : Prop := growthSplitsRow.holds Try.pinned (OpenSpec.ofChange growthSplitsSpec)

/-- ITS FALSE NEIGHBOUR: 'it returns false'. Refute it at one input. -/
def growthSplitsWrong : ChangeSpec := { name := "growthSplits", fn := fun _ => fun
  | [d1, d2, d3, d4, d5] => { results := [.lit (.bool false)], args := [d1, d2, d3, d4, d5] }
  | _ => none }
def GrowthSplitsWrongFalsely : Prop := growthSplitsRow.holds Try.pinned (OpenSpec.ofChange growthSplitsWrong)

/-- 'quittancelaw12.GrowthRest': WHATEVER THE INPUT: true; the input reads as it did. -/
def growthRestSpec : ChangeSpec := { name := "growthRest", fn := fun _ => fun
  | [d1, d2, d3] => { results := [.lit (.bool true)], args := [d1, d2, d3] }
  | _ => none }
def growthRestRow : OpenClaim := { program := "ytliapjhjofmliaa", sum := "a99f130e9363e011d6379038b259a60b37645c14157a29af19219593e2264aea", func := "quittance/quittancelaw12.GrowthRest", spec := "growthRest", inPlace := ["math/bits.Add64"], unfollowed := true, recurses := true, named := ["math/bits.divideError", "math/bits.overflowError"], apart := false }
def GrowthRestSaid : Prop := growthRestRow.holds Try.pinned (OpenSpec.ofChange growthRestSpec)

/-- ITS FALSE NEIGHBOUR: 'it returns false'. Refute it at one input. -/
def growthRestWrong : ChangeSpec := { name := "growthRest", fn := fun _ => fun
  | [d1, d2, d3] => { results := [.lit (.bool false)], args := [d1, d2, d3] }
  | _ => none }
def GrowthRestWrongFalsely : Prop := growthRestRow.holds Try.pinned (OpenSpec.ofChange growthRestWrong)

/-- 'quittancelaw12.GrowthYear': WHATEVER THE INPUT: true; the input reads as it did. -/
def growthYearSpec : ChangeSpec := { name := "growthYear", fn := fun _ => fun
  | [d1, d2] => { results := [.lit (.bool true)], args := [d1, d2] }
  | _ => none }
def growthYearRow : OpenClaim := { program := "ytliapjhjofmliaa", sum := "a99f130e9363e011d6379038b259a60b37645c14157a29af19219593e2264aea", func := "quittance/quittancelaw12.GrowthYear", spec := "growthYear", inPlace := ["math/bits.Add64"], unfollowed := true, recurses := true, named := ["math/bits.divideError", "math/bits.overflowError"], apart := false }
def GrowthYearSaid : Prop := growthYearRow.holds Try.pinned (OpenSpec.ofChange growthYearSpec)

/-- ITS FALSE NEIGHBOUR: 'it returns false'. Refute it at one input. -/
def growthYearWrong : ChangeSpec := { name := "growthYear", fn := fun _ => fun
  | [d1, d2] => { results := [.lit (.bool false)], args := [d1, d2] }
  | _ => none }
def GrowthYearWrongFalsely : Prop := growthYearRow.holds Try.pinned (OpenSpec.ofChange growthYearWrong)

/-- 'quittancelaw12.GrowthMore': WHATEVER THE INPUT: true; the input reads as it did. -/
def growthMoreSpec : ChangeSpec := { name := "growthMore", fn := fun _ => fun
  | [d1, d2, d3, d4] => { results := [.lit (.bool true)], args := [d1, d2, d3, d4] }
  | _ => none }
def growthMoreRow : OpenClaim := { program := "ytliapjhjofmliaa", sum := "a99f130e9363e011d6379038b259a60b37645c14157a29af19219593e2264aea", func := "quittance/quittancelaw12.GrowthMore", spec := "growthMore", inPlace := ["math/bits.Add64"], unfollowed := true, recurses := true, named := ["math/bits.divideError", "math/bits.overflowError"], apart := false }
def GrowthMoreSaid : Prop := growthMoreRow.holds Try.pinned (OpenSpec.ofChange growthMoreSpec)

/-- ITS FALSE NEIGHBOUR: 'it returns false'. Refute it at one input. -/
def growthMoreWrong : ChangeSpec := { name := "growthMore", fn := fun _ => fun
  | [d1, d2, d3, d4] => { results := [.lit (.bool false)], args := [d1, d2, d3, d4] }
  | _ => none }
def GrowthMoreWrongFalsely : Prop := growthMoreRow.holds Try.pinned (OpenSpec.ofChange growthMoreWrong)

/-- 'quittancelaw12.GrowthRefuses': WHATEVER THE INPUT: true; the input reads as it did. -/
def growthRefusesSpec : ChangeSpec := { name := "growthRefuses", fn := fun _ => fun
  | [d1, d2] => { results := [.lit (.bool true)], args := [d1, d2] }
  | _ => none }
def growthRefusesRow : OpenClaim := { program := "ytliapjhjofmliaa", sum := "a99f130e9363e011d6379038b259a60b37645c14157a29af19219593e2264aea", func := "quittance/quittancelaw12.GrowthRefuses", spec := "growthRefuses", inPlace := ["math/bits.Add64"], unfollowed := true, recurses := true, named := ["math/bits.divideError", "math/bits.overflowError"], apart := false }
def GrowthRefusesSaid : Prop := growthRefusesRow.holds Try.pinned (OpenSpec.ofChange growthRefusesSpec)

/-- ITS FALSE NEIGHBOUR: 'it returns false'. Refute it at one input. -/
def growthRefusesWrong : ChangeSpec := { name := "growthRefuses", fn := fun _ => fun
  | [d1, d2] => { results := [.lit (.bool false)], args := [d1, d2] }
  | _ => none }
def GrowthRefusesWrongFalsely : Prop := growthRefusesRow.holds Try.pinned (OpenSpec.ofChange growthRefusesWrong)

/-- 'quittancelaw12.GrowthBears': WHATEVER THE INPUT: true; the input reads as it did. -/
def growthBearsSpec : ChangeSpec := { name := "growthBears", fn := fun _ => fun
  | [d1, d2, d3, d4] => { results := [.lit (.bool true)], args := [d1, d2, d3, d4] }
  | _ => none }
def growthBearsRow : OpenClaim := { program := "ytliapjhjofmliaa", sum := "a99f130e9363e011d6379038b259a60b37645c14157a29af19219593e2264aea", func := "quittance/quittancelaw12.GrowthBears", spec := "growthBears", inPlace := ["math/bits.Add64"], unfollowed := true, recurses := true, named := ["math/bits.divideError", "math/bits.overflowError"], apart := false }
def GrowthBearsSaid : Prop := growthBearsRow.holds Try.pinned (OpenSpec.ofChange growthBearsSpec)

/-- ITS FALSE NEIGHBOUR: 'it returns false'. Refute it at one input. -/
def growthBearsWrong : ChangeSpec := { name := "growthBears", fn := fun _ => fun
  | [d1, d2, d3, d4] => { results := [.lit (.bool false)], args := [d1, d2, d3, d4] }
  | _ => none }
def GrowthBearsWrongFalsely : Prop := growthBearsRow.holds Try.pinned (OpenSpec.ofChange growthBearsWrong)

/- THE SECOND FORM. 'bulk': how many values and letters a reading holds, each counted each time it is reached (what is shared counts as often as it is met; a slice's spare places count too). A statement '..UptoSaid' is the law's where the arguments, and the package variables that the reading takes, are together of bulk at most 1048576: NARROWER than '..Said'. Prove '..Said' where nothing that the law and all that it calls make is longer than what came in: it says more and counts as full. Else prove '..UptoSaid'. A law counts once. -/
mutual
def uptoBulk {H : Type} : DataW H → Nat
  | .lit (.string bytes) => bytes.length + 1
  | .lit _ => 1
  | .nil => 1
  | .ptr d => uptoBulk d + 1
  | .slice elems spare => uptoBulkAll elems + uptoBulkAll spare + 1
  | .agg parts => uptoBulkAll parts + 1
  | .iface _ d => uptoBulk d + 1
  | .map entries => uptoBulkEntries entries + 1
  | .held _ => 1
def uptoBulkAll {H : Type} : List (DataW H) → Nat
  | [] => 0
  | d :: r => uptoBulk d + uptoBulkAll r
def uptoBulkEntries {H : Type} : List (Lit × DataW H) → Nat
  | [] => 0
  | x :: r => uptoBulkEntry x + uptoBulkEntries r
def uptoBulkEntry {H : Type} : Lit × DataW H → Nat
  | (.string bytes, d) => bytes.length + uptoBulk d + 1
  | (_, d) => uptoBulk d + 1
 end
def uptoSmall : (H : Type) → List (DataW H) → Bool := fun _ ds => decide (uptoBulkAll ds ≤ 1048576)
def OpenSpec.upto (s : _root_.Go.ChangeSpec) : _root_.Go.OpenSpec := { _root_.Go.OpenSpec.ofChange s with cond := some uptoSmall }

/-- 'quittancelaw01.FixnumRounds', WHERE WHAT IT READS IS OF BULK AT MOST 1048576: true; the input reads as it did. -/
def fixnumRoundsUptoRow : OpenClaim := { program := "ytliapjhjofmliaa", sum := "a99f130e9363e011d6379038b259a60b37645c14157a29af19219593e2264aea", func := "quittance/quittancelaw01.FixnumRounds", spec := "fixnumRounds", named := ["math/bits.divideError", "math/bits.overflowError"], apart := false, narrowed := true }
def FixnumRoundsUptoSaid : Prop := fixnumRoundsUptoRow.holds Try.pinned (OpenSpec.upto fixnumRoundsSpec)

/-- 'quittancelaw01.FixnumHalf', WHERE WHAT IT READS IS OF BULK AT MOST 1048576: true; the input reads as it did. -/
def fixnumHalfUptoRow : OpenClaim := { program := "ytliapjhjofmliaa", sum := "a99f130e9363e011d6379038b259a60b37645c14157a29af19219593e2264aea", func := "quittance/quittancelaw01.FixnumHalf", spec := "fixnumHalf", named := ["math/bits.divideError", "math/bits.overflowError"], apart := false, narrowed := true }
def FixnumHalfUptoSaid : Prop := fixnumHalfUptoRow.holds Try.pinned (OpenSpec.upto fixnumHalfSpec)

/-- 'quittancelaw01.FixnumShift', WHERE WHAT IT READS IS OF BULK AT MOST 1048576: true; the input reads as it did. -/
def fixnumShiftUptoRow : OpenClaim := { program := "ytliapjhjofmliaa", sum := "a99f130e9363e011d6379038b259a60b37645c14157a29af19219593e2264aea", func := "quittance/quittancelaw01.FixnumShift", spec := "fixnumShift", named := ["math/bits.divideError", "math/bits.overflowError"], apart := false, narrowed := true }
def FixnumShiftUptoSaid : Prop := fixnumShiftUptoRow.holds Try.pinned (OpenSpec.upto fixnumShiftSpec)

/-- 'quittancelaw01.FixnumNone', WHERE WHAT IT READS IS OF BULK AT MOST 1048576: true; the input reads as it did. -/
def fixnumNoneUptoRow : OpenClaim := { program := "ytliapjhjofmliaa", sum := "a99f130e9363e011d6379038b259a60b37645c14157a29af19219593e2264aea", func := "quittance/quittancelaw01.FixnumNone", spec := "fixnumNone", named := ["math/bits.divideError", "math/bits.overflowError"], apart := false, narrowed := true }
def FixnumNoneUptoSaid : Prop := fixnumNoneUptoRow.holds Try.pinned (OpenSpec.upto fixnumNoneSpec)

/-- 'quittancelaw01.FixnumTurned', WHERE WHAT IT READS IS OF BULK AT MOST 1048576: true; the input reads as it did. -/
def fixnumTurnedUptoRow : OpenClaim := { program := "ytliapjhjofmliaa", sum := "a99f130e9363e011d6379038b259a60b37645c14157a29af19219593e2264aea", func := "quittance/quittancelaw01.FixnumTurned", spec := "fixnumTurned", named := ["math/bits.divideError", "math/bits.overflowError"], apart := false, narrowed := true }
def FixnumTurnedUptoSaid : Prop := fixnumTurnedUptoRow.holds Try.pinned (OpenSpec.upto fixnumTurnedSpec)

/-- 'quittancelaw01.FixnumSums', WHERE WHAT IT READS IS OF BULK AT MOST 1048576: true; the input reads as it did. -/
def fixnumSumsUptoRow : OpenClaim := { program := "ytliapjhjofmliaa", sum := "a99f130e9363e011d6379038b259a60b37645c14157a29af19219593e2264aea", func := "quittance/quittancelaw01.FixnumSums", spec := "fixnumSums", named := ["math/bits.divideError", "math/bits.overflowError"], apart := false, narrowed := true }
def FixnumSumsUptoSaid : Prop := fixnumSumsUptoRow.holds Try.pinned (OpenSpec.upto fixnumSumsSpec)

/-- 'quittancelaw01.FixnumBack', WHERE WHAT IT READS IS OF BULK AT MOST 1048576: true; the input reads as it did. -/
def fixnumBackUptoRow : OpenClaim := { program := "ytliapjhjofmliaa", sum := "a99f130e9363e011d6379038b259a60b37645c14157a29af19219593e2264aea", func := "quittance/quittancelaw01.FixnumBack", spec := "fixnumBack", named := ["math/bits.divideError", "math/bits.overflowError"], apart := false, narrowed := true }
def FixnumBackUptoSaid : Prop := fixnumBackUptoRow.holds Try.pinned (OpenSpec.upto fixnumBackSpec)

/-- 'quittancelaw12.GrowthSplits', WHERE WHAT IT READS IS OF BULK AT MOST 1048576: true; the input reads as it did. -/
def growthSplitsUptoRow : OpenClaim := { program := "ytliapjhjofmliaa", sum := "a99f130e9363e011d6379038b259a60b37645c14157a29af19219593e2264aea", func := "quittance/quittancelaw12.GrowthSplits", spec := "growthSplits", inPlace := ["math/bits.Add64"], unfollowed := true, recurses := true, named := ["math/bits.divideError", "math/bits.overflowError"], apart := false, narrowed := true }
def GrowthSplitsUptoSaid : Prop := growthSplitsUptoRow.holds Try.pinned (OpenSpec.upto growthSplitsSpec)

/-- 'quittancelaw12.GrowthRest', WHERE WHAT IT READS IS OF BULK AT MOST 1048576: true; the input reads as it did. -/
def growthRestUptoRow : OpenClaim := { program := "ytliapjhjofmliaa", sum := "a99f130e9363e011d6379038b259a60b37645c14157a29af19219593e2264aea", func := "quittance/quittancelaw12.GrowthRest", spec := "growthRest", inPlace := ["math/bits.Add64"], unfollowed := true, recurses := true, named := ["math/bits.divideError", "math/bits.overflowError"], apart := false, narrowed := true }
def GrowthRestUptoSaid : Prop := growthRestUptoRow.holds Try.pinned (OpenSpec.upto growthRestSpec)

/-- 'quittancelaw12.GrowthYear', WHERE WHAT IT READS IS OF BULK AT MOST 1048576: true; the input reads as it did. -/
def growthYearUptoRow : OpenClaim := { program := "ytliapjhjofmliaa", sum := "a99f130e9363e011d6379038b259a60b37645c14157a29af19219593e2264aea", func := "quittance/quittancelaw12.GrowthYear", spec := "growthYear", inPlace := ["math/bits.Add64"], unfollowed := true, recurses := true, named := ["math/bits.divideError", "math/bits.overflowError"], apart := false, narrowed := true }
def GrowthYearUptoSaid : Prop := growthYearUptoRow.holds Try.pinned (OpenSpec.upto growthYearSpec)

/-- 'quittancelaw12.GrowthMore', WHERE WHAT IT READS IS OF BULK AT MOST 1048576: true; the input reads as it did. -/
def growthMoreUptoRow : OpenClaim := { program := "ytliapjhjofmliaa", sum := "a99f130e9363e011d6379038b259a60b37645c14157a29af19219593e2264aea", func := "quittance/quittancelaw12.GrowthMore", spec := "growthMore", inPlace := ["math/bits.Add64"], unfollowed := true, recurses := true, named := ["math/bits.divideError", "math/bits.overflowError"], apart := false, narrowed := true }
def GrowthMoreUptoSaid : Prop := growthMoreUptoRow.holds Try.pinned (OpenSpec.upto growthMoreSpec)

/-- 'quittancelaw12.GrowthRefuses', WHERE WHAT IT READS IS OF BULK AT MOST 1048576: true; the input reads as it did. -/
def growthRefusesUptoRow : OpenClaim := { program := "ytliapjhjofmliaa", sum := "a99f130e9363e011d6379038b259a60b37645c14157a29af19219593e2264aea", func := "quittance/quittancelaw12.GrowthRefuses", spec := "growthRefuses", inPlace := ["math/bits.Add64"], unfollowed := true, recurses := true, named := ["math/bits.divideError", "math/bits.overflowError"], apart := false, narrowed := true }
def GrowthRefusesUptoSaid : Prop := growthRefusesUptoRow.holds Try.pinned (OpenSpec.upto growthRefusesSpec)

/-- 'quittancelaw12.GrowthBears', WHERE WHAT IT READS IS OF BULK AT MOST 1048576: true; the input reads as it did. -/
def growthBearsUptoRow : OpenClaim := { program := "ytliapjhjofmliaa", sum := "a99f130e9363e011d6379038b259a60b37645c14157a29af19219593e2264aea", func := "quittance/quittancelaw12.GrowthBears", spec := "growthBears", inPlace := ["math/bits.Add64"], unfollowed := true, recurses := true, named := ["math/bits.divideError", "math/bits.overflowError"], apart := false, narrowed := true }
def GrowthBearsUptoSaid : Prop := growthBearsUptoRow.holds Try.pinned (OpenSpec.upto growthBearsSpec)

end Rows
end Go.Proofs.Ytliapjhjofmliaa
