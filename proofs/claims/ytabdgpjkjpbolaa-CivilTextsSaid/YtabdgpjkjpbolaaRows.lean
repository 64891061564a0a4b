/-
  No cell of these rows narrows 'for every input' (looked for: loops, veiled, ifaces, maps, wideKeys, modest, calm, conditions, laid).
  DERIVED. THE GIVEN ROWS OF THIS SEAT. 16 by the template 'for every input the law returns true; each argument reads behind the call as it read before'; 0 by the template 'total and deterministic' (their statements: YtabdgpjkjpbolaaTotals.lean).
  GIVEN WITH THE SEED: the statements are not yours to turn. If you find one false, say at which input.
  Laid BY PROGRAM, IN A SANDBOX (cutbox-rows.mjs): the forced cells as the released guide's own fill.sh prints them over the translation 80c0c789909f21f2… (all of the seat's roots in one cut). By AI agents, Wed Nov 11 2026. No macro, syntax, notation, axiom, sorry.
-/
import Derived.Test.YtabdgpjkjpbolaaChecked
import GoSem.Claim
import GoSem.ClaimJoined
import GoSem.ClaimMapViews
import Derived.JoinedTies
import Derived.KernelRfl
namespace Go.Proofs.Ytabdgpjkjpbolaa
/- THE CELL 'sum', in the pinned program and in every row, IS THE sha256 OF THE DUMP (.gsa) THAT YtabdgpjkjpbolaaProg.lean LOADS. Nothing in Lean hashes anything: it is a label: what it is worth is what the hold of that sum in a sandbox is worth. -/
noncomputable def Try.pinned : Pinned := { name := "ytabdgpjkjpbolaa", sum := "80c0c789909f21f2f24eeb820098aebe5f39f82d823f6606351f45721c11c03b", checked := Try.checked }
namespace Rows
def none {H : Type} : Left H := { results := [], args := [] }

/-- 'quittancelaw03.CivilTexts': WHATEVER THE INPUT: true; the input reads as it did. -/
def civilTextsSpec : ChangeSpec := { name := "civilTexts", fn := fun _ => fun
  | [d1, d2, d3] => { results := [.lit (.bool true)], args := [d1, d2, d3] }
  | _ => none }
def civilTextsRow : OpenClaim := { program := "ytabdgpjkjpbolaa", sum := "80c0c789909f21f2f24eeb820098aebe5f39f82d823f6606351f45721c11c03b", func := "quittance/quittancelaw03.CivilTexts", spec := "civilTexts", unfollowed := true, recurses := true, apart := false }
def CivilTextsSaid : Prop := civilTextsRow.holds Try.pinned (OpenSpec.ofChange civilTextsSpec)

/-- ITS FALSE NEIGHBOUR: 'it returns false'. Refute it at one input. -/
def civilTextsWrong : ChangeSpec := { name := "civilTexts", fn := fun _ => fun
  | [d1, d2, d3] => { results := [.lit (.bool false)], args := [d1, d2, d3] }
  | _ => none }
def CivilTextsWrongFalsely : Prop := civilTextsRow.holds Try.pinned (OpenSpec.ofChange civilTextsWrong)

/-- 'quittancelaw03.CivilYears': WHATEVER THE INPUT: true; the input reads as it did. -/
def civilYearsSpec : ChangeSpec := { name := "civilYears", fn := fun _ => fun
  | [d] => { results := [.lit (.bool true)], args := [d] }
  | _ => none }
def civilYearsRow : OpenClaim := { program := "ytabdgpjkjpbolaa", sum := "80c0c789909f21f2f24eeb820098aebe5f39f82d823f6606351f45721c11c03b", func := "quittance/quittancelaw03.CivilYears", spec := "civilYears", unfollowed := true, recurses := true, apart := false }
def CivilYearsSaid : Prop := civilYearsRow.holds Try.pinned (OpenSpec.ofChange civilYearsSpec)

/-- ITS FALSE NEIGHBOUR: 'it returns false'. Refute it at one input. -/
def civilYearsWrong : ChangeSpec := { name := "civilYears", fn := fun _ => fun
  | [d] => { results := [.lit (.bool false)], args := [d] }
  | _ => none }
def CivilYearsWrongFalsely : Prop := civilYearsRow.holds Try.pinned (OpenSpec.ofChange civilYearsWrong)

/-- 'quittancelaw04.MonthlyBack': WHATEVER THE INPUT: true; the input reads as it did. -/
def monthlyBackSpec : ChangeSpec := { name := "monthlyBack", fn := fun _ => fun
  | [d1, d2] => { results := [.lit (.bool true)], args := [d1, d2] }
  | _ => none }
def monthlyBackRow : OpenClaim := { program := "ytabdgpjkjpbolaa", sum := "80c0c789909f21f2f24eeb820098aebe5f39f82d823f6606351f45721c11c03b", func := "quittance/quittancelaw04.MonthlyBack", spec := "monthlyBack", apart := false }
def MonthlyBackSaid : Prop := monthlyBackRow.holds Try.pinned (OpenSpec.ofChange monthlyBackSpec)

/-- ITS FALSE NEIGHBOUR: 'it returns false'. Refute it at one input. -/
def monthlyBackWrong : ChangeSpec := { name := "monthlyBack", fn := fun _ => fun
  | [d1, d2] => { results := [.lit (.bool false)], args := [d1, d2] }
  | _ => none }
def MonthlyBackWrongFalsely : Prop := monthlyBackRow.holds Try.pinned (OpenSpec.ofChange monthlyBackWrong)

/-- 'quittancelaw04.MonthlyEnds': WHATEVER THE INPUT: true; the input reads as it did. -/
def monthlyEndsSpec : ChangeSpec := { name := "monthlyEnds", fn := fun _ => fun
  | [d1, d2, d3] => { results := [.lit (.bool true)], args := [d1, d2, d3] }
  | _ => none }
def monthlyEndsRow : OpenClaim := { program := "ytabdgpjkjpbolaa", sum := "80c0c789909f21f2f24eeb820098aebe5f39f82d823f6606351f45721c11c03b", func := "quittance/quittancelaw04.MonthlyEnds", spec := "monthlyEnds", apart := false }
def MonthlyEndsSaid : Prop := monthlyEndsRow.holds Try.pinned (OpenSpec.ofChange monthlyEndsSpec)

/-- ITS FALSE NEIGHBOUR: 'it returns false'. Refute it at one input. -/
def monthlyEndsWrong : ChangeSpec := { name := "monthlyEnds", fn := fun _ => fun
  | [d1, d2, d3] => { results := [.lit (.bool false)], args := [d1, d2, d3] }
  | _ => none }
def MonthlyEndsWrongFalsely : Prop := monthlyEndsRow.holds Try.pinned (OpenSpec.ofChange monthlyEndsWrong)

/-- 'quittancelaw03.CivilNext': WHATEVER THE INPUT: true; the input reads as it did. -/
def civilNextSpec : ChangeSpec := { name := "civilNext", fn := fun _ => fun
  | [d] => { results := [.lit (.bool true)], args := [d] }
  | _ => none }
def civilNextRow : OpenClaim := { program := "ytabdgpjkjpbolaa", sum := "80c0c789909f21f2f24eeb820098aebe5f39f82d823f6606351f45721c11c03b", func := "quittance/quittancelaw03.CivilNext", spec := "civilNext", unfollowed := true, recurses := true, apart := false }
def CivilNextSaid : Prop := civilNextRow.holds Try.pinned (OpenSpec.ofChange civilNextSpec)

/-- ITS FALSE NEIGHBOUR: 'it returns false'. Refute it at one input. -/
def civilNextWrong : ChangeSpec := { name := "civilNext", fn := fun _ => fun
  | [d] => { results := [.lit (.bool false)], args := [d] }
  | _ => none }
def CivilNextWrongFalsely : Prop := civilNextRow.holds Try.pinned (OpenSpec.ofChange civilNextWrong)

/-- 'quittancelaw04.MonthlyTells': WHATEVER THE INPUT: true; the input reads as it did. -/
def monthlyTellsSpec : ChangeSpec := { name := "monthlyTells", fn := fun _ => fun
  | [d1, d2, d3, d4] => { results := [.lit (.bool true)], args := [d1, d2, d3, d4] }
  | _ => none }
def monthlyTellsRow : OpenClaim := { program := "ytabdgpjkjpbolaa", sum := "80c0c789909f21f2f24eeb820098aebe5f39f82d823f6606351f45721c11c03b", func := "quittance/quittancelaw04.MonthlyTells", spec := "monthlyTells", unfollowed := true, recurses := true, apart := false }
def MonthlyTellsSaid : Prop := monthlyTellsRow.holds Try.pinned (OpenSpec.ofChange monthlyTellsSpec)

/-- ITS FALSE NEIGHBOUR: 'it returns false'. Refute it at one input. -/
def monthlyTellsWrong : ChangeSpec := { name := "monthlyTells", fn := fun _ => fun
  | [d1, d2, d3, d4] => { results := [.lit (.bool false)], args := [d1, d2, d3, d4] }
  | _ => none }
def MonthlyTellsWrongFalsely : Prop := monthlyTellsRow.holds Try.pinned (OpenSpec.ofChange monthlyTellsWrong)

/-- 'quittancelaw04.MonthlySteps': WHATEVER THE INPUT: true; the input reads as it did. -/
def monthlyStepsSpec : ChangeSpec := { name := "monthlySteps", fn := fun _ => fun
  | [d1, d2, d3] => { results := [.lit (.bool true)], args := [d1, d2, d3] }
  | _ => none }
def monthlyStepsRow : OpenClaim := { program := "ytabdgpjkjpbolaa", sum := "80c0c789909f21f2f24eeb820098aebe5f39f82d823f6606351f45721c11c03b", func := "quittance/quittancelaw04.MonthlySteps", spec := "monthlySteps", unfollowed := true, recurses := true, apart := false }
def MonthlyStepsSaid : Prop := monthlyStepsRow.holds Try.pinned (OpenSpec.ofChange monthlyStepsSpec)

/-- ITS FALSE NEIGHBOUR: 'it returns false'. Refute it at one input. -/
def monthlyStepsWrong : ChangeSpec := { name := "monthlySteps", fn := fun _ => fun
  | [d1, d2, d3] => { results := [.lit (.bool false)], args := [d1, d2, d3] }
  | _ => none }
def MonthlyStepsWrongFalsely : Prop := monthlyStepsRow.holds Try.pinned (OpenSpec.ofChange monthlyStepsWrong)

/-- 'quittancelaw06.FractionTells': WHATEVER THE INPUT: true; the input reads as it did. -/
def fractionTellsSpec : ChangeSpec := { name := "fractionTells", fn := fun _ => fun
  | [d1, d2, d3] => { results := [.lit (.bool true)], args := [d1, d2, d3] }
  | _ => none }
def fractionTellsRow : OpenClaim := { program := "ytabdgpjkjpbolaa", sum := "80c0c789909f21f2f24eeb820098aebe5f39f82d823f6606351f45721c11c03b", func := "quittance/quittancelaw06.FractionTells", spec := "fractionTells", apart := false }
def FractionTellsSaid : Prop := fractionTellsRow.holds Try.pinned (OpenSpec.ofChange fractionTellsSpec)

/-- ITS FALSE NEIGHBOUR: 'it returns false'. Refute it at one input. -/
def fractionTellsWrong : ChangeSpec := { name := "fractionTells", fn := fun _ => fun
  | [d1, d2, d3] => { results := [.lit (.bool false)], args := [d1, d2, d3] }
  | _ => none }
def FractionTellsWrongFalsely : Prop := fractionTellsRow.holds Try.pinned (OpenSpec.ofChange fractionTellsWrong)

/-- 'quittancelaw06.FractionSplits': WHATEVER THE INPUT: true; the input reads as it did. -/
def fractionSplitsSpec : ChangeSpec := { name := "fractionSplits", fn := fun _ => fun
  | [d1, d2, d3, d4] => { results := [.lit (.bool true)], args := [d1, d2, d3, d4] }
  | _ => none }
def fractionSplitsRow : OpenClaim := { program := "ytabdgpjkjpbolaa", sum := "80c0c789909f21f2f24eeb820098aebe5f39f82d823f6606351f45721c11c03b", func := "quittance/quittancelaw06.FractionSplits", spec := "fractionSplits", unfollowed := true, recurses := true, apart := false }
def FractionSplitsSaid : Prop := fractionSplitsRow.holds Try.pinned (OpenSpec.ofChange fractionSplitsSpec)

/-- ITS FALSE NEIGHBOUR: 'it returns false'. Refute it at one input. -/
def fractionSplitsWrong : ChangeSpec := { name := "fractionSplits", fn := fun _ => fun
  | [d1, d2, d3, d4] => { results := [.lit (.bool false)], args := [d1, d2, d3, d4] }
  | _ => none }
def FractionSplitsWrongFalsely : Prop := fractionSplitsRow.holds Try.pinned (OpenSpec.ofChange fractionSplitsWrong)

/-- 'quittancelaw06.FractionYears': WHATEVER THE INPUT: true; the input reads as it did. -/
def fractionYearsSpec : ChangeSpec := { name := "fractionYears", fn := fun _ => fun
  | [d1, d2] => { results := [.lit (.bool true)], args := [d1, d2] }
  | _ => none }
def fractionYearsRow : OpenClaim := { program := "ytabdgpjkjpbolaa", sum := "80c0c789909f21f2f24eeb820098aebe5f39f82d823f6606351f45721c11c03b", func := "quittance/quittancelaw06.FractionYears", spec := "fractionYears", unfollowed := true, recurses := true, apart := false }
def FractionYearsSaid : Prop := fractionYearsRow.holds Try.pinned (OpenSpec.ofChange fractionYearsSpec)

/-- ITS FALSE NEIGHBOUR: 'it returns false'. Refute it at one input. -/
def fractionYearsWrong : ChangeSpec := { name := "fractionYears", fn := fun _ => fun
  | [d1, d2] => { results := [.lit (.bool false)], args := [d1, d2] }
  | _ => none }
def FractionYearsWrongFalsely : Prop := fractionYearsRow.holds Try.pinned (OpenSpec.ofChange fractionYearsWrong)

/-- 'quittancelaw06.FractionMonths': WHATEVER THE INPUT: true; the input reads as it did. -/
def fractionMonthsSpec : ChangeSpec := { name := "fractionMonths", fn := fun _ => fun
  | [d1, d2, d3] => { results := [.lit (.bool true)], args := [d1, d2, d3] }
  | _ => none }
def fractionMonthsRow : OpenClaim := { program := "ytabdgpjkjpbolaa", sum := "80c0c789909f21f2f24eeb820098aebe5f39f82d823f6606351f45721c11c03b", func := "quittance/quittancelaw06.FractionMonths", spec := "fractionMonths", apart := false }
def FractionMonthsSaid : Prop := fractionMonthsRow.holds Try.pinned (OpenSpec.ofChange fractionMonthsSpec)

/-- ITS FALSE NEIGHBOUR: 'it returns false'. Refute it at one input. -/
def fractionMonthsWrong : ChangeSpec := { name := "fractionMonths", fn := fun _ => fun
  | [d1, d2, d3] => { results := [.lit (.bool false)], args := [d1, d2, d3] }
  | _ => none }
def FractionMonthsWrongFalsely : Prop := fractionMonthsRow.holds Try.pinned (OpenSpec.ofChange fractionMonthsWrong)

/-- 'quittancelaw05.BusinessRolls': WHATEVER THE INPUT: true; the input reads as it did. -/
def businessRollsSpec : ChangeSpec := { name := "businessRolls", fn := fun _ => fun
  | [d1, d2, d3] => { results := [.lit (.bool true)], args := [d1, d2, d3] }
  | _ => none }
def businessRollsRow : OpenClaim := { program := "ytabdgpjkjpbolaa", sum := "80c0c789909f21f2f24eeb820098aebe5f39f82d823f6606351f45721c11c03b", func := "quittance/quittancelaw05.BusinessRolls", spec := "businessRolls", unfollowed := true, recurses := true, apart := false }
def BusinessRollsSaid : Prop := businessRollsRow.holds Try.pinned (OpenSpec.ofChange businessRollsSpec)

/-- ITS FALSE NEIGHBOUR: 'it returns false'. Refute it at one input. -/
def businessRollsWrong : ChangeSpec := { name := "businessRolls", fn := fun _ => fun
  | [d1, d2, d3] => { results := [.lit (.bool false)], args := [d1, d2, d3] }
  | _ => none }
def BusinessRollsWrongFalsely : Prop := businessRollsRow.holds Try.pinned (OpenSpec.ofChange businessRollsWrong)

/-- 'quittancelaw05.BusinessNear': WHATEVER THE INPUT: true; the input reads as it did. -/
def businessNearSpec : ChangeSpec := { name := "businessNear", fn := fun _ => fun
  | [d1, d2] => { results := [.lit (.bool true)], args := [d1, d2] }
  | _ => none }
def businessNearRow : OpenClaim := { program := "ytabdgpjkjpbolaa", sum := "80c0c789909f21f2f24eeb820098aebe5f39f82d823f6606351f45721c11c03b", func := "quittance/quittancelaw05.BusinessNear", spec := "businessNear", unfollowed := true, recurses := true, apart := false }
def BusinessNearSaid : Prop := businessNearRow.holds Try.pinned (OpenSpec.ofChange businessNearSpec)

/-- ITS FALSE NEIGHBOUR: 'it returns false'. Refute it at one input. -/
def businessNearWrong : ChangeSpec := { name := "businessNear", fn := fun _ => fun
  | [d1, d2] => { results := [.lit (.bool false)], args := [d1, d2] }
  | _ => none }
def BusinessNearWrongFalsely : Prop := businessNearRow.holds Try.pinned (OpenSpec.ofChange businessNearWrong)

/-- 'quittancelaw05.BusinessTells': WHATEVER THE INPUT: true; the input reads as it did. -/
def businessTellsSpec : ChangeSpec := { name := "businessTells", fn := fun _ => fun
  | [d1, d2, d3, d4, d5] => { results := [.lit (.bool true)], args := [d1, d2, d3, d4, d5] }
  | _ => none }
def businessTellsRow : OpenClaim := { program := "ytabdgpjkjpbolaa", sum := "80c0c789909f21f2f24eeb820098aebe5f39f82d823f6606351f45721c11c03b", func := "quittance/quittancelaw05.BusinessTells", spec := "businessTells", unfollowed := true, recurses := true, apart := false }
def BusinessTellsSaid : Prop := businessTellsRow.holds Try.pinned (OpenSpec.ofChange businessTellsSpec)

/-- ITS FALSE NEIGHBOUR: 'it returns false'. Refute it at one input. -/
def businessTellsWrong : ChangeSpec := { name := "businessTells", fn := fun _ => fun
  | [d1, d2, d3, d4, d5] => { results := [.lit (.bool false)], args := [d1, d2, d3, d4, d5] }
  | _ => none }
def BusinessTellsWrongFalsely : Prop := businessTellsRow.holds Try.pinned (OpenSpec.ofChange businessTellsWrong)

/-- 'quittancelaw05.BusinessNil': WHATEVER THE INPUT: true; the input reads as it did. -/
def businessNilSpec : ChangeSpec := { name := "businessNil", fn := fun _ => fun
  | [d1, d2] => { results := [.lit (.bool true)], args := [d1, d2] }
  | _ => none }
def businessNilRow : OpenClaim := { program := "ytabdgpjkjpbolaa", sum := "80c0c789909f21f2f24eeb820098aebe5f39f82d823f6606351f45721c11c03b", func := "quittance/quittancelaw05.BusinessNil", spec := "businessNil", unfollowed := true, recurses := true, apart := false }
def BusinessNilSaid : Prop := businessNilRow.holds Try.pinned (OpenSpec.ofChange businessNilSpec)

/-- ITS FALSE NEIGHBOUR: 'it returns false'. Refute it at one input. -/
def businessNilWrong : ChangeSpec := { name := "businessNil", fn := fun _ => fun
  | [d1, d2] => { results := [.lit (.bool false)], args := [d1, d2] }
  | _ => none }
def BusinessNilWrongFalsely : Prop := businessNilRow.holds Try.pinned (OpenSpec.ofChange businessNilWrong)

/-- 'quittancelaw05.BusinessCounts': WHATEVER THE INPUT: true; the input reads as it did. -/
def businessCountsSpec : ChangeSpec := { name := "businessCounts", fn := fun _ => fun
  | [d1, d2, d3, d4] => { results := [.lit (.bool true)], args := [d1, d2, d3, d4] }
  | _ => none }
def businessCountsRow : OpenClaim := { program := "ytabdgpjkjpbolaa", sum := "80c0c789909f21f2f24eeb820098aebe5f39f82d823f6606351f45721c11c03b", func := "quittance/quittancelaw05.BusinessCounts", spec := "businessCounts", unfollowed := true, recurses := true, apart := false }
def BusinessCountsSaid : Prop := businessCountsRow.holds Try.pinned (OpenSpec.ofChange businessCountsSpec)

/-- ITS FALSE NEIGHBOUR: 'it returns false'. Refute it at one input. -/
def businessCountsWrong : ChangeSpec := { name := "businessCounts", fn := fun _ => fun
  | [d1, d2, d3, d4] => { results := [.lit (.bool false)], args := [d1, d2, d3, d4] }
  | _ => none }
def BusinessCountsWrongFalsely : Prop := businessCountsRow.holds Try.pinned (OpenSpec.ofChange businessCountsWrong)

/- THE SECOND FORM. 'bulk': how many values and letters a reading holds, each counted each time it is reached (what is shared counts as often as it is met; a slice's spare places count too). A statement '..UptoSaid' is the law's where the arguments, and the package variables that the reading takes, are together of bulk at most 1048576: NARROWER than '..Said'. Prove '..Said' where nothing that the law and all that it calls make is longer than what came in: it says more and counts as full. Else prove '..UptoSaid'. A law counts once. -/
mutual
def uptoBulk {H : Type} : DataW H → Nat
  | .lit (.string bytes) => bytes.length + 1
  | .lit _ => 1
  | .nil => 1
  | .ptr d => uptoBulk d + 1
  | .slice elems spare => uptoBulkAll elems + uptoBulkAll spare + 1
  | .agg parts => uptoBulkAll parts + 1
  | .iface _ d => uptoBulk d + 1
  | .map entries => uptoBulkEntries entries + 1
  | .held _ => 1
def uptoBulkAll {H : Type} : List (DataW H) → Nat
  | [] => 0
  | d :: r => uptoBulk d + uptoBulkAll r
def uptoBulkEntries {H : Type} : List (Lit × DataW H) → Nat
  | [] => 0
  | x :: r => uptoBulkEntry x + uptoBulkEntries r
def uptoBulkEntry {H : Type} : Lit × DataW H → Nat
  | (.string bytes, d) => bytes.length + uptoBulk d + 1
  | (_, d) => uptoBulk d + 1
 end
def uptoSmall : (H : Type) → List (DataW H) → Bool := fun _ ds => decide (uptoBulkAll ds ≤ 1048576)
def OpenSpec.upto (s : _root_.Go.ChangeSpec) : _root_.Go.OpenSpec := { _root_.Go.OpenSpec.ofChange s with cond := some uptoSmall }

/-- 'quittancelaw03.CivilTexts', WHERE WHAT IT READS IS OF BULK AT MOST 1048576: true; the input reads as it did. -/
def civilTextsUptoRow : OpenClaim := { program := "ytabdgpjkjpbolaa", sum := "80c0c789909f21f2f24eeb820098aebe5f39f82d823f6606351f45721c11c03b", func := "quittance/quittancelaw03.CivilTexts", spec := "civilTexts", unfollowed := true, recurses := true, apart := false, narrowed := true }
def CivilTextsUptoSaid : Prop := civilTextsUptoRow.holds Try.pinned (OpenSpec.upto civilTextsSpec)

/-- 'quittancelaw03.CivilYears', WHERE WHAT IT READS IS OF BULK AT MOST 1048576: true; the input reads as it did. -/
def civilYearsUptoRow : OpenClaim := { program := "ytabdgpjkjpbolaa", sum := "80c0c789909f21f2f24eeb820098aebe5f39f82d823f6606351f45721c11c03b", func := "quittance/quittancelaw03.CivilYears", spec := "civilYears", unfollowed := true, recurses := true, apart := false, narrowed := true }
def CivilYearsUptoSaid : Prop := civilYearsUptoRow.holds Try.pinned (OpenSpec.upto civilYearsSpec)

/-- 'quittancelaw04.MonthlyBack', WHERE WHAT IT READS IS OF BULK AT MOST 1048576: true; the input reads as it did. -/
def monthlyBackUptoRow : OpenClaim := { program := "ytabdgpjkjpbolaa", sum := "80c0c789909f21f2f24eeb820098aebe5f39f82d823f6606351f45721c11c03b", func := "quittance/quittancelaw04.MonthlyBack", spec := "monthlyBack", apart := false, narrowed := true }
def MonthlyBackUptoSaid : Prop := monthlyBackUptoRow.holds Try.pinned (OpenSpec.upto monthlyBackSpec)

/-- 'quittancelaw04.MonthlyEnds', WHERE WHAT IT READS IS OF BULK AT MOST 1048576: true; the input reads as it did. -/
def monthlyEndsUptoRow : OpenClaim := { program := "ytabdgpjkjpbolaa", sum := "80c0c789909f21f2f24eeb820098aebe5f39f82d823f6606351f45721c11c03b", func := "quittance/quittancelaw04.MonthlyEnds", spec := "monthlyEnds", apart := false, narrowed := true }
def MonthlyEndsUptoSaid : Prop := monthlyEndsUptoRow.holds Try.pinned (OpenSpec.upto monthlyEndsSpec)

/-- 'quittancelaw03.CivilNext', WHERE WHAT IT READS IS OF BULK AT MOST 1048576: true; the input reads as it did. -/
def civilNextUptoRow : OpenClaim := { program := "ytabdgpjkjpbolaa", sum := "80c0c789909f21f2f24eeb820098aebe5f39f82d823f6606351f45721c11c03b", func := "quittance/quittancelaw03.CivilNext", spec := "civilNext", unfollowed := true, recurses := true, apart := false, narrowed := true }
def CivilNextUptoSaid : Prop := civilNextUptoRow.holds Try.pinned (OpenSpec.upto civilNextSpec)

/-- 'quittancelaw04.MonthlyTells', WHERE WHAT IT READS IS OF BULK AT MOST 1048576: true; the input reads as it did. -/
def monthlyTellsUptoRow : OpenClaim := { program := "ytabdgpjkjpbolaa", sum := "80c0c789909f21f2f24eeb820098aebe5f39f82d823f6606351f45721c11c03b", func := "quittance/quittancelaw04.MonthlyTells", spec := "monthlyTells", unfollowed := true, recurses := true, apart := false, narrowed := true }
def MonthlyTellsUptoSaid : Prop := monthlyTellsUptoRow.holds Try.pinned (OpenSpec.upto monthlyTellsSpec)

/-- 'quittancelaw04.MonthlySteps', WHERE WHAT IT READS IS OF BULK AT MOST 1048576: true; the input reads as it did. -/
def monthlyStepsUptoRow : OpenClaim := { program := "ytabdgpjkjpbolaa", sum := "80c0c789909f21f2f24eeb820098aebe5f39f82d823f6606351f45721c11c03b", func := "quittance/quittancelaw04.MonthlySteps", spec := "monthlySteps", unfollowed := true, recurses := true, apart := false, narrowed := true }
def MonthlyStepsUptoSaid : Prop := monthlyStepsUptoRow.holds Try.pinned (OpenSpec.upto monthlyStepsSpec)

/-- 'quittancelaw06.FractionTells', WHERE WHAT IT READS IS OF BULK AT MOST 1048576: true; the input reads as it did. -/
def fractionTellsUptoRow : OpenClaim := { program := "ytabdgpjkjpbolaa", sum := "80c0c789909f21f2f24eeb820098aebe5f39f82d823f6606351f45721c11c03b", func := "quittance/quittancelaw06.FractionTells", spec := "fractionTells", apart := false, narrowed := true }
def FractionTellsUptoSaid : Prop := fractionTellsUptoRow.holds Try.pinned (OpenSpec.upto fractionTellsSpec)

/-- 'quittancelaw06.FractionSplits', WHERE WHAT IT READS IS OF BULK AT MOST 1048576: true; the input reads as it did. -/
def fractionSplitsUptoRow : OpenClaim := { program := "ytabdgpjkjpbolaa", sum := "80c0c789909f21f2f24eeb820098aebe5f39f82d823f6606351f45721c11c03b", func := "quittance/quittancelaw06.FractionSplits", spec := "fractionSplits", unfollowed := true, recurses := true, apart := false, narrowed := true }
def FractionSplitsUptoSaid : Prop := fractionSplitsUptoRow.holds Try.pinned (OpenSpec.upto fractionSplitsSpec)

/-- 'quittancelaw06.FractionYears', WHERE WHAT IT READS IS OF BULK AT MOST 1048576: true; the input reads as it did. -/
def fractionYearsUptoRow : OpenClaim := { program := "ytabdgpjkjpbolaa", sum := "80c0c789909f21f2f24eeb820098aebe5f39f82d823f6606351f45721c11c03b", func := "quittance/quittancelaw06.FractionYears", spec := "fractionYears", unfollowed := true, recurses := true, apart := false, narrowed := true }
def FractionYearsUptoSaid : Prop := fractionYearsUptoRow.holds Try.pinned (OpenSpec.upto fractionYearsSpec)

/-- 'quittancelaw06.FractionMonths', WHERE WHAT IT READS IS OF BULK AT MOST 1048576: true; the input reads as it did. -/
def fractionMonthsUptoRow : OpenClaim := { program := "ytabdgpjkjpbolaa", sum := "80c0c789909f21f2f24eeb820098aebe5f39f82d823f6606351f45721c11c03b", func := "quittance/quittancelaw06.FractionMonths", spec := "fractionMonths", apart := false, narrowed := true }
def FractionMonthsUptoSaid : Prop := fractionMonthsUptoRow.holds Try.pinned (OpenSpec.upto fractionMonthsSpec)

/-- 'quittancelaw05.BusinessRolls', WHERE WHAT IT READS IS OF BULK AT MOST 1048576: true; the input reads as it did. -/
def businessRollsUptoRow : OpenClaim := { program := "ytabdgpjkjpbolaa", sum := "80c0c789909f21f2f24eeb820098aebe5f39f82d823f6606351f45721c11c03b", func := "quittance/quittancelaw05.BusinessRolls", spec := "businessRolls", unfollowed := true, recurses := true, apart := false, narrowed := true }
def BusinessRollsUptoSaid : Prop := businessRollsUptoRow.holds Try.pinned (OpenSpec.upto businessRollsSpec)

/-- 'quittancelaw05.BusinessNear', WHERE WHAT IT READS IS OF BULK AT MOST 1048576: true; the input reads as it did. -/
def businessNearUptoRow : OpenClaim := { program := "ytabdgpjkjpbolaa", sum := "80c0c789909f21f2f24eeb820098aebe5f39f82d823f6606351f45721c11c03b", func := "quittance/quittancelaw05.BusinessNear", spec := "businessNear", unfollowed := true, recurses := true, apart := false, narrowed := true }
def BusinessNearUptoSaid : Prop := businessNearUptoRow.holds Try.pinned (OpenSpec.upto businessNearSpec)

/-- 'quittancelaw05.BusinessTells', WHERE WHAT IT READS IS OF BULK AT MOST 1048576: true; the input reads as it did. -/
def businessTellsUptoRow : OpenClaim := { program := "ytabdgpjkjpbolaa", sum := "80c0c789909f21f2f24eeb820098aebe5f39f82d823f6606351f45721c11c03b", func := "quittance/quittancelaw05.BusinessTells", spec := "businessTells", unfollowed := true, recurses := true, apart := false, narrowed := true }
def BusinessTellsUptoSaid : Prop := businessTellsUptoRow.holds Try.pinned (OpenSpec.upto businessTellsSpec)

/-- 'quittancelaw05.BusinessNil', WHERE WHAT IT READS IS OF BULK AT MOST 1048576: true; the input reads as it did. -/
def businessNilUptoRow : OpenClaim := { program := "ytabdgpjkjpbolaa", sum := "80c0c789909f21f2f24eeb820098aebe5f39f82d823f6606351f45721c11c03b", func := "quittance/quittancelaw05.BusinessNil", spec := "businessNil", unfollowed := true, recurses := true, apart := false, narrowed := true }
def BusinessNilUptoSaid : Prop := businessNilUptoRow.holds Try.pinned (OpenSpec.upto businessNilSpec)

/-- 'quittancelaw05.BusinessCounts', WHERE WHAT IT READS IS OF BULK AT MOST 1048576: true; the input reads as it did. -/
def businessCountsUptoRow : OpenClaim := { program := "ytabdgpjkjpbolaa", sum := "80c0c789909f21f2f24eeb820098aebe5f39f82d823f6606351f45721c11c03b", func := "quittance/quittancelaw05.BusinessCounts", spec := "businessCounts", unfollowed := true, recurses := true, apart := false, narrowed := true }
def BusinessCountsUptoSaid : Prop := businessCountsUptoRow.holds Try.pinned (OpenSpec.upto businessCountsSpec)

end Rows
end Go.Proofs.Ytabdgpjkjpbolaa
