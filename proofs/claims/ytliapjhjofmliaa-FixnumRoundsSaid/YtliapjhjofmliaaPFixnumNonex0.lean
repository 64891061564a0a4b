-- Written by a program of this session (wip/tools/myprint.py) with the help of the printer of the kit; Lean checks it.
import Derived.Test.YtliapjhjofmliaaProg
import Derived.Below
import Derived.Deep.Draws
import Derived.Deep.AppendLies
import Derived.Maps.AppendAt
import Derived.OwnWalk
import Derived.Laws.BytesArg
import Derived.Laws.MakeOwn
import Derived.Laws.OwnMore
import Derived.Deep.OwnRows
import Derived.Tactics
import Derived.Lib.ConvBytes
import Derived.Laws.Slices
import Derived.WalkKit
import Derived.KernelRfl
import Derived.RowKit3
import Derived.Deep.LoopGhost
import Derived.Deep.QuietTactic
import Derived.BigQuiet
import Derived.WideLaws
import Derived.Deep.DeepCutAuto
import Derived.Deep.CutBlock
import Derived.Deep.RegionHeld3
import Derived.Laws.Rows
import Derived.Lib.AppendStr
import Derived.ArgAppend
import Derived.Laws.IdiomCopy
import Derived.OrdersHeld
import Derived.Laws.BitsLemmas
import Derived.RowKit
import Derived.Test.YtliapjhjofmliaaHW
import Derived.Test.YtliapjhjofmliaaE8
import Derived.Test.YtliapjhjofmliaaWWords
import Derived.Test.YtliapjhjofmliaaWLast
import Derived.Test.YtliapjhjofmliaaWTab
import Derived.Test.YtliapjhjofmliaaWFour
import Derived.Test.YtliapjhjofmliaaWQPut
import Derived.Test.YtliapjhjofmliaaWApart
import Derived.Test.YtliapjhjofmliaaWArr
import Derived.Test.YtliapjhjofmliaaWZeros
import Derived.Test.YtliapjhjofmliaaWFoot
import Derived.Test.YtliapjhjofmliaaWKept
import Derived.Test.YtliapjhjofmliaaWShare
import Derived.Test.YtliapjhjofmliaaWN
import Derived.Test.YtliapjhjofmliaaWFootNe
import Derived.Test.YtliapjhjofmliaaWAt
import Derived.Test.YtliapjhjofmliaaWEqStruct
import Derived.Test.YtliapjhjofmliaaWRepsOne
import Derived.Test.YtliapjhjofmliaaWInv
import Derived.Test.YtliapjhjofmliaaWInvWords
import Derived.Test.YtliapjhjofmliaaWGuard
import Derived.Test.YtliapjhjofmliaaWNEv
import Derived.Test.YtliapjhjofmliaaWMore
namespace Go.Proofs.Ytliapjhjofmliaa.PFixnumNone
open Go.RowKit Go.Proofs.YtliapjhjofmliaaW.PrintWords Go.Proofs.YtliapjhjofmliaaW.PrintLast Go.Proofs.YtliapjhjofmliaaW.PrintMore Go.Proofs.Ytliapjhjofmliaa.HW
attribute [local go_sem] run_makeFunc_ max2_int min2_int max_two min_two max_three min_three max_four min_four   -- for this text's walks alone
set_option linter.unusedVariables false
set_option linter.unusedSimpArgs false



def errW : Option Int → Value
  | none => .nilIface
  | some c => .iface 0 (.int .i64 c)
theorem errW_none : errW none = .nilIface := rfl
theorem errW_some (c : Int) : errW (some c) = .iface 0 (.int .i64 c) := rfl

-- the values' own types

end Go.Proofs.Ytliapjhjofmliaa.PFixnumNone
