-- Written by a program of this session (wip/tools/myprint.py) with the help of the printer of the kit; Lean checks it.
import Derived.Test.YtaimfakcojdadaaDoorProg
import Derived.Below
import Derived.Deep.Draws
import Derived.Deep.AppendLies
import Derived.Maps.AppendAt
import Derived.OwnWalk
import Derived.Laws.BytesArg
import Derived.Laws.MakeOwn
import Derived.Laws.OwnMore
import Derived.Deep.OwnRows
import Derived.Tactics
import Derived.Lib.ConvBytes
import Derived.Laws.Slices
import Derived.WalkKit
import Derived.KernelRfl
import Derived.RowKit3
import Derived.Deep.LoopGhost
import Derived.Deep.QuietTactic
import Derived.BigQuiet
import Derived.WideLaws
import Derived.Deep.DeepCutAuto
import Derived.Deep.CutBlock
import Derived.Deep.RegionHeld3
import Derived.Laws.Rows
import Derived.Lib.AppendStr
import Derived.ArgAppend
import Derived.Laws.IdiomCopy
import Derived.OrdersHeld
import Derived.Laws.BitsLemmas
import Derived.RowKit
import Derived.Test.YtaimfakcojdadaaDoorHW
import Derived.Test.YtaimfakcojdadaaDoorC3
import Derived.Test.YtaimfakcojdadaaDoorH5
import Derived.Test.YtaimfakcojdadaaDoorWWords
import Derived.Test.YtaimfakcojdadaaDoorWLast
import Derived.Test.YtaimfakcojdadaaDoorWTab
import Derived.Test.YtaimfakcojdadaaDoorWFour
import Derived.Test.YtaimfakcojdadaaDoorWQPut
import Derived.Test.YtaimfakcojdadaaDoorWApart
import Derived.Test.YtaimfakcojdadaaDoorWArr
import Derived.Test.YtaimfakcojdadaaDoorWZeros
import Derived.Test.YtaimfakcojdadaaDoorWFoot
import Derived.Test.YtaimfakcojdadaaDoorWKept
import Derived.Test.YtaimfakcojdadaaDoorWShare
import Derived.Test.YtaimfakcojdadaaDoorWN
import Derived.Test.YtaimfakcojdadaaDoorWFootNe
import Derived.Test.YtaimfakcojdadaaDoorWAt
import Derived.Test.YtaimfakcojdadaaDoorWEqStruct
import Derived.Test.YtaimfakcojdadaaDoorWRepsOne
import Derived.Test.YtaimfakcojdadaaDoorWInv
import Derived.Test.YtaimfakcojdadaaDoorWInvWords
import Derived.Test.YtaimfakcojdadaaDoorWGuard
import Derived.Test.YtaimfakcojdadaaDoorWNEv
import Derived.Test.YtaimfakcojdadaaDoorWMore
namespace Go.Proofs.YtaimfakcojdadaaDoor.PTX
open Go.RowKit Go.Proofs.YtaimfakcojdadaaDoorW.PrintWords Go.Proofs.YtaimfakcojdadaaDoorW.PrintLast Go.Proofs.YtaimfakcojdadaaDoorW.PrintMore Go.Proofs.YtaimfakcojdadaaDoor.HW
attribute [local go_sem] run_makeFunc_ max2_int min2_int max_two min_two max_three min_three max_four min_four   -- for this text's walks alone
set_option linter.unusedVariables false
set_option linter.unusedSimpArgs false



def errW : Option Int → Value
  | none => .nilIface
  | some c => .iface 0 (.int .i64 c)
theorem errW_none : errW none = .nilIface := rfl
theorem errW_some (c : Int) : errW (some c) = .iface 0 (.int .i64 c) := rfl

-- the values' own types

end Go.Proofs.YtaimfakcojdadaaDoor.PTX
