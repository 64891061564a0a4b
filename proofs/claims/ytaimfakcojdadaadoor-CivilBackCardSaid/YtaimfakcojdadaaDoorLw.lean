/- What the rows of this seat have in common: a world that holds the library's tables; what the condition on them gives. -/
import Derived.Test.YtaimfakcojdadaaDoorRows
import Derived.Test.YtaimfakcojdadaaDoorTw
import Derived.ChangeSame
import Derived.ChangeVars
import Derived.JoinedOf
import Derived.LaidLaws
import Derived.LaidHandle
import Derived.MakeChecks
import Derived.Stop.LaidErr
import Derived.Stop.Joined
import Derived.Lib.LaidTab
namespace Go.Proofs.YtaimfakcojdadaaDoor.H
open Go.RowKit Go.Proofs.YtaimfakcojdadaaDoorW.PrintWords Go.MakeChecks
set_option linter.unusedVariables false
abbrev laidList : List (String × DataW Unit) := [("math/bits.deBruijn32tab", Rows.laid_math_bits_deBruijn32tab), ("math/bits.deBruijn64tab", Rows.laid_math_bits_deBruijn64tab), ("internal/strconv.uint64pow10", Rows.laid_internal_strconv_uint64pow10)]
def litOf : DataW Unit → Value
  | .lit (.int k z) => .int k z
  | _ => .bool false
def cellsOf : DataW Unit → Array Value
  | .agg l => (l.map litOf).toArray
  | _ => #[]
def layIn (o : Obj) (cs : Array Value) : Obj := match o with
  | .cells _ t frozen => .cells cs t frozen
  | o => o
/-- The settled world, the three tables laid. -/
noncomputable def laidWorld (os : Os) : World :=
  let w0 := World.holding Tryd.prog os ⟨#[], #[], []⟩
  { w0 with heap := ((w0.heap.modify 1 fun o => layIn o (cellsOf Rows.laid_math_bits_deBruijn32tab)).modify 2 fun o => layIn o (cellsOf Rows.laid_math_bits_deBruijn64tab)).modify 0 fun o => layIn o (cellsOf Rows.laid_internal_strconv_uint64pow10) }
theorem laidWorld_met (os : Os) (args : Array Value) : laidMetH Tryd.prog laidList ((laidWorld os).forCall (fun _ _ => 0) ⟨#[], args, []⟩).memory := by
  rw [laidMetH_plain _ _ _ (by kernel_rfl)]
  exact laidMet_of_run' 8 (by kernel_rfl) (by kernel_rfl)
theorem tab_of_laid {W : World} (h : laidMetH Tryd.prog laidList W) : Tab W := by
  rw [laidMetH_plain _ _ _ (by kernel_rfl)] at h
  have h2 : laidMet Tryd.prog [("internal/strconv.uint64pow10", Lib.tabData .u64 Lib.pow10Tab)] W := h.tail.tail
  exact Lib.tabIs_of_head (t := 56) (n := 20) tab_global (by kernel_rfl) (by kernel_rfl) Tryd.underlying50 (by kernel_rfl) (by kernel_rfl) h2
end Go.Proofs.YtaimfakcojdadaaDoor.H
