/- Contracts restated: digits. -/
import Derived.Test.YtaimfakcojdadaaDoorC3
namespace Go.Proofs.YtaimfakcojdadaaDoor.H
open Go.RowKit Go.Proofs.YtaimfakcojdadaaDoorW.PrintWords Go.Proofs.YtaimfakcojdadaaDoorW.PrintLast Go.Proofs.YtaimfakcojdadaaDoorW.PrintMore
set_option linter.unusedVariables false
def help_Digits.f (v least : Int) : Option ByteArray := PA.quittancehelp_Digits.f 30 v least
theorem help_Digits.calls (a0 a1 : Int) (r : ByteArray) (w : World) (h : help_Digits.f a0 a1 = some r) : Calls Tryd.prog 27 #[.int .i64 a0, .int .i64 a1] w fun e w' => e = .returned (.string r) ∧ Below w.heap.size w w' :=
  PA.quittancehelp_Digits.calls 30 a0 a1 r w h
end Go.Proofs.YtaimfakcojdadaaDoor.H
