/- Contracts restated: digits. -/
import Derived.Test.YtabdgpjkjpbolaaC3
namespace Go.Proofs.Ytabdgpjkjpbolaa.H
open Go.RowKit Go.Proofs.YtabdgpjkjpbolaaW.PrintWords Go.Proofs.YtabdgpjkjpbolaaW.PrintLast Go.Proofs.YtabdgpjkjpbolaaW.PrintMore
set_option linter.unusedVariables false
def help_Digits.f (v least : Int) : Option ByteArray := PA.quittancehelp_Digits.f 30 v least
theorem help_Digits.calls (a0 a1 : Int) (r : ByteArray) (w : World) (h : help_Digits.f a0 a1 = some r) : Calls Try.prog 58 #[.int .i64 a0, .int .i64 a1] w fun e w' => e = .returned (.string r) ∧ Below w.heap.size w w' :=
  PA.quittancehelp_Digits.calls 30 a0 a1 r w h
end Go.Proofs.Ytabdgpjkjpbolaa.H
