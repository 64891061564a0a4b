/- FixnumNone: what rounds in no way answers nothing; what is divided by nothing, or below, neither; for every input. -/
import Derived.Test.YtliapjhjofmliaaPFixnumNonex1
import Derived.Test.YtliapjhjofmliaaE9
namespace Go.Proofs.Ytliapjhjofmliaa.Pure
open Go.RowKit Go.Proofs.Ytliapjhjofmliaa.PFixnumNone Go.Proofs.YtliapjhjofmliaaW.PrintWords Go.Proofs.YtliapjhjofmliaaW.PrintLast
open Go.Proofs.Ytliapjhjofmliaa.H

theorem awakeNone : quittancelaw01_awake.f = some true := by kernel_rfl
theorem FixnumNone : quittancelaw01_FixnumNone.Pure := by
  intro a0 a1 w0 w1
  have h0 := wf_r w0
  have h1 := wf_r w1
  unfold quittancelaw01_FixnumNone.f
  rw [div_arg h0 h1 (by omega), rat_arg h0 (by decide) h1 (by omega), of_yes (by omega), awakeNone]
  simp only [Option.bind_some]
  rw [div_arg h0 (by decide) (by omega), rat_arg h0 h0 (by decide) (by omega)]
  simp
end Go.Proofs.Ytliapjhjofmliaa.Pure
