/- FixnumSums: which numbers fit; the sum of any two, and any number so many times, or why not; for every input. -/
import Derived.Test.YtliapjhjofmliaaPFixnumSumsx1
import Derived.Test.YtliapjhjofmliaaF3
namespace Go.Proofs.Ytliapjhjofmliaa.Pure
open Go.RowKit Go.Proofs.Ytliapjhjofmliaa.PFixnumSums Go.Proofs.YtliapjhjofmliaaW.PrintWords Go.Proofs.YtliapjhjofmliaaW.PrintLast
open Go.Proofs.Ytliapjhjofmliaa.H Go.Proofs.Ytliapjhjofmliaa.Math
set_option linter.unusedVariables false
set_option linter.unusedSimpArgs false

theorem awakeSums : quittancelaw01_awake.f = some true := by kernel_rfl
theorem rfits2 (v : Int) : PA.quittanceref01_Fits.f v = some (decide (fits v)) := by
  unfold PA.quittanceref01_Fits.f fits
  by_cases h : v ≥ -1000000000000000 <;> simp [h]
theorem ref_plus (a b : Int) : PA.quittanceref01_Plus.f a b = some (plus a b) := by
  unfold PA.quittanceref01_Plus.f plus
  simp only [rfits2, Option.bind_some, decide_eq_true_eq]
  by_cases h0 : fits a
  · rw [if_pos h0]
    by_cases h1 : fits b
    · rw [if_pos h1, w64 (by unfold fits at *; omega) (by unfold fits at *; omega)]
      by_cases h2 : fits (a + b)
      · rw [if_pos h2, if_pos ⟨h0, h1, h2⟩]
      · rw [if_neg h2, if_neg (fun h => h2 h.2.2)]
    · rw [if_neg h1, if_neg (fun h => h1 h.2.1)]
  · rw [if_neg h0, if_neg (fun h => h0 h.1)]
theorem FixnumSums : quittancelaw01_FixnumSums.Pure := by
  intro a0 a1 a2 w0 w1 w2
  have h2 := wf_r w2
  unfold quittancelaw01_FixnumSums.f fixnum_Plus.f fixnum_Times.f ref_Times.f
  rw [ref_plus, if_pos h2, awakeSums]
  simp [rfits2, Fits_is]
end Go.Proofs.Ytliapjhjofmliaa.Pure
