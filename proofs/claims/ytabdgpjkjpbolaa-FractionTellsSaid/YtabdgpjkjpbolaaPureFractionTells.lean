/- FractionTells: a year's parts, and how many lie between any two days, by any count, or why not, as the reference has them; for every input. -/
import Derived.Test.YtabdgpjkjpbolaaPFractionTellsx1
import Derived.Test.YtabdgpjkjpbolaaArith
namespace Go.Proofs.Ytabdgpjkjpbolaa.Pure
open Go.RowKit Go.Proofs.Ytabdgpjkjpbolaa.PFractionTells Go.Proofs.YtabdgpjkjpbolaaW.PrintWords Go.Proofs.YtabdgpjkjpbolaaW.PrintLast
open Go.Proofs.Ytabdgpjkjpbolaa.Math Go.Proofs.Ytabdgpjkjpbolaa.H
set_option linter.unusedVariables false
set_option linter.unusedSimpArgs false
theorem awake06 : quittancelaw06_awake.f = some true := by kernel_rfl
theorem near_some (a b : Int) : ∃ t, quittancelaw06_near.f a b = some t := by
  unfold quittancelaw06_near.f
  repeat' split
  all_goals exact ⟨_, rfl⟩
theorem refParts (c : Int) : quittanceref06_Parts.f c = some (parts c) := by
  unfold quittanceref06_Parts.f parts
  repeat' split
  all_goals rfl
theorem FractionTells : quittancelaw06_FractionTells.Pure := by
  intro a0 a1 a2 _ _ _
  unfold quittancelaw06_FractionTells.f
  obtain ⟨t, ht⟩ := near_some a1 a2
  rw [ht]
  simp only [Option.bind_some, awake06, refParts, fraction_Parts.f, fraction_Between.f, H.quittanceref06_Between.f]
  simp
end Go.Proofs.Ytabdgpjkjpbolaa.Pure
