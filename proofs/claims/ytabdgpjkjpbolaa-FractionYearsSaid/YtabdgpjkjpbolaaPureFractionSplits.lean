/- FractionSplits: what lies between splits anywhere, forwards and back; a day by itself is told; for every input. -/
import Derived.Test.YtabdgpjkjpbolaaPFractionSplitsx1
import Derived.Test.YtabdgpjkjpbolaaArith
namespace Go.Proofs.Ytabdgpjkjpbolaa.Pure
open Go.RowKit Go.Proofs.Ytabdgpjkjpbolaa.PFractionSplits Go.Proofs.YtabdgpjkjpbolaaW.PrintWords Go.Proofs.YtabdgpjkjpbolaaW.PrintLast
open Go.Proofs.Ytabdgpjkjpbolaa.Math Go.Proofs.Ytabdgpjkjpbolaa.H
set_option linter.unusedVariables false
set_option linter.unusedSimpArgs false
theorem awake06s : quittancelaw06_awake.f = some true := by kernel_rfl
theorem between_yes {c a b : Int} (hc : c = 1 ∨ c = 2 ∨ c = 3) (ha : isDay a) (hb : isDay b) : between c a b = (place c b - place c a, 0) := by
  unfold between
  rw [if_pos hc, if_pos (show isDay a ∧ isDay b from ⟨ha, hb⟩)]
theorem FractionSplits : quittancelaw06_FractionSplits.Pure := by
  intro a0 a1 a2 a3 _ _ _ _
  unfold quittancelaw06_FractionSplits.f quittancelaw06_FractionSplits_1.f
  obtain ⟨n1, n2⟩ := umod a0 3 (by omega) (by omega)
  obtain ⟨x1, x2⟩ := umod a1 109937 (by omega) (by omega)
  obtain ⟨y1, y2⟩ := umod a2 109937 (by omega) (by omega)
  obtain ⟨z1, z2⟩ := umod a3 109937 (by omega) (by omega)
  generalize wrap64 (Int.tmod (IntKind.u64.wrap a0) 3) = c at *
  generalize wrap64 (Int.tmod (IntKind.u64.wrap a1) 109937) = x at *
  generalize wrap64 (Int.tmod (IntKind.u64.wrap a2) 109937) = y at *
  generalize wrap64 (Int.tmod (IntKind.u64.wrap a3) 109937) = z at *
  rw [w64 (x := 1 + c) (by omega) (by omega), w64 (x := -25567 + x) (by omega) (by omega), w64 (x := -25567 + y) (by omega) (by omega), w64 (x := -25567 + z) (by omega) (by omega)]
  have hc : 1 + c = 1 ∨ 1 + c = 2 ∨ 1 + c = 3 := by omega
  have dx : isDay (-25567 + x) := ⟨by omega, by omega⟩
  have dx' : isDay (-25567 + x + 1) := ⟨by omega, by omega⟩
  have dy : isDay (-25567 + y) := ⟨by omega, by omega⟩
  have dz : isDay (-25567 + z) := ⟨by omega, by omega⟩
  generalize 1 + c = k at *
  generalize -25567 + x = a at *
  generalize -25567 + y = b at *
  generalize -25567 + z = d at *
  have pa := place_bd (c := k) dx
  have pa' := place_bd (c := k) dx'
  have pb := place_bd (c := k) dy
  have pd := place_bd (c := k) dz
  have hs := place_succ hc dx dx'
  obtain ⟨a1', a2'⟩ := id dx
  simp only [H.fraction_Between.f, H.quittanceref06_One.f, Option.bind_some, awake06s]
  rw [w64 (x := a + 1) (by omega) (by omega), between_yes hc dx dy, between_yes hc dy dz, between_yes hc dx dz, between_yes hc dz dx, between_yes hc dx dx']
  simp only [if_true]
  rw [w64 (x := place k b - place k a + (place k d - place k b)) (by omega) (by omega), w64 (x := -(place k d - place k a)) (by omega) (by omega)]
  rw [if_pos (show place k b - place k a + (place k d - place k b) = place k d - place k a by omega), if_pos (show place k a - place k d = -(place k d - place k a) by omega), if_pos (show -9223372036854775808 ≤ a ∧ a < 9223372036854775807 by omega)]
  simp only [Option.bind_some]
  rw [show place k (a + 1) - place k a = one k a by omega]
  simp
end Go.Proofs.Ytabdgpjkjpbolaa.Pure
