/- Contracts by hand: a number of 128 bits by another one, rounded, or thrown. -/
import Derived.Test.YtliapjhjofmliaaD3
import Derived.Test.YtliapjhjofmliaaF1
import Derived.StillTailTactics
import Derived.Deep.RegionHeld3
import Derived.Deep.RegionWith
import Derived.WalkLawsBesides
import Derived.WalkSpells
namespace Go.Proofs.Ytliapjhjofmliaa.H
open Go.RowKit Go.Proofs.YtliapjhjofmliaaW.PrintWords Go.Proofs.YtliapjhjofmliaaW.PrintLast Go.Proofs.YtliapjhjofmliaaW.PrintMore
open Go.Proofs.Ytliapjhjofmliaa.Math
set_option linter.unusedVariables false
set_option linter.unusedSimpArgs false

theorem size_is {v : Int} (h1 : -9223372036854775808 ≤ v) (h2 : v ≤ 9223372036854775807) : PA.fixnum_size.f v = some (if v < 0 then -v else v) := by
  unfold PA.fixnum_size.f
  split
  · rw [w64 (x := v + 1) (by omega) (by omega), w64 (x := -(v + 1)) (by omega) (by omega), u64s (x := -(v + 1)) (by omega) (by omega), u64s (by omega) (by omega)]
    congr 1; omega
  · rw [u64s (by omega) (by omega)]
theorem size_pos {d : Int} (h1 : 0 < d) (h2 : d ≤ 9223372036854775807) (w : World) : Calls Try.prog 51 #[.int .i64 d] w fun e w' => e = .returned (.int .u64 d) ∧ Drawn0 w w' := by
  refine PA.fixnum_size.calls d d w ?_
  rw [size_is (by omega) h2, if_neg (by omega)]
def fits (v : Int) : Prop := -1000000000000000 ≤ v ∧ v ≤ 1000000000000000
instance (v : Int) : Decidable (fits v) := by unfold fits; exact inferInstance
theorem Fits_is (v : Int) : PA.fixnum_Fits.f v = some (decide (fits v)) := by
  unfold PA.fixnum_Fits.f fits
  by_cases h : v ≥ -1000000000000000 <;> simp [h]
theorem fit_yes {v : Int} (h : fits v) (w : World) : Calls Try.prog 43 #[.int .i64 v] w fun e w' => e = .returned (.int .i64 v) ∧ Drawn0 w w' := by
  refine PA.fixnum_fit.calls v v w ?_
  unfold PA.fixnum_fit.f
  rw [Fits_is, decide_eq_true h]
  simp [fixnum_must.f]
theorem fit_no {v : Int} (h : ¬ fits v) (w : World) : Calls Try.prog 43 #[.int .i64 v] w fun e w' => e = .panicked [{ v := .iface 24 (.int .i64 3), recovered := false }] ∧ Drawn0 w w' := by
  have HF := Aside0.mk (show PA.fixnum_Fits.f v = some false by rw [Fits_is, decide_eq_false h])
  clear h
  go_enter Try.func43, Try.ntmps43
  go_wp2_with fail
  refine (PA.fixnum_Fits.calls v false _ HF.out).mono ?_
  rintro e w1 ⟨rfl, ⟨n, rfl⟩⟩
  go_wp2_with fail
  refine (must_no 3 _).mono ?_
  rintro e w1 ⟨rfl, rfl⟩
  exact ⟨rfl, rfl, ⟨n, rfl⟩⟩

end Go.Proofs.Ytliapjhjofmliaa.H
