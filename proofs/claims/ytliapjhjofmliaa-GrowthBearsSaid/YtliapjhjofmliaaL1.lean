/- The laws of growth, walked: awake, and a year. -/
import Derived.Test.YtliapjhjofmliaaK4
namespace Go.Proofs.Ytliapjhjofmliaa.H
open Go.RowKit Go.Proofs.YtliapjhjofmliaaW.PrintWords Go.Proofs.YtliapjhjofmliaaW.PrintLast Go.Proofs.YtliapjhjofmliaaW.PrintMore Go.Proofs.Ytliapjhjofmliaa.HW
set_option linter.unusedVariables false
set_option linter.unusedSimpArgs false
theorem grow_awake (w : World) : Calls Try.prog 29 #[] w fun e w' => e = .returned (.bool true) ∧ Below w.heap.size w w' := by
  go_enter Try.func29, Try.ntmps29
  go_wp2_with fail
  refine (bnew_any (c := 2) (r := 1) (by decide) (by decide) _).mono ?_
  rintro e w1 ⟨hb, gb, hg, rfl, A⟩
  have AA := Aside0.mk A
  have HB := Aside0.mk hb
  clear A hb
  go_wp2_with fail
  refine (bear_any AA.out (good_new 2 1)).mono ?_
  rintro e w2 ⟨rfl, A, hbut⟩
  have A2 := Aside0.mk (show BearAt w2 gb (Gm.whole 2) (Gm.half 2 1) 0 from A)
  have HB2 := Aside0.mk (hbut.below HB.out HB.out.size hg)
  have hv : (Gm.bear (Gm.whole 2) (Gm.half 2 1) 0 365 1000000000 1).1 = 1 := by decide
  have he : (Gm.bear (Gm.whole 2) (Gm.half 2 1) 0 365 1000000000 1).2.1 = 0 := by decide
  clear A hbut HB AA
  go_wp2_with fail
  refine (brest_any A2.out).mono ?_
  rintro e w3 ⟨rfl, rfl⟩
  go_wp2_with fail
  go_ret
  exact ⟨rfl, HB2.out⟩
end Go.Proofs.Ytliapjhjofmliaa.H
