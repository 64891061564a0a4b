/- The law GrowthRefuses, walked. -/
import Derived.Test.YtliapjhjofmliaaL2
namespace Go.Proofs.Ytliapjhjofmliaa.H
open Go.RowKit Go.Proofs.YtliapjhjofmliaaW.PrintWords Go.Proofs.YtliapjhjofmliaaW.PrintLast Go.Proofs.YtliapjhjofmliaaW.PrintMore Go.Proofs.Ytliapjhjofmliaa.HW
set_option linter.unusedVariables false
set_option linter.unusedSimpArgs false
theorem bear_bad {W h rest bal rate n : Int} (hm : ¬ Gm.may bal rate n) : Gm.bear W h rest bal rate n = (0, 1, rest) := by
  unfold Gm.bear; rw [if_neg hm]
theorem bear_much {rest : Int} (G : Good (Gm.whole 3) (Gm.half 3 1) rest) : Gm.bear (Gm.whole 3) (Gm.half 3 1) rest 1000000000000000 1000000000 267180 = (0, 3, rest) := by
  have h1 : Gm.whole 3 = 133590000000000 := by decide
  have h2 : Gm.half 3 1 = 66795000000000 := by decide
  have r0 := G.r0
  have r1 := G.r1
  rw [h1, h2] at r1
  rw [h2] at r0
  unfold Gm.bear
  rw [if_pos (by decide), if_neg]
  rw [h1, h2]
  unfold Gm.q
  omega
set_option maxHeartbeats 2000000 in
set_option maxRecDepth 100000 in
theorem growthRefuses_walk (a0 a1 : Int) (w : World) (w0 : (Lit.int .i64 a0).wf = true) (w1 : (Lit.int .i64 a1).wf = true) :
    Calls Try.prog 14 #[.int .i64 a0, .int .i64 a1] w fun e w' => e = .returned (.bool true) ∧ Below w.heap.size w w' := by
  clear w0 w1
  obtain ⟨u, hu⟩ : ∃ u, IntKind.u64.wrap a0 = u := ⟨_, rfl⟩
  obtain ⟨v, hv⟩ : ∃ v, IntKind.u64.wrap a1 = v := ⟨_, rfl⟩
  obtain ⟨u1, u2⟩ : 0 ≤ u ∧ u ≤ 18446744073709551615 := by rw [← hu]; exact u64_bd a0
  obtain ⟨v1, v2⟩ : 0 ≤ v ∧ v ≤ 18446744073709551615 := by rw [← hv]; exact u64_bd a1
  obtain ⟨rt, hrt⟩ : ∃ rt, v % 1000000000 = rt := ⟨_, rfl⟩
  have t0 : 0 ≤ rt := by omega
  have t1 : rt ≤ 1000000000 := by omega
  go_enter Try.func14, Try.ntmps14
  go_wp2_with fail
  refine (bnew_any (c := 3) (r := 1) (by decide) (by decide) _).mono ?_
  rintro e w1 ⟨hb, gb, hg, rfl, A⟩
  have AA := Aside0.mk A
  have HB := Aside0.mk hb
  clear A hb
  go_wp2_with fail
  refine (grow_awake _).mono ?_
  rintro e w2 ⟨rfl, hb⟩
  have A2 := Aside0.mk (AA.out.below hb)
  have HB2 := Aside0.mk (below_step HB.out hb)
  clear hb AA HB
  go_wp2_with fail
  clear hv v1 v2 hrt
  refine (bear_any A2.out (good_new 3 1)).mono ?_
  rintro e w3 ⟨rfl, A, hbut⟩
  have G := Aside0.mk (good_bear (bal := 1000) (rate := rt) (n := 7) (good_new 3 1))
  have HB3 := Aside0.mk (hbut.below HB2.out HB2.out.size hg)
  generalize Gm.bear (Gm.whole 3) (Gm.half 3 1) 0 1000 rt 7 = y at *
  obtain ⟨y1, y2, rest⟩ := y
  have A3 := Aside0.mk (show BearAt w3 gb (Gm.whole 3) (Gm.half 3 1) rest from A)
  have G3 := Aside0.mk (show Good (Gm.whole 3) (Gm.half 3 1) rest from G.out)
  clear A hbut A2 HB2 G
  go_wp2_with fail
  refine (brest_any A3.out).mono ?_
  rintro e w4 ⟨rfl, rfl⟩
  rcases (by omega : u % 6 = 0 ∨ u % 6 = 1 ∨ u % 6 = 2 ∨ u % 6 = 3 ∨ u % 6 = 4 ∨ u % 6 = 5) with h6 | h6 | h6 | h6 | h6 | h6
  all_goals
    go_wp2_with fail
    refine (bear_any (A3.out.below (by repeat (first | exact Below.refl _ _ | (refine Below.alloc ?_ (by first | exact Nat.le_refl _ | (simp; done) | (simp; omega)) _)))) G3.out).mono ?_
    rw [bear_bad (by decide)]
    rintro e w5 ⟨rfl, A, hbut⟩
    have A5 := Aside0.mk (show BearAt w5 gb (Gm.whole 3) (Gm.half 3 1) rest from A)
    have HB5 := Aside0.mk (hbut.below (B := w.heap.size) (a := w) (by have := HB3.out.size; repeat (first | exact HB3.out | (refine Below.alloc ?_ (by first | exact HB3.out.size | (simp; omega)) _))) (by have := HB3.out.size; simp; omega) hg)
    clear A hbut
    go_wp2_with fail
    refine (bear_any A5.out G3.out).mono ?_
    rw [bear_much G3.out]
    rintro e w6 ⟨rfl, A, hbut⟩
    have A6 := Aside0.mk (show BearAt w6 gb (Gm.whole 3) (Gm.half 3 1) rest from A)
    have HB6 := Aside0.mk (hbut.below HB5.out HB5.out.size hg)
    clear A hbut A5 HB5
    go_wp2_with fail
    refine (bnew_no_count (by decide) _).mono ?_
    rintro e w7 ⟨rfl, hb⟩
    have A7 := Aside0.mk (A6.out.below hb)
    have HB7 := Aside0.mk (below_step HB6.out hb)
    clear hb A6 HB6
    go_wp2_with fail
    refine (bnew_no_round (by decide) (by decide) _).mono ?_
    rintro e w8 ⟨rfl, hb⟩
    have A8 := Aside0.mk (A7.out.below hb)
    have HB8 := Aside0.mk (below_step HB7.out hb)
    clear hb A7 HB7
    go_wp2_with fail
    refine (brest_any A8.out).mono ?_
    rintro e w9 ⟨rfl, rfl⟩
    go_wp2_with fail
    go_ret
    exact ⟨rfl, HB8.out⟩
end Go.Proofs.Ytliapjhjofmliaa.H
