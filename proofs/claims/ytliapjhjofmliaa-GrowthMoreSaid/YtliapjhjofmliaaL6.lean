/- The law GrowthMore, walked. -/
import Derived.Test.YtliapjhjofmliaaL5
import Derived.Test.YtliapjhjofmliaaOp
import Derived.Deep.RegionHeld3
import Derived.RegionTactic
import Derived.Deep.DrawnRows
import Derived.Deep.DeepCutAuto
import Derived.Deep.RegionWith
namespace Go.Proofs.Ytliapjhjofmliaa.H
open Go.RowKit Go.Proofs.YtliapjhjofmliaaW.PrintWords Go.Proofs.YtliapjhjofmliaaW.PrintLast Go.Proofs.YtliapjhjofmliaaW.PrintMore Go.Proofs.Ytliapjhjofmliaa.HW
attribute [local go_sem] max2_int min2_int max_two min_two
set_option linter.unusedVariables false
set_option linter.unusedSimpArgs false
def ct (m x : Int) : Int := IntKind.u64.wrap x % m
theorem ct_bd {m x : Int} (hm : 0 < m) : 0 ≤ ct m x ∧ ct m x ≤ m - 1 := by
  unfold ct
  have h1 := Int.emod_nonneg (IntKind.u64.wrap x) (show m ≠ 0 by omega)
  have h2 := Int.emod_lt_of_pos (IntKind.u64.wrap x) hm
  omega
theorem cut_any (x y z : Int) (w : World) : Calls Try.prog 34 #[.agg #[.int .i64 x, .int .i64 y, .int .i64 z]] w fun e w' => e = .returned (.agg #[.int .i64 (ct 10000000000000 x), .int .i64 (ct 1000000000 y), .int .i64 (ct 3000 z)]) ∧ Below w.heap.size w w' := by
  obtain ⟨b0, b1⟩ := ct_bd (m := 10000000000000) (x := x) (by decide)
  obtain ⟨r0, r1⟩ := ct_bd (m := 1000000000) (x := y) (by decide)
  obtain ⟨n0, n1⟩ := ct_bd (m := 3000) (x := z) (by decide)
  unfold ct at b0 b1 r0 r1 n0 n1
  unfold ct
  obtain ⟨xu, hxu⟩ : ∃ u, IntKind.u64.wrap x = u := ⟨_, rfl⟩
  obtain ⟨xu1, xu2⟩ : 0 ≤ xu ∧ xu ≤ 18446744073709551615 := by rw [← hxu]; exact u64_bd _
  obtain ⟨yu, hyu⟩ : ∃ u, IntKind.u64.wrap y = u := ⟨_, rfl⟩
  obtain ⟨yu1, yu2⟩ : 0 ≤ yu ∧ yu ≤ 18446744073709551615 := by rw [← hyu]; exact u64_bd _
  obtain ⟨zu, hzu⟩ : ∃ u, IntKind.u64.wrap z = u := ⟨_, rfl⟩
  obtain ⟨zu1, zu2⟩ : 0 ≤ zu ∧ zu ≤ 18446744073709551615 := by rw [← hzu]; exact u64_bd _
  rw [hxu, hyu, hzu]
  clear b0 b1 r0 r1 n0 n1
  go_enter Try.func34, Try.ntmps34
  go_wp2_with fail
  exact bodyPost_ret (v := .agg #[.int .i64 (xu % 10000000000000), .int .i64 (yu % 1000000000), .int .i64 (zu % 3000)]) (by simp [results, Try.results34, go_sem]) rfl ⟨rfl, by repeat (first | exact Below.refl _ _ | (refine Below.alloc ?_ (by first | exact Nat.le_refl _ | (simp; done) | (simp; omega)) _) | (refine Below.setCell ?_ (by simp) _))⟩
/-- Two spans lie in two blocks. -/
structure Two (w W : World) (x2 y2 z2 x3 y3 z3 : Int) : Prop where
  a0 : W.cell? ⟨w.heap.size, 0, none⟩ = some (.int .i64 x2)
  a1 : W.cell? ⟨w.heap.size, 1, none⟩ = some (.int .i64 y2)
  a2 : W.cell? ⟨w.heap.size, 2, none⟩ = some (.int .i64 z2)
  b0 : W.cell? ⟨w.heap.size + 1, 0, none⟩ = some (.int .i64 x3)
  b1 : W.cell? ⟨w.heap.size + 1, 1, none⟩ = some (.int .i64 y3)
  b2 : W.cell? ⟨w.heap.size + 1, 2, none⟩ = some (.int .i64 z3)
  fa : ∀ j, W.frozen? ⟨w.heap.size, j, none⟩ = false
  fb : ∀ j, W.frozen? ⟨w.heap.size + 1, j, none⟩ = false
  below : Below w.heap.size w W
  size : w.heap.size + 2 ≤ W.heap.size
theorem Two.step {w W W' : World} {x2 y2 z2 x3 y3 z3 : Int} (h : Two w W x2 y2 z2 x3 y3 z3) (hb : Below W.heap.size W W') : Two w W' x2 y2 z2 x3 y3 z3 := by
  have hs := h.size
  refine ⟨?_, ?_, ?_, ?_, ?_, ?_, fun j => ?_, fun j => ?_, below_step h.below hb, by have := hb.size; omega⟩
  · rw [hb.cell (by simp; omega)]; exact h.a0
  · rw [hb.cell (by simp; omega)]; exact h.a1
  · rw [hb.cell (by simp; omega)]; exact h.a2
  · rw [hb.cell (by simp; omega)]; exact h.b0
  · rw [hb.cell (by simp; omega)]; exact h.b1
  · rw [hb.cell (by simp; omega)]; exact h.b2
  · rw [hb.frozen (by simp; omega)]; exact h.fa j
  · rw [hb.frozen (by simp; omega)]; exact h.fb j
theorem Two.but {w W W' : World} {g : Nat} {x2 y2 z2 x3 y3 z3 : Int} (h : Two w W x2 y2 z2 x3 y3 z3) (hb : But g W W') (h1 : w.heap.size ≠ g) (h2 : w.heap.size + 1 ≠ g) (hg : w.heap.size ≤ g) : Two w W' x2 y2 z2 x3 y3 z3 := by
  have hs := h.size
  refine ⟨?_, ?_, ?_, ?_, ?_, ?_, fun j => ?_, fun j => ?_, hb.below h.below h.below.size hg, by have := hb.size; omega⟩
  · rw [hb.cell (by simp; omega) (by simpa using h1)]; exact h.a0
  · rw [hb.cell (by simp; omega) (by simpa using h1)]; exact h.a1
  · rw [hb.cell (by simp; omega) (by simpa using h1)]; exact h.a2
  · rw [hb.cell (by simp; omega) (by simpa using h2)]; exact h.b0
  · rw [hb.cell (by simp; omega) (by simpa using h2)]; exact h.b1
  · rw [hb.cell (by simp; omega) (by simpa using h2)]; exact h.b2
  · rw [hb.frozen (by simp; omega) (by simpa using h1)]; exact h.fa j
  · rw [hb.frozen (by simp; omega) (by simpa using h2)]; exact h.fb j
theorem Two.put {w W : World} {x2 y2 z2 x3 y3 z3 : Int} (h : Two w W x2 y2 z2 x3 y3 z3) (a b c d e f : Int) :
    Two w ((((((W.setCell ⟨w.heap.size, 0, none⟩ (.int .i64 a)).setCell ⟨w.heap.size, 1, none⟩ (.int .i64 b)).setCell ⟨w.heap.size, 2, none⟩ (.int .i64 c)).setCell ⟨w.heap.size + 1, 0, none⟩ (.int .i64 d)).setCell ⟨w.heap.size + 1, 1, none⟩ (.int .i64 e)).setCell ⟨w.heap.size + 1, 2, none⟩ (.int .i64 f)) a b c d e f := by
  obtain ⟨a0, a1, a2, b0, b1, b2, fa, fb, hb, hs⟩ := h
  refine ⟨?_, ?_, ?_, ?_, ?_, ?_, fun j => ?_, fun j => ?_, (((((hb.setCell (by simp) _).setCell (by simp) _).setCell (by simp) _).setCell (by simp) _).setCell (by simp) _).setCell (by simp) _, by simp [go_sem]; omega⟩
  · simp [go_sem, a0, a1, a2, b0, b1, b2]
  · simp [go_sem, a0, a1, a2, b0, b1, b2]
  · simp [go_sem, a0, a1, a2, b0, b1, b2]
  · simp [go_sem, a0, a1, a2, b0, b1, b2]
  · simp [go_sem, a0, a1, a2, b0, b1, b2]
  · simp [go_sem, a0, a1, a2, b0, b1, b2]
  · have := fa j; simp [go_sem, this]
  · have := fb j; simp [go_sem, this]
set_option maxHeartbeats 4000000 in
set_option maxRecDepth 100000 in
theorem growthMore_walk (a0 a1 : Int) (x2 y2 z2 x3 y3 z3 : Int) (w : World) (w0 : (Lit.int .i64 a0).wf = true) (w1 : (Lit.int .i64 a1).wf = true) (wx2 : (Lit.int .i64 x2).wf = true) (wy2 : (Lit.int .i64 y2).wf = true) (wz2 : (Lit.int .i64 z2).wf = true) (wx3 : (Lit.int .i64 x3).wf = true) (wy3 : (Lit.int .i64 y3).wf = true) (wz3 : (Lit.int .i64 z3).wf = true) :
    Calls Try.prog 13 #[.int .i64 a0, .int .i64 a1, .agg #[.int .i64 x2, .int .i64 y2, .int .i64 z2], .agg #[.int .i64 x3, .int .i64 y3, .int .i64 z3]] w fun e w' => e = .returned (.bool true) ∧ Below w.heap.size w w' := by
  clear w0 w1 wx2 wy2 wz2 wx3 wy3 wz3
  obtain ⟨u, hu⟩ : ∃ u, IntKind.u64.wrap a0 = u := ⟨_, rfl⟩
  obtain ⟨v, hv⟩ : ∃ v, IntKind.u64.wrap a1 = v := ⟨_, rfl⟩
  obtain ⟨u1, u2⟩ : 0 ≤ u ∧ u ≤ 18446744073709551615 := by rw [← hu]; exact u64_bd a0
  obtain ⟨v1, v2⟩ : 0 ≤ v ∧ v ≤ 18446744073709551615 := by rw [← hv]; exact u64_bd a1
  obtain ⟨c, hcd⟩ : ∃ c, 1 + u % 3 = c := ⟨_, rfl⟩
  have hc : Aside0 (c = 1 ∨ c = 2 ∨ c = 3) := ⟨by omega⟩
  rcases (by omega : v % 2 = 0 ∨ v % 2 = 1) with hv2 | hv2
  · go_enter Try.func13, Try.ntmps13
    go_wp2_with fail
    have T0 := Aside0.mk (show Two w (((w.alloc (.cells #[.int .i64 x2, .int .i64 y2, .int .i64 z2] 54)).alloc (.cells #[.int .i64 x3, .int .i64 y3, .int .i64 z3] 54)).alloc (.cells #[.int .i64 1, .int .i64 3] 3)) x2 y2 z2 x3 y3 z3 from by
      refine ⟨?_, ?_, ?_, ?_, ?_, ?_, fun j => ?_, fun j => ?_, (((Below.refl _ _).alloc (Nat.le_refl _) _).alloc (by simp) _).alloc (by simp; omega) _, by simp⟩ <;> simp [go_sem])
    generalize ((w.alloc (.cells #[.int .i64 x2, .int .i64 y2, .int .i64 z2] 54)).alloc (.cells #[.int .i64 x3, .int .i64 y3, .int .i64 z3] 54)).alloc (.cells #[.int .i64 1, .int .i64 3] 3) = W0 at *
    go_cut [6, 7] (fun s6 s7 wx => s6 = .pointer (some ⟨w.heap.size, 0, none⟩) ∧ s7 = .pointer (some ⟨w.heap.size + 1, 0, none⟩) ∧ Aside0 (Two w wx (ct 10000000000000 x2) (ct 1000000000 y2) (ct 3000 z2) (ct 10000000000000 x3) (ct 1000000000 y3) (ct 3000 z3)))
    case first =>
      have c0 := T0.out.a0
      have c1 := T0.out.a1
      have c2 := T0.out.a2
      have c3 := T0.out.b0
      have c4 := T0.out.b1
      have c5 := T0.out.b2
      go_region_with ((go_at_call 34; refine (cut_any _ _ _ _).mono ?_; rintro e w1 ⟨rfl, hb⟩; first | (have T2 := Aside0.mk (T1.out.step hb); have d0 := T2.out.a0; have d1 := T2.out.a1; have d2 := T2.out.a2; have d3 := T2.out.b0; have d4 := T2.out.b1; have d5 := T2.out.b2; have g6 := T2.out.fa; have g7 := T2.out.fb) | (have T1 := Aside0.mk ((T0.out.step (Below.drew (Below.refl _ _))).step hb); have d0 := T1.out.a0; have d1 := T1.out.a1; have d2 := T1.out.a2; have d3 := T1.out.b0; have d4 := T1.out.b1; have d5 := T1.out.b2); clear hb))
      all_goals
        have T3 := Aside0.mk (T2.out.put (ct 10000000000000 x2) (ct 1000000000 y2) (ct 3000 z2) (ct 10000000000000 x3) (ct 1000000000 y3) (ct 3000 z3))
        clear c0 c1 c2 c3 c4 c5 d0 d1 d2 d3 d4 d5 g6 g7
        go_wp2_with fail
        go_meet
        case rel => exact ⟨rfl, rfl, T3⟩
    case rest =>
      obtain ⟨rfl, rfl, TT⟩ := hcut
      obtain ⟨b0, b1⟩ := ct_bd (m := 10000000000000) (x := x2) (by decide)
      obtain ⟨r0, r1⟩ := ct_bd (m := 1000000000) (x := y2) (by decide)
      obtain ⟨n0, n1⟩ := ct_bd (m := 3000) (x := z2) (by decide)
      obtain ⟨b2, b3⟩ := ct_bd (m := 10000000000000) (x := x3) (by decide)
      obtain ⟨r2, r3⟩ := ct_bd (m := 1000000000) (x := y3) (by decide)
      obtain ⟨n2, n3⟩ := ct_bd (m := 3000) (x := z3) (by decide)
      generalize ct 10000000000000 x2 = b at *
      generalize ct 1000000000 y2 = r at *
      generalize ct 3000 z2 = n at *
      generalize ct 10000000000000 x3 = b' at *
      generalize ct 1000000000 y3 = r' at *
      generalize ct 3000 z3 = n' at *
      have d0 := TT.out.a0
      have d1 := TT.out.a1
      have d2 := TT.out.a2
      have d3 := TT.out.b0
      have d4 := TT.out.b1
      have d5 := TT.out.b2
      obtain ⟨mb, hmb⟩ : ∃ s, (if b < b' then b' else b) = s := ⟨_, rfl⟩
      obtain ⟨mr, hmr⟩ : ∃ s, (if r < r' then r' else r) = s := ⟨_, rfl⟩
      obtain ⟨mm, hmm⟩ : ∃ s, (if n < n' then n' else n) = s := ⟨_, rfl⟩
      have e1 : b ≤ mb ∧ mb ≤ 10000000000000 := by rw [← hmb]; split <;> omega
      have e2 : r ≤ mr ∧ mr ≤ 1000000000 := by rw [← hmr]; split <;> omega
      have e3 : n ≤ mm ∧ mm ≤ 3000 := by rw [← hmm]; split <;> omega
      obtain ⟨e1, e4⟩ := e1
      obtain ⟨e2, e5⟩ := e2
      obtain ⟨e3, e6⟩ := e3
      go_wp2_with fail
      clear hmb hmr hmm
      refine (bnew_any hc.out (by decide) _).mono ?_
      rintro e w1 ⟨hb, ga, hg, rfl, A⟩
      have BA := Aside0.mk (((Below.refl wc.heap.size wc).alloc (Nat.le_refl _) (.cells #[.int .i64 mb, .int .i64 mr, .int .i64 mm] 54)).trans (hb.mono (by simp)))
      have T1 := Aside0.mk (TT.out.step BA.out)
      have hga : w.heap.size ≤ ga := by have := TT.out.size; simp at hg; omega
      have m0 : w1.cell? ⟨wc.heap.size, 0, none⟩ = some (.int .i64 mb) := by rw [hb.cell (by simp)]; simp [go_sem]
      have m1 : w1.cell? ⟨wc.heap.size, 1, none⟩ = some (.int .i64 mr) := by rw [hb.cell (by simp)]; simp [go_sem]
      have m2 : w1.cell? ⟨wc.heap.size, 2, none⟩ = some (.int .i64 mm) := by rw [hb.cell (by simp)]; simp [go_sem]
      have hga2 : wc.heap.size < ga := by simp at hg; omega
      have hwc := TT.out.size
      have MM1 := Aside0.mk (And.intro m0 (And.intro m1 m2))
      have A1 := Aside0.mk A
      clear hb A BA TT d0 d1 d2 d3 d4 d5 m0 m1 m2 hg
      go_wp2_with fail
      refine (bnew_any hc.out (by decide) _).mono ?_
      rintro e w2 ⟨hb, gy, hg, rfl, A⟩
      have T2 := Aside0.mk (T1.out.step hb)
      have A2 := Aside0.mk (A1.out.below hb)
      have Y2 := Aside0.mk A
      have hay : ga < gy := by have := A1.out.lt; omega
      have MM2 := Aside0.mk (three_stay hb MM1.out.1 MM1.out.2.1 MM1.out.2.2)
      clear hb A T1 A1 MM1 hg
      go_wp2_with fail
      refine (grow_awake _).mono ?_
      rintro e w3 ⟨rfl, hb⟩
      have T3 := Aside0.mk (T2.out.step hb)
      have A3 := Aside0.mk (A2.out.below hb)
      have Y3 := Aside0.mk (Y2.out.below hb)
      have MM3 := Aside0.mk (three_stay hb MM2.out.1 MM2.out.2.1 MM2.out.2.2)
      have d0 := T3.out.a0
      have d1 := T3.out.a1
      have d2 := T3.out.a2
      clear hb T2 A2 Y2 MM2
      go_wp2_with fail
      refine (bear_any A3.out (good_new c 1)).mono ?_
      rw [bear_small (good_new c 1) b0 (by omega) r0 (by omega) n0 (by omega)]
      rintro e w4 ⟨rfl, A, hbut⟩
      have Y4 := Aside0.mk (Y3.out.but hbut (by omega))
      have T4 := Aside0.mk (T3.out.but hbut (by omega) (by omega) hga)
      have hsz3 := T3.out.size
      have MM4 := Aside0.mk (show w4.cell? ⟨wc.heap.size, 0, none⟩ = some (.int .i64 mb) ∧ w4.cell? ⟨wc.heap.size, 1, none⟩ = some (.int .i64 mr) ∧ w4.cell? ⟨wc.heap.size, 2, none⟩ = some (.int .i64 mm) from
        ⟨(hbut.cell (cell_lt' MM3.out.1) (by simp; omega)).trans MM3.out.1, (hbut.cell (cell_lt' MM3.out.2.1) (by simp; omega)).trans MM3.out.2.1, (hbut.cell (cell_lt' MM3.out.2.2) (by simp; omega)).trans MM3.out.2.2⟩)
      clear A hbut d0 d1 d2 T3 A3 Y3 MM3 hsz3
      have m0 := MM4.out.1
      have m1 := MM4.out.2.1
      have m2 := MM4.out.2.2
      go_wp2_with fail
      refine (bear_any Y4.out (good_new c 1)).mono ?_
      rw [bear_small (good_new c 1) (by omega) e4 (by omega) e5 (by omega) (by omega)]
      rintro e w5 ⟨rfl, A, hbut⟩
      have T5 := Aside0.mk (T4.out.but hbut (by omega) (by omega) (by omega))
      clear A hbut m0 m1 m2 T4 Y4 MM4
      go_wp2_with fail
      refine (bnew_any hc.out (by decide) _).mono ?_
      rintro e w6 ⟨hb, gz, hg, rfl, A⟩
      have T6 := Aside0.mk (T5.out.step hb)
      have Z6 := Aside0.mk A
      have hgz : w.heap.size + 2 ≤ gz := by have := T5.out.size; omega
      have d1 := T6.out.a1
      have d2 := T6.out.a2
      clear hb A T5 hg
      go_wp2_with fail
      refine (bear_any Z6.out (good_new c 1)).mono ?_
      rw [bear_small (good_new c 1) (by omega) (by omega) r0 (by omega) n0 (by omega), show (0 : Int) * r * n = 0 by simp]
      obtain ⟨z1, z2⟩ := Gm.none (W := Gm.whole c) (h := Gm.half c 1) (by have := (Gm.whole_bd c).1; omega) (Gm.half_bd c 1).1 (by have := (Gm.whole_bd c).1; have := (Gm.half_bd c 1).2; omega)
      rw [z1, z2]
      rintro e w7 ⟨rfl, A, hbut⟩
      have B7 := Aside0.mk (hbut.below T6.out.below T6.out.below.size (by omega))
      have Z7 := Aside0.mk A
      have hle := Gm.more (W := Gm.whole c) (h := Gm.half c 1) (by have := (Gm.whole_bd c).1; omega) (Gm.mul3 b0 r0 n0 e1 e2 e3).2
      generalize Gm.q (Gm.whole c) (Gm.half c 1) 0 (b * r * n) = q1 at *
      generalize Gm.q (Gm.whole c) (Gm.half c 1) 0 (mb * mr * mm) = q2 at *
      clear A hbut d1 d2 T6 Z6 z1 z2
      go_wp2_with fail
      refine (brest_any Z7.out).mono ?_
      rintro e w8 ⟨rfl, rfl⟩
      go_wp2_with fail
      go_ret
      exact ⟨rfl, B7.out⟩
  · go_enter Try.func13, Try.ntmps13
    go_wp2_with fail
    have T0 := Aside0.mk (show Two w (((w.alloc (.cells #[.int .i64 x2, .int .i64 y2, .int .i64 z2] 54)).alloc (.cells #[.int .i64 x3, .int .i64 y3, .int .i64 z3] 54)).alloc (.cells #[.int .i64 1, .int .i64 3] 3)) x2 y2 z2 x3 y3 z3 from by
      refine ⟨?_, ?_, ?_, ?_, ?_, ?_, fun j => ?_, fun j => ?_, (((Below.refl _ _).alloc (Nat.le_refl _) _).alloc (by simp) _).alloc (by simp; omega) _, by simp⟩ <;> simp [go_sem])
    generalize ((w.alloc (.cells #[.int .i64 x2, .int .i64 y2, .int .i64 z2] 54)).alloc (.cells #[.int .i64 x3, .int .i64 y3, .int .i64 z3] 54)).alloc (.cells #[.int .i64 1, .int .i64 3] 3) = W0 at *
    go_cut [6, 7] (fun s6 s7 wx => s6 = .pointer (some ⟨w.heap.size, 0, none⟩) ∧ s7 = .pointer (some ⟨w.heap.size + 1, 0, none⟩) ∧ Aside0 (Two w wx (ct 10000000000000 x2) (ct 1000000000 y2) (ct 3000 z2) (ct 10000000000000 x3) (ct 1000000000 y3) (ct 3000 z3)))
    case first =>
      have c0 := T0.out.a0
      have c1 := T0.out.a1
      have c2 := T0.out.a2
      have c3 := T0.out.b0
      have c4 := T0.out.b1
      have c5 := T0.out.b2
      go_region_with ((go_at_call 34; refine (cut_any _ _ _ _).mono ?_; rintro e w1 ⟨rfl, hb⟩; first | (have T2 := Aside0.mk (T1.out.step hb); have d0 := T2.out.a0; have d1 := T2.out.a1; have d2 := T2.out.a2; have d3 := T2.out.b0; have d4 := T2.out.b1; have d5 := T2.out.b2; have g6 := T2.out.fa; have g7 := T2.out.fb) | (have T1 := Aside0.mk ((T0.out.step (Below.drew (Below.refl _ _))).step hb); have d0 := T1.out.a0; have d1 := T1.out.a1; have d2 := T1.out.a2; have d3 := T1.out.b0; have d4 := T1.out.b1; have d5 := T1.out.b2); clear hb))
      all_goals
        have T3 := Aside0.mk (T2.out.put (ct 10000000000000 x2) (ct 1000000000 y2) (ct 3000 z2) (ct 10000000000000 x3) (ct 1000000000 y3) (ct 3000 z3))
        clear c0 c1 c2 c3 c4 c5 d0 d1 d2 d3 d4 d5 g6 g7
        go_wp2_with fail
        go_meet
        case rel => exact ⟨rfl, rfl, T3⟩
    case rest =>
      obtain ⟨rfl, rfl, TT⟩ := hcut
      obtain ⟨b0, b1⟩ := ct_bd (m := 10000000000000) (x := x2) (by decide)
      obtain ⟨r0, r1⟩ := ct_bd (m := 1000000000) (x := y2) (by decide)
      obtain ⟨n0, n1⟩ := ct_bd (m := 3000) (x := z2) (by decide)
      obtain ⟨b2, b3⟩ := ct_bd (m := 10000000000000) (x := x3) (by decide)
      obtain ⟨r2, r3⟩ := ct_bd (m := 1000000000) (x := y3) (by decide)
      obtain ⟨n2, n3⟩ := ct_bd (m := 3000) (x := z3) (by decide)
      generalize ct 10000000000000 x2 = b at *
      generalize ct 1000000000 y2 = r at *
      generalize ct 3000 z2 = n at *
      generalize ct 10000000000000 x3 = b' at *
      generalize ct 1000000000 y3 = r' at *
      generalize ct 3000 z3 = n' at *
      have d0 := TT.out.a0
      have d1 := TT.out.a1
      have d2 := TT.out.a2
      have d3 := TT.out.b0
      have d4 := TT.out.b1
      have d5 := TT.out.b2
      obtain ⟨mb, hmb⟩ : ∃ s, (if b < b' then b' else b) = s := ⟨_, rfl⟩
      obtain ⟨mr, hmr⟩ : ∃ s, (if r < r' then r' else r) = s := ⟨_, rfl⟩
      obtain ⟨mm, hmm⟩ : ∃ s, (if n < n' then n' else n) = s := ⟨_, rfl⟩
      have e1 : b ≤ mb ∧ mb ≤ 10000000000000 := by rw [← hmb]; split <;> omega
      have e2 : r ≤ mr ∧ mr ≤ 1000000000 := by rw [← hmr]; split <;> omega
      have e3 : n ≤ mm ∧ mm ≤ 3000 := by rw [← hmm]; split <;> omega
      obtain ⟨e1, e4⟩ := e1
      obtain ⟨e2, e5⟩ := e2
      obtain ⟨e3, e6⟩ := e3
      go_wp2_with fail
      clear hmb hmr hmm
      refine (bnew_any hc.out (by decide) _).mono ?_
      rintro e w1 ⟨hb, ga, hg, rfl, A⟩
      have BA := Aside0.mk (((Below.refl wc.heap.size wc).alloc (Nat.le_refl _) (.cells #[.int .i64 mb, .int .i64 mr, .int .i64 mm] 54)).trans (hb.mono (by simp)))
      have T1 := Aside0.mk (TT.out.step BA.out)
      have hga : w.heap.size ≤ ga := by have := TT.out.size; simp at hg; omega
      have m0 : w1.cell? ⟨wc.heap.size, 0, none⟩ = some (.int .i64 mb) := by rw [hb.cell (by simp)]; simp [go_sem]
      have m1 : w1.cell? ⟨wc.heap.size, 1, none⟩ = some (.int .i64 mr) := by rw [hb.cell (by simp)]; simp [go_sem]
      have m2 : w1.cell? ⟨wc.heap.size, 2, none⟩ = some (.int .i64 mm) := by rw [hb.cell (by simp)]; simp [go_sem]
      have hga2 : wc.heap.size < ga := by simp at hg; omega
      have hwc := TT.out.size
      have MM1 := Aside0.mk (And.intro m0 (And.intro m1 m2))
      have A1 := Aside0.mk A
      clear hb A BA TT d0 d1 d2 d3 d4 d5 m0 m1 m2 hg
      go_wp2_with fail
      refine (bnew_any hc.out (by decide) _).mono ?_
      rintro e w2 ⟨hb, gy, hg, rfl, A⟩
      have T2 := Aside0.mk (T1.out.step hb)
      have A2 := Aside0.mk (A1.out.below hb)
      have Y2 := Aside0.mk A
      have hay : ga < gy := by have := A1.out.lt; omega
      have MM2 := Aside0.mk (three_stay hb MM1.out.1 MM1.out.2.1 MM1.out.2.2)
      clear hb A T1 A1 MM1 hg
      go_wp2_with fail
      refine (grow_awake _).mono ?_
      rintro e w3 ⟨rfl, hb⟩
      have T3 := Aside0.mk (T2.out.step hb)
      have A3 := Aside0.mk (A2.out.below hb)
      have Y3 := Aside0.mk (Y2.out.below hb)
      have MM3 := Aside0.mk (three_stay hb MM2.out.1 MM2.out.2.1 MM2.out.2.2)
      have d0 := T3.out.a0
      have d1 := T3.out.a1
      have d2 := T3.out.a2
      clear hb T2 A2 Y2 MM2
      go_wp2_with fail
      refine (bear_any A3.out (good_new c 3)).mono ?_
      rw [bear_small (good_new c 3) b0 (by omega) r0 (by omega) n0 (by omega)]
      rintro e w4 ⟨rfl, A, hbut⟩
      have Y4 := Aside0.mk (Y3.out.but hbut (by omega))
      have T4 := Aside0.mk (T3.out.but hbut (by omega) (by omega) hga)
      have hsz3 := T3.out.size
      have MM4 := Aside0.mk (show w4.cell? ⟨wc.heap.size, 0, none⟩ = some (.int .i64 mb) ∧ w4.cell? ⟨wc.heap.size, 1, none⟩ = some (.int .i64 mr) ∧ w4.cell? ⟨wc.heap.size, 2, none⟩ = some (.int .i64 mm) from
        ⟨(hbut.cell (cell_lt' MM3.out.1) (by simp; omega)).trans MM3.out.1, (hbut.cell (cell_lt' MM3.out.2.1) (by simp; omega)).trans MM3.out.2.1, (hbut.cell (cell_lt' MM3.out.2.2) (by simp; omega)).trans MM3.out.2.2⟩)
      clear A hbut d0 d1 d2 T3 A3 Y3 MM3 hsz3
      have m0 := MM4.out.1
      have m1 := MM4.out.2.1
      have m2 := MM4.out.2.2
      go_wp2_with fail
      refine (bear_any Y4.out (good_new c 3)).mono ?_
      rw [bear_small (good_new c 3) (by omega) e4 (by omega) e5 (by omega) (by omega)]
      rintro e w5 ⟨rfl, A, hbut⟩
      have T5 := Aside0.mk (T4.out.but hbut (by omega) (by omega) (by omega))
      clear A hbut m0 m1 m2 T4 Y4 MM4
      go_wp2_with fail
      refine (bnew_any hc.out (by decide) _).mono ?_
      rintro e w6 ⟨hb, gz, hg, rfl, A⟩
      have T6 := Aside0.mk (T5.out.step hb)
      have Z6 := Aside0.mk A
      have hgz : w.heap.size + 2 ≤ gz := by have := T5.out.size; omega
      have d1 := T6.out.a1
      have d2 := T6.out.a2
      clear hb A T5 hg
      go_wp2_with fail
      refine (bear_any Z6.out (good_new c 3)).mono ?_
      rw [bear_small (good_new c 3) (by omega) (by omega) r0 (by omega) n0 (by omega), show (0 : Int) * r * n = 0 by simp]
      obtain ⟨z1, z2⟩ := Gm.none (W := Gm.whole c) (h := Gm.half c 3) (by have := (Gm.whole_bd c).1; omega) (Gm.half_bd c 3).1 (by have := (Gm.whole_bd c).1; have := (Gm.half_bd c 3).2; omega)
      rw [z1, z2]
      rintro e w7 ⟨rfl, A, hbut⟩
      have B7 := Aside0.mk (hbut.below T6.out.below T6.out.below.size (by omega))
      have Z7 := Aside0.mk A
      have hle := Gm.more (W := Gm.whole c) (h := Gm.half c 3) (by have := (Gm.whole_bd c).1; omega) (Gm.mul3 b0 r0 n0 e1 e2 e3).2
      generalize Gm.q (Gm.whole c) (Gm.half c 3) 0 (b * r * n) = q1 at *
      generalize Gm.q (Gm.whole c) (Gm.half c 3) 0 (mb * mr * mm) = q2 at *
      clear A hbut d1 d2 T6 Z6 z1 z2
      go_wp2_with fail
      refine (brest_any Z7.out).mono ?_
      rintro e w8 ⟨rfl, rfl⟩
      go_wp2_with fail
      go_ret
      exact ⟨rfl, B7.out⟩
end Go.Proofs.Ytliapjhjofmliaa.H
