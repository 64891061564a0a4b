/- The document's limbs, walked. -/
import Derived.Test.YtliapjhjofmliaaRg
import Derived.Deep.QuietTactic
namespace Go.Proofs.Ytliapjhjofmliaa.H
open Go.RowKit Go.Proofs.YtliapjhjofmliaaW.PrintWords Go.Proofs.YtliapjhjofmliaaW.PrintLast Go.Proofs.YtliapjhjofmliaaW.PrintMore
open Go.Proofs.Ytliapjhjofmliaa.Math
set_option linter.unusedVariables false
set_option linter.unusedSimpArgs false
theorem u64_mod (x : Int) : IntKind.u64.wrap x = x % 18446744073709551616 := rfl
theorem mul_bd {x y : Int} (x0 : 0 ≤ x) (x1 : x ≤ 4294967295) (y0 : 0 ≤ y) (y1 : y ≤ 4294967295) : 0 ≤ x * y ∧ x * y ≤ 18446744065119617025 := by
  have h := Int.mul_le_mul x1 y1 y0 (by omega)
  exact ⟨Int.mul_nonneg x0 y0, by omega⟩
theorem four_parts (x0 x1 y0 y1 : Int) : (x0 + 4294967296 * x1) * (y0 + 4294967296 * y1) = x0 * y0 + 4294967296 * (x0 * y1) + 4294967296 * (x1 * y0) + 18446744073709551616 * (x1 * y1) := by
  rw [Int.add_mul, Int.mul_add, Int.mul_add]
  have e1 : x0 * (4294967296 * y1) = 4294967296 * (x0 * y1) := Int.mul_left_comm ..
  have e2 : 4294967296 * x1 * y0 = 4294967296 * (x1 * y0) := Int.mul_assoc ..
  have e3 : 4294967296 * x1 * (4294967296 * y1) = 18446744073709551616 * (x1 * y1) := by
    rw [Int.mul_assoc, Int.mul_left_comm x1, ← Int.mul_assoc]; rfl
  omega
/-- The four new blocks: the answer, two factors, what is summed. -/
structure Lim (w W : World) (x0 x1 y0 y1 o0 o1 o2 o3 : Int) : Prop where
  below : Below w.heap.size w W
  hr : W.heap[w.heap.size]? = some (.cells #[.int .u64 0, .int .u64 0, .int .u64 0, .int .u64 0] 71 (0, 0))
  hx : W.heap[w.heap.size + 1]? = some (.cells #[.int .u64 x0, .int .u64 x1] 86 (0, 0))
  hy : W.heap[w.heap.size + 1 + 1]? = some (.cells #[.int .u64 y0, .int .u64 y1] 86 (0, 0))
  ho : W.heap[w.heap.size + 1 + 1 + 1]? = some (.cells #[.int .u64 o0, .int .u64 o1, .int .u64 o2, .int .u64 o3] 71 (0, 0))
theorem Lim.made (w : World) (x0 x1 y0 y1 : Int) : Lim w ((((w.alloc (.cells #[.int .u64 0, .int .u64 0, .int .u64 0, .int .u64 0] 71)).alloc (.cells #[.int .u64 x0, .int .u64 x1] 86)).alloc (.cells #[.int .u64 y0, .int .u64 y1] 86)).alloc (.cells #[.int .u64 0, .int .u64 0, .int .u64 0, .int .u64 0] 71)) x0 x1 y0 y1 0 0 0 0 := by
  have g : ∀ (h : Array Obj) (a b c d : Obj), ((((h.push a).push b).push c).push d)[h.size]? = some a ∧ ((((h.push a).push b).push c).push d)[h.size + 1]? = some b ∧ ((((h.push a).push b).push c).push d)[h.size + 1 + 1]? = some c ∧ ((((h.push a).push b).push c).push d)[h.size + 1 + 1 + 1]? = some d := by
    intro h a b c d
    refine ⟨?_, ?_, ?_, ?_⟩
    · rw [Array.getElem?_push_lt (by simp; omega), Array.getElem_push_lt (by simp; omega), Array.getElem_push_lt (by simp), Array.getElem_push_eq]
    · rw [Array.getElem?_push_lt (by simp), Array.getElem_push_lt (by simp), Array.getElem_push]; simp
    · rw [Array.getElem?_push_lt (by simp), Array.getElem_push]; simp
    · rw [Array.getElem?_push]; simp
  obtain ⟨g1, g2, g3, g4⟩ := g w.heap (.cells #[.int .u64 0, .int .u64 0, .int .u64 0, .int .u64 0] 71 (0, 0)) (.cells #[.int .u64 x0, .int .u64 x1] 86 (0, 0)) (.cells #[.int .u64 y0, .int .u64 y1] 86 (0, 0)) (.cells #[.int .u64 0, .int .u64 0, .int .u64 0, .int .u64 0] 71 (0, 0))
  exact ⟨((((Below.refl _ w).alloc (Nat.le_refl _) _).alloc (by simp) _).alloc (by simp; omega) _).alloc (by simp; omega) _, g1, g2, g3, g4⟩
theorem Lim.drewN {w W : World} {x0 x1 y0 y1 o0 o1 o2 o3 : Int} (h : Lim w W x0 x1 y0 y1 o0 o1 o2 o3) (n : Nat) : Lim w (W.drewN n) x0 x1 y0 y1 o0 o1 o2 o3 := ⟨pw_below_drewN h.below n, h.hr, h.hx, h.hy, h.ho⟩
theorem blk_cell' {W : World} {b : Nat} {cs : Array Value} {t : TypeId} (h : W.heap[b]? = some (.cells cs t (0, 0))) (j : Nat) : W.cell? ⟨b, j, none⟩ = cs[j]? := by simp [World.cell?, h]
theorem Lim.set {w W : World} {x0 x1 y0 y1 o0 o1 o2 o3 : Int} (h : Lim w W x0 x1 y0 y1 o0 o1 o2 o3) (j : Nat) (v p0 p1 p2 p3 : Int)
    (hj : (#[Value.int .u64 o0, .int .u64 o1, .int .u64 o2, .int .u64 o3] : Array Value).setIfInBounds j (.int .u64 v) = #[.int .u64 p0, .int .u64 p1, .int .u64 p2, .int .u64 p3]) :
    Lim w (W.setCell ⟨w.heap.size + 1 + 1 + 1, j, none⟩ (.int .u64 v)) x0 x1 y0 y1 p0 p1 p2 p3 := by
  obtain ⟨hb, h1, h2, h3, h4⟩ := h
  refine ⟨hb.setCell (p := ⟨w.heap.size + 1 + 1 + 1, j, none⟩) (by show w.heap.size ≤ w.heap.size + 1 + 1 + 1; omega) _, ?_, ?_, ?_, ?_⟩
  · rw [World.setCell, Array.getElem?_modify, if_neg (by show ¬ w.heap.size + 1 + 1 + 1 = _; omega)]; exact h1
  · rw [World.setCell, Array.getElem?_modify, if_neg (by show ¬ w.heap.size + 1 + 1 + 1 = _; omega)]; exact h2
  · rw [World.setCell, Array.getElem?_modify, if_neg (by show ¬ w.heap.size + 1 + 1 + 1 = _; omega)]; exact h3
  · rw [World.setCell, Array.getElem?_modify, if_pos rfl, h4]
    simp [hj]
theorem Lim.res {w W : World} {x0 x1 y0 y1 o0 o1 o2 o3 : Int} (h : Lim w W x0 x1 y0 y1 o0 o1 o2 o3) :
    W.cell? ⟨w.heap.size, 0, none⟩ = some (.int .u64 0) ∧ W.cell? ⟨w.heap.size, 1, none⟩ = some (.int .u64 0) ∧ W.cell? ⟨w.heap.size, 2, none⟩ = some (.int .u64 0) ∧ W.cell? ⟨w.heap.size, 3, none⟩ = some (.int .u64 0) ∧
    W.frozen? ⟨w.heap.size, 0, none⟩ = false ∧ W.frozen? ⟨w.heap.size, 1, none⟩ = false ∧ W.frozen? ⟨w.heap.size, 2, none⟩ = false ∧ W.frozen? ⟨w.heap.size, 3, none⟩ = false := by
  refine ⟨(blk_cell' h.hr 0).trans rfl, (blk_cell' h.hr 1).trans rfl, (blk_cell' h.hr 2).trans rfl, (blk_cell' h.hr 3).trans rfl, ?_, ?_, ?_, ?_⟩ <;> simp [World.frozen?, h.hr]
theorem Lim.cells {w W : World} {x0 x1 y0 y1 o0 o1 o2 o3 : Int} (h : Lim w W x0 x1 y0 y1 o0 o1 o2 o3) :
    W.cell? ⟨w.heap.size + 1, 0, none⟩ = some (.int .u64 x0) ∧ W.cell? ⟨w.heap.size + 1, 1, none⟩ = some (.int .u64 x1) ∧ W.cell? ⟨w.heap.size + 1 + 1, 0, none⟩ = some (.int .u64 y0) ∧ W.cell? ⟨w.heap.size + 1 + 1, 1, none⟩ = some (.int .u64 y1) ∧
    W.cell? ⟨w.heap.size + 1 + 1 + 1, 0, none⟩ = some (.int .u64 o0) ∧ W.cell? ⟨w.heap.size + 1 + 1 + 1, 1, none⟩ = some (.int .u64 o1) ∧ W.cell? ⟨w.heap.size + 1 + 1 + 1, 2, none⟩ = some (.int .u64 o2) ∧ W.cell? ⟨w.heap.size + 1 + 1 + 1, 3, none⟩ = some (.int .u64 o3) ∧
    W.frozen? ⟨w.heap.size + 1 + 1 + 1, 0, none⟩ = false ∧ W.frozen? ⟨w.heap.size + 1 + 1 + 1, 1, none⟩ = false ∧ W.frozen? ⟨w.heap.size + 1 + 1 + 1, 2, none⟩ = false ∧ W.frozen? ⟨w.heap.size + 1 + 1 + 1, 3, none⟩ = false := by
  refine ⟨(blk_cell' h.hx 0).trans rfl, (blk_cell' h.hx 1).trans rfl, (blk_cell' h.hy 0).trans rfl, (blk_cell' h.hy 1).trans rfl, (blk_cell' h.ho 0).trans rfl, (blk_cell' h.ho 1).trans rfl, (blk_cell' h.ho 2).trans rfl, (blk_cell' h.ho 3).trans rfl, ?_, ?_, ?_, ?_⟩ <;> simp [World.frozen?, h.ho]
set_option maxHeartbeats 4000000 in
theorem limbs_any {a b : Int} (a0 : 0 ≤ a) (a1 : a < 18446744073709551616) (b0 : 0 ≤ b) (b1 : b < 18446744073709551616) (w : World) :
    Calls Try.prog 41 #[.int .u64 a, .int .u64 b] w fun e w' => ∃ p0 p1 p2 p3 : Int, e = .returned (.agg #[.int .u64 p0, .int .u64 p1, .int .u64 p2, .int .u64 p3]) ∧
      Below w.heap.size w w' ∧ p0 + 4294967296 * p1 + 18446744073709551616 * p2 + 79228162514264337593543950336 * p3 = a * b ∧ (0 ≤ p0 ∧ p0 < 4294967296) ∧ (0 ≤ p1 ∧ p1 < 4294967296) ∧ (0 ≤ p2 ∧ p2 < 4294967296) ∧ (0 ≤ p3 ∧ p3 < 4294967296) := by
  obtain ⟨x0, hx0⟩ : ∃ x, a % 4294967296 = x := ⟨_, rfl⟩
  obtain ⟨y0, hy0⟩ : ∃ x, b % 4294967296 = x := ⟨_, rfl⟩
  obtain ⟨x1, hx1⟩ : ∃ x, a / 4294967296 = x := ⟨_, rfl⟩
  obtain ⟨y1, hy1⟩ : ∃ x, b / 4294967296 = x := ⟨_, rfl⟩
  have ea := and32 a0 a1
  have eb := and32 b0 b1
  rw [hx0] at ea
  rw [hy0] at eb
  have n00 := mul_bd (x := x0) (y := y0) (by omega) (by omega) (by omega) (by omega)
  have n01 := mul_bd (x := x0) (y := y1) (by omega) (by omega) (by omega) (by omega)
  have n10 := mul_bd (x := x1) (y := y0) (by omega) (by omega) (by omega) (by omega)
  have n11 := mul_bd (x := x1) (y := y1) (by omega) (by omega) (by omega) (by omega)
  have sum := four_parts x0 x1 y0 y1
  rw [show x0 + 4294967296 * x1 = a by omega, show y0 + 4294967296 * y1 = b by omega] at sum
  obtain ⟨ab, hab⟩ : ∃ x, a * b = x := ⟨_, rfl⟩
  rw [hab] at sum
  rw [hab]
  clear hab
  obtain ⟨m00, h00⟩ : ∃ x, x0 * y0 = x := ⟨_, rfl⟩
  obtain ⟨m01, h01⟩ : ∃ x, x0 * y1 = x := ⟨_, rfl⟩
  obtain ⟨m10, h10⟩ : ∃ x, x1 * y0 = x := ⟨_, rfl⟩
  obtain ⟨m11, h11⟩ : ∃ x, x1 * y1 = x := ⟨_, rfl⟩
  rw [h00] at n00 sum
  rw [h01] at n01 sum
  rw [h10] at n10 sum
  rw [h11] at n11 sum
  have w00 : IntKind.u64.wrap m00 = m00 := by rw [u64_mod]; omega
  have w01 : IntKind.u64.wrap m01 = m01 := by rw [u64_mod]; omega
  have w10 : IntKind.u64.wrap m10 = m10 := by rw [u64_mod]; omega
  have w11 : IntKind.u64.wrap m11 = m11 := by rw [u64_mod]; omega
  obtain ⟨c1, hc1⟩ : ∃ x, m00 / 4294967296 = x := ⟨_, rfl⟩
  obtain ⟨q0, hq0⟩ : ∃ x, m00 % 4294967296 = x := ⟨_, rfl⟩
  have k0 : Go.bits .and .u64 m00 4294967295 = q0 := by rw [and32 (by omega) (by omega)]; exact hq0
  obtain ⟨v2, hv2⟩ : ∃ x, m01 + c1 = x := ⟨_, rfl⟩
  have k2 : IntKind.u64.wrap v2 = v2 := by rw [u64_mod]; omega
  obtain ⟨c2, hc2⟩ : ∃ x, v2 / 4294967296 = x := ⟨_, rfl⟩
  obtain ⟨q1, hq1⟩ : ∃ x, v2 % 4294967296 = x := ⟨_, rfl⟩
  have k3 : Go.bits .and .u64 v2 4294967295 = q1 := by rw [and32 (by omega) (by omega)]; exact hq1
  obtain ⟨v3, hv3⟩ : ∃ x, q1 + m10 = x := ⟨_, rfl⟩
  have k4 : IntKind.u64.wrap v3 = v3 := by rw [u64_mod]; omega
  obtain ⟨c3, hc3⟩ : ∃ x, v3 / 4294967296 = x := ⟨_, rfl⟩
  obtain ⟨r1, hr1⟩ : ∃ x, v3 % 4294967296 = x := ⟨_, rfl⟩
  have k5 : Go.bits .and .u64 v3 4294967295 = r1 := by rw [and32 (by omega) (by omega)]; exact hr1
  obtain ⟨t4, ht4⟩ : ∃ x, c2 + m11 = x := ⟨_, rfl⟩
  have k6 : IntKind.u64.wrap t4 = t4 := by rw [u64_mod]; omega
  obtain ⟨v4, hv4⟩ : ∃ x, t4 + c3 = x := ⟨_, rfl⟩
  have k7 : IntKind.u64.wrap v4 = v4 := by rw [u64_mod]; omega
  obtain ⟨q3, hq3⟩ : ∃ x, v4 / 4294967296 = x := ⟨_, rfl⟩
  obtain ⟨q2, hq2⟩ : ∃ x, v4 % 4294967296 = x := ⟨_, rfl⟩
  have k8 : Go.bits .and .u64 v4 4294967295 = q2 := by rw [and32 (by omega) (by omega)]; exact hq2
  have F := Aside0.mk (show q0 + 4294967296 * r1 + 18446744073709551616 * q2 + 79228162514264337593543950336 * q3 = ab ∧ (0 ≤ q0 ∧ q0 < 4294967296) ∧ (0 ≤ r1 ∧ r1 < 4294967296) ∧ (0 ≤ q2 ∧ q2 < 4294967296) ∧ (0 ≤ q3 ∧ q3 < 4294967296) by omega)
  clear sum n00 n01 n10 n11 hx0 hy0 hq0 hq1 hr1 hq2 a0 a1 b0 b1
  have L0 := Aside0.mk (Lim.made w x0 x1 y0 y1)
  go_enter Try.func41, Try.ntmps41
  go_wp2_with fail
  generalize hW : ((((w.alloc (.cells #[.int .u64 0, .int .u64 0, .int .u64 0, .int .u64 0] 71)).alloc (.cells #[.int .u64 x0, .int .u64 x1] 86)).alloc (.cells #[.int .u64 y0, .int .u64 y1] 86)).alloc (.cells #[.int .u64 0, .int .u64 0, .int .u64 0, .int .u64 0] 71)) = W at *
  clear hW
  refine wp_loop_rounds 3 ?_
  rw [rounds_succ]
  go_wp2_with fail
  refine wp_loop_rounds 3 ?_
  rw [rounds_succ]
  obtain ⟨cx0, cx1, cy0, cy1, co0, co1, co2, co3, fo0, fo1, fo2, fo3⟩ := L0.out.cells
  go_wp2_with fail
  go_quiet (fail)
  have LN := Aside0.mk (Lim.drewN L0.out nq)
  clear cx0 cx1 cy0 cy1 co0 co1 co2 co3 fo0 fo1 fo2 fo3
  obtain ⟨cx0, cx1, cy0, cy1, co0, co1, co2, co3, fo0, fo1, fo2, fo3⟩ := LN.out.cells
  go_wp2_with fail
  have L1 := Aside0.mk (Lim.set LN.out 0 q0 q0 0 0 0 rfl)
  clear LN L0 cx0 cx1 cy0 cy1 co0 co1 co2 co3 fo0 fo1 fo2 fo3
  generalize (W.drewN nq).setCell ⟨w.heap.size + 1 + 1 + 1, 0, none⟩ (.int .u64 q0) = W at *
  clear nq
  rw [rounds_succ]
  obtain ⟨cx0, cx1, cy0, cy1, co0, co1, co2, co3, fo0, fo1, fo2, fo3⟩ := L1.out.cells
  go_wp2_with fail
  go_quiet (fail)
  have LN := Aside0.mk (Lim.drewN L1.out nq)
  clear cx0 cx1 cy0 cy1 co0 co1 co2 co3 fo0 fo1 fo2 fo3
  obtain ⟨cx0, cx1, cy0, cy1, co0, co1, co2, co3, fo0, fo1, fo2, fo3⟩ := LN.out.cells
  go_wp2_with fail
  have L2 := Aside0.mk (Lim.set LN.out 1 q1 q0 q1 0 0 rfl)
  clear LN L1 cx0 cx1 cy0 cy1 co0 co1 co2 co3 fo0 fo1 fo2 fo3
  generalize (W.drewN nq).setCell ⟨w.heap.size + 1 + 1 + 1, 1, none⟩ (.int .u64 q1) = W at *
  clear nq
  rw [rounds_succ]
  obtain ⟨cx0, cx1, cy0, cy1, co0, co1, co2, co3, fo0, fo1, fo2, fo3⟩ := L2.out.cells
  go_wp2_with fail
  have L3 := Aside0.mk (Lim.set L2.out 2 c2 q0 q1 c2 0 rfl)
  clear L2 cx0 cx1 cy0 cy1 co0 co1 co2 co3 fo0 fo1 fo2 fo3
  generalize W.setCell ⟨w.heap.size + 1 + 1 + 1, 2, none⟩ (.int .u64 c2) = W at *
  rw [rounds_succ]
  go_wp2_with fail
  refine wp_loop_rounds 3 ?_
  rw [rounds_succ]
  obtain ⟨cx0, cx1, cy0, cy1, co0, co1, co2, co3, fo0, fo1, fo2, fo3⟩ := L3.out.cells
  go_wp2_with fail
  go_quiet (fail)
  have LN := Aside0.mk (Lim.drewN L3.out nq)
  clear cx0 cx1 cy0 cy1 co0 co1 co2 co3 fo0 fo1 fo2 fo3
  obtain ⟨cx0, cx1, cy0, cy1, co0, co1, co2, co3, fo0, fo1, fo2, fo3⟩ := LN.out.cells
  go_wp2_with fail
  have L4 := Aside0.mk (Lim.set LN.out 1 r1 q0 r1 c2 0 rfl)
  clear LN L3 cx0 cx1 cy0 cy1 co0 co1 co2 co3 fo0 fo1 fo2 fo3
  generalize (W.drewN nq).setCell ⟨w.heap.size + 1 + 1 + 1, 1, none⟩ (.int .u64 r1) = W at *
  clear nq
  rw [rounds_succ]
  obtain ⟨cx0, cx1, cy0, cy1, co0, co1, co2, co3, fo0, fo1, fo2, fo3⟩ := L4.out.cells
  go_wp2_with fail
  go_quiet (fail)
  have LN := Aside0.mk (Lim.drewN L4.out nq)
  clear cx0 cx1 cy0 cy1 co0 co1 co2 co3 fo0 fo1 fo2 fo3
  obtain ⟨cx0, cx1, cy0, cy1, co0, co1, co2, co3, fo0, fo1, fo2, fo3⟩ := LN.out.cells
  go_wp2_with fail
  have L5 := Aside0.mk (Lim.set LN.out 2 q2 q0 r1 q2 0 rfl)
  clear LN L4 cx0 cx1 cy0 cy1 co0 co1 co2 co3 fo0 fo1 fo2 fo3
  generalize (W.drewN nq).setCell ⟨w.heap.size + 1 + 1 + 1, 2, none⟩ (.int .u64 q2) = W at *
  clear nq
  rw [rounds_succ]
  obtain ⟨cx0, cx1, cy0, cy1, co0, co1, co2, co3, fo0, fo1, fo2, fo3⟩ := L5.out.cells
  go_wp2_with fail
  have L6 := Aside0.mk (Lim.set L5.out 3 q3 q0 r1 q2 q3 rfl)
  clear L5 cx0 cx1 cy0 cy1 co0 co1 co2 co3 fo0 fo1 fo2 fo3
  generalize W.setCell ⟨w.heap.size + 1 + 1 + 1, 3, none⟩ (.int .u64 q3) = W at *
  rw [rounds_succ]
  obtain ⟨cx0, cx1, cy0, cy1, co0, co1, co2, co3, fo0, fo1, fo2, fo3⟩ := L6.out.cells
  obtain ⟨cr0, cr1, cr2, cr3, fr0, fr1, fr2, fr3⟩ := L6.out.res
  go_wp2_with fail
  refine bodyPost_ret (v := .agg #[.int .u64 q0, .int .u64 r1, .int .u64 q2, .int .u64 q3]) (by simp [results, Try.results41, go_sem, cr0, cr1, cr2, cr3]) rfl ⟨q0, r1, q2, q3, rfl, ?_, F.out⟩
  exact (((L6.out.below.setCell (p := ⟨w.heap.size, 0, none⟩) (Nat.le_refl _) _).setCell (p := ⟨w.heap.size, 1, none⟩) (Nat.le_refl _) _).setCell (p := ⟨w.heap.size, 2, none⟩) (Nat.le_refl _) _).setCell (p := ⟨w.heap.size, 3, none⟩) (Nat.le_refl _) _
end Go.Proofs.Ytliapjhjofmliaa.H
