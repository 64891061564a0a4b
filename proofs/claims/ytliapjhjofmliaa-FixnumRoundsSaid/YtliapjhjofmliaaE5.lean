/- Contracts by hand: products, sums, and what is caught. -/
import Derived.Test.YtliapjhjofmliaaE4
import Derived.Laws.BitsAllLaws
namespace Go.Proofs.Ytliapjhjofmliaa.H
open Go.RowKit Go.Proofs.YtliapjhjofmliaaW.PrintWords Go.Proofs.YtliapjhjofmliaaW.PrintLast Go.Proofs.YtliapjhjofmliaaW.PrintMore
open Go.Proofs.Ytliapjhjofmliaa.Math
set_option linter.unusedVariables false
set_option linter.unusedSimpArgs false

structure Res2 (w W : World) (x y : Value) : Prop where
  below : Below w.heap.size w W
  c0 : W.cell? ⟨w.heap.size, 0, none⟩ = some x
  c1 : W.cell? ⟨w.heap.size + 1, 0, none⟩ = some y
  f0 : W.frozen? ⟨w.heap.size, 0, none⟩ = false
  f1 : W.frozen? ⟨w.heap.size + 1, 0, none⟩ = false
  size : w.heap.size + 2 ≤ W.heap.size
theorem Res2.made (w : World) (x y : Value) (t u : TypeId) : Res2 w ((w.alloc (.cells #[x] t)).alloc (.cells #[y] u)) x y := by
  refine ⟨((Below.refl _ _).alloc (Nat.le_refl _) _).alloc (by simp) _, ?_, ?_, ?_, ?_, ?_⟩ <;> simp [go_sem]
theorem Res2.step {w W W' : World} {x y : Value} (h : Res2 w W x y) (hb : Below W.heap.size W W') : Res2 w W' x y := by
  have hs := h.size
  refine ⟨h.below.trans (hb.mono (by omega)), ?_, ?_, ?_, ?_, Nat.le_trans h.size hb.size⟩
  · rw [hb.cell (by simp; omega)]; exact h.c0
  · rw [hb.cell (by simp; omega)]; exact h.c1
  · rw [hb.frozen (by simp; omega)]; exact h.f0
  · rw [hb.frozen (by simp; omega)]; exact h.f1
theorem Res2.drawn {w W W' : World} {x y : Value} (h : Res2 w W x y) (hb : Drawn0 W W') : Res2 w W' x y := h.step hb.below
theorem Res2.put {w W : World} {x y : Value} (h : Res2 w W x y) (u v : Value) : Below w.heap.size w ((W.setCell ⟨w.heap.size, 0, none⟩ u).setCell ⟨w.heap.size + 1, 0, none⟩ v) :=
  (h.below.setCell (by simp) _).setCell (by simp) _


/-- A number of 128 bits, and its sign: a product. -/
def wide (a b : Int) : Bool × Int × Int := (decide (a * b < 0), (if a * b < 0 then -(a * b) else a * b) / 18446744073709551616, (if a * b < 0 then -(a * b) else a * b) % 18446744073709551616)
theorem or_zero {a b : Int} (h1 : 0 ≤ a) (h2 : a < 18446744073709551616) (h3 : 0 ≤ b) (h4 : b < 18446744073709551616) : (Go.bits .or .u64 a b != 0) = decide (¬ (a = 0 ∧ b = 0)) := by
  rw [u64_or a b h1 h2 h3 h4]
  by_cases h : a = 0 ∧ b = 0
  · obtain ⟨rfl, rfl⟩ := h
    rfl
  · rw [decide_eq_true h, bne_iff_ne]
    intro e
    have e2 : a.toNat ||| b.toNat = 0 := by omega
    rw [Nat.or_eq_zero_iff] at e2
    omega
theorem abs_mul (a b : Int) : (if a < 0 then -a else a) * (if b < 0 then -b else b) = if a * b < 0 then -(a * b) else a * b := by
  rcases Int.lt_or_le a 0 with ha | ha <;> rcases Int.lt_or_le b 0 with hb | hb
  · have := Int.mul_pos_of_neg_of_neg ha hb
    rw [if_pos ha, if_pos hb, if_neg (by omega), Int.neg_mul_neg]
  · have := Int.mul_nonpos_of_nonpos_of_nonneg (Int.le_of_lt ha) hb
    rw [if_pos ha, if_neg (by omega), Int.neg_mul]
    split <;> omega
  · have := Int.mul_nonpos_of_nonneg_of_nonpos ha (Int.le_of_lt hb)
    rw [if_neg (by omega), if_pos hb, Int.mul_neg]
    split <;> omega
  · have := Int.mul_nonneg ha hb
    rw [if_neg (by omega), if_neg (by omega), if_neg (by omega)]
theorem sgn_mul {a b : Int} : (a * b < 0) ↔ (a * b ≠ 0 ∧ (decide (a < 0) != decide (b < 0)) = true) := by
  rcases Int.lt_or_le a 0 with ha | ha <;> rcases Int.lt_or_le b 0 with hb | hb
  · have := Int.mul_pos_of_neg_of_neg ha hb
    simp [ha, hb]; omega
  · have := Int.mul_nonpos_of_nonpos_of_nonneg (Int.le_of_lt ha) hb
    exact ⟨fun h => ⟨by omega, by simp [ha, show ¬ b < 0 by omega]⟩, fun h => by have := h.1; omega⟩
  · have := Int.mul_nonpos_of_nonneg_of_nonpos ha (Int.le_of_lt hb)
    exact ⟨fun h => ⟨by omega, by simp [hb, show ¬ a < 0 by omega]⟩, fun h => by have := h.1; omega⟩
  · have := Int.mul_nonneg ha hb
    simp [show ¬ a < 0 by omega, show ¬ b < 0 by omega]; omega
theorem prod_lt {x y : Int} (x0 : 0 ≤ x) (x1 : x ≤ 9223372036854775808) (y0 : 0 ≤ y) (y1 : y ≤ 9223372036854775808) : x * y < 18446744073709551616 * 18446744073709551616 := by
  have := Int.mul_le_mul x1 y1 y0 (by decide)
  omega
theorem product_f {a b : Int} (a1 : -9223372036854775808 ≤ a) (a2 : a ≤ 9223372036854775807) (b1 : -9223372036854775808 ≤ b) (b2 : b ≤ 9223372036854775807) : PA.fixnum_product.f a b = some (wide a b) := by
  unfold PA.fixnum_product.f wide bits_Mul64.f
  rw [size_is a1 a2, size_is b1 b2]
  simp only [Option.bind_some]
  rw [if_pos (by repeat' split
                 all_goals omega)]
  simp only [Option.bind_some, abs_mul]
  have hs := @sgn_mul a b
  have h0 : 0 ≤ (if a * b < 0 then -(a * b) else a * b) := by split <;> omega
  have h1 : (if a * b < 0 then -(a * b) else a * b) < 18446744073709551616 * 18446744073709551616 := by
    rw [← abs_mul]
    exact prod_lt (by split <;> omega) (by split <;> omega) (by split <;> omega) (by split <;> omega)
  have h2 : (if a * b < 0 then -(a * b) else a * b) = 0 ↔ a * b = 0 := by split <;> omega
  generalize (if a * b < 0 then -(a * b) else a * b) = x at *
  by_cases hd : (decide (a < 0) != decide (b < 0)) = true
  · rw [if_pos hd, or_zero (by omega) (by omega) (by omega) (by omega)]
    have : (¬ (x / 18446744073709551616 = 0 ∧ x % 18446744073709551616 = 0)) ↔ a * b < 0 := by
      rw [hs]; simp only [hd, and_true, ← h2, ne_eq]; omega
    simp only [this]
  · rw [if_neg hd]
    have : ¬ a * b < 0 := fun h => hd (hs.1 h).2
    simp only [this, decide_false]
theorem wide_bd (a b : Int) (a1 : -9223372036854775808 ≤ a) (a2 : a ≤ 9223372036854775807) (b1 : -9223372036854775808 ≤ b) (b2 : b ≤ 9223372036854775807) :
    0 ≤ (wide a b).2.1 ∧ (wide a b).2.1 < 18446744073709551616 ∧ 0 ≤ (wide a b).2.2 ∧ (wide a b).2.2 < 18446744073709551616 ∧ sgn (wide a b).1 ((wide a b).2.1 * 18446744073709551616 + (wide a b).2.2) = a * b := by
  unfold wide sgn
  have h0 : 0 ≤ (if a * b < 0 then -(a * b) else a * b) := by split <;> omega
  have h1 : (if a * b < 0 then -(a * b) else a * b) < 18446744073709551616 * 18446744073709551616 := by
    rw [← abs_mul]
    exact prod_lt (by split <;> omega) (by split <;> omega) (by split <;> omega) (by split <;> omega)
  dsimp only
  refine ⟨by omega, by omega, by omega, by omega, ?_⟩
  by_cases h : a * b < 0
  · simp only [h, decide_true, if_true]; omega
  · simp only [h, decide_false, Bool.false_eq_true, if_false]; omega
theorem product_is {a b : Int} (a1 : -9223372036854775808 ≤ a) (a2 : a ≤ 9223372036854775807) (b1 : -9223372036854775808 ≤ b) (b2 : b ≤ 9223372036854775807) (w : World) :
    Calls Try.prog 39 #[.int .i64 a, .int .i64 b] w fun e w' => e = .returned (.agg #[.bool (wide a b).1, .int .u64 (wide a b).2.1, .int .u64 (wide a b).2.2]) ∧ Below w.heap.size w w' :=
  PA.fixnum_product.calls a b _ _ _ w (product_f a1 a2 b1 b2)
/-- A product by a number, rounded. -/
theorem ratio_yes {a b d mode : Int} (a1 : -9223372036854775808 ≤ a) (a2 : a ≤ 9223372036854775807) (b1 : -9223372036854775808 ≤ b) (b2 : b ≤ 9223372036854775807) (d0 : 0 < d) (d1 : d ≤ 9223372036854775807) (hf : fits (rnd (a * b) d mode)) (w : World) :
    Calls Try.prog 40 #[.agg #[.bool (wide a b).1, .int .u64 (wide a b).2.1, .int .u64 (wide a b).2.2], .int .i64 d, .int .i64 mode] w fun e w' => e = .returned (.int .i64 (rnd (a * b) d mode)) ∧ Below w.heap.size w w' := by
  obtain ⟨h1, h2, h3, h4, h5⟩ := wide_bd a b a1 a2 b1 b2
  have := whole_yes (below := (wide a b).1) (mode := mode) h1 h2 d0 d1 h3 h4 (by rw [h5]; exact hf) w
  rw [h5] at this
  exact this
theorem ratio_no {a b d mode : Int} (a1 : -9223372036854775808 ≤ a) (a2 : a ≤ 9223372036854775807) (b1 : -9223372036854775808 ≤ b) (b2 : b ≤ 9223372036854775807) (d0 : 0 < d) (d1 : d ≤ 9223372036854775807) (hf : ¬ fits (rnd (a * b) d mode)) (w : World) :
    Calls Try.prog 40 #[.agg #[.bool (wide a b).1, .int .u64 (wide a b).2.1, .int .u64 (wide a b).2.2], .int .i64 d, .int .i64 mode] w fun e w' => e = .panicked [{ v := .iface 24 (.int .i64 3), recovered := false }] ∧ Below w.heap.size w w' := by
  obtain ⟨h1, h2, h3, h4, h5⟩ := wide_bd a b a1 a2 b1 b2
  exact whole_no (below := (wide a b).1) (mode := mode) h1 h2 d0 d1 h3 h4 (by rw [h5]; exact hf) w
theorem rnd_one (v : Int) : rnd v 1 0 = v := by
  unfold rnd up; simp
end Go.Proofs.Ytliapjhjofmliaa.H
