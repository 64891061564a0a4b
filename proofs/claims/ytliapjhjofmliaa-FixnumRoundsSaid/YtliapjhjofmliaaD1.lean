/- Division of 128 bits by 64, digit by digit, in plain numbers. -/
import Derived.Below
import Derived.Lib.BitFns
namespace Go.Proofs.Ytliapjhjofmliaa.Math

/-- One digit's guess q, with what is left by the upper half alone, r. Q: the true digit. -/
def dig (y1 y0 u d : Int) : Int := (u * 4294967296 + d) / (y1 * 4294967296 + y0)
structure Inv (y1 y0 u d q r : Int) : Prop where
  q0 : 0 ≤ q
  q1 : q ≤ 4294967297
  r0 : 0 ≤ r
  hu : u = q * y1 + r
  hq : dig y1 y0 u d ≤ q
structure Base (y1 y0 u d : Int) : Prop where
  y1lo : 2147483648 ≤ y1
  y1hi : y1 < 4294967296
  y0lo : 0 ≤ y0
  y0hi : y0 < 4294967296
  ulo : 0 ≤ u
  uhi : u < y1 * 4294967296 + y0
  dlo : 0 ≤ d
  dhi : d < 4294967296
section
variable {y1 y0 u d q r : Int} (b : Base y1 y0 u d)
include b
theorem Base.pos : 0 < y1 * 4294967296 + y0 := by have := b.y1lo; have := b.y0lo; omega
theorem dig_lo : 0 ≤ dig y1 y0 u d := Int.ediv_nonneg (by have := b.ulo; have := b.dlo; omega) (by have := b.pos; omega)
theorem dig_hi : dig y1 y0 u d < 4294967296 := by
  refine Int.ediv_lt_of_lt_mul b.pos ?_
  have := b.uhi; have := b.dhi
  omega
theorem le_dig (q : Int) : q ≤ dig y1 y0 u d ↔ q * (y1 * 4294967296 + y0) ≤ u * 4294967296 + d := Int.le_ediv_iff_mul_le b.pos
set_option linter.unusedSectionVars false in
theorem cross (q : Int) : q * (y1 * 4294967296 + y0) = (q * y1) * 4294967296 + q * y0 := by rw [Int.mul_add, ← Int.mul_assoc]
theorem mul_bd {q : Int} (h0 : 0 ≤ q) (h1 : q ≤ 4294967297) : 0 ≤ q * y0 ∧ q * y0 ≤ 18446744073709551615 := by
  have a := b.y0lo
  have c := b.y0hi
  refine ⟨Int.mul_nonneg h0 a, ?_⟩
  have := Int.mul_le_mul h1 (show y0 ≤ 4294967295 by omega) a (by omega)
  omega
theorem Inv.big (h : Inv y1 y0 u d q r) (hb : 4294967296 ≤ q) : dig y1 y0 u d < q := by have := dig_hi b; omega
theorem Inv.more (h : Inv y1 y0 u d q r) (hb : 4294967296 * r + d < q * y0) : dig y1 y0 u d < q := by
  have h1 := le_dig b q
  have h2 := cross b q
  have h3 := h.hu
  have : ¬ q ≤ dig y1 y0 u d := by rw [h1, h2]; omega
  omega
theorem Inv.done (h : Inv y1 y0 u d q r) (hb : ¬ 4294967296 * r + d < q * y0) : q = dig y1 y0 u d := by
  have h1 := le_dig b q
  have h2 := cross b q
  have h3 := h.hu
  have h4 := h.hq
  have : q ≤ dig y1 y0 u d := by rw [h1, h2]; omega
  omega
theorem Inv.next (h : Inv y1 y0 u d q r) (hl : dig y1 y0 u d < q) : Inv y1 y0 u d (q - 1) (r + y1) := by
  have h0 := dig_lo b
  have h1 := h.q1
  have h2 := h.r0
  have h3 := h.hu
  have h4 := b.y1lo
  refine ⟨by omega, by omega, by omega, ?_, by omega⟩
  rw [Int.sub_mul]; omega
theorem Inv.last (h : Inv y1 y0 u d q r) (hl : dig y1 y0 u d < q) (hr : 4294967296 ≤ r + y1) : q - 1 = dig y1 y0 u d := by
  have n := h.next b hl
  refine n.done b ?_
  have h1 := h.q1
  have h0 := dig_lo b
  have a := b.y0lo
  have c := b.y0hi
  have e := b.dlo
  have := Int.mul_le_mul (show q - 1 ≤ 4294967296 by omega) (show y0 ≤ 4294967295 by omega) a (by omega)
  omega
theorem Inv.first : Inv y1 y0 u d (u / y1) (u - u / y1 * y1) := by
  have h1 := b.y1lo
  have h2 := b.y1hi
  have h3 := b.ulo
  have h4 := b.uhi
  have h5 := b.y0hi
  have h6 := b.dhi
  have h7 := b.y0lo
  have e := Int.emod_add_mul_ediv u y1
  have m0 := Int.emod_nonneg u (show y1 ≠ 0 by omega)
  have c := Int.mul_comm y1 (u / y1)
  refine ⟨Int.ediv_nonneg h3 (by omega), ?_, by omega, by omega, ?_⟩
  · have : u / y1 < 4294967298 := Int.ediv_lt_of_lt_mul (by omega) (by omega)
    omega
  · have q := (le_dig b (dig y1 y0 u d)).1 (Int.le_refl _)
    rw [cross b] at q
    have z := (mul_bd b (dig_lo b) (by have := dig_hi b; omega)).1
    exact (Int.le_ediv_iff_mul_le (by omega)).2 (by omega)
theorem first_lt : u - u / y1 * y1 < 4294967296 := by
  have h1 := b.y1lo
  have h2 := b.y1hi
  have e := Int.emod_add_mul_ediv u y1
  have m0 := Int.emod_lt_of_pos u (show 0 < y1 by omega)
  have c := Int.mul_comm y1 (u / y1)
  omega
/-- What is left behind a digit. -/
theorem left_bd : 0 ≤ u * 4294967296 + d - dig y1 y0 u d * (y1 * 4294967296 + y0) ∧ u * 4294967296 + d - dig y1 y0 u d * (y1 * 4294967296 + y0) < y1 * 4294967296 + y0 := by
  have e := Int.emod_add_mul_ediv (u * 4294967296 + d) (y1 * 4294967296 + y0)
  have m0 := Int.emod_nonneg (u * 4294967296 + d) (show y1 * 4294967296 + y0 ≠ 0 by have := b.pos; omega)
  have m1 := Int.emod_lt_of_pos (u * 4294967296 + d) b.pos
  have c := Int.mul_comm (y1 * 4294967296 + y0) (dig y1 y0 u d)
  unfold dig at *
  omega
end
/-- Two digits are the quotient. -/
theorem two_digits {y u d e q1 q0 r : Int} (hy : 0 < y) (h1 : u * 4294967296 + d - q1 * y = r) (h2 : 0 ≤ r * 4294967296 + e - q0 * y) (h3 : r * 4294967296 + e - q0 * y < y) :
    (u * 18446744073709551616 + d * 4294967296 + e) / y = q1 * 4294967296 + q0 ∧ (u * 18446744073709551616 + d * 4294967296 + e) % y = r * 4294967296 + e - q0 * y := by
  have a : (q1 * 4294967296 + q0) * y = (q1 * y) * 4294967296 + q0 * y := by rw [Int.add_mul, Int.mul_assoc, Int.mul_comm 4294967296 y, ← Int.mul_assoc]
  have hd : (u * 18446744073709551616 + d * 4294967296 + e) / y = q1 * 4294967296 + q0 := by
    have l1 := (Int.le_ediv_iff_mul_le hy).2 (show (q1 * 4294967296 + q0) * y ≤ u * 18446744073709551616 + d * 4294967296 + e by rw [a]; omega)
    have l2 := Int.ediv_lt_of_lt_mul hy (show u * 18446744073709551616 + d * 4294967296 + e < (q1 * 4294967296 + q0 + 1) * y by rw [Int.add_mul, a]; omega)
    omega
  refine ⟨hd, ?_⟩
  have e1 := Int.emod_add_mul_ediv (u * 18446744073709551616 + d * 4294967296 + e) y
  rw [hd, Int.mul_comm y, a] at e1
  omega

/-- How many bits a number has. -/
theorem bitLen_aux : ∀ (f x : Nat), x < 2 ^ f → x ≠ 0 → 1 ≤ Lib.bitLenAux f x ∧ Lib.bitLenAux f x ≤ f ∧ 2 ^ (Lib.bitLenAux f x - 1) ≤ x ∧ x < 2 ^ (Lib.bitLenAux f x) := by
  intro f
  induction f with
  | zero => intro x h h0; simp at h; omega
  | succ f ih =>
    intro x h h0
    simp only [Lib.bitLenAux, if_neg h0]
    by_cases hx : x / 2 = 0
    · have e : Lib.bitLenAux f (x / 2) = 0 := by rw [hx]; cases f <;> simp [Lib.bitLenAux]
      rw [e]
      refine ⟨by omega, by omega, ?_, ?_⟩ <;> simp <;> omega
    · have hp : 2 ^ (f + 1) = 2 * 2 ^ f := by rw [Nat.pow_succ]; omega
      obtain ⟨a, b, c, d⟩ := ih (x / 2) (by omega) hx
      generalize Lib.bitLenAux f (x / 2) = L at *
      obtain ⟨L, rfl⟩ : ∃ m, L = m + 1 := ⟨L - 1, by omega⟩
      have e1 : 2 ^ (1 + (L + 1) - 1) = 2 * 2 ^ L := by rw [show 1 + (L + 1) - 1 = L + 1 by omega, Nat.pow_succ]; omega
      have e2 : 2 ^ (1 + (L + 1)) = 2 * 2 ^ (L + 1) := by rw [show 1 + (L + 1) = (L + 1) + 1 by omega, Nat.pow_succ]; omega
      rw [show L + 1 - 1 = L by omega] at c
      rw [e1, e2]
      exact ⟨by omega, by omega, by omega, by omega⟩
theorem bitLen_spec {x : Nat} (h : x < 18446744073709551616) (h0 : x ≠ 0) : 1 ≤ Lib.bitLen x ∧ Lib.bitLen x ≤ 64 ∧ 2 ^ (Lib.bitLen x - 1) ≤ x ∧ x < 2 ^ (Lib.bitLen x) := bitLen_aux 64 x h h0
end Go.Proofs.Ytliapjhjofmliaa.Math
