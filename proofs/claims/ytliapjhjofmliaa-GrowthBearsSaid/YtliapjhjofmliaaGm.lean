/- Plain arithmetic of what a balance bears: the rest, and the whole. -/
import Derived.RowKit
namespace Go.Proofs.Ytliapjhjofmliaa.Gm
/-- Parts of a year, by how they are counted. -/
def gp (c : Int) : Int := if c = 1 then 360 else if c = 2 then 365 else 133590
/-- What is by all parts of a year. -/
def whole (c : Int) : Int := 1000000000 * gp c
/-- How far a rest may be below 0. -/
def half (c r : Int) : Int := if r = 1 then whole c / 2 else 0
theorem whole_bd (c : Int) : 360000000000 ≤ whole c ∧ whole c ≤ 133590000000000 ∧ whole c % 2 = 0 := by
  unfold whole gp
  split
  · decide
  · split <;> decide
theorem half_bd (c r : Int) : 0 ≤ half c r ∧ 2 * half c r ≤ whole c := by
  have := whole_bd c
  unfold half
  split <;> omega
theorem half_one (c : Int) : 2 * half c 1 = whole c := by
  have := whole_bd c
  unfold half
  rw [if_pos rfl]; omega
theorem half_no {c r : Int} (h : r ≠ 1) : half c r = 0 := if_neg h

/-- One step: what is borne, and the rest. -/
def q (W h rest x : Int) : Int := (x + (rest + h)) / W
def r (W h rest x : Int) : Int := (x + (rest + h)) % W - h
theorem step {W h rest x : Int} (hW : 0 < W) (hx : 0 ≤ x) (r0 : -h ≤ rest) : 0 ≤ q W h rest x ∧ -h ≤ r W h rest x ∧ r W h rest x < W - h ∧ r W h rest x = rest + x - q W h rest x * W := by
  unfold q r
  have e := Int.emod_add_mul_ediv (x + (rest + h)) W
  have h1 := Int.emod_nonneg (x + (rest + h)) (show W ≠ 0 by omega)
  have h2 := Int.emod_lt_of_pos (x + (rest + h)) hW
  have h3 : 0 ≤ (x + (rest + h)) / W := Int.ediv_nonneg (by omega) (by omega)
  rw [Int.mul_comm] at e
  refine ⟨h3, by omega, by omega, by omega⟩
theorem most {W h rest x M : Int} (hW : 0 < W) (r1 : rest < W - h) (hx : x ≤ M * W) : q W h rest x ≤ M := by
  unfold q
  have : (x + (rest + h)) / W < M + 1 := by
    refine Int.ediv_lt_of_lt_mul hW ?_
    rw [Int.add_mul, Int.one_mul]; omega
  omega
/-- What is exact tells what is borne. -/
theorem uniq {W h x s : Int} (hW : 0 < W) (h1 : -h ≤ x - s * W) (h2 : x - s * W < W - h) : q W h 0 x = s ∧ r W h 0 x = x - s * W := by
  unfold q r
  have e : x + (0 + h) = (x - s * W + h) + s * W := by omega
  have a : (x + (0 + h)) / W = s := by
    rw [e, Int.add_mul_ediv_right _ _ (by omega), Int.ediv_eq_zero_of_lt (by omega) (by omega)]; omega
  have b : (x + (0 + h)) % W = x - s * W + h := by
    rw [e, Int.add_mul_emod_self_right, Int.emod_eq_of_lt (by omega) (by omega)]
  exact ⟨a, by omega⟩
theorem more {W h x y : Int} (hW : 0 < W) (hxy : x ≤ y) : q W h 0 x ≤ q W h 0 y := by
  unfold q
  exact Int.ediv_le_ediv hW (by omega)
theorem none {W h : Int} (hW : 0 < W) (h0 : 0 ≤ h) (h1 : h < W) : q W h 0 0 = 0 ∧ r W h 0 0 = 0 := by
  obtain ⟨a, b⟩ := uniq (W := W) (h := h) (x := 0) (s := 0) hW (by omega) (by omega)
  exact ⟨a, by omega⟩
theorem mul_le {a b A B : Int} (a0 : 0 ≤ a) (b0 : 0 ≤ b) (hA : a ≤ A) (hB : b ≤ B) : 0 ≤ a * b ∧ a * b ≤ A * B :=
  ⟨Int.mul_nonneg a0 b0, Int.mul_le_mul hA hB b0 (by omega)⟩
theorem mul3 {a b c A B C : Int} (a0 : 0 ≤ a) (b0 : 0 ≤ b) (c0 : 0 ≤ c) (hA : a ≤ A) (hB : b ≤ B) (hC : c ≤ C) : 0 ≤ a * b * c ∧ a * b * c ≤ A * B * C := by
  obtain ⟨h1, h2⟩ := mul_le a0 b0 hA hB
  exact mul_le h1 c0 h2 hC
/-- What is asked may be asked. -/
def may (bal rate n : Int) : Prop := 0 ≤ bal ∧ bal ≤ 1000000000000000 ∧ 0 ≤ rate ∧ rate ≤ 1000000000 ∧ 0 ≤ n ∧ n ≤ 53436000
instance (bal rate n : Int) : Decidable (may bal rate n) := by unfold may; exact inferInstance
/-- What is borne, which error, and the rest then. -/
def bear (W h rest bal rate n : Int) : Int × Int × Int :=
  if may bal rate n then (if q W h rest (bal * rate * n) ≤ 1000000000000000 then (q W h rest (bal * rate * n), 0, r W h rest (bal * rate * n)) else (0, 3, rest)) else (0, 1, rest)
end Go.Proofs.Ytliapjhjofmliaa.Gm
