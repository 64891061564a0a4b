/- The document's Ratio: the plain law. -/
import Derived.Test.YtliapjhjofmliaaLi
namespace Go.Proofs.Ytliapjhjofmliaa.H
open Go.RowKit Go.Proofs.YtliapjhjofmliaaW.PrintWords Go.Proofs.YtliapjhjofmliaaW.PrintLast Go.Proofs.YtliapjhjofmliaaW.PrintMore
open Go.Proofs.Ytliapjhjofmliaa.Math
set_option linter.unusedVariables false
set_option linter.unusedSimpArgs false
def ab (v : Int) : Int := if v < 0 then -v else v
theorem ab_bd {v : Int} (h1 : -9223372036854775808 ≤ v) (h2 : v ≤ 9223372036854775807) : 0 ≤ ab v ∧ ab v ≤ 9223372036854775808 := by unfold ab; split <;> omega
theorem sgn_ab (a b : Int) : sgn (decide (a < 0) != decide (b < 0)) (ab a * ab b) = a * b := by
  unfold sgn ab
  by_cases ha : a < 0 <;> by_cases hb : b < 0 <;> simp [ha, hb, Int.neg_mul, Int.mul_neg]
/-- Away from 0? -/
def refUp (mode q rest d : Int) (below : Bool) : Prop :=
  rest ≠ 0 ∧ ((mode = 3 ∧ below = true) ∨ (mode ≠ 3 ∧ ((rest ≠ d - rest ∧ d - rest < rest) ∨ (rest = d - rest ∧ ((mode = 2 ∧ q % 2 = 1) ∨ (mode ≠ 2 ∧ below = false))))))
instance (mode q rest d : Int) (below : Bool) : Decidable (refUp mode q rest d below) := by unfold refUp; exact inferInstance
def refV (mode q rest d : Int) (below : Bool) : Int := if refUp mode q rest d below then q + 1 else q
theorem refV_is {mode x d : Int} {below : Bool} (m1 : 1 ≤ mode) (m3 : mode ≤ 3) (h0 : 0 ≤ x) (hd : 0 < d) : sgn below (refV mode (x / d) (x % d) d below) = rnd (sgn below x) d mode := by
  obtain ⟨s1, s2⟩ := ediv_sgn below h0 hd
  have m0 := Int.emod_nonneg x (show d ≠ 0 by omega)
  have m9 := Int.emod_lt_of_pos x hd
  have q0 := Int.ediv_nonneg h0 (show 0 ≤ d by omega)
  generalize hq : x / d = q at *
  generalize hr : x % d = r at *
  clear hq hr
  unfold rnd refV
  cases below with
  | false =>
    obtain ⟨e1, e2⟩ := s1 rfl
    rw [e1, e2]
    have i1 : refUp mode q r d false ↔ (r ≠ 0 ∧ mode ≠ 3 ∧ ((r ≠ d - r ∧ d - r < r) ∨ (r = d - r ∧ ((mode = 2 ∧ q % 2 = 1) ∨ mode ≠ 2)))) := by
      unfold refUp; simp only [Bool.false_eq_true, and_false, and_true, false_or]
    have i2 : up q r d mode ↔ ((mode = 1 ∧ d ≤ 2 * r) ∨ (mode = 2 ∧ (d < 2 * r ∨ (2 * r = d ∧ q % 2 ≠ 0)))) := Iff.rfl
    clear s1 s2 e1 e2 h0
    have key : refUp mode q r d false ↔ up q r d mode := by rw [i1, i2]; omega
    by_cases h : up q r d mode
    · rw [if_pos (key.2 h), if_pos h]; rfl
    · rw [if_neg (fun x => h (key.1 x)), if_neg h]; rfl
  | true =>
    have i1 : refUp mode q r d true ↔ (r ≠ 0 ∧ (mode = 3 ∨ (mode ≠ 3 ∧ ((r ≠ d - r ∧ d - r < r) ∨ (r = d - r ∧ (mode = 2 ∧ q % 2 = 1)))))) := by
      unfold refUp; simp only [and_true, Bool.true_eq_false, and_false, or_false]
    by_cases h : r = 0
    · obtain ⟨e1, e2⟩ := (s2 rfl).1 h
      rw [e1, e2]
      have i2 : up (-q) 0 d mode ↔ ((mode = 1 ∧ d ≤ 2 * 0) ∨ (mode = 2 ∧ (d < 2 * 0 ∨ (2 * 0 = d ∧ -q % 2 ≠ 0)))) := Iff.rfl
      clear s1 s2 e1 e2 h0
      rw [if_neg (fun x => by rw [i1] at x; omega), if_neg (fun x => by rw [i2] at x; omega)]
      rfl
    · obtain ⟨e1, e2⟩ := (s2 rfl).2 (by omega)
      rw [e1, e2]
      have i2 : up (-q - 1) (d - r) d mode ↔ ((mode = 1 ∧ d ≤ 2 * (d - r)) ∨ (mode = 2 ∧ (d < 2 * (d - r) ∨ (2 * (d - r) = d ∧ (-q - 1) % 2 ≠ 0)))) := Iff.rfl
      clear s1 s2 e1 e2 h0
      have key : refUp mode q r d true ↔ ¬ up (-q - 1) (d - r) d mode := by rw [i1, i2]; omega
      by_cases h : up (-q - 1) (d - r) d mode
      · rw [if_neg (fun x => key.1 x h), if_pos h]
        show -q = _
        omega
      · rw [if_pos (key.2 h), if_neg h]
        show -(q + 1) = _
        omega
/-- What the document answers, of what the rounds leave. -/
def refOut (mode q rest d : Int) (below ov : Bool) : Int × Int :=
  if ov = true ∨ 1000000000000000 < refV mode q rest d below then (0, 3) else (sgn below (refV mode q rest d below), 0)
theorem refOut_is {mode a b d q rest : Int} {ov : Bool} (m1 : 1 ≤ mode) (m3 : mode ≤ 3) (hd : 0 < d) (P : Int) (hP : P = ab a * ab b) (h0 : 0 ≤ P) (hr : rest = P % d) (h1 : ov = false → q = P / d) (h2 : ov = true → 1000000000000001 < P / d) :
    refOut mode q rest d (decide (a < 0) != decide (b < 0)) ov = ratio mode a b d := by
  have e := refV_is (below := decide (a < 0) != decide (b < 0)) m1 m3 h0 hd
  have hs : sgn (decide (a < 0) != decide (b < 0)) P = a * b := by rw [hP]; exact sgn_ab a b
  rw [hs] at e
  unfold ratio
  rw [if_pos (show mode ≠ 0 ∧ 0 < d from ⟨by omega, hd⟩), ← e]
  unfold refOut
  have q0 := Int.ediv_nonneg h0 (show 0 ≤ d by omega)
  have hv : P / d ≤ refV mode (P / d) (P % d) d (decide (a < 0) != decide (b < 0)) := by unfold refV; split <;> omega
  generalize (decide (a < 0) != decide (b < 0)) = below at *
  subst hr
  cases ov with
  | true =>
    have := h2 rfl
    rw [if_pos (Or.inl rfl), if_neg]
    unfold fits sgn
    split <;> omega
  | false =>
    rw [h1 rfl]
    by_cases hb : 1000000000000000 < refV mode (P / d) (P % d) d below
    · rw [if_pos (Or.inr hb), if_neg]
      unfold fits sgn
      split <;> omega
    · rw [if_neg (by simp; omega), if_pos]
      unfold fits sgn
      split <;> omega
/-- One round. -/
structure Rnd (P d : Int) (k : Nat) (q rest : Int) (ov : Bool) : Prop where
  r0 : 0 ≤ rest
  r1 : rest < d
  q0 : 0 ≤ q
  q1 : q < 18446744073709551616
  rr : rest = P / 2 ^ k % d
  no : ov = false → q = P / 2 ^ k / d ∧ q < 9223372036854775808
  yes : ov = true → 9223372036854775808 ≤ P / 2 ^ k / d
theorem half_step {P : Int} (k : Nat) : P / 2 ^ k = 2 * (P / 2 ^ (k + 1)) + P / 2 ^ k % 2 := by
  have e : P / 2 ^ (k + 1) = P / 2 ^ k / 2 := by rw [Int.pow_succ, Int.ediv_ediv_of_nonneg (Int.le_of_lt (Int.pow_pos (by decide)))]
  rw [e]; omega
theorem div_step {T d q r b : Int} (hd : 0 < d) (hT : T = q * d + r) (r0 : 0 ≤ r) (r1 : r < d) (b0 : 0 ≤ b) (b1 : b ≤ 1) :
    (2 * r + b < d → (2 * T + b) / d = 2 * q ∧ (2 * T + b) % d = 2 * r + b) ∧ (d ≤ 2 * r + b → (2 * T + b) / d = 2 * q + 1 ∧ (2 * T + b) % d = 2 * r + b - d) := by
  refine ⟨fun h => ?_, fun h => ?_⟩
  · have e : 2 * T + b = (2 * r + b) + 2 * q * d := by rw [hT, Int.mul_add, Int.mul_assoc]; omega
    rw [e, Int.add_mul_ediv_right _ _ (by omega), Int.add_mul_emod_self_right, Int.ediv_eq_zero_of_lt (by omega) h, Int.emod_eq_of_lt (by omega) h]
    omega
  · have e : 2 * T + b = (2 * r + b - d) + (2 * q + 1) * d := by rw [hT, Int.add_mul, Int.mul_add, Int.mul_assoc]; omega
    rw [e, Int.add_mul_ediv_right _ _ (by omega), Int.add_mul_emod_self_right, Int.ediv_eq_zero_of_lt (by omega) (by omega), Int.emod_eq_of_lt (by omega) (by omega)]
    omega
theorem Rnd.step {P d : Int} {k : Nat} {q rest : Int} {ov : Bool} (hd : 0 < d) (d1 : d ≤ 9223372036854775807) (hP : 0 ≤ P) (h : Rnd P d (k + 1) q rest ov) (b : Int) (hb : b = P / 2 ^ k % 2) :
    Rnd P d k (if d ≤ 2 * rest + b then 2 * q % 18446744073709551616 + 1 else 2 * q % 18446744073709551616) (if d ≤ 2 * rest + b then 2 * rest + b - d else 2 * rest + b) (ov || decide (q / 4611686018427387904 = 1)) := by
  obtain ⟨r0, r1, q0, q1, rr, no, yes⟩ := h
  have hs := half_step (P := P) k
  rw [← hb] at hs
  have hT := Int.mul_ediv_add_emod (P / 2 ^ (k + 1)) d
  rw [Int.mul_comm] at hT
  obtain ⟨s1, s2⟩ := div_step (T := P / 2 ^ (k + 1)) (q := P / 2 ^ (k + 1) / d) (r := rest) (b := b) hd (by rw [rr]; omega) r0 r1 (by omega) (by omega)
  rw [← hs] at s1 s2
  have hq := Int.ediv_nonneg (show 0 ≤ P / 2 ^ (k + 1) from Int.ediv_nonneg hP (Int.le_of_lt (Int.pow_pos (by decide)))) (show 0 ≤ d by omega)
  by_cases hc : d ≤ 2 * rest + b
  · obtain ⟨e1, e2⟩ := s2 hc
    rw [if_pos hc, if_pos hc]
    refine ⟨by omega, by omega, by omega, by omega, by omega, fun ho => ?_, fun ho => ?_⟩
    · simp only [Bool.or_eq_false_iff, decide_eq_false_iff_not] at ho
      obtain ⟨n1, n2⟩ := no ho.1
      have := ho.2
      omega
    · simp only [Bool.or_eq_true, decide_eq_true_eq] at ho
      cases ov with
      | true => have := yes rfl; omega
      | false =>
        obtain ⟨n1, n2⟩ := no rfl
        have h2 : q / 4611686018427387904 = 1 := by rcases ho with h | h; cases h; exact h
        omega
  · obtain ⟨e1, e2⟩ := s1 (by omega)
    rw [if_neg hc, if_neg hc]
    refine ⟨by omega, by omega, by omega, by omega, by omega, fun ho => ?_, fun ho => ?_⟩
    · simp only [Bool.or_eq_false_iff, decide_eq_false_iff_not] at ho
      obtain ⟨n1, n2⟩ := no ho.1
      have := ho.2
      omega
    · simp only [Bool.or_eq_true, decide_eq_true_eq] at ho
      cases ov with
      | true => have := yes rfl; omega
      | false =>
        obtain ⟨n1, n2⟩ := no rfl
        have h2 : q / 4611686018427387904 = 1 := by rcases ho with h | h; cases h; exact h
        omega
/-- The part of which a bit is. -/
theorem bit_at {p M P : Int} {r j : Nat} (hr : r < 32) (hp : P / 2 ^ (32 * j) = p + 4294967296 * M) : P / 2 ^ (32 * j + r) % 2 = p / 2 ^ r % 2 := by
  have e : P / 2 ^ (32 * j + r) = P / 2 ^ (32 * j) / 2 ^ r := by rw [Int.pow_add, Int.ediv_ediv_of_nonneg (Int.le_of_lt (Int.pow_pos (by decide)))]
  have e2 : (4294967296 : Int) * M = 2 ^ r * (2 * (2 ^ (31 - r) * M)) := by
    have : (4294967296 : Int) = 2 ^ r * 2 * 2 ^ (31 - r) := by
      have h2 : (2 : Int) ^ r * 2 * 2 ^ (31 - r) = 2 ^ (r + 1 + (31 - r)) := by rw [Int.pow_add, Int.pow_succ]
      rw [h2, show r + 1 + (31 - r) = 32 by omega]
      rfl
    rw [this, Int.mul_assoc, Int.mul_assoc]
  rw [e, hp, e2, Int.add_mul_ediv_left _ _ (by have := Int.pow_pos (n := 2) (show (0 : Int) < 2 by decide) (m := r); omega)]
  omega
end Go.Proofs.Ytliapjhjofmliaa.H
