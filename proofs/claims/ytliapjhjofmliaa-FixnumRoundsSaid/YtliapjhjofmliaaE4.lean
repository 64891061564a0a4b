/- Contracts by hand: fixnum.whole in plain words. -/
import Derived.Test.YtliapjhjofmliaaE3
namespace Go.Proofs.Ytliapjhjofmliaa.H
open Go.RowKit Go.Proofs.YtliapjhjofmliaaW.PrintWords Go.Proofs.YtliapjhjofmliaaW.PrintLast Go.Proofs.YtliapjhjofmliaaW.PrintMore
open Go.Proofs.Ytliapjhjofmliaa.Math
set_option linter.unusedVariables false
set_option linter.unusedSimpArgs false

/-- s by d, rounded in a way (1: half up; 2: half to the even one; else down). -/
def up (v rest d mode : Int) : Prop := (mode = 1 ∧ d ≤ 2 * rest) ∨ (mode = 2 ∧ (d < 2 * rest ∨ (2 * rest = d ∧ v % 2 ≠ 0)))
instance (v rest d mode : Int) : Decidable (up v rest d mode) := by unfold up; exact inferInstance
def rnd (s d mode : Int) : Int := if up (s / d) (s % d) d mode then s / d + 1 else s / d
theorem rnd_bd (s d mode : Int) : s / d ≤ rnd s d mode ∧ rnd s d mode ≤ s / d + 1 := by
  unfold rnd; split <;> omega
/-- With its sign. -/
def sgn (below : Bool) (x : Int) : Int := if below = true then -x else x

theorem tmod2 (v : Int) : Int.tmod v 2 = 0 ↔ v % 2 = 0 := by
  rw [Int.tmod_eq_emod]
  split <;> omega
theorem up_iff (v rest d mode : Int) : up v rest d mode ↔ ((mode = 1 ∧ d - rest ≤ rest) ∨ (mode = 2 ∧ (d - rest < rest ∨ (rest = d - rest ∧ ¬ Int.tmod v 2 = 0)))) := by
  unfold up
  rw [tmod2]
  omega
theorem j0_yes (k : Nat) {d mode v rest : Int} (d0 : 0 < d) (d1 : d ≤ 9223372036854775807) (r0 : 0 ≤ rest) (r1 : rest < d) (v0 : -1000000000000003 ≤ v) (v1 : v ≤ 1000000000000003) :
    PW.fixnum_wide_whole.j0 (k + 2) d mode v rest = fixnum_fit.f (if up v rest d mode then v + 1 else v) := by
  have hb : ∀ x : Option Int, (x.bind fun t => some t) = x := fun x => by cases x <;> rfl
  simp only [PW.fixnum_wide_whole.j0, PW.fixnum_wide_whole.j1, hb, up_iff]
  rw [w64 (x := d - rest) (by omega) (by omega), w64 (x := v + 1) (by omega) (by omega)]
  generalize d - rest = less
  generalize Int.tmod v 2 = t
  generalize v + 1 = v1
  clear d0 d1 r0 r1 v0
  by_cases m1 : mode = 1 <;> by_cases m2 : mode = 2 <;> by_cases g1 : less ≤ rest <;> by_cases g2 : less < rest <;> by_cases g3 : rest = less <;> by_cases g4 : t = 0 <;> first | omega | (simp [m1, m2, g1, g2, g3, g4]; done) | (subst g3; simp [m1, m2, g1, g2, g4]; done) | simp only [m1, m2, g1, g2, g3, g4, if_true, if_false, decide_true, decide_false, true_and, false_and, and_true, and_false, or_false, false_or, or_true, true_or, not_true, not_false_eq_true, ge_iff_le, gt_iff_lt, Bool.false_eq_true]
theorem j0_no (k : Nat) {d mode v rest : Int} (d0 : 0 < d) (d1 : d ≤ 9223372036854775807) (r0 : 0 ≤ rest) (r1 : rest < d) (v0 : -1000000000000003 ≤ v) (v1 : v ≤ 1000000000000003) :
    PWn.fixnum_wide_whole.j0 (k + 2) d mode v rest = fixnum_nofit.f (if up v rest d mode then v + 1 else v) := by
  have hb : ∀ x : Option Int, (x.bind fun t => some t) = x := fun x => by cases x <;> rfl
  simp only [PWn.fixnum_wide_whole.j0, PWn.fixnum_wide_whole.j1, hb, up_iff]
  rw [w64 (x := d - rest) (by omega) (by omega), w64 (x := v + 1) (by omega) (by omega)]
  generalize d - rest = less
  generalize Int.tmod v 2 = t
  generalize v + 1 = v1
  clear d0 d1 r0 r1 v0
  by_cases m1 : mode = 1 <;> by_cases m2 : mode = 2 <;> by_cases g1 : less ≤ rest <;> by_cases g2 : less < rest <;> by_cases g3 : rest = less <;> by_cases g4 : t = 0 <;> first | omega | (simp [m1, m2, g1, g2, g3, g4]; done) | (subst g3; simp [m1, m2, g1, g2, g4]; done) | simp only [m1, m2, g1, g2, g3, g4, if_true, if_false, decide_true, decide_false, true_and, false_and, and_true, and_false, or_false, false_or, or_true, true_or, not_true, not_false_eq_true, ge_iff_le, gt_iff_lt, Bool.false_eq_true]

theorem ediv_sgn (below : Bool) {x d : Int} (h0 : 0 ≤ x) (hd : 0 < d) :
    (below = false → sgn below x / d = x / d ∧ sgn below x % d = x % d) ∧
    (below = true → (x % d = 0 → sgn below x / d = -(x / d) ∧ sgn below x % d = 0) ∧ (0 < x % d → sgn below x / d = -(x / d) - 1 ∧ sgn below x % d = d - x % d)) := by
  have e := Int.mul_ediv_add_emod x d
  have m0 := Int.emod_nonneg x (show d ≠ 0 by omega)
  have m1 := Int.emod_lt_of_pos x hd
  refine ⟨fun hb => by subst hb; simp [sgn], fun hb => ?_⟩
  subst hb
  simp only [sgn, if_true]
  refine ⟨fun h => ?_, fun h => ?_⟩
  · have he : -x = -(x / d) * d := by rw [Int.neg_mul, Int.mul_comm (x / d) d]; omega
    rw [he]
    exact ⟨Int.mul_ediv_cancel _ (by omega), Int.mul_emod_left _ _⟩
  · have he : -x = (d - x % d) + (-(x / d) - 1) * d := by rw [Int.sub_mul, Int.neg_mul, Int.mul_comm (x / d) d]; omega
    rw [he, Int.add_mul_ediv_right _ _ (by omega), Int.add_mul_emod_self_right, Int.ediv_eq_zero_of_lt (by omega) (by omega), Int.emod_eq_of_lt (by omega) (by omega)]
    omega
theorem fit_q {below : Bool} {x d mode : Int} (h0 : 0 ≤ x) (hd : 0 < d) (hf : fits (rnd (sgn below x) d mode)) : x / d ≤ 1000000000000001 := by
  obtain ⟨b1, b2⟩ := rnd_bd (sgn below x) d mode
  obtain ⟨f1, f2⟩ := hf
  obtain ⟨s1, s2⟩ := ediv_sgn below h0 hd
  have m0 := Int.emod_nonneg x (show d ≠ 0 by omega)
  cases below with
  | false => have := (s1 rfl).1; omega
  | true =>
    by_cases hr : x % d = 0
    · have := ((s2 rfl).1 hr).1; omega
    · have := ((s2 rfl).2 (by omega)).1; omega
theorem hi_lt {hi lo d : Int} (h0 : 0 ≤ hi) (l0 : 0 ≤ lo) (hd : 0 < d) (hq : (hi * 18446744073709551616 + lo) / d ≤ 1000000000000001) : hi < d := by
  refine Int.not_le.1 fun h => ?_
  have : 18446744073709551616 ≤ (hi * 18446744073709551616 + lo) / d := by
    refine Int.le_ediv_of_mul_le hd ?_
    rw [Int.mul_comm]
    have := Int.mul_le_mul_of_nonneg_right h (show (0 : Int) ≤ 18446744073709551616 by decide)
    omega
  omega
theorem whole_f {below : Bool} {hi lo d mode : Int} (h0 : 0 ≤ hi) (hd : hi < d) (d1 : d ≤ 9223372036854775807) (l0 : 0 ≤ lo) (l1 : lo < 18446744073709551616) (hq : (hi * 18446744073709551616 + lo) / d ≤ 1000000000000001) :
    PW.fixnum_wide_whole.f 2 below hi lo d mode = fixnum_fit.f (rnd (sgn below (hi * 18446744073709551616 + lo)) d mode) ∧ PWn.fixnum_wide_whole.f 2 below hi lo d mode = fixnum_nofit.f (rnd (sgn below (hi * 18446744073709551616 + lo)) d mode) := by
  have hx : 0 ≤ hi * 18446744073709551616 + lo := by have := Int.mul_nonneg h0 (show (0 : Int) ≤ 18446744073709551616 by decide); omega
  unfold PW.fixnum_wide_whole.f PWn.fixnum_wide_whole.f fixnum_size.f bits_Div64.f
  rw [if_pos ⟨by omega, d1⟩]
  simp only [Option.bind_some, fixnum_must.f, decide_eq_true hd, if_true]
  rw [if_pos ⟨h0, hd, by omega, l0, l1⟩]
  generalize hi * 18446744073709551616 + lo = x at *
  obtain ⟨s1, s2⟩ := ediv_sgn below hx (show 0 < d by omega)
  have m0 := Int.emod_nonneg x (show d ≠ 0 by omega)
  have m1 := Int.emod_lt_of_pos x (show 0 < d by omega)
  have q0 := Int.ediv_nonneg hx (show 0 ≤ d by omega)
  simp only [Option.bind_some, decide_eq_true hq, if_true]
  unfold rnd
  cases below with
  | false =>
    obtain ⟨a, b⟩ := s1 rfl
    simp only [Bool.false_eq_true, if_false]
    rw [w64 (x := x / d) (by omega) (by omega), w64 (x := x % d) (by omega) (by omega), a, b]
    exact ⟨j0_yes 0 (by omega) d1 m0 m1 (by omega) (by omega), j0_no 0 (by omega) d1 m0 m1 (by omega) (by omega)⟩
  | true =>
    simp only [if_true]
    rw [w64 (x := x / d) (by omega) (by omega), w64 (x := x % d) (by omega) (by omega), w64 (x := -(x / d)) (by omega) (by omega), w64 (x := -(x / d) - 1) (by omega) (by omega), w64 (x := d - x % d) (by omega) (by omega)]
    by_cases hr : x % d > 0
    · obtain ⟨a, b⟩ := (s2 rfl).2 (by omega)
      rw [if_pos hr, if_pos hr, a, b]
      exact ⟨j0_yes 0 (by omega) d1 (by omega) (by omega) (by omega) (by omega), j0_no 0 (by omega) d1 (by omega) (by omega) (by omega) (by omega)⟩
    · have h3 : x % d = 0 := by omega
      obtain ⟨a, b⟩ := (s2 rfl).1 h3
      rw [if_neg hr, if_neg hr, a, b, h3]
      exact ⟨j0_yes 0 (by omega) d1 (by omega) (by omega) (by omega) (by omega), j0_no 0 (by omega) d1 (by omega) (by omega) (by omega) (by omega)⟩
theorem whole_yes {below : Bool} {hi lo d mode : Int} (h0 : 0 ≤ hi) (h1 : hi < 18446744073709551616) (d0 : 0 < d) (d1 : d ≤ 9223372036854775807) (l0 : 0 ≤ lo) (l1 : lo < 18446744073709551616) (hf : fits (rnd (sgn below (hi * 18446744073709551616 + lo)) d mode)) (w : World) :
    Calls Try.prog 40 #[.agg #[.bool below, .int .u64 hi, .int .u64 lo], .int .i64 d, .int .i64 mode] w fun e w' => e = .returned (.int .i64 (rnd (sgn below (hi * 18446744073709551616 + lo)) d mode)) ∧ Below w.heap.size w w' := by
  have hx : 0 ≤ hi * 18446744073709551616 + lo := by have := Int.mul_nonneg h0 (show (0 : Int) ≤ 18446744073709551616 by decide); omega
  have hq := fit_q hx d0 hf
  have hd := hi_lt h0 l0 d0 hq
  refine PW.fixnum_wide_whole.calls 2 below hi lo d mode _ w ?_
  rw [(whole_f h0 hd d1 l0 l1 hq).1]
  exact if_pos hf
theorem whole_no {below : Bool} {hi lo d mode : Int} (h0 : 0 ≤ hi) (h1 : hi < 18446744073709551616) (d0 : 0 < d) (d1 : d ≤ 9223372036854775807) (l0 : 0 ≤ lo) (l1 : lo < 18446744073709551616) (hf : ¬ fits (rnd (sgn below (hi * 18446744073709551616 + lo)) d mode)) (w : World) :
    Calls Try.prog 40 #[.agg #[.bool below, .int .u64 hi, .int .u64 lo], .int .i64 d, .int .i64 mode] w fun e w' => e = .panicked [{ v := .iface 24 (.int .i64 3), recovered := false }] ∧ Below w.heap.size w w' := by
  by_cases hd : d ≤ hi
  · exact whole_hi below h0 (by omega) d0 d1 hd w
  by_cases hq : (hi * 18446744073709551616 + lo) / d ≤ 1000000000000001
  · refine PWn.fixnum_wide_whole.calls 2 below hi lo d mode (rnd (sgn below (hi * 18446744073709551616 + lo)) d mode) w ?_
    rw [(whole_f h0 (by omega) d1 l0 l1 hq).2]
    exact if_neg hf
  · refine whole_mid below hi lo d mode d _ _ w (if_pos ⟨d0, d1⟩) (by simp [fixnum_must.f]; omega) (if_pos ⟨h0, by omega, by omega, l0, l1⟩) hq
end Go.Proofs.Ytliapjhjofmliaa.H
