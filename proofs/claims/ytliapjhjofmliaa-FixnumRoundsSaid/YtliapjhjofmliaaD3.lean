/- bits.Div64 is division: the whole of it. -/
import Derived.Test.YtliapjhjofmliaaD2
namespace Go.Proofs.Ytliapjhjofmliaa.H
open Go.RowKit Go.Proofs.YtliapjhjofmliaaW.PrintWords Go.Proofs.YtliapjhjofmliaaW.PrintLast Go.Proofs.YtliapjhjofmliaaW.PrintMore
open Go.Proofs.Ytliapjhjofmliaa.Math
set_option linter.unusedVariables false
set_option linter.unusedSimpArgs false

theorem tmod_pos {a : Int} (h : 0 ≤ a) (b : Int) : Int.tmod a b = a % b := Int.tmod_eq_emod_of_nonneg h
theorem tdiv_pos {a : Int} (h : 0 ≤ a) (b : Int) : Int.tdiv a b = a / b := Int.tdiv_eq_ediv_of_nonneg h
theorem and32 {x : Int} (h0 : 0 ≤ x) (h1 : x < 18446744073709551616) : Go.bits .and .u64 x 4294967295 = x % 4294967296 := by
  obtain ⟨n, rfl⟩ := Int.eq_ofNat_of_zero_le h0
  rw [u64_and (n : Int) 4294967295 (by omega) h1 (by omega) (by omega)]
  have := Nat.and_two_pow_sub_one_eq_mod n 32
  simp only [Nat.reducePow, Nat.reduceSub] at this
  simp only [Int.toNat_natCast]
  rw [show (4294967295 : Int).toNat = 4294967295 from rfl, this]
  omega
/-- The upper words, shifted to the left. -/
theorem upper {hi lo y P Q : Int} (h0 : 0 ≤ hi) (h1 : hi < y) (l0 : 0 ≤ lo) (l1 : lo < 18446744073709551616) (hP : 0 < P) (hQ : 0 < Q) (hPQ : P * Q = 18446744073709551616) :
    0 ≤ lo / Q ∧ lo / Q < P ∧ 0 ≤ hi * P ∧ hi * P + lo / Q < y * P ∧ lo * P % 18446744073709551616 = lo % Q * P ∧ (hi * 18446744073709551616 + lo) * P = (hi * P + lo / Q) * 18446744073709551616 + lo % Q * P := by
  have a1 := Int.ediv_nonneg l0 (show 0 ≤ Q by omega)
  have a2 : lo / Q < P := Int.ediv_lt_of_lt_mul hQ (by omega)
  have a3 := Int.mul_nonneg h0 (show 0 ≤ P by omega)
  have a4 := Int.mul_le_mul_of_nonneg_right (show hi ≤ y - 1 by omega) (show 0 ≤ P by omega)
  rw [Int.sub_mul, Int.one_mul] at a4
  have m0 := Int.emod_nonneg lo (show Q ≠ 0 by omega)
  have m1 := Int.emod_lt_of_pos lo hQ
  have e := Int.emod_add_mul_ediv lo Q
  have r0 := Int.mul_nonneg m0 (show 0 ≤ P by omega)
  have r1 := Int.mul_le_mul_of_nonneg_right (show lo % Q ≤ Q - 1 by omega) (show 0 ≤ P by omega)
  rw [Int.sub_mul, Int.one_mul, Int.mul_comm Q P, hPQ] at r1
  have e2 : lo * P = lo % Q * P + 18446744073709551616 * (lo / Q) := by
    calc lo * P = (lo % Q + Q * (lo / Q)) * P := by rw [e]
      _ = lo % Q * P + Q * (lo / Q) * P := Int.add_mul ..
      _ = lo % Q * P + P * Q * (lo / Q) := by rw [Int.mul_comm (Q * (lo / Q)) P, ← Int.mul_assoc]
      _ = _ := by rw [hPQ]
  refine ⟨a1, a2, a3, by omega, ?_, ?_⟩
  · rw [e2]; omega
  · rw [Int.add_mul, e2, Int.add_mul, Int.mul_assoc hi, Int.mul_comm 18446744073709551616 P, ← Int.mul_assoc]; omega
theorem pow_parts {L : Nat} (h1 : 1 ≤ L) (h2 : L ≤ 64) : (2 : Int) ^ (64 - L) * 2 ^ L = 18446744073709551616 ∧ 0 < (2 : Int) ^ (64 - L) ∧ 0 < (2 : Int) ^ L := by
  refine ⟨?_, Int.pow_pos (by decide), Int.pow_pos (by decide)⟩
  rw [← Int.pow_add, show 64 - L + L = 64 by omega]; rfl
theorem or_sum {P hi b : Nat} {i : Nat} (hP : P = 2 ^ i) (hb : b < P) (hl : hi * P + b < 18446744073709551616) : Go.bits .or .u64 ((hi * P : Nat) : Int) (b : Int) = ((hi * P + b : Nat) : Int) := by
  rw [u64_or_nat _ _ (by omega) (by omega)]
  subst hP
  rw [Nat.mul_comm hi, Nat.two_pow_add_eq_or_of_lt hb]
set_option maxHeartbeats 1000000 in
theorem div64 (k : Nat) (hk : 20 ≤ k) {hi lo y : Int} (h0 : 0 ≤ hi) (h1 : hi < y) (h2 : y < 18446744073709551616) (l0 : 0 ≤ lo) (l1 : lo < 18446744073709551616) :
    PA.bits_Div64.f k hi lo y = some ((hi * 18446744073709551616 + lo) / y, (hi * 18446744073709551616 + lo) % y) := by
  unfold PA.bits_Div64.f
  rw [if_neg (by omega), if_neg (by omega)]
  by_cases hz : hi = 0
  · subst hz
    have a := Int.ediv_nonneg l0 (show 0 ≤ y by omega)
    have b : lo / y < 18446744073709551616 := Int.ediv_lt_of_lt_mul (by omega) (by have := Int.mul_le_mul_of_nonneg_left (show 1 ≤ y by omega) (show (0 : Int) ≤ 18446744073709551616 by decide); omega)
    rw [if_pos rfl, tdiv_pos l0, tmod_pos l0, u64s a b]
    simp
  rw [if_neg hz]
  simp only [bits_LeadingZeros64.f]
  rw [if_pos (by omega)]
  simp only [Option.bind_some]
  obtain ⟨yn, rfl⟩ := Int.eq_ofNat_of_zero_le (show 0 ≤ y by omega)
  obtain ⟨hn, rfl⟩ := Int.eq_ofNat_of_zero_le h0
  obtain ⟨ln, rfl⟩ := Int.eq_ofNat_of_zero_le l0
  obtain ⟨b1, b2, b3, b4⟩ := Go.Proofs.Ytliapjhjofmliaa.Math.bitLen_spec (x := yn) (by omega) (by omega)
  rw [Int.toNat_natCast]
  generalize Lib.bitLen yn = L at *
  obtain ⟨hPQ, hP, hQ⟩ := pow_parts b1 b2
  have es : IntKind.u64.wrap (64 - (L : Int)) = 64 - (L : Int) := u64s (by omega) (by omega)
  have es2 : IntKind.u64.wrap (64 - (64 - (L : Int))) = L := by rw [u64s (by omega) (by omega)]; omega
  rw [es, es2, if_pos (by omega), if_pos (by omega)]
  have t1 : min (64 - (L : Int)).toNat (IntKind.u64.bits) = 64 - L := by simp [IntKind.bits] <;> omega
  have t2 : min (L : Int).toNat (IntKind.u64.bits) = L := by simp [IntKind.bits] <;> omega
  unfold shl
  rw [t1]
  have esr : shr .u64 (ln : Int) (L : Int) = (ln : Int) / 2 ^ L := by unfold shr; rw [t2]
  rw [esr]
  obtain ⟨q1, q2, q3, q4, q5, q6⟩ := upper (hi := hn) (lo := ln) (y := yn) h0 h1 l0 l1 hP hQ hPQ
  have hnat : (yn : Int) * 2 ^ (64 - L) < 18446744073709551616 := by
    have c1 : (yn : Int) ≤ 2 ^ L - 1 := by
      have : ((2 ^ L : Nat) : Int) = (2 : Int) ^ L := by simp
      omega
    have := Int.mul_le_mul_of_nonneg_right c1 (show 0 ≤ (2 : Int) ^ (64 - L) by omega)
    rw [Int.sub_mul, Int.one_mul, Int.mul_comm ((2 : Int) ^ L), hPQ] at this
    omega
  have hbig : 9223372036854775808 ≤ (yn : Int) * 2 ^ (64 - L) := by
    have c1 : (2 : Int) ^ (L - 1) ≤ yn := by
      have : ((2 ^ (L - 1) : Nat) : Int) = (2 : Int) ^ (L - 1) := by simp
      omega
    have := Int.mul_le_mul_of_nonneg_right c1 (show 0 ≤ (2 : Int) ^ (64 - L) by omega)
    rw [← Int.pow_add, show L - 1 + (64 - L) = 63 by omega] at this
    exact this
  have hor : Go.bits .or .u64 (IntKind.u64.wrap ((hn : Int) * 2 ^ (64 - L))) ((ln : Int) / 2 ^ L) = (hn : Int) * 2 ^ (64 - L) + (ln : Int) / 2 ^ L := by
    rw [u64s q3 (by omega)]
    have e1 : (hn : Int) * 2 ^ (64 - L) = ((hn * 2 ^ (64 - L) : Nat) : Int) := by simp
    have e2 : (ln : Int) / 2 ^ L = ((ln / 2 ^ L : Nat) : Int) := by simp
    have e3 : ((2 ^ (64 - L) : Nat) : Int) = (2 : Int) ^ (64 - L) := by simp
    have k1 : ((ln / 2 ^ L : Nat) : Int) < ((2 ^ (64 - L) : Nat) : Int) := by rw [e3, ← e2]; exact q2
    have k2 : ((hn * 2 ^ (64 - L) + ln / 2 ^ L : Nat) : Int) < ((18446744073709551616 : Nat) : Int) := by rw [Int.natCast_add, ← e1, ← e2]; omega
    rw [e1, e2, or_sum (i := 64 - L) rfl (Int.ofNat_lt.1 k1) (Int.ofNat_lt.1 k2), Int.natCast_add]
  rw [hor, u64s (x := (yn : Int) * 2 ^ (64 - L)) (by omega) hnat, u64w ((ln : Int) * 2 ^ (64 - L)), q5]
  have lt0 := Int.mul_nonneg (Int.emod_nonneg (ln : Int) (show (2 : Int) ^ L ≠ 0 by omega)) (show 0 ≤ (2 : Int) ^ (64 - L) by omega)
  have lt1 : (ln : Int) % 2 ^ L * 2 ^ (64 - L) < 18446744073709551616 := by rw [← q5]; omega
  generalize hu : (hn : Int) * 2 ^ (64 - L) + (ln : Int) / 2 ^ L = u at *
  generalize hv : (ln : Int) % 2 ^ L * 2 ^ (64 - L) = v at *
  have eqy : (yn : Int) * 2 ^ (64 - L) / ((2 : Int) ^ (64 - L)) = yn := Int.mul_ediv_cancel _ (by omega)
  have hX1 := Int.mul_ediv_mul_of_pos_left ((hn : Int) * 18446744073709551616 + ln) (yn : Int) hP
  have hX2 : ((hn : Int) * 18446744073709551616 + ln) * 2 ^ (64 - L) % ((yn : Int) * 2 ^ (64 - L)) = ((hn : Int) * 18446744073709551616 + ln) % yn * 2 ^ (64 - L) := by
    rw [Int.mul_comm _ ((2 : Int) ^ (64 - L)), Int.mul_comm (yn : Int), Int.mul_emod_mul_of_pos _ _ hP, Int.mul_comm]
  rw [q6] at hX1 hX2
  generalize hY : (yn : Int) * 2 ^ (64 - L) = Y at *
  have bs : Base (Y / 4294967296) (Y % 4294967296) u (v / 4294967296) := ⟨by omega, by omega, by omega, by omega, by omega, by omega, by omega, by omega⟩
  have f1 := Inv.first bs
  have f2 := first_lt bs
  have l3 := left_bd bs
  have g0 := dig_lo bs
  have g1 := dig_hi bs
  have hYY : Y / 4294967296 * 4294967296 + Y % 4294967296 = Y := by omega
  rw [hYY] at l3
  rw [if_neg (by omega), and32 (by omega) (by omega), and32 (by omega) (by omega)]
  have hdu : 0 ≤ u / (Y / 4294967296) := f1.q0
  have hdm := f1.hu
  have e5 : IntKind.u64.wrap (Int.tdiv u (Y / 4294967296)) = u / (Y / 4294967296) := by rw [tdiv_pos (by omega)]; exact u64s hdu (by have := f1.q1; omega)
  have e6 : IntKind.u64.wrap (u - IntKind.u64.wrap (u / (Y / 4294967296) * (Y / 4294967296))) = u - u / (Y / 4294967296) * (Y / 4294967296) := by
    have := f1.r0
    have := Int.mul_nonneg hdu (show 0 ≤ Y / 4294967296 by omega)
    rw [u64s (x := u / (Y / 4294967296) * (Y / 4294967296)) (by omega) (by omega), u64s (by omega) (by omega)]
  rw [e5, e6]
  obtain ⟨j, hj, e⟩ := loop1 bs Y (64 - L) (v % 4294967296) 2 k _ _ (by omega) f1 f2 (by have := f1.r0; omega)
  rw [e]
  obtain ⟨j, rfl⟩ : ∃ m, j = m + 1 := ⟨j - 1, by omega⟩
  simp only [PA.bits_Div64.j2]
  rw [if_neg (by omega)]
  generalize hD : dig (Y / 4294967296) (Y % 4294967296) u (v / 4294967296) = D at *
  have e7 : IntKind.u64.wrap (IntKind.u64.wrap (IntKind.u64.wrap (u * 4294967296) + v / 4294967296) - IntKind.u64.wrap (D * Y)) = u * 4294967296 + v / 4294967296 - D * Y := by
    rw [u64w, u64w, u64w, u64w]; omega
  rw [e7]
  generalize hR : u * 4294967296 + v / 4294967296 - D * Y = R at *
  have bs2 : Base (Y / 4294967296) (Y % 4294967296) R (v % 4294967296) := ⟨by omega, by omega, by omega, by omega, by omega, by omega, by omega, by omega⟩
  have f3 := Inv.first bs2
  have f4 := first_lt bs2
  have l4 := left_bd bs2
  have g2 := dig_lo bs2
  have g3 := dig_hi bs2
  rw [hYY] at l4
  have hdu2 : 0 ≤ R / (Y / 4294967296) := f3.q0
  have e8 : IntKind.u64.wrap (Int.tdiv R (Y / 4294967296)) = R / (Y / 4294967296) := by rw [tdiv_pos (by omega)]; exact u64s hdu2 (by have := f3.q1; omega)
  have e9 : IntKind.u64.wrap (R - IntKind.u64.wrap (R / (Y / 4294967296) * (Y / 4294967296))) = R - R / (Y / 4294967296) * (Y / 4294967296) := by
    have := f3.r0
    have := f3.hu
    have := Int.mul_nonneg hdu2 (show 0 ≤ Y / 4294967296 by omega)
    rw [u64s (x := R / (Y / 4294967296) * (Y / 4294967296)) (by omega) (by omega), u64s (by omega) (by omega)]
  rw [e8, e9, loop2 bs2 Y (64 - L) D (by omega) 2 j _ _ (by omega) f3 f4 (by have := f3.r0; omega)]
  generalize hE : dig (Y / 4294967296) (Y % 4294967296) R (v % 4294967296) = E at *
  have e10 : IntKind.u64.wrap (IntKind.u64.wrap (IntKind.u64.wrap (R * 4294967296) + v % 4294967296) - IntKind.u64.wrap (E * Y)) = R * 4294967296 + v % 4294967296 - E * Y := by
    rw [u64w, u64w, u64w, u64w]; omega
  have e11 : IntKind.u64.wrap (IntKind.u64.wrap (D * 4294967296) + E) = D * 4294967296 + E := by rw [u64s (x := D * 4294967296) (by omega) (by omega), u64s (by omega) (by omega)]
  rw [e10, e11]
  obtain ⟨z1, z2⟩ := two_digits (y := Y) (u := u) (d := v / 4294967296) (e := v % 4294967296) (q1 := D) (q0 := E) (by omega) hR l4.1 l4.2
  rw [show u * 18446744073709551616 + v / 4294967296 * 4294967296 + v % 4294967296 = u * 18446744073709551616 + v by omega] at z1 z2
  rw [← z2, ← z1, hX1, hX2]
  unfold shr
  rw [t1, Int.mul_ediv_cancel _ (by omega)]
end Go.Proofs.Ytliapjhjofmliaa.H
namespace Go.Proofs.Ytliapjhjofmliaa.H
open Go.RowKit Go.Proofs.YtliapjhjofmliaaW.PrintWords Go.Proofs.YtliapjhjofmliaaW.PrintLast Go.Proofs.YtliapjhjofmliaaW.PrintMore
def bits_Div64.f (hi lo y : Int) : Option (Int × Int) := if 0 ≤ hi ∧ hi < y ∧ y < 18446744073709551616 ∧ 0 ≤ lo ∧ lo < 18446744073709551616 then some ((hi * 18446744073709551616 + lo) / y, (hi * 18446744073709551616 + lo) % y) else none
theorem bits_Div64.calls (a0 a1 a2 r1 r2 : Int) (w : World) (h : bits_Div64.f a0 a1 a2 = some (r1, r2)) : Calls Try.prog 52 #[.int .u64 a0, .int .u64 a1, .int .u64 a2] w fun e w' => e = .returned (.tuple #[.int .u64 r1, .int .u64 r2]) ∧ Drawn0 w w' := by
  unfold bits_Div64.f at h
  split at h
  · rename_i hb
    obtain ⟨h1, h2, h3, h4, h5⟩ := hb
    exact PA.bits_Div64.calls 20 a0 a1 a2 r1 r2 w ((div64 20 (by omega) h1 h2 h3 h4 h5).trans h)
  · cases h
end Go.Proofs.Ytliapjhjofmliaa.H
