/- Plain arithmetic for the laws of fixnum. -/
import Derived.Test.YtliapjhjofmliaaE9
import Derived.Laws.Bits128
namespace Go.Proofs.Ytliapjhjofmliaa.H
open Go.RowKit
open Go.Proofs.Ytliapjhjofmliaa.Math
set_option linter.unusedVariables false
set_option linter.unusedSimpArgs false
theorem i64_and4095 (n : Int) : Go.bits .and .i64 n 4095 = n % 4096 := by
  have h127 : (BitVec.ofInt 64 4095).toNat = 2 ^ 12 - 1 := by decide
  have key : (BitVec.ofInt 64 n &&& BitVec.ofInt 64 4095).toNat = (n % ((2 ^ 64 : Nat) : Int)).toNat % 2 ^ 12 := by
    rw [BitVec.toNat_and, BitVec.toNat_ofInt, h127, Nat.and_two_pow_sub_one_eq_mod]
  show IntKind.i64.wrap ((BitVec.ofInt 64 n &&& BitVec.ofInt 64 4095).toNat : Nat) = n % 4096
  rw [key, IntKind.wrap_i64]
  omega
theorem i64_and65535 (n : Int) : Go.bits .and .i64 n 65535 = n % 65536 := by
  have h127 : (BitVec.ofInt 64 65535).toNat = 2 ^ 16 - 1 := by decide
  have key : (BitVec.ofInt 64 n &&& BitVec.ofInt 64 65535).toNat = (n % ((2 ^ 64 : Nat) : Int)).toNat % 2 ^ 16 := by
    rw [BitVec.toNat_and, BitVec.toNat_ofInt, h127, Nat.and_two_pow_sub_one_eq_mod]
  show IntKind.i64.wrap ((BitVec.ofInt 64 n &&& BitVec.ofInt 64 65535).toNat : Nat) = n % 65536
  rw [key, IntKind.wrap_i64]
  omega
theorem umod3 (a : Int) : 1 ≤ wrap64 (1 + wrap64 (Int.tmod (IntKind.u64.wrap a) 3)) ∧ wrap64 (1 + wrap64 (Int.tmod (IntKind.u64.wrap a) 3)) ≤ 3 := by
  have h0 : 0 ≤ IntKind.u64.wrap a := by rw [u64w]; omega
  rw [tmod_pos h0, w64 (x := IntKind.u64.wrap a % 3) (by omega) (by omega), w64 (by omega) (by omega)]
  omega
theorem tmod_bd (a : Int) {m : Int} (h : 0 < m) : -m < Int.tmod a m ∧ Int.tmod a m < m := by
  rw [Int.tmod_eq_emod]
  have := Int.emod_nonneg a (show m ≠ 0 by omega)
  have := Int.emod_lt_of_pos a h
  split
  · omega
  · rename_i hh
    have : ¬ m ∣ a := fun h => hh (Or.inr h)
    have : a % m ≠ 0 := fun h => this (Int.dvd_of_emod_eq_zero h)
    omega
theorem div_bd {n d B : Int} (hd : 0 < d) (h1 : -B ≤ n) (h2 : n ≤ B) (hB : 0 ≤ B) : -B ≤ n / d ∧ n / d ≤ B := by
  have e := Int.mul_ediv_add_emod n d
  have m0 := Int.emod_nonneg n (show d ≠ 0 by omega)
  have m1 := Int.emod_lt_of_pos n hd
  constructor
  · refine Int.le_ediv_of_mul_le hd ?_
    have := Int.mul_le_mul_of_nonneg_left (show 1 ≤ d by omega) hB
    rw [Int.neg_mul]; omega
  · have := Int.mul_le_mul_of_nonneg_left (show 1 ≤ d by omega) hB
    have h3 : n / d < B + 1 := Int.ediv_lt_of_lt_mul hd (by rw [Int.add_mul, Int.one_mul]; omega)
    omega
theorem rnd_fit {n d mode B : Int} (hd : 0 < d) (h1 : -B ≤ n) (h2 : n ≤ B) (hB : 0 ≤ B) (hB2 : B < 1000000000000000) : fits (rnd n d mode) := by
  obtain ⟨a, b⟩ := div_bd hd h1 h2 hB
  obtain ⟨c, e⟩ := rnd_bd n d mode
  exact ⟨by omega, by omega⟩
/-- What is rounded, by its rest. -/
theorem rnd_spec (n d mode : Int) (hd : 0 < d) : ∃ q r, n = q * d + r ∧ 0 ≤ r ∧ r < d ∧ q = n / d ∧ r = n % d ∧ rnd n d mode = if up q r d mode then q + 1 else q := by
  refine ⟨n / d, n % d, ?_, Int.emod_nonneg n (by omega), Int.emod_lt_of_pos n hd, rfl, rfl, rfl⟩
  rw [Int.mul_comm]; exact (Int.mul_ediv_add_emod n d).symm
end Go.Proofs.Ytliapjhjofmliaa.H
