/- FixnumBack: a number times another one, by that one, is the number, however great the product is; sums and products go back, too; for every input. -/
import Derived.Test.YtliapjhjofmliaaPFixnumBackx1
import Derived.Test.YtliapjhjofmliaaF2
namespace Go.Proofs.Ytliapjhjofmliaa.Pure
open Go.RowKit Go.Proofs.Ytliapjhjofmliaa.PFixnumBack Go.Proofs.YtliapjhjofmliaaW.PrintWords Go.Proofs.YtliapjhjofmliaaW.PrintLast
open Go.Proofs.Ytliapjhjofmliaa.H Go.Proofs.Ytliapjhjofmliaa.Math
set_option linter.unusedVariables false
set_option linter.unusedSimpArgs false

theorem awakeBack : quittancelaw01_awake.f = some true := by kernel_rfl
theorem rnd_back (a b m : Int) (hb : 0 < b) : rnd (a * b) b m = a := by
  unfold rnd
  rw [Int.mul_ediv_cancel _ (by omega), Int.mul_emod_left]
  rw [if_neg]
  unfold H.up
  omega
theorem tdiv_k (a : Int) (k : Int) : Int.tdiv a k = if 0 ≤ a then a / k else -((-a) / k) := by
  split
  · rename_i h; exact Int.tdiv_eq_ediv_of_nonneg h
  · rename_i h
    rw [← Int.tdiv_eq_ediv_of_nonneg (by omega : 0 ≤ -a), Int.neg_tdiv, Int.neg_neg]
theorem FixnumBack : quittancelaw01_FixnumBack.Pure := by
  intro a0 a1 a2 a3 w0 w1 w2 w3
  unfold quittancelaw01_FixnumBack.f
  have hm := umod3 a3
  generalize wrap64 (1 + wrap64 (Int.tmod (IntKind.u64.wrap a3) 3)) = m at *
  have hn := tmod_bd a0 (m := 1000000000000001) (by decide)
  generalize Int.tmod a0 1000000000000001 = a at *
  have hu : 0 ≤ IntKind.u64.wrap a1 ∧ IntKind.u64.wrap a1 < 18446744073709551616 := by rw [u64w]; omega
  generalize IntKind.u64.wrap a1 = u at *
  rw [w64 (x := u / 2) (by omega) (by omega), tmod_pos (a := u / 2) (by omega), w64 (x := 1 + u / 2 % 4611686018427387904) (by omega) (by omega)]
  have hb : 1 ≤ 1 + u / 2 % 4611686018427387904 ∧ 1 + u / 2 % 4611686018427387904 ≤ 4611686018427387904 := by omega
  generalize 1 + u / 2 % 4611686018427387904 = b at *
  have hu2 : 0 ≤ IntKind.u64.wrap a2 := by rw [u64w]; omega
  generalize IntKind.u64.wrap a2 = u2 at *
  rw [tmod_pos hu2, w64 (x := u2 % 1000) (by omega) (by omega), w64 (x := 1 + u2 % 1000) (by omega) (by omega)]
  have hN : 1 ≤ 1 + u2 % 1000 ∧ 1 + u2 % 1000 ≤ 1000 := by omega
  generalize 1 + u2 % 1000 = n at *
  have v0 : -1000000000000 ≤ Int.tdiv a 1000 ∧ Int.tdiv a 1000 ≤ 1000000000000 := by rw [tdiv_k]; split <;> omega
  have v2 : -500000000000000 ≤ Int.tdiv a 2 ∧ Int.tdiv a 2 ≤ 500000000000000 := by rw [tdiv_k]; split <;> omega
  have v3 : -400000000000000 ≤ Int.tdiv a 3 ∧ Int.tdiv a 3 ≤ 400000000000000 := by rw [tdiv_k]; split <;> omega
  generalize Int.tdiv a 1000 = v at *
  generalize Int.tdiv a 2 = s at *
  generalize Int.tdiv a 3 = t at *
  have p1 := Int.mul_le_mul_of_nonneg_right v0.1 (show 0 ≤ n by omega)
  have p2 := Int.mul_le_mul_of_nonneg_right v0.2 (show 0 ≤ n by omega)
  rw [w64 (x := v) (by omega) (by omega), w64 (x := s) (by omega) (by omega), w64 (x := t) (by omega) (by omega), w64 (x := -t) (by omega) (by omega), of_yes hm, awakeBack]
  simp only [Option.bind_some]
  have fa : fits a := ⟨by omega, by omega⟩
  rw [rat_yes ⟨by omega, by omega⟩ ⟨by omega, by omega⟩ ⟨by omega, by omega⟩ ⟨by omega, by omega⟩ (by rw [rnd_back _ _ _ (by omega)]; exact fa), rnd_back _ _ _ (by omega)]
  unfold fixnum_Times.f times fixnum_Plus.f plus
  rw [if_pos (show inr n from ⟨by omega, by omega⟩), if_pos (show fits v ∧ fits (v * n) from ⟨⟨by omega, by omega⟩, ⟨by omega, by omega⟩⟩), if_pos (show fits s ∧ fits t ∧ fits (s + t) from ⟨⟨by omega, by omega⟩, ⟨by omega, by omega⟩, ⟨by omega, by omega⟩⟩)]
  simp only [Option.bind_some]
  rw [div_yes ⟨by omega, by omega⟩ ⟨by omega, by omega⟩ ⟨by omega, by omega⟩ (by rw [rnd_back _ _ _ (by omega)]; exact ⟨by omega, by omega⟩), rnd_back _ _ _ (by omega),
    if_pos (show fits (s + t) ∧ fits (-t) ∧ fits (s + t + -t) from ⟨⟨by omega, by omega⟩, ⟨by omega, by omega⟩, ⟨by omega, by omega⟩⟩)]
  simp
  omega
end Go.Proofs.Ytliapjhjofmliaa.Pure
