/- Texts of this claim, joined in build order. -/
import Derived.Test.YtfmkdledofbhdaaGreatProg
import Derived.Below
import Derived.Deep.Draws
import Derived.Deep.AppendLies
import Derived.Maps.AppendAt
import Derived.OwnWalk
import Derived.Laws.BytesArg
import Derived.Laws.MakeOwn
import Derived.Laws.OwnMore
import Derived.Tactics
import Derived.Lib.ConvBytes
import Derived.Laws.Slices
import Derived.WalkKit
import Derived.KernelRfl
import Derived.RowKit3
import Derived.Deep.LoopGhost
import Derived.Deep.QuietTactic
import Derived.BigQuiet
import Derived.WideLaws
import Derived.Deep.DeepCutAuto
import Derived.Deep.CutBlock
import Derived.Deep.RegionHeld3
import Derived.Lib.AppendStr
import Derived.ArgAppend
import Derived.Laws.IdiomCopy
import Derived.OrdersHeld
import Derived.Laws.BitsLemmas
import Derived.RowKit
import Derived.Laws.StructEq
import Derived.WalkLawsBesides
import Derived.WalkSpells
import Derived.Lib.IndexMore
import Derived.Deep.Slices
import Derived.Deep.Fields
import Derived.ChangeSame
import Derived.Lib.SmallJoins
import Derived.ProofKit
import Derived.Defers
import Derived.Laws.Tables
import Derived.Deep.WholeRow
import Derived.Recover
import Derived.StillTailTactics
import Derived.IntWalk
import Derived.Shelf.Small.Bits
import Derived.Shelf.Strconv.Itoa0
import Derived.Shelf.Strings.Search1
import Derived.Shelf.Strings.Search2
import Derived.Shelf.Strings.Search3
import Derived.Shelf.LaysM
import Derived.Shelf.Strings.Shaped
import Derived.Shelf.Bits.Mul64
import Derived.Lib.SlBytesConst
import Derived.Deep.RegionWith
import Derived.Lib.Hide
import Derived.BigFrame
import Derived.Lib.BitFns
import Derived.Laws.BitsAllLaws
import Derived.Laws.Externs
import Derived.RegionTactic
import Derived.Deep.MidRow
import Derived.OpenShut
import Derived.ShutString
import Derived.ChangeOld
import Derived.Laws.IdiomArrays
import Derived.SizedLaws
import Derived.HandedShaped
import Derived.Shelf.Vars
import Derived.Test.YtfmkdledofbhdaaGreatJT1
import Derived.Test.YtfmkdledofbhdaaGreatJT2
import Derived.Test.YtfmkdledofbhdaaGreatJT3
import Derived.Test.YtfmkdledofbhdaaGreatJT4
import Derived.Test.YtfmkdledofbhdaaGreatJT5
set_option linter.unusedVariables false
set_option linter.unusedSimpArgs false
/- bits.Div64 is division: the whole of it. -/
namespace Go.Proofs.YtfmkdledofbhdaaGreat.H
open Go.RowKit Go.Proofs.YtfmkdledofbhdaaGreatW.PrintWords Go.Proofs.YtfmkdledofbhdaaGreatW.PrintLast
open Go.Proofs.YtfmkdledofbhdaaGreat.Math64
set_option linter.unusedVariables false
set_option linter.unusedSimpArgs false
theorem tmod_pos {a : Int} (h : 0 ≤ a) (b : Int) : Int.tmod a b = a % b := Int.tmod_eq_emod_of_nonneg h
theorem tdiv_pos {a : Int} (h : 0 ≤ a) (b : Int) : Int.tdiv a b = a / b := Int.tdiv_eq_ediv_of_nonneg h
theorem and32 {x : Int} (h0 : 0 ≤ x) (h1 : x < 18446744073709551616) : Go.bits .and .u64 x 4294967295 = x % 4294967296 := by
 obtain ⟨n, rfl⟩ := Int.eq_ofNat_of_zero_le h0
 rw [u64_and (n : Int) 4294967295 (by omega) h1 (by omega) (by omega)]
 have := Nat.and_two_pow_sub_one_eq_mod n 32
 simp only [Nat.reducePow, Nat.reduceSub] at this
 simp only [Int.toNat_natCast]
 rw [show (4294967295 : Int).toNat = 4294967295 from rfl, this]
 omega
theorem upper {hi lo y P Q : Int} (h0 : 0 ≤ hi) (h1 : hi < y) (l0 : 0 ≤ lo) (l1 : lo < 18446744073709551616) (hP : 0 < P) (hQ : 0 < Q) (hPQ : P * Q = 18446744073709551616) :
  0 ≤ lo / Q ∧ lo / Q < P ∧ 0 ≤ hi * P ∧ hi * P + lo / Q < y * P ∧ lo * P % 18446744073709551616 = lo % Q * P ∧ (hi * 18446744073709551616 + lo) * P = (hi * P + lo / Q) * 18446744073709551616 + lo % Q * P := by
 have a1 := Int.ediv_nonneg l0 (show 0 ≤ Q by omega)
 have a2 : lo / Q < P := Int.ediv_lt_of_lt_mul hQ (by omega)
 have a3 := Int.mul_nonneg h0 (show 0 ≤ P by omega)
 have a4 := Int.mul_le_mul_of_nonneg_right (show hi ≤ y - 1 by omega) (show 0 ≤ P by omega)
 rw [Int.sub_mul, Int.one_mul] at a4
 have m0 := Int.emod_nonneg lo (show Q ≠ 0 by omega)
 have m1 := Int.emod_lt_of_pos lo hQ
 have e := Int.emod_add_mul_ediv lo Q
 have r0 := Int.mul_nonneg m0 (show 0 ≤ P by omega)
 have r1 := Int.mul_le_mul_of_nonneg_right (show lo % Q ≤ Q - 1 by omega) (show 0 ≤ P by omega)
 rw [Int.sub_mul, Int.one_mul, Int.mul_comm Q P, hPQ] at r1
 have e2 : lo * P = lo % Q * P + 18446744073709551616 * (lo / Q) := by
  calc lo * P = (lo % Q + Q * (lo / Q)) * P := by rw [e]
   _ = lo % Q * P + Q * (lo / Q) * P := Int.add_mul ..
   _ = lo % Q * P + P * Q * (lo / Q) := by rw [Int.mul_comm (Q * (lo / Q)) P, ← Int.mul_assoc]
   _ = _ := by rw [hPQ]
 refine ⟨a1, a2, a3, by omega, ?_, ?_⟩
 ·rw [e2]; omega
 ·rw [Int.add_mul, e2, Int.add_mul, Int.mul_assoc hi, Int.mul_comm 18446744073709551616 P, ← Int.mul_assoc]; omega
theorem pow_parts {L : Nat} (h1 : 1 ≤ L) (h2 : L ≤ 64) : (2 : Int) ^ (64 - L) * 2 ^ L = 18446744073709551616 ∧ 0 < (2 : Int) ^ (64 - L) ∧ 0 < (2 : Int) ^ L := by
 refine ⟨?_, Int.pow_pos (by decide), Int.pow_pos (by decide)⟩
 rw [← Int.pow_add, show 64 - L + L = 64 by omega]; rfl
theorem or_sum {P hi b : Nat} {i : Nat} (hP : P = 2 ^ i) (hb : b < P) (hl : hi * P + b < 18446744073709551616) : Go.bits .or .u64 ((hi * P : Nat) : Int) (b : Int) = ((hi * P + b : Nat) : Int) := by
 rw [u64_or_nat _ _ (by omega) (by omega)]
 subst hP
 rw [Nat.mul_comm hi, Nat.two_pow_add_eq_or_of_lt hb]
set_option maxHeartbeats 1000000 in
theorem div64 (k : Nat) (hk : 20 ≤ k) {hi lo y : Int} (h0 : 0 ≤ hi) (h1 : hi < y) (h2 : y < 18446744073709551616) (l0 : 0 ≤ lo) (l1 : lo < 18446744073709551616) :
  PM.bits_Div64.f k hi lo y = some ((hi * 18446744073709551616 + lo) / y, (hi * 18446744073709551616 + lo) % y) := by
 unfold PM.bits_Div64.f
 rw [if_neg (by omega), if_neg (by omega)]
 by_cases hz : hi = 0
 ·subst hz
  have a := Int.ediv_nonneg l0 (show 0 ≤ y by omega)
  have b : lo / y < 18446744073709551616 := Int.ediv_lt_of_lt_mul (by omega) (by have := Int.mul_le_mul_of_nonneg_left (show 1 ≤ y by omega) (show (0 : Int) ≤ 18446744073709551616 by decide); omega)
  rw [if_pos rfl, tdiv_pos l0, tmod_pos l0, u64s a b]
  simp
 rw [if_neg hz]
 simp only [bits_LeadingZeros64.f]
 rw [if_pos (by omega)]
 simp only [Option.bind_some]
 obtain ⟨yn, rfl⟩ := Int.eq_ofNat_of_zero_le (show 0 ≤ y by omega)
 obtain ⟨hn, rfl⟩ := Int.eq_ofNat_of_zero_le h0
 obtain ⟨ln, rfl⟩ := Int.eq_ofNat_of_zero_le l0
 obtain ⟨b1, b2, b3, b4⟩ := Go.Proofs.YtfmkdledofbhdaaGreat.Math64.bitLen_spec (x := yn) (by omega) (by omega)
 rw [Int.toNat_natCast]
 generalize Lib.bitLen yn = L at *
 obtain ⟨hPQ, hP, hQ⟩ := pow_parts b1 b2
 have es : IntKind.u64.wrap (64 - (L : Int)) = 64 - (L : Int) := u64s (by omega) (by omega)
 have es2 : IntKind.u64.wrap (64 - (64 - (L : Int))) = L := by rw [u64s (by omega) (by omega)]; omega
 rw [es, es2, if_pos (by omega), if_pos (by omega)]
 have t1 : min (64 - (L : Int)).toNat (IntKind.u64.bits) = 64 - L := by simp [IntKind.bits] <;> omega
 have t2 : min (L : Int).toNat (IntKind.u64.bits) = L := by simp [IntKind.bits] <;> omega
 unfold shl
 rw [t1]
 have esr : shr .u64 (ln : Int) (L : Int) = (ln : Int) / 2 ^ L := by unfold shr; rw [t2]
 rw [esr]
 obtain ⟨q1, q2, q3, q4, q5, q6⟩ := upper (hi := hn) (lo := ln) (y := yn) h0 h1 l0 l1 hP hQ hPQ
 have hnat : (yn : Int) * 2 ^ (64 - L) < 18446744073709551616 := by
  have c1 : (yn : Int) ≤ 2 ^ L - 1 := by
   have : ((2 ^ L : Nat) : Int) = (2 : Int) ^ L := by simp
   omega
  have := Int.mul_le_mul_of_nonneg_right c1 (show 0 ≤ (2 : Int) ^ (64 - L) by omega)
  rw [Int.sub_mul, Int.one_mul, Int.mul_comm ((2 : Int) ^ L), hPQ] at this
  omega
 have hbig : 9223372036854775808 ≤ (yn : Int) * 2 ^ (64 - L) := by
  have c1 : (2 : Int) ^ (L - 1) ≤ yn := by
   have : ((2 ^ (L - 1) : Nat) : Int) = (2 : Int) ^ (L - 1) := by simp
   omega
  have := Int.mul_le_mul_of_nonneg_right c1 (show 0 ≤ (2 : Int) ^ (64 - L) by omega)
  rw [← Int.pow_add, show L - 1 + (64 - L) = 63 by omega] at this
  exact this
 have hor : Go.bits .or .u64 (IntKind.u64.wrap ((hn : Int) * 2 ^ (64 - L))) ((ln : Int) / 2 ^ L) = (hn : Int) * 2 ^ (64 - L) + (ln : Int) / 2 ^ L := by
  rw [u64s q3 (by omega)]
  have e1 : (hn : Int) * 2 ^ (64 - L) = ((hn * 2 ^ (64 - L) : Nat) : Int) := by simp
  have e2 : (ln : Int) / 2 ^ L = ((ln / 2 ^ L : Nat) : Int) := by simp
  have e3 : ((2 ^ (64 - L) : Nat) : Int) = (2 : Int) ^ (64 - L) := by simp
  have k1 : ((ln / 2 ^ L : Nat) : Int) < ((2 ^ (64 - L) : Nat) : Int) := by rw [e3, ← e2]; exact q2
  have k2 : ((hn * 2 ^ (64 - L) + ln / 2 ^ L : Nat) : Int) < ((18446744073709551616 : Nat) : Int) := by rw [Int.natCast_add, ← e1, ← e2]; omega
  rw [e1, e2, or_sum (i := 64 - L) rfl (Int.ofNat_lt.1 k1) (Int.ofNat_lt.1 k2), Int.natCast_add]
 rw [hor, u64s (x := (yn : Int) * 2 ^ (64 - L)) (by omega) hnat, u64w ((ln : Int) * 2 ^ (64 - L)), q5]
 have lt0 := Int.mul_nonneg (Int.emod_nonneg (ln : Int) (show (2 : Int) ^ L ≠ 0 by omega)) (show 0 ≤ (2 : Int) ^ (64 - L) by omega)
 have lt1 : (ln : Int) % 2 ^ L * 2 ^ (64 - L) < 18446744073709551616 := by rw [← q5]; omega
 generalize hu : (hn : Int) * 2 ^ (64 - L) + (ln : Int) / 2 ^ L = u at *
 generalize hv : (ln : Int) % 2 ^ L * 2 ^ (64 - L) = v at *
 have eqy : (yn : Int) * 2 ^ (64 - L) / ((2 : Int) ^ (64 - L)) = yn := Int.mul_ediv_cancel _ (by omega)
 have hX1 := Int.mul_ediv_mul_of_pos_left ((hn : Int) * 18446744073709551616 + ln) (yn : Int) hP
 have hX2 : ((hn : Int) * 18446744073709551616 + ln) * 2 ^ (64 - L) % ((yn : Int) * 2 ^ (64 - L)) = ((hn : Int) * 18446744073709551616 + ln) % yn * 2 ^ (64 - L) := by
  rw [Int.mul_comm _ ((2 : Int) ^ (64 - L)), Int.mul_comm (yn : Int), Int.mul_emod_mul_of_pos _ _ hP, Int.mul_comm]
 rw [q6] at hX1 hX2
 generalize hY : (yn : Int) * 2 ^ (64 - L) = Y at *
 have bs : Base (Y / 4294967296) (Y % 4294967296) u (v / 4294967296) := ⟨by omega, by omega, by omega, by omega, by omega, by omega, by omega, by omega⟩
 have f1 := Inv.first bs
 have f2 := first_lt bs
 have l3 := left_bd bs
 have g0 := dig_lo bs
 have g1 := dig_hi bs
 have hYY : Y / 4294967296 * 4294967296 + Y % 4294967296 = Y := by omega
 rw [hYY] at l3
 rw [if_neg (by omega), and32 (by omega) (by omega), and32 (by omega) (by omega)]
 have hdu : 0 ≤ u / (Y / 4294967296) := f1.q0
 have hdm := f1.hu
 have e5 : IntKind.u64.wrap (Int.tdiv u (Y / 4294967296)) = u / (Y / 4294967296) := by rw [tdiv_pos (by omega)]; exact u64s hdu (by have := f1.q1; omega)
 have e6 : IntKind.u64.wrap (u - IntKind.u64.wrap (u / (Y / 4294967296) * (Y / 4294967296))) = u - u / (Y / 4294967296) * (Y / 4294967296) := by
  have := f1.r0
  have := Int.mul_nonneg hdu (show 0 ≤ Y / 4294967296 by omega)
  rw [u64s (x := u / (Y / 4294967296) * (Y / 4294967296)) (by omega) (by omega), u64s (by omega) (by omega)]
 rw [e5, e6]
 obtain ⟨j, hj, e⟩ := loop1 bs Y (64 - L) (v % 4294967296) 2 k _ _ (by omega) f1 f2 (by have := f1.r0; omega)
 rw [e]
 obtain ⟨j, rfl⟩ : ∃ m, j = m + 1 := ⟨j - 1, by omega⟩
 simp only [PM.bits_Div64.j2]
 rw [if_neg (by omega)]
 generalize hD : dig (Y / 4294967296) (Y % 4294967296) u (v / 4294967296) = D at *
 have e7 : IntKind.u64.wrap (IntKind.u64.wrap (IntKind.u64.wrap (u * 4294967296) + v / 4294967296) - IntKind.u64.wrap (D * Y)) = u * 4294967296 + v / 4294967296 - D * Y := by
  rw [u64w, u64w, u64w, u64w]; omega
 rw [e7]
 generalize hR : u * 4294967296 + v / 4294967296 - D * Y = R at *
 have bs2 : Base (Y / 4294967296) (Y % 4294967296) R (v % 4294967296) := ⟨by omega, by omega, by omega, by omega, by omega, by omega, by omega, by omega⟩
 have f3 := Inv.first bs2
 have f4 := first_lt bs2
 have l4 := left_bd bs2
 have g2 := dig_lo bs2
 have g3 := dig_hi bs2
 rw [hYY] at l4
 have hdu2 : 0 ≤ R / (Y / 4294967296) := f3.q0
 have e8 : IntKind.u64.wrap (Int.tdiv R (Y / 4294967296)) = R / (Y / 4294967296) := by rw [tdiv_pos (by omega)]; exact u64s hdu2 (by have := f3.q1; omega)
 have e9 : IntKind.u64.wrap (R - IntKind.u64.wrap (R / (Y / 4294967296) * (Y / 4294967296))) = R - R / (Y / 4294967296) * (Y / 4294967296) := by
  have := f3.r0
  have := f3.hu
  have := Int.mul_nonneg hdu2 (show 0 ≤ Y / 4294967296 by omega)
  rw [u64s (x := R / (Y / 4294967296) * (Y / 4294967296)) (by omega) (by omega), u64s (by omega) (by omega)]
 rw [e8, e9, loop2 bs2 Y (64 - L) D (by omega) 2 j _ _ (by omega) f3 f4 (by have := f3.r0; omega)]
 generalize hE : dig (Y / 4294967296) (Y % 4294967296) R (v % 4294967296) = E at *
 have e10 : IntKind.u64.wrap (IntKind.u64.wrap (IntKind.u64.wrap (R * 4294967296) + v % 4294967296) - IntKind.u64.wrap (E * Y)) = R * 4294967296 + v % 4294967296 - E * Y := by
  rw [u64w, u64w, u64w, u64w]; omega
 have e11 : IntKind.u64.wrap (IntKind.u64.wrap (D * 4294967296) + E) = D * 4294967296 + E := by rw [u64s (x := D * 4294967296) (by omega) (by omega), u64s (by omega) (by omega)]
 rw [e10, e11]
 obtain ⟨z1, z2⟩ := two_digits (y := Y) (u := u) (d := v / 4294967296) (e := v % 4294967296) (q1 := D) (q0 := E) (by omega) hR l4.1 l4.2
 rw [show u * 18446744073709551616 + v / 4294967296 * 4294967296 + v % 4294967296 = u * 18446744073709551616 + v by omega] at z1 z2
 rw [← z2, ← z1, hX1, hX2]
 unfold shr
 rw [t1, Int.mul_ediv_cancel _ (by omega)]
end Go.Proofs.YtfmkdledofbhdaaGreat.H
namespace Go.Proofs.YtfmkdledofbhdaaGreat.H
open Go.RowKit Go.Proofs.YtfmkdledofbhdaaGreatW.PrintWords Go.Proofs.YtfmkdledofbhdaaGreatW.PrintLast
def bits_Div64.f (hi lo y : Int) : Option (Int × Int) := if 0 ≤ hi ∧ hi < y ∧ y < 18446744073709551616 ∧ 0 ≤ lo ∧ lo < 18446744073709551616 then some ((hi * 18446744073709551616 + lo) / y, (hi * 18446744073709551616 + lo) % y) else none
theorem bits_Div64.calls (a0 a1 a2 r1 r2 : Int) (w : World) (h : bits_Div64.f a0 a1 a2 = some (r1, r2)) : Calls Tryz.prog 91 #[.int .u64 a0, .int .u64 a1, .int .u64 a2] w fun e w' => e = .returned (.tuple #[.int .u64 r1, .int .u64 r2]) ∧ Drawn0 w w' := by
 unfold bits_Div64.f at h
 split at h
 ·rename_i hb
  obtain ⟨h1, h2, h3, h4, h5⟩ := hb
  exact PM.bits_Div64.calls 20 a0 a1 a2 r1 r2 w ((div64 20 (by omega) h1 h2 h3 h4 h5).trans h)
 ·cases h
end Go.Proofs.YtfmkdledofbhdaaGreat.H
/- Contracts by hand: growth: what a balance bears, exactly. -/
namespace Go.Proofs.YtfmkdledofbhdaaGreat.H
open Go.RowKit Go.Proofs.YtfmkdledofbhdaaGreatW.PrintWords Go.Proofs.YtfmkdledofbhdaaGreatW.PrintLast Go.Proofs.YtfmkdledofbhdaaGreatW.PrintMore Go.Proofs.YtfmkdledofbhdaaGreat.HW
set_option linter.unusedVariables false
set_option linter.unusedSimpArgs false
structure BearAt (w : World) (gb : Nat) (W h rest : Int) : Prop where
 c0 : w.cell? ⟨gb, 0, none⟩ = some (.int .i64 W)
 c1 : w.cell? ⟨gb, 1, none⟩ = some (.int .i64 h)
 c2 : w.cell? ⟨gb, 2, none⟩ = some (.int .i64 rest)
 f2 : w.frozen? ⟨gb, 2, none⟩ = false
 lt : gb < w.heap.size
theorem BearAt.below {w w1 : World} {gb : Nat} {W h rest : Int} (H : BearAt w gb W h rest) (hb : Below w.heap.size w w1) : BearAt w1 gb W h rest :=
 ⟨by rw [hb.cell (by exact H.lt)]; exact H.c0, by rw [hb.cell (by exact H.lt)]; exact H.c1, by rw [hb.cell (by exact H.lt)]; exact H.c2, by rw [hb.frozen (by exact H.lt)]; exact H.f2, Nat.lt_of_lt_of_le H.lt hb.size⟩
structure Good (W h rest : Int) : Prop where
 w0 : 360000000000 ≤ W
 w1 : W ≤ 133590000000000
 h0 : 0 ≤ h
 h1 : 2 * h ≤ W
 r0 : -h ≤ rest
 r1 : rest < W - h
theorem Good.next {W h rest x : Int} (G : Good W h rest) (hx : 0 ≤ x) : Good W h (Gm.r W h rest x) := by
 have := G.w0
 obtain ⟨_, h2, h3, _⟩ := Gm.step (W := W) (h := h) (rest := rest) (x := x) (by omega) hx G.r0
 exact ⟨G.w0, G.w1, G.h0, G.h1, h2, h3⟩
theorem add64_run (x y : Int) (hx : 0 ≤ x) (hy : 0 ≤ y) (w : World) : (callFunc 90 #[.int .u64 x, .int .u64 y, .int .u64 0]).run Tryz.prog w = .ok (.value (.tuple #[.int .u64 ((x + y + 0) % 18446744073709551616), .int .u64 ((x + y + 0) / 18446744073709551616)])) w := by
 rw [run_callFunc_extern Tryz.func90 (by kernel_rfl) (by kernel_rfl) (by kernel_rfl) (e := add64Entry) (by kernel_rfl), run_add64 x y 0 hx hy (by omega) (by omega)]
 rfl
theorem mul_any {x y hi lo : Int} (x0 : 0 ≤ x) (x1 : x ≤ 18446744073709551615) (y0 : 0 ≤ y) (y1 : y ≤ 18446744073709551615) (h1 : x * y / 18446744073709551616 = hi) (h2 : x * y % 18446744073709551616 = lo) (w : World) :
  Calls Tryz.prog 89 #[.int .u64 x, .int .u64 y] w fun e w' => e = .returned (.tuple #[.int .u64 hi, .int .u64 lo]) ∧ Drawn0 w w' :=
 bits_Mul64.calls x y hi lo w (by unfold bits_Mul64.f; rw [if_pos ⟨x0, x1, y0, y1⟩, h1, h2])
theorem div_any {hi lo y q r : Int} (h0 : 0 ≤ hi) (h1 : hi < y) (h2 : y < 18446744073709551616) (l0 : 0 ≤ lo) (l1 : lo < 18446744073709551616) (e1 : (hi * 18446744073709551616 + lo) / y = q) (e2 : (hi * 18446744073709551616 + lo) % y = r) (w : World) :
  Calls Tryz.prog 91 #[.int .u64 hi, .int .u64 lo, .int .u64 y] w fun e w' => e = .returned (.tuple #[.int .u64 q, .int .u64 r]) ∧ Drawn0 w w' :=
 bits_Div64.calls hi lo y q r w (by unfold bits_Div64.f; rw [if_pos ⟨h0, h1, h2, l0, l1⟩, e1, e2])
theorem parts128 {bal rate n s : Int} (a0 : 0 ≤ bal) (a1 : bal ≤ 1000000000000000) (b0 : 0 ≤ rate) (b1 : rate ≤ 1000000000) (n0 : 0 ≤ n) (n1 : n ≤ 53436000) (s0 : 0 ≤ s) (s1 : s ≤ 133590000000000) :
  ∃ high low over lo u lo3 carry : Int, bal * rate / 18446744073709551616 = high ∧ bal * rate % 18446744073709551616 = low ∧ low * n / 18446744073709551616 = over ∧ low * n % 18446744073709551616 = lo ∧ high * n = u ∧
   0 ≤ high ∧ high ≤ 100000 ∧ 0 ≤ low ∧ low ≤ 18446744073709551615 ∧ 0 ≤ over ∧ over ≤ 53436000 ∧ 0 ≤ lo ∧ lo ≤ 18446744073709551615 ∧ 0 ≤ u ∧ u ≤ 5343600000000 ∧
   (lo + s + 0) % 18446744073709551616 = lo3 ∧ (lo + s + 0) / 18446744073709551616 = carry ∧ 0 ≤ lo3 ∧ lo3 ≤ 18446744073709551615 ∧ 0 ≤ carry ∧ carry ≤ 1 ∧
   (u + over + carry) * 18446744073709551616 + lo3 = bal * rate * n + s := by
 have hP := Gm.mul_le a0 b0 a1 b1
 have g1 : 0 ≤ bal * rate / 18446744073709551616 ∧ bal * rate / 18446744073709551616 ≤ 100000 := by omega
 have g2 : 0 ≤ bal * rate % 18446744073709551616 ∧ bal * rate % 18446744073709551616 ≤ 18446744073709551615 := by omega
 have hU := Gm.mul_le g1.1 n0 g1.2 n1
 have hV := Gm.mul_le g2.1 n0 g2.2 n1
 have e : bal * rate * n = bal * rate / 18446744073709551616 * n * 18446744073709551616 + bal * rate % 18446744073709551616 * n := by
  rw [Int.mul_right_comm _ n, ← Int.add_mul]
  congr 1
  omega
 refine ⟨_, _, _, _, _, _, _, rfl, rfl, rfl, rfl, rfl, g1.1, g1.2, g2.1, g2.2, ?_, ?_, ?_, ?_, hU.1, by omega, rfl, rfl, ?_, ?_, ?_, ?_, ?_⟩ <;> omega
end Go.Proofs.YtfmkdledofbhdaaGreat.H
/- Contracts by hand: growth: borne. -/
namespace Go.Proofs.YtfmkdledofbhdaaGreat.H
open Go.RowKit Go.Proofs.YtfmkdledofbhdaaGreatW.PrintWords Go.Proofs.YtfmkdledofbhdaaGreatW.PrintLast Go.Proofs.YtfmkdledofbhdaaGreatW.PrintMore Go.Proofs.YtfmkdledofbhdaaGreat.HW
set_option linter.unusedVariables false
set_option linter.unusedSimpArgs false
set_option maxHeartbeats 1000000 in
theorem borne_yes {gb : Nat} {W h rest bal rate n : Int} {w : World} (A : BearAt w gb W h rest) (G : Good W h rest) (hm : Gm.may bal rate n) (hq : Gm.q W h rest (bal * rate * n) ≤ 1000000000000000) :
  Calls Tryz.prog 72 #[.pointer (some ⟨gb, 0, none⟩), .int .u64 bal, .int .u64 rate, .int .u64 n] w fun e w' => e = .returned (.tuple #[.int .i64 (Gm.q W h rest (bal * rate * n)), .int .i64 (Gm.r W h rest (bal * rate * n))]) ∧ Drawn0 w w' := by
 obtain ⟨a0, a1, b0, b1, n0, n1⟩ := hm
 obtain ⟨w0, w1, h0, h1, r0, r1⟩ := G
 obtain ⟨c0, c1, c2, f2, lt⟩ := A
 obtain ⟨high, low, over, lo, u, lo3, carry, e1, e2, e3, e4, e5, p1, p2, p3, p4, p5, p6, p7, p8, p9, p10, e6, e7, p11, p12, p13, p14, tot⟩ := parts128 a0 a1 b0 b1 n0 n1 (show 0 ≤ rest + h by omega) (by omega)
 obtain ⟨st1, st2, st3, st4⟩ := Gm.step (W := W) (h := h) (rest := rest) (x := bal * rate * n) (by omega) (Int.mul_nonneg (Int.mul_nonneg a0 b0) n0) r0
 have eq1 : ((u + over + carry) * 18446744073709551616 + lo3) / W = Gm.q W h rest (bal * rate * n) := by rw [tot]; rfl
 have eq2 : ((u + over + carry) * 18446744073709551616 + lo3) % W = Gm.r W h rest (bal * rate * n) + h := by rw [tot]; unfold Gm.r; omega
 have hlt : u + over + carry < W := by
  rcases Int.lt_or_le (u + over + carry) W with hh | hh
  ·exact hh
  ·exfalso
   have hh2 : 18446744073709551616 ≤ Gm.q W h rest (bal * rate * n) := by
    rw [← eq1]
    refine (Int.le_ediv_iff_mul_le (by omega)).2 ?_
    omega
   omega
 generalize Gm.q W h rest (bal * rate * n) = q at *
 generalize Gm.r W h rest (bal * rate * n) = r at *
 have U := Aside0.mk e5
 have E1 := Aside0.mk e1
 have E2 := Aside0.mk e2
 have E3 := Aside0.mk e3
 have E4 := Aside0.mk e4
 have E6 := Aside0.mk e6
 have E7 := Aside0.mk e7
 have Q1 := Aside0.mk eq1
 have Q2 := Aside0.mk eq2
 clear e1 e2 e3 e4 e6 e7 eq1 eq2 tot st4
 go_enter Tryz.func72, Tryz.ntmps72
 go_wp2_with fail
 refine (mul_any a0 (by omega) b0 (by omega) E1.out E2.out _).mono ?_
 rintro e w1 ⟨rfl, ⟨m1, rfl⟩⟩
 go_wp2_with fail
 refine (mul_any p3 p4 n0 (by omega) E3.out E4.out _).mono ?_
 rintro e w1 ⟨rfl, ⟨m2, rfl⟩⟩
 go_wp2_with fail
 obtain ⟨s, hs⟩ : ∃ s, rest + h = s := ⟨_, rfl⟩
 have hi64 : IntKind.i64.wrap (rest + h) = s := by rw [hs]; exact IntWalk.i64_in _ (by omega)
 have hu64 : IntKind.u64.wrap s = s := IntWalk.u64_in _ (by omega)
 have hadd : ∀ w : World, (callFunc 90 #[.int .u64 lo, .int .u64 s, .int .u64 0]).run Tryz.prog w = .ok (.value (.tuple #[.int .u64 lo3, .int .u64 carry])) w := fun w => by rw [add64_run lo s (by omega) (by omega) w, ← hs, E6.out, E7.out]
 clear hs
 go_quiet (fail)
 clear hi64 hu64 hadd
 have hWu : IntKind.u64.wrap W = W := IntWalk.u64_in _ (by omega)
 go_wp2_with fail
 refine (div_any (by omega) (by omega) (by omega) (by omega) (by omega) Q1.out Q2.out _).mono ?_
 rintro e w1 ⟨rfl, ⟨m3, rfl⟩⟩
 have hq2 : decide (1000000000000000 < q) = false := decide_eq_false (by omega)
 go_wp2_with fail
 have k1 : IntKind.i64.wrap q = q := IntWalk.i64_in _ (by omega)
 have k2 : IntKind.i64.wrap (r + h) = r + h := IntWalk.i64_in _ (by omega)
 have k3 : IntKind.i64.wrap (r + h - h) = r := by rw [show r + h - h = r by omega]; exact IntWalk.i64_in _ (by omega)
 go_quiet (fail)
 go_wp2_with fail
 go_ret2
 exact ⟨rfl, ⟨_, by first | rfl | (simp only [World.drewN_drewN]; rfl)⟩⟩
set_option maxHeartbeats 1000000 in
theorem borne_no {gb : Nat} {W h rest bal rate n : Int} {w : World} (A : BearAt w gb W h rest) (G : Good W h rest) (hm : Gm.may bal rate n) (hq : 1000000000000000 < Gm.q W h rest (bal * rate * n)) :
  Calls Tryz.prog 72 #[.pointer (some ⟨gb, 0, none⟩), .int .u64 bal, .int .u64 rate, .int .u64 n] w fun e w' => e = .panicked [{ v := .iface 121 (.int .i64 3), recovered := false }] ∧ Drawn0 w w' := by
 obtain ⟨a0, a1, b0, b1, n0, n1⟩ := hm
 obtain ⟨w0, w1, h0, h1, r0, r1⟩ := G
 obtain ⟨c0, c1, c2, f2, lt⟩ := A
 obtain ⟨high, low, over, lo, u, lo3, carry, e1, e2, e3, e4, e5, p1, p2, p3, p4, p5, p6, p7, p8, p9, p10, e6, e7, p11, p12, p13, p14, tot⟩ := parts128 a0 a1 b0 b1 n0 n1 (show 0 ≤ rest + h by omega) (by omega)
 obtain ⟨st1, st2, st3, st4⟩ := Gm.step (W := W) (h := h) (rest := rest) (x := bal * rate * n) (by omega) (Int.mul_nonneg (Int.mul_nonneg a0 b0) n0) r0
 have eq1 : ((u + over + carry) * 18446744073709551616 + lo3) / W = Gm.q W h rest (bal * rate * n) := by rw [tot]; rfl
 have eq2 : ((u + over + carry) * 18446744073709551616 + lo3) % W = Gm.r W h rest (bal * rate * n) + h := by rw [tot]; unfold Gm.r; omega
 have hqm : u + over + carry < W → Gm.q W h rest (bal * rate * n) < 18446744073709551616 := by
  intro hh
  rw [← eq1]
  refine Int.ediv_lt_of_lt_mul (by omega) ?_
  omega
 generalize Gm.q W h rest (bal * rate * n) = q at *
 generalize Gm.r W h rest (bal * rate * n) = r at *
 have U := Aside0.mk e5
 have E1 := Aside0.mk e1
 have E2 := Aside0.mk e2
 have E3 := Aside0.mk e3
 have E4 := Aside0.mk e4
 have E6 := Aside0.mk e6
 have E7 := Aside0.mk e7
 have Q1 := Aside0.mk eq1
 have Q2 := Aside0.mk eq2
 have QM := Aside0.mk hqm
 clear e1 e2 e3 e4 e6 e7 eq1 eq2 tot st4 hqm
 have hadd0 := Aside0.mk (fun (s : Int) (hs : rest + h = s) (w : World) => show (callFunc 90 #[.int .u64 lo, .int .u64 s, .int .u64 0]).run Tryz.prog w = .ok (.value (.tuple #[.int .u64 lo3, .int .u64 carry])) w by rw [add64_run lo s (by omega) (by omega) w, ← hs, E6.out, E7.out])
 by_cases hlt : u + over + carry < W
 ·have hqm := QM.out hlt
  go_enter Tryz.func72, Tryz.ntmps72
  go_wp2_with fail
  refine (mul_any a0 (by omega) b0 (by omega) E1.out E2.out _).mono ?_
  rintro e w1 ⟨rfl, ⟨m1, rfl⟩⟩
  go_wp2_with fail
  refine (mul_any p3 p4 n0 (by omega) E3.out E4.out _).mono ?_
  rintro e w1 ⟨rfl, ⟨m2, rfl⟩⟩
  go_wp2_with fail
  obtain ⟨s, hs⟩ : ∃ s, rest + h = s := ⟨_, rfl⟩
  have hi64 : IntKind.i64.wrap (rest + h) = s := by rw [hs]; exact IntWalk.i64_in _ (by omega)
  have hu64 : IntKind.u64.wrap s = s := IntWalk.u64_in _ (by omega)
  have hadd := hadd0.out s hs
  clear hs
  go_quiet (fail)
  clear hi64 hu64 hadd
  have hWu : IntKind.u64.wrap W = W := IntWalk.u64_in _ (by omega)
  go_wp2_with fail
  refine (div_any (by omega) (by omega) (by omega) (by omega) (by omega) Q1.out Q2.out _).mono ?_
  rintro e w1 ⟨rfl, ⟨m3, rfl⟩⟩
  have hq2 : decide (1000000000000000 < q) = true := decide_eq_true (by omega)
  go_wp2_with fail
  exact ⟨rfl, rfl, ⟨_, by first | rfl | (simp only [World.drewN_drewN]; rfl)⟩⟩
 ·go_enter Tryz.func72, Tryz.ntmps72
  go_wp2_with fail
  refine (mul_any a0 (by omega) b0 (by omega) E1.out E2.out _).mono ?_
  rintro e w1 ⟨rfl, ⟨m1, rfl⟩⟩
  go_wp2_with fail
  refine (mul_any p3 p4 n0 (by omega) E3.out E4.out _).mono ?_
  rintro e w1 ⟨rfl, ⟨m2, rfl⟩⟩
  go_wp2_with fail
  obtain ⟨s, hs⟩ : ∃ s, rest + h = s := ⟨_, rfl⟩
  have hi64 : IntKind.i64.wrap (rest + h) = s := by rw [hs]; exact IntWalk.i64_in _ (by omega)
  have hu64 : IntKind.u64.wrap s = s := IntWalk.u64_in _ (by omega)
  have hadd := hadd0.out s hs
  clear hs
  go_quiet (fail)
  clear hi64 hu64 hadd
  have hWu : IntKind.u64.wrap W = W := IntWalk.u64_in _ (by omega)
  go_wp2_with fail
  exact ⟨rfl, rfl, ⟨_, by first | rfl | (simp only [World.drewN_drewN]; rfl)⟩⟩
end Go.Proofs.YtfmkdledofbhdaaGreat.H
/- Contracts by hand: parts of a year: what is thrown, and caught. -/
namespace Go.Proofs.YtfmkdledofbhdaaGreat.Fr
open Go.RowKit Go.Proofs.YtfmkdledofbhdaaGreatW.PrintWords Go.Proofs.YtfmkdledofbhdaaGreatW.PrintLast Go.Proofs.YtfmkdledofbhdaaGreatW.PrintMore
set_option linter.unusedVariables false
set_option linter.unusedSimpArgs false
theorem rest_plain {P : Program} {c : Code} {Q0 : Exit → Act → List Frame → World → Prop} {a : Act} {cs : List Frame} {w : World}
  (h : ∀ Q : Exit → Act → World → Prop, Aside0 (∀ e a' w', Q0 e a' cs w' → Q e a' w') → c.wp P Q a w) : c.wpS P Q0 a cs w :=
 wpS_of_wp (h _ ⟨fun _ _ _ x => x⟩)
structure Res2 (w W : World) (x y : Value) : Prop where
 below : Below w.heap.size w W
 c0 : W.cell? ⟨w.heap.size, 0, none⟩ = some x
 c1 : W.cell? ⟨w.heap.size + 1, 0, none⟩ = some y
 f0 : W.frozen? ⟨w.heap.size, 0, none⟩ = false
 f1 : W.frozen? ⟨w.heap.size + 1, 0, none⟩ = false
 size : w.heap.size + 2 ≤ W.heap.size
theorem Res2.made (w : World) (x y : Value) (t u : TypeId) : Res2 w ((w.alloc (.cells #[x] t)).alloc (.cells #[y] u)) x y := by
 refine ⟨((Below.refl _ _).alloc (Nat.le_refl _) _).alloc (by simp) _, ?_, ?_, ?_, ?_, ?_⟩ <;> simp [go_sem]
theorem Res2.step {w W W' : World} {x y : Value} (h : Res2 w W x y) (hb : Below W.heap.size W W') : Res2 w W' x y := by
 have hs := h.size
 refine ⟨h.below.trans (hb.mono (by omega)), ?_, ?_, ?_, ?_, Nat.le_trans h.size hb.size⟩
 ·rw [hb.cell (by simp; omega)]; exact h.c0
 ·rw [hb.cell (by simp; omega)]; exact h.c1
 ·rw [hb.frozen (by simp; omega)]; exact h.f0
 ·rw [hb.frozen (by simp; omega)]; exact h.f1
theorem Res2.drawn {w W W' : World} {x y : Value} (h : Res2 w W x y) (hb : Drawn0 W W') : Res2 w W' x y := h.step hb.below
theorem Res2.put {w W : World} {x y : Value} (h : Res2 w W x y) (u v : Value) : Below w.heap.size w ((W.setCell ⟨w.heap.size, 0, none⟩ u).setCell ⟨w.heap.size + 1, 0, none⟩ v) :=
 (h.below.setCell (by simp) _).setCell (by simp) _
theorem frac_idle (pv pe : Addr) (w : World) :
  CallsD Tryz.prog 68 #[.pointer (some pv), .pointer (some pe)] .returning w fun e u' w' => e = .returned (.tuple #[]) ∧ u' = .returning ∧ w' = w := by
 refine callsD_of_wpS Tryz.func68 rfl fun c₀ cs hu => ?_
 simp only [Tryz.ntmps68, List.size_toArray, List.length_cons, List.length_nil, Nat.reduceAdd, Nat.reduceSub, Array.replicate_succ, Array.replicate_zero, List.push_toArray, List.append_toArray, List.nil_append, List.cons_append]
 apply wpS_seq
 apply wpS_region
 simp [wpOpsS, go_sem, recoverD, hu, Exit.thenS]
 refine rest_plain fun Q HQ => ?_
 go_wp2
 refine HQ.out _ _ _ ?_
 clear HQ
 simp [bodyPostS, results, Tryz.results68, hu]
 cases c₀
 simp_all
theorem frac_thrown (pv pe : Addr) (x y : Int) (c : Int) (older : List PanicEntry) (w : World) (hne : pv.block ≠ pe.block) (hx : w.cell? pv = some (.int .i64 x)) (hy : w.cell? pe = some (.int .i64 y)) (fx : w.frozen? pv = false) (fy : w.frozen? pe = false) :
  CallsD Tryz.prog 68 #[.pointer (some pv), .pointer (some pe)] (.panicking ({ v := .iface 135 (.int .i64 c), recovered := false } :: older)) w fun e u' w' =>
   e = .returned (.tuple #[]) ∧ u' = .panicking ({ v := .iface 135 (.int .i64 c), recovered := true } :: older) ∧ w' = (w.setCell pv (.int .i64 0)).setCell pe (.int .i64 c) := by
 refine callsD_of_wpS Tryz.func68 rfl fun c₀ cs hu => ?_
 simp only [Tryz.ntmps68, List.size_toArray, List.length_cons, List.length_nil, Nat.reduceAdd, Nat.reduceSub, Array.replicate_succ, Array.replicate_zero, List.push_toArray, List.append_toArray, List.nil_append, List.cons_append]
 apply wpS_seq
 apply wpS_region
 simp [wpOpsS, go_sem, recoverD, hu, Exit.thenS]
 refine rest_plain fun Q HQ => ?_
 have hta : ∀ w, (Instr.typeAssert (.iface 135 (.int .i64 c)) 20 135 true).run Tryz.prog w = .ok (.tuple #[.int .i64 c, .bool true]) w := fun _ => by kernel_rfl
 have hy2 : (w.setCell pv (.int .i64 0)).cell? pe = some (.int .i64 y) := by rw [World.cell?_setCell_other]; exact hy; exact fun e => hne (by rw [e])
 go_wp2
 refine HQ.out _ _ _ ?_
 clear HQ
 simp [bodyPostS, results, Tryz.results68, hu]
def parts (c : Int) : Int × Int := if c = 1 then (360, 0) else if c = 2 then (365, 0) else if c = 3 then (133590, 0) else (0, 1)
theorem year_yes {c v : Int} (h : parts c = (v, 0)) (w : World) : Calls Tryz.prog 69 #[.int .i64 c] w fun e w' => e = .returned (.int .i64 v) ∧ Drawn0 w w' := by
 unfold parts at h
 by_cases h1 : c = 1
 ·subst h1
  rw [if_pos rfl] at h
  obtain ⟨rfl, _⟩ := Prod.mk.inj h
  clear h
  go_enter Tryz.func69, Tryz.ntmps69
  go_wp2
  go_ret
  exact ⟨rfl, Drawn0.refl _⟩
 ·rw [if_neg h1] at h
  by_cases h2 : c = 2
  ·subst h2
   rw [if_pos rfl] at h
   obtain ⟨rfl, _⟩ := Prod.mk.inj h
   clear h h1
   go_enter Tryz.func69, Tryz.ntmps69
   go_wp2
   go_ret
   exact ⟨rfl, Drawn0.refl _⟩
  ·rw [if_neg h2] at h
   by_cases h3 : c = 3
   ·subst h3
    rw [if_pos rfl] at h
    obtain ⟨rfl, _⟩ := Prod.mk.inj h
    clear h h1 h2
    go_enter Tryz.func69, Tryz.ntmps69
    go_wp2
    go_ret
    exact ⟨rfl, Drawn0.refl _⟩
   ·rw [if_neg h3] at h
    cases h
theorem year_no {c : Int} (h1 : (c == 1) = false) (h2 : (c == 2) = false) (h3 : (c == 3) = false) (w : World) : Calls Tryz.prog 69 #[.int .i64 c] w fun e w' => e = .panicked [{ v := .iface 135 (.int .i64 1), recovered := false }] ∧ w' = w := by
 go_enter Tryz.func69, Tryz.ntmps69
 go_wp2
 exact ⟨rfl, rfl, rfl⟩
theorem Parts_yes {c v : Int} (h : parts c = (v, 0)) (w : World) : Calls Tryz.prog 46 #[.int .i64 c] w fun e w' => e = .returned (.tuple #[.int .i64 v, .int .i64 0]) ∧ Below w.heap.size w w' := by
 have R0 := Aside0.mk (Res2.made w (.int .i64 0) (.int .i64 0) 2 33)
 have HY := Aside0.mk h
 clear h
 go_enter_defers Tryz.func46, Tryz.ntmps46
 go_wp2_with fail
 refine (year_yes HY.out _).mono ?_
 rintro e w1 ⟨rfl, hd⟩
 have R1 := R0.out.drawn hd
 have c0 := R1.c0
 have c1 := R1.c1
 have f0 := R1.f0
 have f1 := R1.f1
 have RR := Aside0.mk R1
 clear hd R1 R0
 go_wp2
 refine leaves_cons (f := 68) (args := #[.pointer (some ⟨w.heap.size, 0, none⟩), .pointer (some ⟨w.heap.size + 1, 0, none⟩)]) (by simp) (by simp [go_sem]) ?_
 refine (frac_idle _ _ _).mono ?_
 rintro e u' w'' ⟨rfl, rfl, rfl⟩
 simp [Leaves, settle, results, Tryz.results46, go_sem, c0, c1]
 exact RR.out.put _ _
theorem Parts_no {c : Int} (h1 : (c == 1) = false) (h2 : (c == 2) = false) (h3 : (c == 3) = false) (w : World) : Calls Tryz.prog 46 #[.int .i64 c] w fun e w' => e = .returned (.tuple #[.int .i64 0, .int .i64 1]) ∧ Below w.heap.size w w' := by
 have R0 := Aside0.mk (Res2.made w (.int .i64 0) (.int .i64 0) 2 33)
 go_enter_defers Tryz.func46, Tryz.ntmps46
 go_wp2_with fail
 refine (year_no h1 h2 h3 _).mono ?_
 rintro e w1 ⟨rfl, rfl⟩
 refine leaves_cons (f := 68) (args := #[.pointer (some ⟨w.heap.size, 0, none⟩), .pointer (some ⟨w.heap.size + 1, 0, none⟩)]) (by simp) (by simp [go_sem]) ?_
 refine (frac_thrown _ _ 0 0 1 [] _ (by simp) R0.out.c0 R0.out.c1 R0.out.f0 R0.out.f1).mono ?_
 rintro e u' w'' ⟨rfl, rfl, rfl⟩
 have c0 := R0.out.c0
 have c1 := R0.out.c1
 simp [Leaves, settle, results, Tryz.results46, go_sem, c0, c1]
 first | exact R0.out.put _ _ | exact ((Below.refl _ _).alloc (Nat.le_refl _) _).alloc (by simp) _
theorem parts_cases (c : Int) : (∃ v, parts c = (v, 0) ∧ (c = 1 ∨ c = 2 ∨ c = 3)) ∨ (parts c = (0, 1) ∧ (c == 1) = false ∧ (c == 2) = false ∧ (c == 3) = false) := by
 unfold parts
 by_cases h1 : c = 1
 ·left; exact ⟨360, by simp [h1], Or.inl h1⟩
 by_cases h2 : c = 2
 ·left; exact ⟨365, by simp [h2], Or.inr (Or.inl h2)⟩
 by_cases h3 : c = 3
 ·left; exact ⟨133590, by simp [h3], Or.inr (Or.inr h3)⟩
 ·right; simp [h1, h2, h3]
theorem parts_any (c : Int) (w : World) : Calls Tryz.prog 46 #[.int .i64 c] w fun e w' => e = .returned (.tuple #[.int .i64 (parts c).1, .int .i64 (parts c).2]) ∧ Below w.heap.size w w' := by
 rcases parts_cases c with ⟨v, hp, _⟩ | ⟨hp, h1, h2, h3⟩
 ·rw [hp]; exact Parts_yes hp w
 ·rw [hp]; exact Parts_no h1 h2 h3 w
end Go.Proofs.YtfmkdledofbhdaaGreat.Fr
/- Contracts by hand: growth: a bearer made, its rest, a fork. -/
namespace Go.Proofs.YtfmkdledofbhdaaGreat.H
open Go.RowKit Go.Proofs.YtfmkdledofbhdaaGreatW.PrintWords Go.Proofs.YtfmkdledofbhdaaGreatW.PrintLast Go.Proofs.YtfmkdledofbhdaaGreatW.PrintMore Go.Proofs.YtfmkdledofbhdaaGreat.HW
set_option linter.unusedVariables false
set_option linter.unusedSimpArgs false
theorem good_new (c r : Int) : Good (Gm.whole c) (Gm.half c r) 0 := by
 obtain ⟨h1, h2, h3⟩ := Gm.whole_bd c
 obtain ⟨h4, h5⟩ := Gm.half_bd c r
 exact ⟨h1, h2, h4, h5, by omega, by omega⟩
def Newly (c r : Int) (w : World) (e : Ending) (w' : World) : Prop := Below w.heap.size w w' ∧ ∃ gb, w.heap.size ≤ gb ∧ e = .returned (.tuple #[.pointer (some ⟨gb, 0, none⟩), .int .i64 0]) ∧ BearAt w' gb (Gm.whole c) (Gm.half c r) 0
theorem bnew_any {c r : Int} (hc : c = 1 ∨ c = 2 ∨ c = 3) (hr : r = 1 ∨ r = 3) (w : World) : Calls Tryz.prog 18 #[.int .i64 c, .int .i64 r] w (Newly c r w) := by
 obtain ⟨v, hp, hw, v0, v1⟩ : ∃ v, Fr.parts c = (v, 0) ∧ Gm.whole c = 1000000000 * v ∧ 360 ≤ v ∧ v ≤ 133590 := by
  rcases hc with rfl | rfl | rfl <;> exact ⟨_, rfl, rfl, by decide, by decide⟩
 have HP := Aside0.mk (fun w => by have := Fr.parts_any c w; rw [hp] at this; exact this)
 have HW := Aside0.mk hw
 have HH := Aside0.mk (show Gm.half c 1 = 1000000000 * v / 2 by unfold Gm.half; rw [if_pos rfl, hw])
 have HH3 := Aside0.mk (show Gm.half c 3 = 0 from rfl)
 clear hp hc hw
 rcases hr with rfl | rfl
 ·go_enter Tryz.func18, Tryz.ntmps18
  go_wp2_with fail
  refine (HP.out _).mono ?_
  rintro e w1 ⟨rfl, hb⟩
  have HB := Aside0.mk hb
  clear hb
  go_wp2_with fail
  go_ret2
  refine ⟨HB.out.alloc HB.out.size _, w1.heap.size, HB.out.size, rfl, ?_⟩
  rw [HW.out, HH.out]
  constructor <;> simp [go_sem]
 ·go_enter Tryz.func18, Tryz.ntmps18
  go_wp2_with fail
  refine (HP.out _).mono ?_
  rintro e w1 ⟨rfl, hb⟩
  have HB := Aside0.mk hb
  clear hb
  go_wp2_with fail
  go_ret2
  refine ⟨HB.out.alloc HB.out.size _, w1.heap.size, HB.out.size, rfl, ?_⟩
  rw [HW.out, HH3.out]
  constructor <;> simp [go_sem]
end Go.Proofs.YtfmkdledofbhdaaGreat.H
/- Contracts by hand: growth: what a balance bears, and the rest then; or why nothing. -/
namespace Go.Proofs.YtfmkdledofbhdaaGreat.H
open Go.RowKit Go.Proofs.YtfmkdledofbhdaaGreatW.PrintWords Go.Proofs.YtfmkdledofbhdaaGreatW.PrintLast Go.Proofs.YtfmkdledofbhdaaGreatW.PrintMore Go.Proofs.YtfmkdledofbhdaaGreat.HW
set_option linter.unusedVariables false
set_option linter.unusedSimpArgs false
theorem BearAt.but {w w1 : World} {gb g2 : Nat} {W h rest : Int} (H : BearAt w g2 W h rest) (hb : But gb w w1) (hn : g2 ≠ gb) : BearAt w1 g2 W h rest :=
 ⟨by rw [hb.cell (by exact H.lt) (by exact hn)]; exact H.c0, by rw [hb.cell (by exact H.lt) (by exact hn)]; exact H.c1, by rw [hb.cell (by exact H.lt) (by exact hn)]; exact H.c2, by rw [hb.frozen (by exact H.lt) (by exact hn)]; exact H.f2, Nat.lt_of_lt_of_le H.lt hb.size⟩
theorem bcaught_idle (pv pe : Addr) (w : World) :
  CallsD Tryz.prog 71 #[.pointer (some pv), .pointer (some pe)] .returning w fun e u' w' => e = .returned (.tuple #[]) ∧ u' = .returning ∧ w' = w := by
 refine callsD_of_wpS Tryz.func71 rfl fun c₀ cs hu => ?_
 simp only [Tryz.ntmps71, List.size_toArray, List.length_cons, List.length_nil, Nat.reduceAdd, Nat.reduceSub, Array.replicate_succ, Array.replicate_zero, List.push_toArray, List.append_toArray, List.nil_append, List.cons_append]
 apply wpS_seq
 apply wpS_region
 simp [wpOpsS, go_sem, recoverD, hu, Exit.thenS]
 refine rest_plain fun Q HQ => ?_
 go_wp2
 refine HQ.out _ _ _ ?_
 clear HQ
 simp [bodyPostS, results, Tryz.results71, hu]
 cases c₀
 simp_all
theorem bcaught_thrown (pv pe : Addr) (x y : Int) (c : Int) (older : List PanicEntry) (w : World) (hne : pv.block ≠ pe.block) (hx : w.cell? pv = some (.int .i64 x)) (hy : w.cell? pe = some (.int .i64 y)) (fx : w.frozen? pv = false) (fy : w.frozen? pe = false) :
  CallsD Tryz.prog 71 #[.pointer (some pv), .pointer (some pe)] (.panicking ({ v := .iface 121 (.int .i64 c), recovered := false } :: older)) w fun e u' w' =>
   e = .returned (.tuple #[]) ∧ u' = .panicking ({ v := .iface 121 (.int .i64 c), recovered := true } :: older) ∧ w' = (w.setCell pv (.int .i64 0)).setCell pe (.int .i64 c) := by
 refine callsD_of_wpS Tryz.func71 rfl fun c₀ cs hu => ?_
 simp only [Tryz.ntmps71, List.size_toArray, List.length_cons, List.length_nil, Nat.reduceAdd, Nat.reduceSub, Array.replicate_succ, Array.replicate_zero, List.push_toArray, List.append_toArray, List.nil_append, List.cons_append]
 apply wpS_seq
 apply wpS_region
 simp [wpOpsS, go_sem, recoverD, hu, Exit.thenS]
 refine rest_plain fun Q HQ => ?_
 have hta : ∀ w, (Instr.typeAssert (.iface 121 (.int .i64 c)) 20 121 true).run Tryz.prog w = .ok (.tuple #[.int .i64 c, .bool true]) w := fun _ => by kernel_rfl
 have hy2 : (w.setCell pv (.int .i64 0)).cell? pe = some (.int .i64 y) := by rw [World.cell?_setCell_other]; exact hy; exact fun e => hne (by rw [e])
 go_wp2
 refine HQ.out _ _ _ ?_
 clear HQ
 simp [bodyPostS, results, Tryz.results71, hu]
theorem bear_arg {gb : Nat} {bal rate n : Int} (hm : ¬ Gm.may bal rate n) (w : World) : Calls Tryz.prog 47 #[.pointer (some ⟨gb, 0, none⟩), .int .i64 bal, .int .i64 rate, .int .i64 n] w fun e w' => e = .returned (.tuple #[.int .i64 0, .int .i64 1]) ∧ Below w.heap.size w w' := by
 have R0 := Aside0.mk (Fr.Res2.made w (.int .i64 0) (.int .i64 0) 2 33)
 have hno : bal < 0 ∨ (0 ≤ bal ∧ 1000000000000000 < bal) ∨ (0 ≤ bal ∧ bal ≤ 1000000000000000 ∧ rate < 0) ∨ (0 ≤ bal ∧ bal ≤ 1000000000000000 ∧ 0 ≤ rate ∧ 1000000000 < rate) ∨ (0 ≤ bal ∧ bal ≤ 1000000000000000 ∧ 0 ≤ rate ∧ rate ≤ 1000000000 ∧ n < 0) ∨ (0 ≤ bal ∧ bal ≤ 1000000000000000 ∧ 0 ≤ rate ∧ rate ≤ 1000000000 ∧ 0 ≤ n ∧ 53436000 < n) := by
  unfold Gm.may at hm
  omega
 clear hm
 rcases hno with h1 | ⟨h1, h2⟩ | ⟨h1, h2, h3⟩ | ⟨h1, h2, h3, h4⟩ | ⟨h1, h2, h3, h4, h5⟩ | ⟨h1, h2, h3, h4, h5, h6⟩
 all_goals
  go_enter_defers Tryz.func47, Tryz.ntmps47
  go_wp2_with fail
  refine leaves_cons (f := 71) (args := #[.pointer (some ⟨w.heap.size, 0, none⟩), .pointer (some ⟨w.heap.size + 1, 0, none⟩)]) (by simp) (by simp [go_sem]) ?_
  refine (bcaught_thrown _ _ 0 0 1 [] _ (by simp) R0.out.c0 R0.out.c1 R0.out.f0 R0.out.f1).mono ?_
  rintro e u' w'' ⟨rfl, rfl, rfl⟩
  have c0 := R0.out.c0
  have c1 := R0.out.c1
  simp [Leaves, settle, results, Tryz.results47, go_sem, c0, c1]
  first | exact R0.out.put _ _ | exact ((Below.refl _ _).alloc (Nat.le_refl _) _).alloc (by simp) _
def Bore (gb : Nat) (W h : Int) (x : Int × Int × Int) (w : World) (e : Ending) (w' : World) : Prop :=
 e = .returned (.tuple #[.int .i64 x.1, .int .i64 x.2.1]) ∧ BearAt w' gb W h x.2.2 ∧ But gb w w'
set_option maxHeartbeats 1000000 in
theorem bear_yes {gb : Nat} {W h rest bal rate n : Int} {w : World} (A : BearAt w gb W h rest) (G : Good W h rest) (hm : Gm.may bal rate n) (hq : Gm.q W h rest (bal * rate * n) ≤ 1000000000000000) :
  Calls Tryz.prog 47 #[.pointer (some ⟨gb, 0, none⟩), .int .i64 bal, .int .i64 rate, .int .i64 n] w (Bore gb W h (Gm.q W h rest (bal * rate * n), 0, Gm.r W h rest (bal * rate * n)) w) := by
 have R0 := Aside0.mk (Fr.Res2.made w (.int .i64 0) (.int .i64 0) 2 33)
 have HB := Aside0.mk (fun (w1 : World) (A1 : BearAt w1 gb W h rest) => borne_yes A1 G hm hq)
 have lt := A.lt
 have hne : ¬ gb = w.heap.size := by omega
 have hne1 : ¬ gb = w.heap.size + 1 := by omega
 obtain ⟨a0, a1, b0, b1, n0, n1⟩ := hm
 have u1 : IntKind.u64.wrap bal = bal := IntWalk.u64_in _ (by omega)
 have u2 : IntKind.u64.wrap rate = rate := IntWalk.u64_in _ (by omega)
 have u3 : IntKind.u64.wrap n = n := IntWalk.u64_in _ (by omega)
 have AA := Aside0.mk A
 clear hq G A
 generalize Gm.q W h rest (bal * rate * n) = q at *
 generalize Gm.r W h rest (bal * rate * n) = r at *
 go_enter_defers Tryz.func47, Tryz.ntmps47
 go_wp2_with fail
 refine (HB.out _ (AA.out.below R0.out.below)).mono ?_
 rintro e w1 ⟨rfl, hd⟩
 have R1 := R0.out.drawn hd
 have A1 := (AA.out.below R0.out.below).below hd.below
 have BU := Aside0.mk (But.of (gb := gb) R1.below)
 have c0 := R1.c0
 have c1 := R1.c1
 have f0 := R1.f0
 have f1 := R1.f1
 have g2 := A1.c2
 have gf := A1.f2
 have RR := Aside0.mk R1
 have AB := Aside0.mk A1
 clear hd R0 R1 A1
 go_wp2
 refine leaves_cons (f := 71) (args := #[.pointer (some ⟨w.heap.size, 0, none⟩), .pointer (some ⟨w.heap.size + 1, 0, none⟩)]) (by simp) (by simp [go_sem]) ?_
 refine (bcaught_idle _ _ _).mono ?_
 rintro e u' w'' ⟨rfl, rfl, rfl⟩
 simp [Leaves, settle, results, Tryz.results47, go_sem, c0, c1]
 obtain ⟨k0, k1, k2, k3, k4⟩ := AB.out
 refine ⟨rfl, ⟨?_, ?_, ?_, ?_, ?_⟩, (((BU.out.setCell (Or.inr (Nat.le_refl _)) _).setCell (Or.inl rfl) _).setCell (Or.inr (Nat.le_refl _)) _).setCell (Or.inr (by simp)) _⟩
 ·rw [World.cell?_setCell_other _ _ _ _ (by first | (simp; done) | (simp; omega)), World.cell?_setCell_other _ _ _ _ (by first | (simp; done) | (simp; omega)), World.cell?_setCell_other _ _ _ _ (by simp), World.cell?_setCell_other _ _ _ _ (by first | (simp; done) | (simp; omega))]; exact k0
 ·rw [World.cell?_setCell_other _ _ _ _ (by first | (simp; done) | (simp; omega)), World.cell?_setCell_other _ _ _ _ (by first | (simp; done) | (simp; omega)), World.cell?_setCell_other _ _ _ _ (by simp), World.cell?_setCell_other _ _ _ _ (by first | (simp; done) | (simp; omega))]; exact k1
 ·rw [World.cell?_setCell_other _ _ _ _ (by first | (simp; done) | (simp; omega)), World.cell?_setCell_other _ _ _ _ (by first | (simp; done) | (simp; omega))]
  have k2' : (w1.setCell ⟨w.heap.size, 0, none⟩ (.int .i64 q)).cell? ⟨gb, 2, none⟩ = some (.int .i64 rest) := by rw [World.cell?_setCell_other _ _ _ _ (by first | (simp; done) | (simp; omega))]; exact k2
  simp [World.cell?_setCell_same, k2']
 ·simp [go_sem, k3]
 ·simp [go_sem]; exact k4
theorem bear_range {gb : Nat} {W h rest bal rate n : Int} {w : World} (A : BearAt w gb W h rest) (G : Good W h rest) (hm : Gm.may bal rate n) (hq : 1000000000000000 < Gm.q W h rest (bal * rate * n)) :
  Calls Tryz.prog 47 #[.pointer (some ⟨gb, 0, none⟩), .int .i64 bal, .int .i64 rate, .int .i64 n] w fun e w' => e = .returned (.tuple #[.int .i64 0, .int .i64 3]) ∧ Below w.heap.size w w' := by
 have R0 := Aside0.mk (Fr.Res2.made w (.int .i64 0) (.int .i64 0) 2 33)
 have HB := Aside0.mk (fun (w1 : World) (A1 : BearAt w1 gb W h rest) => borne_no A1 G hm hq)
 have lt := A.lt
 have hne : ¬ gb = w.heap.size := by omega
 have hne1 : ¬ gb = w.heap.size + 1 := by omega
 obtain ⟨a0, a1, b0, b1, n0, n1⟩ := hm
 have u1 : IntKind.u64.wrap bal = bal := IntWalk.u64_in _ (by omega)
 have u2 : IntKind.u64.wrap rate = rate := IntWalk.u64_in _ (by omega)
 have u3 : IntKind.u64.wrap n = n := IntWalk.u64_in _ (by omega)
 have AA := Aside0.mk A
 clear hq G A
 go_enter_defers Tryz.func47, Tryz.ntmps47
 go_wp2_with fail
 refine (HB.out _ (AA.out.below R0.out.below)).mono ?_
 rintro e w1 ⟨rfl, hd⟩
 have R1 := Aside0.mk (R0.out.drawn hd)
 clear hd R0
 refine leaves_cons (f := 71) (args := #[.pointer (some ⟨w.heap.size, 0, none⟩), .pointer (some ⟨w.heap.size + 1, 0, none⟩)]) (by simp) (by simp [go_sem]) ?_
 refine (bcaught_thrown _ _ 0 0 3 [] _ (by simp) R1.out.c0 R1.out.c1 R1.out.f0 R1.out.f1).mono ?_
 rintro e u' w'' ⟨rfl, rfl, rfl⟩
 have c0 := R1.out.c0
 have c1 := R1.out.c1
 simp [Leaves, settle, results, Tryz.results47, go_sem, c0, c1]
 exact R1.out.put _ _
theorem bear_any {gb : Nat} {W h rest bal rate n : Int} {w : World} (A : BearAt w gb W h rest) (G : Good W h rest) :
  Calls Tryz.prog 47 #[.pointer (some ⟨gb, 0, none⟩), .int .i64 bal, .int .i64 rate, .int .i64 n] w (Bore gb W h (Gm.bear W h rest bal rate n) w) := by
 unfold Gm.bear
 by_cases hm : Gm.may bal rate n
 ·rw [if_pos hm]
  by_cases hq : Gm.q W h rest (bal * rate * n) ≤ 1000000000000000
  ·rw [if_pos hq]; exact bear_yes A G hm hq
  ·rw [if_neg hq]
   exact (bear_range A G hm (by omega)).mono fun e w' ⟨h1, h2⟩ => ⟨h1, A.below h2, But.of h2⟩
 ·rw [if_neg hm]
  exact (bear_arg hm w).mono fun e w' ⟨h1, h2⟩ => ⟨h1, A.below h2, But.of h2⟩
theorem good_bear {W h rest bal rate n : Int} (G : Good W h rest) : Good W h (Gm.bear W h rest bal rate n).2.2 := by
 unfold Gm.bear
 by_cases hm : Gm.may bal rate n
 ·rw [if_pos hm]
  obtain ⟨a0, a1, b0, b1, n0, n1⟩ := hm
  split
  ·exact G.next (Int.mul_nonneg (Int.mul_nonneg a0 b0) n0)
  ·exact G
 ·rw [if_neg hm]; exact G
end Go.Proofs.YtfmkdledofbhdaaGreat.H
/- Contracts by hand: the document's digits: so many times, so many more. -/
namespace Go.Proofs.YtfmkdledofbhdaaGreat.H
open Go.RowKit Go.Proofs.YtfmkdledofbhdaaGreatW.PrintWords Go.Proofs.YtfmkdledofbhdaaGreatW.PrintLast Go.Proofs.YtfmkdledofbhdaaGreatW.PrintMore Go.Proofs.YtfmkdledofbhdaaGreat.HW
set_option linter.unusedVariables false
set_option linter.unusedSimpArgs false
theorem w64' {x : Int} (h1 : -9223372036854775808 ≤ x) (h2 : x ≤ 9223372036854775807) : wrap64 x = x := by unfold wrap64; omega
theorem rd_nat' (l : List Int) (k : Nat) (h : k < l.length) : rd l (k : Int) = l[k] := by simp [rd, h]
def Digits (w : World) (r : List Int) (e : Ending) (w' : World) : Prop := ∃ A c, e = .returned (.slice A r.length c) ∧ Kd.C (Kd.int .i64) w' A r.length r ∧ r.length ≤ c ∧ (A = none → c = 0) ∧ Below w.heap.size w w'
theorem digits_of_own {w w1 : World} {v : Value} {r : List Int} (h : w1.ownsRow w.heap.size 2 1 v r.length (nums .i64 r)) (hb : Below w.heap.size w w1) : ∃ A c, v = .slice A r.length c ∧ Kd.C (Kd.int .i64) w1 A r.length r ∧ r.length ≤ c ∧ (A = none → c = 0) := by
 have h' : w1.ownsRow w.heap.size 2 1 v r.length (encs (Value.int .i64) r) := h
 obtain ⟨A, c, rfl, hle, hr⟩ := own_reads_of_le (d := (0 : Int)) h'
 refine ⟨A, c, rfl, Kd.C_of_reads hr, hle, fun hA => ?_⟩
 subst hA
 rcases h.2 with ⟨e, _⟩ | ⟨g, cap, cur, e, _⟩
 ·injection e
 ·injection e with e1 e2
  cases e1
theorem times_l1 (k : Nat) (acc : List Int) (c : Int) (c0 : 0 ≤ c) (c1 : c < 1000000000) (ha : acc.length ≤ 1000000) : PRB.quittanceref12_times.l1 (k + 2) acc c = some (acc ++ (if 0 < c then [c] else [])) := by
 simp only [PRB.quittanceref12_times.l1]
 by_cases h : 0 < c
 ·rw [if_pos h, if_pos (by omega), if_pos h, Int.tmod_eq_emod_of_nonneg c0, Int.emod_eq_of_lt c0 c1, Int.tdiv_eq_ediv_of_nonneg c0, Int.ediv_eq_zero_of_lt c0 c1, w64' (by omega) (by omega), if_neg (by decide)]
 ·rw [if_neg h, if_neg h, List.append_nil]
theorem times_l0 (l : List Int) (hd : Dg.Dig l) (hl : l.length ≤ 100000) (n : Int) (n0 : 0 ≤ n) (n1 : n ≤ 1000000000) (d : Nat) : ∀ (k i : Nat) (acc : List Int) (c : Int), l.length - i = d → i ≤ l.length → d + 2 < k → acc.length ≤ 100000 + i → 0 ≤ c → c < 1000000000 →
  PRB.quittanceref12_times.l0 k l n acc c (i : Int) = some (acc ++ Dg.tms n c (l.drop i)) := by
 induction d with
 | zero =>
  intro k i acc c h1 h2 h3 h4 c0 c1
  obtain ⟨k, rfl⟩ : ∃ m, k = m + 1 := ⟨k - 1, by omega⟩
  simp only [PRB.quittanceref12_times.l0]
  rw [if_neg (by omega), List.drop_eq_nil_of_le (by omega)]
  obtain ⟨k, rfl⟩ : ∃ m, k = m + 2 := ⟨k - 2, by omega⟩
  exact times_l1 k acc c c0 c1 (by omega)
 | succ d ih =>
  intro k i acc c h1 h2 h3 h4 c0 c1
  obtain ⟨k, rfl⟩ : ∃ m, k = m + 1 := ⟨k - 1, by omega⟩
  have hi : i < l.length := by omega
  have hx := hd _ (List.getElem_mem hi)
  simp only [PRB.quittanceref12_times.l0]
  rw [if_pos (by omega), if_pos (by omega), if_pos (by omega), rd_nat' l i hi]
  obtain ⟨s1, s2, s3, s4, s5⟩ := Dg.step_bd hx.1 hx.2 n0 n1 c0 c1
  rw [w64' (x := l[i] * n) (by omega) (by omega), w64' (x := l[i] * n + c) (by omega) (by omega), Int.tmod_eq_emod_of_nonneg s3, Int.tdiv_eq_ediv_of_nonneg s3, w64' (x := (l[i] * n + c) / 1000000000) (by omega) (by omega), w64' (x := (i : Int) + 1) (by omega) (by omega), show (i : Int) + 1 = ((i + 1 : Nat) : Int) by omega]
  rw [ih k (i + 1) _ _ (by omega) (by omega) (by omega) (by simp; omega) (by omega) s5, List.drop_eq_getElem_cons hi]
  simp only [Dg.tms, List.append_assoc, List.cons_append, List.nil_append]
theorem times_any {A0 : Option Addr} {c0 : Nat} {l : List Int} {n : Int} {w : World} (hr0 : Kd.C (Kd.int .i64) w A0 l.length l) (hc0 : l.length ≤ c0) (hd : Dg.Dig l) (hl : l.length ≤ 1000) (n0 : 0 ≤ n) (n1 : n ≤ 1000000000) :
  Calls Tryz.prog 27 #[.slice A0 l.length c0, .int .i64 n] w (Digits w (Dg.tms n 0 l)) := by
 refine (PRB.quittanceref12_times.calls 2000 A0 c0 l n (Dg.tms n 0 l) w hr0 hc0 ?_).mono ?_
 ·have := times_l0 l hd (by omega) n n0 n1 l.length 2000 0 [] 0 (by omega) (by omega) (by omega) (by simp) (by omega) (by omega)
  simpa [PRB.quittanceref12_times.f] using this
 ·rintro e w' ⟨v, rfl, hR, hb⟩
  have ho : w'.ownsRow w.heap.size 2 1 v (Dg.tms n 0 l).length (nums .i64 (Dg.tms n 0 l)) := Kd.own_of_R hR
  obtain ⟨A, c, rfl, h1, h2, h3⟩ := digits_of_own ho hb
  exact ⟨A, c, rfl, h1, h2, h3, hb⟩
theorem info_i64 : (Tryz.prog.info? 2).map (fun i => (i.zero, i.size, i.bytes)) = some (some (.int .i64 0), 1, 8) := by kernel_rfl
theorem nums_get' (l : List Int) (j : Nat) (u : Value) (h : (nums .i64 l)[j]? = some u) : j < l.length ∧ u = .int .i64 (rd l (j : Int)) := by
 have hj : j < l.length := by
  rcases Nat.lt_or_ge j l.length with h' | h'
  ·exact h'
  ·rw [List.getElem?_eq_none (by rw [nums_length]; exact h')] at h; cases h
 refine ⟨hj, ?_⟩
 rw [rd_nat' l j hj]
 simp [nums, hj] at h
 exact h.symm
theorem news_of' {w w1 : World} {ad : Addr} {l : List Int} (hr : Kd.C (Kd.int .i64) w (some ad) l.length l) (hb : Below w.heap.size w w1) : ∀ j u, (nums .i64 l)[j]? = some u → w1.cell? (ad.add j) = some u := by
 intro j u hu
 obtain ⟨hj, rfl⟩ := nums_get' l j u hu
 obtain ⟨ad', e', hc⟩ := Kd.at_int (Kd.C_below hr hb) (j : Int) (by omega) (by omega)
 obtain rfl := Option.some.inj e'
 rw [Int.toNat_natCast] at hc
 exact hc
theorem all_one (l : List Int) : ∀ u ∈ nums .i64 l, u.oneCell' = true := by
 intro u hu
 simp [nums] at hu
 obtain ⟨a, _, rfl⟩ := hu
 rfl
theorem new_one' (w : World) (x : Int) (e : TypeId) : ∀ j u, [Value.int .i64 x][j]? = some u → (w.alloc (.cells #[.int .i64 x] e)).cell? ((⟨w.heap.size, 0, none⟩ : Addr).add j) = some u := by
 intro j u hu
 have hj : j < 1 := by
  rcases Nat.lt_or_ge j 1 with h | h
  ·exact h
  ·rw [List.getElem?_eq_none (by simpa using h)] at hu; cases hu
 obtain rfl : j = 0 := by omega
 simp at hu
 subst hu
 simp [go_sem, Addr.add]
theorem own_form' {w : World} {base n : Nat} {e : TypeId} {v : Value} {xs : List Value} (h : w.ownsRow base e 1 v n xs) (hn : 0 < n) : ∃ g cap, v = .slice (some ⟨g, 0, none⟩) n cap ∧ base ≤ g ∧ n ≤ cap := by
 rcases h.2 with ⟨_, e0⟩ | ⟨g, cap, cur, e', hb, _, h1, _⟩
 ·omega
 ·exact ⟨g, cap, e', hb, h1⟩
structure Mid (w W : World) (v : Value) (done todo : List Int) (k : Nat) : Prop where
 len : done.length = k
 own : W.ownsRow w.heap.size 2 1 v (done ++ todo).length (nums .i64 (done ++ todo))
 below : Below w.heap.size w W
theorem Mid.slice {w W : World} {v : Value} {done todo : List Int} {k : Nat} (h : Mid w W v done todo k) : ∃ A c, v = .slice A (done ++ todo).length c ∧ (done ++ todo).length ≤ c ∧ (A = none → c = 0) := by
 obtain ⟨A, c, h1, _, h3, h4⟩ := digits_of_own h.own h.below
 exact ⟨A, c, h1, h3, h4⟩
theorem Mid.set {w W : World} {g cap : Nat} {done todo : List Int} {d x : Int} {k : Nat} (h : Mid w W (.slice (some ⟨g, 0, none⟩) (done ++ d :: todo).length cap) done (d :: todo) k) (hg : w.heap.size ≤ g) : Mid w (W.setCell ⟨g, k, none⟩ (.int .i64 x)) (.slice (some ⟨g, 0, none⟩) (done ++ d :: todo).length cap) (done ++ [x]) todo (k + 1) := by
 have hl := h.len
 refine ⟨by simp [hl], ?_, h.below.setCell (by exact hg) _⟩
 have h1 := (World.ownsRow.stored h.own k (.int .i64 x)).1
 have e : (nums .i64 (done ++ d :: todo)).set k (.int .i64 x) = nums .i64 ((done ++ [x]) ++ todo) := by
  simp only [nums, List.map_append, List.map_cons, List.append_assoc, List.cons_append, List.nil_append]
  rw [List.set_append_right _ _ (by simp [hl])]
  simp [hl]
 rw [e] at h1
 have e2 : ((done ++ [x]) ++ todo).length = (done ++ d :: todo).length := by simp
 rw [e2]
 exact h1
theorem Mid.cell {w W : World} {g cap : Nat} {done todo : List Int} {d : Int} {k : Nat} (h : Mid w W (.slice (some ⟨g, 0, none⟩) (done ++ d :: todo).length cap) done (d :: todo) k) : W.cell? ⟨g, k, none⟩ = some (.int .i64 d) ∧ W.frozen? ⟨g, k, none⟩ = false := by
 refine ⟨?_, World.ownsRow.frozenAt h.own k⟩
 rw [World.ownsRow.cellAt h.own k (by have := h.len; simp; omega)]
 simp [nums, List.getElem?_append_right, h.len]
theorem Mid.more {w W w1 : World} {v v' : Value} {done : List Int} {k : Nat} (h : Mid w W v done [] k) (hown : w1.ownsRow w.heap.size 2 1 v' ((done ++ []).length + 1) (nums .i64 (done ++ []) ++ [.int .i64 0])) (hg : (W.alloc (.cells #[.int .i64 0] 2)).grownBy w1 v.ownBlock) : Mid w w1 v' done [0] k :=
 ⟨h.len, by simpa [nums] using hown, (h.below.alloc h.below.size _).grown hg (by have := h.below.size; simp; omega) (own_base h.own)⟩
def dgs (x : Int) : Nat := if x ≤ 0 then 0 else if x < 1000000000 then 1 else 2
theorem pls_nil {x : Int} (h : 0 < x) (h1 : x ≤ 1000000000000000) : Dg.pls x [] = x % 1000000000 :: Dg.pls (x / 1000000000) [] ∧ dgs (x / 1000000000) + 1 ≤ dgs x := by
 refine ⟨?_, ?_⟩
 ·simp only [Dg.pls]
  rw [if_pos h]
  by_cases h2 : 0 < x / 1000000000
  ·rw [if_pos h2, if_pos h2, if_neg (show ¬ 0 < x / 1000000000 / 1000000000 by omega), Int.emod_eq_of_lt (a := x / 1000000000) (b := 1000000000) (by omega) (by omega)]
  ·rw [if_neg h2, if_neg h2]
 ·unfold dgs
  rw [if_neg (show ¬ x ≤ 0 by omega)]
  by_cases h2 : x < 1000000000
  ·rw [if_pos h2, if_pos (show x / 1000000000 ≤ 0 by omega)]; decide
  ·rw [if_neg h2, if_neg (show ¬ x / 1000000000 ≤ 0 by omega), if_pos (by omega)]; decide
theorem dgs_cons {x d : Int} (h : 0 < x) (h1 : x ≤ 1000000000000000) (d0 : 0 ≤ d) (d1 : d < 1000000000) : dgs ((x + d) / 1000000000) ≤ dgs x ∧ 1 ≤ dgs x := by
 unfold dgs
 rw [if_neg (show ¬ x ≤ 0 by omega)]
 by_cases h2 : x < 1000000000
 ·rw [if_pos h2]
  by_cases h3 : (x + d) / 1000000000 ≤ 0
  ·rw [if_pos h3]; decide
  ·rw [if_neg h3, if_pos (by omega)]; decide
 ·rw [if_neg h2]
  by_cases h3 : (x + d) / 1000000000 ≤ 0
  ·rw [if_pos h3]; decide
  ·rw [if_neg h3]; split <;> decide
set_option maxHeartbeats 2000000 in
set_option maxRecDepth 100000 in
theorem plus_any {A0 : Option Addr} {c0 : Nat} {l : List Int} {v : Int} {w : World} (hr0 : Kd.C (Kd.int .i64) w A0 l.length l) (hc0 : l.length ≤ c0) (hn0 : A0 = none → c0 = 0) (hd : Dg.Dig l) (hl : l.length ≤ 1000) (v0 : 0 ≤ v) (v1 : v ≤ 1000000000000000) :
  Calls Tryz.prog 28 #[.slice A0 l.length c0, .int .i64 v] w (Digits w (Dg.pls v l)) := by
 have HD := Aside0.mk hd
 obtain ⟨i0, hi, hz0, hz1, hz2⟩ := info_parts info_i64
 obtain ⟨r, hr⟩ : ∃ r, Dg.pls v l = r := ⟨_, rfl⟩
 have HR := Aside0.mk hr
 rw [hr]
 clear hr hd
 cases A0 with
 | none =>
  obtain rfl := hn0 rfl
  obtain rfl : l = [] := List.eq_nil_of_length_eq_zero (by omega)
  have M0 := Aside0.mk (show Mid w w (.slice none 0 0) [] [] 0 from ⟨rfl, ⟨rfl, Or.inl ⟨rfl, rfl⟩⟩, Below.refl _ _⟩)
  clear hr0 hn0
  go_enter Tryz.func28, Tryz.ntmps28
  go_wp2_with fail
  go_loopg [1, 5, 6] 3 (fun gq vv sv iv w' => ∃ (done todo : List Int) (x : Int) (k : Nat), vv = .int .i64 x ∧ iv = .int .i64 (k : Int) ∧ 0 ≤ x ∧ x ≤ 1000000000000000 ∧ k + gq ≤ 1010 ∧ Aside0 (todo.length + dgs x ≤ gq) ∧ Aside0 (Dg.Dig todo) ∧ Aside0 (Mid w w' sv done todo k) ∧ Aside0 (done ++ Dg.pls x todo = r))
  case atStart => exact ⟨[], [], v, 0, rfl, rfl, v0, v1, by omega, ⟨by have : dgs v ≤ 2 := (by unfold dgs; split; decide; split <;> decide); simp; omega⟩, HD, M0, ⟨HR.out⟩⟩
  case round =>
   obtain ⟨done, todo, x, k, rfl, rfl, x0, x1, hk, hg, hD, hM, hq⟩ := hrel
   obtain ⟨A, c, rfl, hle, hA⟩ := hM.out.slice
   have HA := Aside0.mk hA
   clear hA
   by_cases hx : 0 < x
   ·cases todo with
    | nil =>
     obtain ⟨p1, p2⟩ := pls_nil hx x1
     have HQ := Aside0.mk (show (done ++ [x % 1000000000]) ++ Dg.pls (x / 1000000000) [] = r by rw [← hq.out, p1]; simp)
     have HG := Aside0.mk p2
     clear p1 p2 hq
     have hlen : (done ++ []).length = k := by have := hM.out.len; simp; exact this
     rw [hlen] at hle ⊢
     have M1 := Aside0.mk (show Mid w wr (.slice A k c) done [] k by have := hM.out; rw [hlen] at this; exact this)
     have HO := Aside0.mk (show wr.ownsRow w.heap.size 2 1 (.slice A k c) k (nums .i64 (done ++ [])) by have := M1.out.own; rw [hlen] at this; exact this)
     have HLEN := Aside0.mk hlen
     clear hM hlen
     go_wp2_with ((at_builtin; refine wpList_append_own _ rfl _ _ 40 rfl w.heap.size 2 i0 (.int .i64 0) 1 8 Tryz.underlying40 hi hz0 hz1 hz2 rfl (by decide) _ _ _ rfl (HO.out.alloc _) ⟨wr.heap.size, 0, none⟩ 1 1 [.int .i64 0] rfl rfl (new_one' wr 0 2) (all_one [0]) (by unfold maxLen; omega) (by omega) (by have := M1.out.below.size; simp; omega) ?_); intro v' w1 hown1 hgrow _; have M2 := Mid.more (v := .slice A k c) M1.out (by rw [HLEN.out]; exact hown1) hgrow; obtain ⟨g, cap, rfl, hgb, hcap⟩ := own_form' M2.own (by simp); have hN : (done ++ [(0 : Int)]).length = k + 1 := (by have := M1.out.len; simp; exact this); obtain ⟨hc1, hc2⟩ := M2.cell; have M3 := Aside0.mk (M2.set (x := x % 1000000000) hgb); clear hown1 hgrow M2 M1 HO; rw [hN]; obtain ⟨N, hN1⟩ : ∃ N, k + 1 = N := ⟨_, rfl⟩; rw [hN1]; have hkN : k < N := (by omega); have HN2 := Aside0.mk (hN.trans hN1); clear hN hN1)
     go_roundg (gk - 1)
     case measure => have := hg.out; have := HG.out; omega
     case rel => exact ⟨done ++ [x % 1000000000], [], x / 1000000000, k + 1, rfl, by simp, by omega, by omega, by have := hg.out; have := HG.out; omega, ⟨by have := hg.out; have := HG.out; simp at *; omega⟩, ⟨Dg.Dig.nil⟩, ⟨by have := M3.out; rw [HN2.out] at this; exact this⟩, HQ⟩
    | cons d ds =>
     obtain ⟨d0, d1⟩ := hD.out.head
     obtain ⟨p1, p2⟩ := dgs_cons hx x1 d0 d1
     have HQ := Aside0.mk (show (done ++ [(x + d) % 1000000000]) ++ Dg.pls ((x + d) / 1000000000) ds = r by rw [← hq.out]; simp only [Dg.pls]; rw [if_pos hx]; simp)
     have HG := Aside0.mk (And.intro p1 p2)
     clear p1 p2 hq
     obtain ⟨g, cap, e, hgb, hcap⟩ := own_form' hM.out.own (by simp; omega)
     injection e with e1 e2 e3
     subst e1 e3
     obtain ⟨hc1, hc2⟩ := hM.out.cell
     have M3 := Aside0.mk (hM.out.set (x := (x + d) % 1000000000) hgb)
     obtain ⟨N, hN⟩ : ∃ N, (done ++ d :: ds).length = N := ⟨_, rfl⟩
     have hkN : k < N := by rw [← hN]; have := hM.out.len; simp; omega
     rw [hN]
     have HN2 := Aside0.mk hN
     have hkne : ¬ k = N := by omega
     clear hN hM
     go_wp2_with fail
     go_roundg (gk - 1)
     case measure => have := hg.out; simp at this; omega
     case rel => exact ⟨done ++ [(x + d) % 1000000000], ds, (x + d) / 1000000000, k + 1, rfl, by simp, by omega, by omega, by have := hg.out; simp at this; omega, ⟨by have := hg.out; have := HG.out; simp at *; omega⟩, ⟨hD.out.tail⟩, ⟨by have := M3.out; rw [HN2.out] at this; exact this⟩, HQ⟩
   ·obtain rfl : x = 0 := by omega
    have HQ := Aside0.mk (show done ++ todo = r by rw [← hq.out, Dg.pls_zero])
    have HF := Aside0.mk (digits_of_own hM.out.own hM.out.below)
    have HBB := Aside0.mk hM.out.below
    obtain rfl := HQ.out
    obtain ⟨N, hN⟩ : ∃ N, (done ++ todo).length = N := ⟨_, rfl⟩
    rw [hN]
    have HN2 := Aside0.mk hN
    clear hq HQ hM hN
    go_wp2_with fail
    go_ret
    obtain ⟨A', c', e, h1, h2, h3⟩ := HF.out
    injection e with e1 e2 e3
    subst e1 e3
    exact ⟨_, _, by rw [HN2.out]; rfl, h1, h2, h3, HBB.out⟩
 | some ad =>
  have HN := Aside0.mk (news_of' hr0 (Below.refl w.heap.size w))
  have hnil : w.ownsRow w.heap.size 2 1 (.slice none 0 0) 0 [] := ⟨rfl, Or.inl ⟨rfl, rfl⟩⟩
  have HNL := Aside0.mk hnil
  clear hr0 hn0 hnil
  go_enter Tryz.func28, Tryz.ntmps28
  go_wp2_with ((at_builtin; refine wpList_append_own _ rfl _ _ 40 rfl w.heap.size 2 i0 (.int .i64 0) 1 8 Tryz.underlying40 hi hz0 hz1 hz2 rfl (by decide) _ 0 [] rfl HNL.out ad l.length c0 (nums .i64 l) rfl (by simp [nums]) HN.out (all_one l) (by unfold maxLen; omega) (by omega) (Nat.le_refl _) ?_); intro v' w1 hown1 hgrow _)
  have M0 := Aside0.mk (show Mid w w1 v' [] l 0 from ⟨rfl, by simpa [nums] using hown1, (Below.refl _ _).grown hgrow (Nat.le_refl _) (fun k hk => by cases hk)⟩)
  clear hown1 hgrow
  go_wp2_with fail
  go_loopg [1, 5, 6] (l.length + 3) (fun gq vv sv iv w' => ∃ (done todo : List Int) (x : Int) (k : Nat), vv = .int .i64 x ∧ iv = .int .i64 (k : Int) ∧ 0 ≤ x ∧ x ≤ 1000000000000000 ∧ k + gq ≤ 1010 ∧ Aside0 (todo.length + dgs x ≤ gq) ∧ Aside0 (Dg.Dig todo) ∧ Aside0 (Mid w w' sv done todo k) ∧ Aside0 (done ++ Dg.pls x todo = r))
  case atStart => exact ⟨[], l, v, 0, rfl, rfl, v0, v1, by omega, ⟨by have : dgs v ≤ 2 := (by unfold dgs; split; decide; split <;> decide); simp; omega⟩, HD, M0, ⟨HR.out⟩⟩
  case round =>
   obtain ⟨done, todo, x, k, rfl, rfl, x0, x1, hk, hg, hD, hM, hq⟩ := hrel
   obtain ⟨A, c, rfl, hle, hA⟩ := hM.out.slice
   have HA := Aside0.mk hA
   clear hA
   by_cases hx : 0 < x
   ·cases todo with
    | nil =>
     obtain ⟨p1, p2⟩ := pls_nil hx x1
     have HQ := Aside0.mk (show (done ++ [x % 1000000000]) ++ Dg.pls (x / 1000000000) [] = r by rw [← hq.out, p1]; simp)
     have HG := Aside0.mk p2
     clear p1 p2 hq
     have hlen : (done ++ []).length = k := by have := hM.out.len; simp; exact this
     rw [hlen] at hle ⊢
     have M1 := Aside0.mk (show Mid w wr (.slice A k c) done [] k by have := hM.out; rw [hlen] at this; exact this)
     have HO := Aside0.mk (show wr.ownsRow w.heap.size 2 1 (.slice A k c) k (nums .i64 (done ++ [])) by have := M1.out.own; rw [hlen] at this; exact this)
     have HLEN := Aside0.mk hlen
     clear hM hlen
     go_wp2_with ((at_builtin; refine wpList_append_own _ rfl _ _ 40 rfl w.heap.size 2 i0 (.int .i64 0) 1 8 Tryz.underlying40 hi hz0 hz1 hz2 rfl (by decide) _ _ _ rfl (HO.out.alloc _) ⟨wr.heap.size, 0, none⟩ 1 1 [.int .i64 0] rfl rfl (new_one' wr 0 2) (all_one [0]) (by unfold maxLen; omega) (by omega) (by have := M1.out.below.size; simp; omega) ?_); intro v' w1 hown1 hgrow _; have M2 := Mid.more (v := .slice A k c) M1.out (by rw [HLEN.out]; exact hown1) hgrow; obtain ⟨g, cap, rfl, hgb, hcap⟩ := own_form' M2.own (by simp); have hN : (done ++ [(0 : Int)]).length = k + 1 := (by have := M1.out.len; simp; exact this); obtain ⟨hc1, hc2⟩ := M2.cell; have M3 := Aside0.mk (M2.set (x := x % 1000000000) hgb); clear hown1 hgrow M2 M1 HO; rw [hN]; obtain ⟨N, hN1⟩ : ∃ N, k + 1 = N := ⟨_, rfl⟩; rw [hN1]; have hkN : k < N := (by omega); have HN2 := Aside0.mk (hN.trans hN1); clear hN hN1)
     go_roundg (gk - 1)
     case measure => have := hg.out; have := HG.out; omega
     case rel => exact ⟨done ++ [x % 1000000000], [], x / 1000000000, k + 1, rfl, by simp, by omega, by omega, by have := hg.out; have := HG.out; omega, ⟨by have := hg.out; have := HG.out; simp at *; omega⟩, ⟨Dg.Dig.nil⟩, ⟨by have := M3.out; rw [HN2.out] at this; exact this⟩, HQ⟩
    | cons d ds =>
     obtain ⟨d0, d1⟩ := hD.out.head
     obtain ⟨p1, p2⟩ := dgs_cons hx x1 d0 d1
     have HQ := Aside0.mk (show (done ++ [(x + d) % 1000000000]) ++ Dg.pls ((x + d) / 1000000000) ds = r by rw [← hq.out]; simp only [Dg.pls]; rw [if_pos hx]; simp)
     have HG := Aside0.mk (And.intro p1 p2)
     clear p1 p2 hq
     obtain ⟨g, cap, e, hgb, hcap⟩ := own_form' hM.out.own (by simp; omega)
     injection e with e1 e2 e3
     subst e1 e3
     obtain ⟨hc1, hc2⟩ := hM.out.cell
     have M3 := Aside0.mk (hM.out.set (x := (x + d) % 1000000000) hgb)
     obtain ⟨N, hN⟩ : ∃ N, (done ++ d :: ds).length = N := ⟨_, rfl⟩
     have hkN : k < N := by rw [← hN]; have := hM.out.len; simp; omega
     rw [hN]
     have HN2 := Aside0.mk hN
     have hkne : ¬ k = N := by omega
     clear hN hM
     go_wp2_with fail
     go_roundg (gk - 1)
     case measure => have := hg.out; simp at this; omega
     case rel => exact ⟨done ++ [(x + d) % 1000000000], ds, (x + d) / 1000000000, k + 1, rfl, by simp, by omega, by omega, by have := hg.out; simp at this; omega, ⟨by have := hg.out; have := HG.out; simp at *; omega⟩, ⟨hD.out.tail⟩, ⟨by have := M3.out; rw [HN2.out] at this; exact this⟩, HQ⟩
   ·obtain rfl : x = 0 := by omega
    have HQ := Aside0.mk (show done ++ todo = r by rw [← hq.out, Dg.pls_zero])
    have HF := Aside0.mk (digits_of_own hM.out.own hM.out.below)
    have HBB := Aside0.mk hM.out.below
    obtain rfl := HQ.out
    obtain ⟨N, hN⟩ : ∃ N, (done ++ todo).length = N := ⟨_, rfl⟩
    rw [hN]
    have HN2 := Aside0.mk hN
    clear hq HQ hM hN
    go_wp2_with fail
    go_ret
    obtain ⟨A', c', e, h1, h2, h3⟩ := HF.out
    injection e with e1 e2 e3
    subst e1 e3
    exact ⟨_, _, by rw [HN2.out]; rfl, h1, h2, h3, HBB.out⟩
end Go.Proofs.YtfmkdledofbhdaaGreat.H
/- Contracts by hand: the document's bearer, made. -/
namespace Go.Proofs.YtfmkdledofbhdaaGreat.H
open Go.RowKit Go.Proofs.YtfmkdledofbhdaaGreatW.PrintWords Go.Proofs.YtfmkdledofbhdaaGreatW.PrintLast Go.Proofs.YtfmkdledofbhdaaGreatW.PrintMore Go.Proofs.YtfmkdledofbhdaaGreat.HW
set_option linter.unusedVariables false
set_option linter.unusedSimpArgs false
structure RefAt (w : World) (gb : Nat) (P : Int) (up : Bool) (rest : Int) : Prop where
 c0 : w.cell? ⟨gb, 0, none⟩ = some (.int .i64 P)
 c1 : w.cell? ⟨gb, 1, none⟩ = some (.bool up)
 c2 : w.cell? ⟨gb, 2, none⟩ = some (.int .i64 rest)
 f2 : w.frozen? ⟨gb, 2, none⟩ = false
 lt : gb < w.heap.size
theorem RefAt.below {w w1 : World} {gb : Nat} {P rest : Int} {up : Bool} (H : RefAt w gb P up rest) (hb : Below w.heap.size w w1) : RefAt w1 gb P up rest :=
 ⟨by rw [hb.cell (by exact H.lt)]; exact H.c0, by rw [hb.cell (by exact H.lt)]; exact H.c1, by rw [hb.cell (by exact H.lt)]; exact H.c2, by rw [hb.frozen (by exact H.lt)]; exact H.f2, Nat.lt_of_lt_of_le H.lt hb.size⟩
theorem RefAt.but {w w1 : World} {gb g2 : Nat} {P rest : Int} {up : Bool} (H : RefAt w g2 P up rest) (hb : But gb w w1) (hn : g2 ≠ gb) : RefAt w1 g2 P up rest :=
 ⟨by rw [hb.cell (by exact H.lt) (by exact hn)]; exact H.c0, by rw [hb.cell (by exact H.lt) (by exact hn)]; exact H.c1, by rw [hb.cell (by exact H.lt) (by exact hn)]; exact H.c2, by rw [hb.frozen (by exact H.lt) (by exact hn)]; exact H.f2, Nat.lt_of_lt_of_le H.lt hb.size⟩
theorem rparts_any (c : Int) (w : World) : Calls Tryz.prog 26 #[.int .i64 c] w fun e w' => e = .returned (.tuple #[.int .i64 (Fr.parts c).1, .int .i64 (Fr.parts c).2]) ∧ Drawn0 w w' := by
 have hcs : c = 1 ∨ c = 2 ∨ c = 3 ∨ (Fr.parts c = (0, 1) ∧ (c == 1) = false ∧ (c == 2) = false ∧ (c == 3) = false) := by
  rcases Fr.parts_cases c with ⟨v, _, rfl | rfl | rfl⟩ | h
  ·exact Or.inl rfl
  ·exact Or.inr (Or.inl rfl)
  ·exact Or.inr (Or.inr (Or.inl rfl))
  ·exact Or.inr (Or.inr (Or.inr h))
 rcases hcs with rfl | rfl | rfl | ⟨hp, h1, h2, h3⟩
 ·go_enter Tryz.func26, Tryz.ntmps26
  go_wp2
  go_ret2
  exact ⟨rfl, Drawn0.refl _⟩
 ·go_enter Tryz.func26, Tryz.ntmps26
  go_wp2
  go_ret2
  exact ⟨rfl, Drawn0.refl _⟩
 ·go_enter Tryz.func26, Tryz.ntmps26
  go_wp2
  go_ret2
  exact ⟨rfl, Drawn0.refl _⟩
 ·rw [hp]
  clear hp
  go_enter Tryz.func26, Tryz.ntmps26
  go_wp2
  go_ret2
  exact ⟨rfl, Drawn0.refl _⟩
def RNewly (c : Int) (up : Bool) (w : World) (e : Ending) (w' : World) : Prop := Below w.heap.size w w' ∧ ∃ gb, w.heap.size ≤ gb ∧ e = .returned (.tuple #[.pointer (some ⟨gb, 0, none⟩), .int .i64 0]) ∧ RefAt w' gb (Gm.gp c) up 0
theorem rnew_any {c r : Int} {up : Bool} (hc : c = 1 ∨ c = 2 ∨ c = 3) (hr : r = 1 ∧ up = true ∨ r = 3 ∧ up = false) (w : World) : Calls Tryz.prog 11 #[.int .i64 c, .int .i64 r] w (RNewly c up w) := by
 have hp : Fr.parts c = (Gm.gp c, 0) := by rcases hc with rfl | rfl | rfl <;> rfl
 have HP := Aside0.mk (fun w => by have := rparts_any c w; rw [hp] at this; exact this)
 clear hp hc
 generalize hv : Gm.gp c = v at *
 have HV := Aside0.mk hv
 clear hv
 rcases hr with ⟨rfl, rfl⟩ | ⟨rfl, rfl⟩
 all_goals
  go_enter Tryz.func11, Tryz.ntmps11
  go_wp2_with fail
  refine (HP.out _).mono ?_
  rintro e w1 ⟨rfl, ⟨m1, rfl⟩⟩
  go_wp2_with fail
  go_ret2
  refine ⟨(pw_below_drewN (Below.refl w.heap.size w) m1).alloc (by simp) _, w.heap.size, Nat.le_refl _, rfl, ?_⟩
  rw [HV.out]
  have e : w.heap.size = (w.drewN m1).heap.size := by simp
  rw [e]
  generalize w.drewN m1 = w1
  constructor <;> simp [go_sem]
theorem rwhole_any {gb : Nat} {P rest : Int} {up : Bool} {w : World} (A : RefAt w gb P up rest) (p0 : 0 ≤ P) (p1 : P ≤ 133590) : Calls Tryz.prog 29 #[.pointer (some ⟨gb, 0, none⟩)] w fun e w' => e = .returned (.int .i64 (1000000000 * P)) ∧ w' = w := by
 obtain ⟨c0, c1, c2, f2, lt⟩ := A
 go_enter Tryz.func29, Tryz.ntmps29
 go_wp2
 go_ret
 exact ⟨rfl, rfl⟩
theorem gp_bd (c : Int) : 360 ≤ Gm.gp c ∧ Gm.gp c ≤ 133590 := by
 unfold Gm.gp
 split
 ·decide
 ·split <;> decide
end Go.Proofs.YtfmkdledofbhdaaGreat.H
/- Contracts by hand: what the document's bearer bears. -/
namespace Go.Proofs.YtfmkdledofbhdaaGreat.H
open Go.RowKit Go.Proofs.YtfmkdledofbhdaaGreatW.PrintWords Go.Proofs.YtfmkdledofbhdaaGreatW.PrintLast Go.Proofs.YtfmkdledofbhdaaGreatW.PrintMore Go.Proofs.YtfmkdledofbhdaaGreat.HW
set_option linter.unusedVariables false
set_option linter.unusedSimpArgs false
def RBore (gb : Nat) (P : Int) (up : Bool) (x : Int × Int × Int) (w : World) (e : Ending) (w' : World) : Prop :=
 e = .returned (.tuple #[.int .i64 x.1, .int .i64 x.2.1]) ∧ RefAt w' gb P up x.2.2 ∧ But gb w w'
theorem rbear_arg {gb : Nat} {bal rate n : Int} (hm : ¬ Gm.may bal rate n) (w : World) : Calls Tryz.prog 12 #[.pointer (some ⟨gb, 0, none⟩), .int .i64 bal, .int .i64 rate, .int .i64 n] w fun e w' => e = .returned (.tuple #[.int .i64 0, .int .i64 1]) ∧ w' = w := by
 have hno : bal < 0 ∨ (0 ≤ bal ∧ 1000000000000000 < bal) ∨ (0 ≤ bal ∧ bal ≤ 1000000000000000 ∧ rate < 0) ∨ (0 ≤ bal ∧ bal ≤ 1000000000000000 ∧ 0 ≤ rate ∧ 1000000000 < rate) ∨ (0 ≤ bal ∧ bal ≤ 1000000000000000 ∧ 0 ≤ rate ∧ rate ≤ 1000000000 ∧ n < 0) ∨ (0 ≤ bal ∧ bal ≤ 1000000000000000 ∧ 0 ≤ rate ∧ rate ≤ 1000000000 ∧ 0 ≤ n ∧ 53436000 < n) := by
  unfold Gm.may at hm
  omega
 clear hm
 rcases hno with h1 | ⟨h1, h2⟩ | ⟨h1, h2, h3⟩ | ⟨h1, h2, h3, h4⟩ | ⟨h1, h2, h3, h4, h5⟩ | ⟨h1, h2, h3, h4, h5, h6⟩
 all_goals
  go_enter Tryz.func12, Tryz.ntmps12
  go_wp2_with fail
  go_ret2
  exact ⟨rfl, rfl⟩
theorem RefAt.put {w : World} {gb : Nat} {P rest : Int} {up : Bool} (A : RefAt w gb P up rest) (v : Int) : RefAt (w.setCell ⟨gb, 2, none⟩ (.int .i64 v)) gb P up v := by
 obtain ⟨c0, c1, c2, f2, lt⟩ := A
 refine ⟨?_, ?_, ?_, ?_, ?_⟩
 ·rw [World.cell?_setCell_other _ _ _ _ (by simp)]; exact c0
 ·rw [World.cell?_setCell_other _ _ _ _ (by simp)]; exact c1
 ·simp [World.cell?_setCell_same, c2]
 ·simp [go_sem, f2]
 ·simp [go_sem]; exact lt
theorem too_much {l : List Int} (hd : Dg.Dig l) {k : Nat} (hk : 1 ≤ k) (hkl : k < l.length) {P q r V h rest x : Int} (hP : 360 ≤ P) (hV : Dg.val l = x + rest + 1000000000 * P) (hy : Dg.val (l.drop (k + 1)) = q * P + r) (r0 : 0 ≤ r) (hq : 4000000 < q) (h0 : 0 ≤ h) : 1000000000000000 < Gm.q (1000000000 * P) h rest x := by
 have h1 := Dg.val_ge hd (k + 1) (by omega)
 rw [hy] at h1
 have h2 : (1000000000000000000 : Int) ≤ 1000000000 ^ (k + 1) := by
  obtain ⟨j, rfl⟩ : ∃ j, k = j + 1 := ⟨k - 1, by omega⟩
  rw [Int.pow_succ, Int.pow_succ]
  have : (0 : Int) < 1000000000 ^ j := Int.pow_pos (by decide)
  omega
 have h3 : 4000001 * P ≤ q * P + r := by
  have := Int.mul_le_mul_of_nonneg_right (show 4000001 ≤ q by omega) (show 0 ≤ P by omega)
  omega
 have h4 : 1000000000000000000 * (4000001 * P) ≤ 1000000000 ^ (k + 1) * (q * P + r) := Int.mul_le_mul h2 h3 (by omega) (by omega)
 unfold Gm.q
 have h5 : 1000000000000001 * (1000000000 * P) ≤ x + (rest + h) := by omega
 have := (Int.le_ediv_iff_mul_le (show 0 < 1000000000 * P by omega)).2 h5
 omega
set_option maxHeartbeats 4000000 in
set_option maxRecDepth 100000 in
theorem rbear_may {gb : Nat} {P W h rest bal rate n : Int} {up : Bool} {w : World} (A : RefAt w gb P up rest) (p0 : 360 ≤ P) (p1 : P ≤ 133590) (hW : W = 1000000000 * P) (hh : up = true ∧ W = 2 * h ∨ up = false ∧ h = 0) (G : Good W h rest) (hm : Gm.may bal rate n) (x : Int × Int × Int) (hx : Gm.bear W h rest bal rate n = x) :
  Calls Tryz.prog 12 #[.pointer (some ⟨gb, 0, none⟩), .int .i64 bal, .int .i64 rate, .int .i64 n] w (RBore gb P up x w) := by
 subst hW
 obtain ⟨a0, a1, b0, b1, n0, n1⟩ := hm
 have AA := Aside0.mk A
 have GG := Aside0.mk G
 have HH := Aside0.mk hh
 have HX := Aside0.mk hx
 have hrest := And.intro G.r0 G.r1
 obtain ⟨g1, g2, g3, g4, g5, g6⟩ := G
 have dg0 : Dg.Dig [bal % 1000000000, bal / 1000000000] := Dg.Dig.cons (by omega) (by omega) (Dg.Dig.cons (by omega) (by omega) Dg.Dig.nil)
 have v0 : Dg.val [bal % 1000000000, bal / 1000000000] = bal := by simp [Dg.val]; omega
 obtain ⟨d1, v1, l1⟩ := Dg.tms_spec b0 b1 [bal % 1000000000, bal / 1000000000] 0 (by omega) (by omega) dg0
 obtain ⟨d2, v2, l2⟩ := Dg.tms_spec n0 (by omega) (Dg.tms rate 0 [bal % 1000000000, bal / 1000000000]) 0 (by omega) (by omega) d1
 rw [v1, v0, Int.add_zero, Int.add_zero] at v2
 obtain ⟨d3, v3, l3⟩ := Dg.pls_spec (Dg.tms n 0 (Dg.tms rate 0 [bal % 1000000000, bal / 1000000000])) (rest + 1000000000 * P) (by omega) (by omega) d2
 rw [v2] at v3
 have HD0 := Aside0.mk dg0
 have HD1 := Aside0.mk d1
 have HD2 := Aside0.mk d2
 have L1 : (Dg.tms rate 0 [bal % 1000000000, bal / 1000000000]).length ≤ 3 := by simpa using l1
 have L2 : (Dg.tms n 0 (Dg.tms rate 0 [bal % 1000000000, bal / 1000000000])).length ≤ 4 := by omega
 have hread : Kd.C (Kd.int .i64) (w.alloc (.cells #[.int .i64 (bal % 1000000000), .int .i64 (bal / 1000000000)] 2)) (some ⟨w.heap.size, 0, none⟩) [bal % 1000000000, bal / 1000000000].length [bal % 1000000000, bal / 1000000000] := by
  refine Kd.C_of_reads (d := (0 : Int)) ⟨rfl, by simp, fun _ => ⟨_, rfl, fun j hj => ?_⟩⟩
  simp at hj
  rcases (by omega : j = 0 ∨ j = 1) with rfl | rfl <;> simp [go_sem, Addr.add]
 have HRD := Aside0.mk hread
 have hpos := Int.mul_nonneg (Int.mul_nonneg a0 b0) n0
 have V3 := Aside0.mk (show Dg.val (Dg.pls (rest + 1000000000 * P) (Dg.tms n 0 (Dg.tms rate 0 [bal % 1000000000, bal / 1000000000]))) = bal * rate * n + rest + 1000000000 * P by rw [v3]; omega)
 have HD3 := Aside0.mk d3
 have HPOS := Aside0.mk hpos
 clear dg0 d1 d2 d3 v0 v1 v2 v3 l1 l2 hread hh hx A hpos
 go_enter Tryz.func12, Tryz.ntmps12
 go_wp2_with fail
 refine (times_any (l := [bal % 1000000000, bal / 1000000000]) (c0 := 2) HRD.out (by simp) HD0.out (by simp) b0 b1).mono ?_
 rintro e w1 ⟨A1, c1, rfl, hc1, hle1, hA1, hb1⟩
 have HC1 := Aside0.mk hc1
 have HB1 := Aside0.mk (((Below.refl w.heap.size w).alloc (Nat.le_refl _) (.cells #[.int .i64 (bal % 1000000000), .int .i64 (bal / 1000000000)] 2)).trans (hb1.mono (by simp)))
 clear hc1 hb1 hA1 HRD
 generalize Dg.tms rate 0 [bal % 1000000000, bal / 1000000000] = t1 at *
 go_wp2_with fail
 refine (times_any HC1.out hle1 HD1.out (by omega) n0 (by omega)).mono ?_
 rintro e w2 ⟨A2, c2, rfl, hc2, hle2, hA2, hb2⟩
 have HC2 := Aside0.mk hc2
 have HA2 := Aside0.mk hA2
 have HB2 := Aside0.mk (below_step HB1.out hb2)
 clear hc2 hb2 hA2 HC1 HB1
 generalize Dg.tms n 0 t1 = t2 at *
 have R2 := Aside0.mk (AA.out.below HB2.out)
 go_wp2_with fail
 have k0 := R2.out.c0
 have k2 := R2.out.c2
 go_still_tail 8, (by kernel_rfl)
 have R2d := R2.out.below (Below.drew (Below.refl _ _))
 have HC2d := Aside0.mk (Kd.C_drew HC2.out)
 have HB2d := Aside0.mk HB2.out.drew
 have RD := Aside0.mk R2d
 still_call (rwhole_any R2d (by omega) p1)
 still_step
 refine wpStill_nil ?_
 clear R2d k0 k2 R2 HC2 HB2
 go_wp2_with fail
 refine (plus_any HC2d.out hle2 HA2.out HD2.out (by omega) (v := rest + 1000000000 * P) (by omega) (by omega)).mono ?_
 rintro e w4 ⟨A3, c3, rfl, hc3, hle3, hA3, hb3⟩
 have HC3 := Aside0.mk hc3
 have HB3 := Aside0.mk (below_step HB2d.out hb3)
 have R3 := Aside0.mk (RD.out.below hb3)
 clear hc3 hb3 hA3 HC2d HB2d RD
 generalize Dg.pls (rest + 1000000000 * P) t2 = l at *
 have k0 := R3.out.c0
 go_wp2_with fail
 have hl0 : 0 < l.length := by
  rcases Nat.eq_zero_or_pos l.length with h' | h'
  ·have hv := V3.out
   rw [List.eq_nil_of_length_eq_zero h'] at hv
   have := HPOS.out
   simp only [Dg.val] at hv
   omega
  ·exact h'
 have hl10 : l.length ≤ 10 := by omega
 have hp2 : (P == 0) = false := by simp; omega
 have hp3 : (P == -1) = false := by simp; omega
 clear k0 l3
 go_loopg [11, 12, 13] l.length (fun gq qv rv iv w' => ∃ (k : Nat) (q r : Int), k < l.length ∧ iv = .int .i64 (k : Int) ∧ qv = .int .i64 q ∧ rv = .int .i64 r ∧ 0 ≤ q ∧ q ≤ 4100000000000000 ∧ 0 ≤ r ∧ r < P ∧ Aside0 (gq = k + 1) ∧ Aside0 (Dg.val (l.drop (k + 1)) = q * P + r) ∧ Drawn0 w4 w')
 case atStart => exact ⟨l.length - 1, 0, 0, by omega, by congr 1; omega, rfl, rfl, by omega, by omega, by omega, by omega, ⟨by omega⟩, ⟨by rw [show l.length - 1 + 1 = l.length by omega, List.drop_length]; simp [Dg.val]⟩, Drawn0.refl _⟩
 case round =>
  obtain ⟨k, q, r, kl, rfl, rfl, rfl, q0, q1, r0, r1, hg, hy, ⟨m1, rfl⟩⟩ := hrel
  have RK := Aside0.mk (R3.out.below (w1 := w4.drewN m1) (Drawn0.below ⟨_, rfl⟩))
  have c0 := R3.out.c0
  obtain ⟨ad, e0, hx0⟩ := Kd.at_int HC3.out (k : Int) (by omega) (by omega)
  subst e0
  rw [Int.toNat_natCast] at hx0
  obtain ⟨hdv, hdd0, hdd1⟩ := Dg.val_drop HD3.out k kl
  have hrd : rd l (k : Int) = l.getD k 0 := by simp [rd]
  rw [hrd] at hx0
  generalize l.getD k 0 = d at *
  have HDV := Aside0.mk hdv
  clear hdv hrd
  by_cases hk : 1 ≤ k
  ·by_cases hq : 4000000 < q
   ·have hbig := too_much (V := 0) HD3.out hk kl p0 V3.out hy.out r0 hq g3
    have ex : x = (0, 3, rest) := by
     rw [← HX.out]
     unfold Gm.bear
     rw [if_pos ⟨a0, a1, b0, b1, n0, n1⟩, if_neg (by omega)]
    subst ex
    have BUT := Aside0.mk (But.of (gb := gb) (pw_below_drewN HB3.out m1))
    clear hx0 hbig c0
    go_wp2_with fail
    go_ret2
    exact ⟨rfl, RK.out, BUT.out⟩
   ·obtain ⟨s1, s2, s3, s4, s5⟩ := Dg.div_step (P := P) (by omega) hy.out r0 r1 hdd0 hdd1
    have HY := Aside0.mk (HDV.out.trans s1)
    obtain ⟨vv, hvv⟩ : ∃ vv, r * 1000000000 + d = vv := ⟨_, rfl⟩
    rw [hvv] at s1 s2 s3 s4 s5 HY
    have vv0 : 0 ≤ vv := by omega
    have vv1 : vv ≤ 140000000000000 := by omega
    obtain ⟨dq, hdq⟩ : ∃ dq, vv / P = dq := ⟨_, rfl⟩
    obtain ⟨dr, hdr⟩ : ∃ dr, vv % P = dr := ⟨_, rfl⟩
    have t1 : Int.tdiv vv P = dq := by rw [Int.tdiv_eq_ediv_of_nonneg vv0]; exact hdq
    have t2 : Int.tmod vv P = dr := by rw [Int.tmod_eq_emod_of_nonneg vv0]; exact hdr
    rw [hdq, hdr] at HY
    rw [hdq] at s2 s3
    rw [hdr] at s4 s5
    have w1 : IntKind.i64.wrap (q * 1000000000) = q * 1000000000 := IntWalk.i64_in _ (by omega)
    have w2 : IntKind.i64.wrap dq = dq := IntWalk.i64_in _ (by omega)
    have w3 : IntKind.i64.wrap dr = dr := IntWalk.i64_in _ (by omega)
    have w4 : IntKind.i64.wrap (q * 1000000000 + dq) = q * 1000000000 + dq := IntWalk.i64_in _ (by omega)
    have hvv2 : IntKind.i64.wrap (r * 1000000000 + d) = vv := by rw [hvv]; exact IntWalk.i64_in _ (by omega)
    have W1 := Aside0.mk w1
    have W2 := Aside0.mk w2
    have W3 := Aside0.mk w3
    have W4 := Aside0.mk w4
    clear s1 hdq hdr w1 w2 w3 w4
    go_wp2_with fail
    have w1 := W1.out
    have w2 := W2.out
    have w3 := W3.out
    have w4 := W4.out
    go_quiet (fail)
    clear w1 w2 w3 w4 t1 t2 hvv hvv2
    go_wp2_with fail
    go_roundg k
    case measure => have := hg.out; omega
    case rel => exact ⟨k - 1, q * 1000000000 + dq, dr, by omega, by congr 1; omega, rfl, rfl, by omega, by omega, by omega, by omega, ⟨by omega⟩, ⟨by rw [show k - 1 + 1 = k by omega]; exact HY.out⟩, ⟨_, by first | rfl | (simp only [World.drewN_drewN]; rfl)⟩⟩
  ·obtain rfl : k = 0 := by omega
   have hx1 : w4.cell? ad = some (.int .i64 d) := by simpa [Addr.add] using hx0
   have hV := V3.out
   have hdv := HDV.out
   have hyo := hy.out
   rw [List.drop_zero] at hdv
   have hvl : bal * rate * n + rest + 1000000000 * P = q * (1000000000 * P) + (r * 1000000000 + d) := by
    rw [← hV, hdv, hyo, Int.mul_add, show q * (1000000000 * P) = 1000000000 * (q * P) by rw [← Int.mul_assoc, Int.mul_comm q, Int.mul_assoc]]
    omega
   obtain ⟨en1, en2⟩ := Dg.ends (P := P) (W := 1000000000 * P) (h := h) (by omega) rfl hvl (by omega) (by omega) up HH.out
   have kc0 := RK.out.c0
   have kc1 := RK.out.c1
   clear hx0 c0 hV hdv hyo hvl
   cases up with
   | true =>
    by_cases hge : 1000000000 * P - (r * 1000000000 + d) ≤ r * 1000000000 + d
    ·obtain ⟨e1, e2⟩ := en1 ⟨rfl, hge⟩
     clear en1 en2
     by_cases hmost : q ≤ 1000000000000000
     ·have ex : x = (q, 0, r * 1000000000 + d - 1000000000 * P) := by
       rw [← HX.out]
       unfold Gm.bear
       rw [if_pos ⟨a0, a1, b0, b1, n0, n1⟩, e1, e2, if_pos hmost]
      subst ex
      have BUT := Aside0.mk ((But.of (gb := gb) (pw_below_drewN HB3.out m1)).setCell (p := ⟨gb, 2, none⟩) (Or.inl rfl) (.int .i64 (r * 1000000000 + d - 1000000000 * P)))
      have RKo := RK.out
      have k2 := RKo.c2
      have kf := RKo.f2
      have RN := Aside0.mk (RefAt.put RKo (r * 1000000000 + d - 1000000000 * P))
      clear e1 e2 RKo
      go_wp2_with fail
      refine (rwhole_any RK.out (by omega) p1).mono ?_
      rintro e _ ⟨rfl, rfl⟩
      go_wp2_with fail
      refine (rwhole_any RK.out (by omega) p1).mono ?_
      rintro e _ ⟨rfl, rfl⟩
      go_wp2_with fail
      go_ret2
      exact ⟨rfl, RN.out, BUT.out⟩
     ·have ex : x = (0, 3, rest) := by
       rw [← HX.out]
       unfold Gm.bear
       rw [if_pos ⟨a0, a1, b0, b1, n0, n1⟩, e1, if_neg hmost]
      subst ex
      have BUT := Aside0.mk (But.of (gb := gb) (pw_below_drewN HB3.out m1))
      clear e1 e2
      go_wp2_with fail
      refine (rwhole_any RK.out (by omega) p1).mono ?_
      rintro e _ ⟨rfl, rfl⟩
      go_wp2_with fail
      refine (rwhole_any RK.out (by omega) p1).mono ?_
      rintro e _ ⟨rfl, rfl⟩
      go_wp2_with fail
      go_ret2
      exact ⟨rfl, RK.out, BUT.out⟩
    ·obtain ⟨e1, e2⟩ := en2 (fun h' => hge h'.2)
     have hge2 : r * 1000000000 + d < 1000000000 * P - (r * 1000000000 + d) := by omega
     clear en1 en2 hge
     by_cases hmost : q - 1 ≤ 1000000000000000
     ·have ex : x = (q - 1, 0, r * 1000000000 + d) := by
       rw [← HX.out]
       unfold Gm.bear
       rw [if_pos ⟨a0, a1, b0, b1, n0, n1⟩, e1, e2, if_pos hmost]
      subst ex
      have BUT := Aside0.mk ((But.of (gb := gb) (pw_below_drewN HB3.out m1)).setCell (p := ⟨gb, 2, none⟩) (Or.inl rfl) (.int .i64 (r * 1000000000 + d)))
      have RKo := RK.out
      have k2 := RKo.c2
      have kf := RKo.f2
      have RN := Aside0.mk (RefAt.put RKo (r * 1000000000 + d))
      clear e1 e2 RKo
      go_wp2_with fail
      refine (rwhole_any RK.out (by omega) p1).mono ?_
      rintro e _ ⟨rfl, rfl⟩
      go_wp2_with fail
      go_ret2
      exact ⟨rfl, RN.out, BUT.out⟩
     ·have ex : x = (0, 3, rest) := by
       rw [← HX.out]
       unfold Gm.bear
       rw [if_pos ⟨a0, a1, b0, b1, n0, n1⟩, e1, if_neg hmost]
      subst ex
      have BUT := Aside0.mk (But.of (gb := gb) (pw_below_drewN HB3.out m1))
      clear e1 e2
      go_wp2_with fail
      refine (rwhole_any RK.out (by omega) p1).mono ?_
      rintro e _ ⟨rfl, rfl⟩
      go_wp2_with fail
      go_ret2
      exact ⟨rfl, RK.out, BUT.out⟩
   | false =>
    obtain ⟨e1, e2⟩ := en2 (fun h' => by cases h'.1)
    clear en1 en2
    by_cases hmost : q - 1 ≤ 1000000000000000
    ·have ex : x = (q - 1, 0, r * 1000000000 + d) := by
      rw [← HX.out]
      unfold Gm.bear
      rw [if_pos ⟨a0, a1, b0, b1, n0, n1⟩, e1, e2, if_pos hmost]
     subst ex
     have BUT := Aside0.mk ((But.of (gb := gb) (pw_below_drewN HB3.out m1)).setCell (p := ⟨gb, 2, none⟩) (Or.inl rfl) (.int .i64 (r * 1000000000 + d)))
     have RKo := RK.out
     have k2 := RKo.c2
     have kf := RKo.f2
     have RN := Aside0.mk (RefAt.put RKo (r * 1000000000 + d))
     clear e1 e2 RKo
     go_wp2_with fail
     go_ret2
     exact ⟨rfl, RN.out, BUT.out⟩
    ·have ex : x = (0, 3, rest) := by
      rw [← HX.out]
      unfold Gm.bear
      rw [if_pos ⟨a0, a1, b0, b1, n0, n1⟩, e1, if_neg hmost]
     subst ex
     have BUT := Aside0.mk (But.of (gb := gb) (pw_below_drewN HB3.out m1))
     clear e1 e2
     go_wp2_with fail
     go_ret2
     exact ⟨rfl, RK.out, BUT.out⟩
theorem rbear_any {gb : Nat} {P W h rest bal rate n : Int} {up : Bool} {w : World} (A : RefAt w gb P up rest) (p0 : 360 ≤ P) (p1 : P ≤ 133590) (hW : W = 1000000000 * P) (hh : up = true ∧ W = 2 * h ∨ up = false ∧ h = 0) (G : Good W h rest) :
  Calls Tryz.prog 12 #[.pointer (some ⟨gb, 0, none⟩), .int .i64 bal, .int .i64 rate, .int .i64 n] w (RBore gb P up (Gm.bear W h rest bal rate n) w) := by
 by_cases hm : Gm.may bal rate n
 ·exact rbear_may A p0 p1 hW hh G hm _ rfl
 ·unfold Gm.bear
  rw [if_neg hm]
  exact (rbear_arg hm w).mono fun e w' ⟨h1, h2⟩ => by subst h2; exact ⟨h1, A, But.of (Below.refl _ _)⟩
end Go.Proofs.YtfmkdledofbhdaaGreat.H
namespace Go.Proofs.YtfmkdledofbhdaaGreat.Lv
open Go.RowKit Go.Proofs.YtfmkdledofbhdaaGreatW.PrintWords Go.Proofs.YtfmkdledofbhdaaGreatW.PrintLast Go.Proofs.YtfmkdledofbhdaaGreatW.PrintMore Go.Proofs.YtfmkdledofbhdaaGreat.HW
open Pm Pd
set_option linter.unusedVariables false
set_option linter.unusedSimpArgs false
def fine (l : List Int) : Bool := l.all (fun n => decide (0 ≤ n ∧ n ≤ 267180))
def askE (p : Prod) (l : List Int) (m : Int) : Int := if err p ≠ 0 then 9 else if (l.length : Int) = p.times ∧ 1 ≤ m ∧ m ≤ 10000000000000 ∧ fine l = true then 0 else 1
theorem err_two (p : Prod) : err p = 0 ∨ err p = 9 := by unfold err; split <;> simp
abbrev wcs (p : Prod) (A1 : Option Addr) (c1 : Nat) (A2 : Option Addr) (c2 : Nat) (A3 : Option Addr) (c3 : Nat) (A : Option Addr) (l : List Int) (c : Nat) (m : Int) : Array Value :=
 #[.string p.name, .int .i64 p.count, .int .i64 p.round, .int .i64 p.kind, .int .i64 p.every, .int .i64 p.times, .int .i64 p.grace, .int .i64 p.rate, .slice A1 p.resets.length c1, .int .i64 p.penalty, .int .i64 p.o1, .int .i64 p.o2, .int .i64 p.o3, .int .i64 p.o4, .int .i64 p.over, .slice A2 p.late.length c2, .int .i64 p.cap, .int .i64 p.roll, .slice A3 p.hol.length c3, .slice A l.length c, .int .i64 m]
abbrev wv (p : Prod) (A1 : Option Addr) (c1 : Nat) (A2 : Option Addr) (c2 : Nat) (A3 : Option Addr) (c3 : Nat) (A : Option Addr) (l : List Int) (c : Nat) (m : Int) : Value := .agg (wcs p A1 c1 A2 c2 A3 c3 A l c m)
abbrev wzs : Array Value :=
 #[.string ⟨#[]⟩, .int .i64 0, .int .i64 0, .int .i64 0, .int .i64 0, .int .i64 0, .int .i64 0, .int .i64 0, .slice none 0 0, .int .i64 0, .int .i64 0, .int .i64 0, .int .i64 0, .int .i64 0, .int .i64 0, .slice none 0 0, .int .i64 0, .int .i64 0, .slice none 0 0, .slice none 0 0, .int .i64 0]
theorem info_walk : (Tryz.prog.info? 86).map (·.size) = some 21 := by kernel_rfl
theorem wcs_one (p : Prod) (A1 : Option Addr) (c1 : Nat) (A2 : Option Addr) (c2 : Nat) (A3 : Option Addr) (c3 : Nat) (A : Option Addr) (l : List Int) (c : Nat) (m : Int) : (wcs p A1 c1 A2 c2 A3 c3 A l c m).all (·.oneCell') = true := by simp [Value.oneCell']
theorem w_cells {p : Prod} {A1 : Option Addr} {c1 : Nat} {A2 : Option Addr} {c2 : Nat} {A3 : Option Addr} {c3 : Nat} {A : Option Addr} {l : List Int} {c : Nat} {m : Int} {w : World} {g : Nat} {t : TypeId} (h : w.heap[g]? = some (.cells (wcs p A1 c1 A2 c2 A3 c3 A l c m) t (0, 0))) :
  w.cell? ⟨g, 1, none⟩ = some (.int .i64 p.count) ∧ w.cell? ⟨g, 2, none⟩ = some (.int .i64 p.round) ∧ w.cell? ⟨g, 5, none⟩ = some (.int .i64 p.times) ∧ w.cell? ⟨g, 6, none⟩ = some (.int .i64 p.grace) ∧ w.cell? ⟨g, 7, none⟩ = some (.int .i64 p.rate) ∧ w.cell? ⟨g, 19, none⟩ = some (.slice A l.length c) ∧ w.cell? ⟨g, 20, none⟩ = some (.int .i64 m) :=
 ⟨(blk_cell h 1).trans rfl, (blk_cell h 2).trans rfl, (blk_cell h 5).trans rfl, (blk_cell h 6).trans rfl, (blk_cell h 7).trans rfl, (blk_cell h 19).trans rfl, (blk_cell h 20).trans rfl⟩
theorem w_range {p : Prod} {A1 : Option Addr} {c1 : Nat} {A2 : Option Addr} {c2 : Nat} {A3 : Option Addr} {c3 : Nat} {A : Option Addr} {l : List Int} {c : Nat} {m : Int} {w : World} {g : Nat} {t : TypeId} (h : w.heap[g]? = some (.cells (wcs p A1 c1 A2 c2 A3 c3 A l c m) t (0, 0))) :
  w.rangeAt g 0 (pcs p A1 c1 A2 c2 A3 c3).toList := by
 intro j v hj
 rw [Array.getElem?_toList] at hj
 have hlt : j < (pcs p A1 c1 A2 c2 A3 c3).size := by
  rcases Nat.lt_or_ge j (pcs p A1 c1 A2 c2 A3 c3).size with h1 | h1
  ·exact h1
  ·rw [Array.getElem?_eq_none h1] at hj; cases hj
 rw [Nat.zero_add, blk_cell h j, show wcs p A1 c1 A2 c2 A3 c3 A l c m = pcs p A1 c1 A2 c2 A3 c3 ++ #[.slice A l.length c, .int .i64 m] from rfl, Array.getElem?_append_left hlt]
 exact hj
section
variable {P : Program} {ops : Array Oper} {rest : List Oper} {op : Oper} {a : Act} {w : World} {Q : Exit → Act → World → Prop}
theorem load_part (hgd : op.guard = none) (ty : TypeId) (x : Operand) (ho : op.op = .load ty x) (b : Nat) (hx : a.eval x = .pointer (some ⟨b, 0, none⟩)) (cs : Array Value) (d : TypeDesc) (hc : w.rangeAt b 0 cs.toList)
  (hu : P.underlying ty = some d) (hd : d.isRow = true) (hi : (P.info? ty).map (·.size) = some cs.size) (h : wpList P ops Q rest (a.put op.dst (.agg cs)) w) : wpList P ops Q (op :: rest) a w :=
 wpList_load_mid hgd ty x ho b 0 hx cs.toList d hc hu hd (by simpa using hi) (by simpa using h)
end
theorem fine_drop {l : List Int} {k : Nat} (h : k < l.length) : fine (l.drop k) = (decide (0 ≤ rd l (k : Int) ∧ rd l (k : Int) ≤ 267180) && fine (l.drop (k + 1))) := by
 unfold fine
 have e : rd l (k : Int) = l[k] := by simp [rd, h]
 rw [List.drop_eq_getElem_cons h, List.all_cons, e]
def AskP (p : Prod) (l : List Int) (m : Int) (w : World) (e : Ending) (w' : World) : Prop := e = .returned (.int .i64 (askE p l m)) ∧ Below w.heap.size w w'
set_option maxRecDepth 100000 in
set_option maxHeartbeats 2000000 in
theorem may_bad (p : Prod) (A1 : Option Addr) (c1 : Nat) (A2 : Option Addr) (c2 : Nat) (A3 : Option Addr) (c3 : Nat) (A : Option Addr) (l : List Int) (c : Nat) (m : Int) (w : World) (hg : GV w) (hp : ProdAt w p A1 c1 A2 c2 A3 c3) (hs : Small p) (hr : Kd.C (Kd.int .i64) w A l.length l) (hl : l.length ≤ 1000000) (ha : err p = 9) :
  Calls Tryz.prog 42 #[wv p A1 c1 A2 c2 A3 c3 A l c m] w (AskP p l m w) := by
 have hx : askE p l m = 9 := by unfold askE; rw [ha, if_pos (by decide)]
 unfold AskP
 rw [hx]
 clear hx
 have HG := Aside0.mk hg
 have HP := Aside0.mk hp
 have HS := Aside0.mk hs
 have HR := Aside0.mk hr
 have HA := Aside0.mk ha
 clear hg hp hs hr ha
 go_enter Tryz.func42, Tryz.ntmps42
 go_wp2_with (first
  | ((with_reducible refine gate_dst (N := 1) rfl ?_); refine box_event ?hg (N := 1) ?hd (cs := wcs p A1 c1 A2 c2 A3 c3 A l c m) (t := 86) ?hr ?_; (case hd => rfl); (case hg => rfl); (case hr => first | (go_simp; done) | (go_simp; rfl)); intro g1 hg w1 hbg1 hblg1; have g1ge := (show w.heap.size ≤ g1 by rw [hg]; exact Nat.le_refl _); clear hg; have HBg1 := Aside0.mk hbg1; have BLg1 := Aside0.mk hblg1; clear hbg1 hblg1)
  | ((with_reducible refine gate_dst (N := 7) rfl ?_); refine load_part rfl 27 (.tmp 6) rfl g1 rfl (pcs p A1 c1 A2 c2 A3 c3) _ (w_range HBg1.out) Tryz.underlying27 rfl info_prod ?_))
 refine (check_any p A1 c1 A2 c2 A3 c3 _ (HG.out.below BLg1.out) (HP.out.below BLg1.out) HS.out).mono ?_
 rintro e w2 ⟨rfl, hb⟩
 have B2 := Aside0.mk (below_step BLg1.out hb)
 obtain ⟨-, -, q5, -, -, q19, q20⟩ := w_cells (Pd.blk_below HBg1.out hb)
 have HR2 := Aside0.mk (Kd.C_below (Kd.C_below HR.out BLg1.out) hb)
 clear hb HBg1 BLg1
 rw [HA.out]
 go_wp2_with fail
 go_ret
 exact ⟨rfl, B2.out⟩
set_option maxRecDepth 100000 in
set_option maxHeartbeats 2000000 in
theorem may_arg (p : Prod) (A1 : Option Addr) (c1 : Nat) (A2 : Option Addr) (c2 : Nat) (A3 : Option Addr) (c3 : Nat) (A : Option Addr) (l : List Int) (c : Nat) (m : Int) (w : World) (hg : GV w) (hp : ProdAt w p A1 c1 A2 c2 A3 c3) (hs : Small p) (hr : Kd.C (Kd.int .i64) w A l.length l) (hl : l.length ≤ 1000000) (ha : err p = 0) (hn : ¬ (l.length : Int) = p.times ∨ ((l.length : Int) = p.times ∧ m < 1) ∨ ((l.length : Int) = p.times ∧ 1 ≤ m ∧ 10000000000000 < m)) :
  Calls Tryz.prog 42 #[wv p A1 c1 A2 c2 A3 c3 A l c m] w (AskP p l m w) := by
 have hx : askE p l m = 1 := by unfold askE; rw [ha, if_neg (by decide), if_neg (by omega)]
 unfold AskP
 rw [hx]
 clear hx
 have HG := Aside0.mk hg
 have HP := Aside0.mk hp
 have HS := Aside0.mk hs
 have HR := Aside0.mk hr
 have HA := Aside0.mk ha
 clear hg hp hs hr ha
 go_enter Tryz.func42, Tryz.ntmps42
 go_wp2_with (first
  | ((with_reducible refine gate_dst (N := 1) rfl ?_); refine box_event ?hg (N := 1) ?hd (cs := wcs p A1 c1 A2 c2 A3 c3 A l c m) (t := 86) ?hr ?_; (case hd => rfl); (case hg => rfl); (case hr => first | (go_simp; done) | (go_simp; rfl)); intro g1 hg w1 hbg1 hblg1; have g1ge := (show w.heap.size ≤ g1 by rw [hg]; exact Nat.le_refl _); clear hg; have HBg1 := Aside0.mk hbg1; have BLg1 := Aside0.mk hblg1; clear hbg1 hblg1)
  | ((with_reducible refine gate_dst (N := 7) rfl ?_); refine load_part rfl 27 (.tmp 6) rfl g1 rfl (pcs p A1 c1 A2 c2 A3 c3) _ (w_range HBg1.out) Tryz.underlying27 rfl info_prod ?_))
 refine (check_any p A1 c1 A2 c2 A3 c3 _ (HG.out.below BLg1.out) (HP.out.below BLg1.out) HS.out).mono ?_
 rintro e w2 ⟨rfl, hb⟩
 have B2 := Aside0.mk (below_step BLg1.out hb)
 obtain ⟨-, -, q5, -, -, q19, q20⟩ := w_cells (Pd.blk_below HBg1.out hb)
 have HR2 := Aside0.mk (Kd.C_below (Kd.C_below HR.out BLg1.out) hb)
 clear hb HBg1 BLg1
 rw [HA.out]
 rcases hn with h | ⟨h, h2⟩ | ⟨h, h2, h3⟩
 ·have hb : ((l.length : Int) != p.times) = true := by simpa using h
  clear h
  go_wp2_with fail
  go_ret
  exact ⟨rfl, B2.out⟩
 all_goals
  have hb : ((l.length : Int) != p.times) = false := by simpa using h
  clear h
  go_wp2_with fail
  go_ret
  exact ⟨rfl, B2.out⟩
set_option maxRecDepth 100000 in
set_option maxHeartbeats 2000000 in
theorem may_loop (p : Prod) (A1 : Option Addr) (c1 : Nat) (A2 : Option Addr) (c2 : Nat) (A3 : Option Addr) (c3 : Nat) (A : Option Addr) (l : List Int) (c : Nat) (m : Int) (w : World) (hg : GV w) (hp : ProdAt w p A1 c1 A2 c2 A3 c3) (hs : Small p) (hr : Kd.C (Kd.int .i64) w A l.length l) (hl : l.length ≤ 1000000) (ha : err p = 0) (h1 : (l.length : Int) = p.times) (h2 : 1 ≤ m) (h3 : m ≤ 10000000000000) :
  Calls Tryz.prog 42 #[wv p A1 c1 A2 c2 A3 c3 A l c m] w (AskP p l m w) := by
 have hx : askE p l m = if fine l = true then 0 else 1 := by
  unfold askE
  rw [ha, if_neg (by decide)]
  by_cases hf : fine l = true
  ·rw [if_pos hf, if_pos ⟨h1, h2, h3, hf⟩]
  ·rw [if_neg hf, if_neg (fun h => hf h.2.2.2)]
 unfold AskP
 obtain ⟨v, hv⟩ : ∃ v, (if fine l = true then (0 : Int) else 1) = v := ⟨_, rfl⟩
 rw [hx, hv]
 have HV := Aside0.mk hv
 clear hx hv
 have hb : ((l.length : Int) != p.times) = false := by simpa using h1
 clear h1
 have HG := Aside0.mk hg
 have HP := Aside0.mk hp
 have HS := Aside0.mk hs
 have HR := Aside0.mk hr
 have HA := Aside0.mk ha
 clear hg hp hs hr ha
 go_enter Tryz.func42, Tryz.ntmps42
 go_wp2_with (first
  | ((with_reducible refine gate_dst (N := 1) rfl ?_); refine box_event ?hg (N := 1) ?hd (cs := wcs p A1 c1 A2 c2 A3 c3 A l c m) (t := 86) ?hr ?_; (case hd => rfl); (case hg => rfl); (case hr => first | (go_simp; done) | (go_simp; rfl)); intro g1 hg w1 hbg1 hblg1; have g1ge := (show w.heap.size ≤ g1 by rw [hg]; exact Nat.le_refl _); clear hg; have HBg1 := Aside0.mk hbg1; have BLg1 := Aside0.mk hblg1; clear hbg1 hblg1)
  | ((with_reducible refine gate_dst (N := 7) rfl ?_); refine load_part rfl 27 (.tmp 6) rfl g1 rfl (pcs p A1 c1 A2 c2 A3 c3) _ (w_range HBg1.out) Tryz.underlying27 rfl info_prod ?_))
 refine (check_any p A1 c1 A2 c2 A3 c3 _ (HG.out.below BLg1.out) (HP.out.below BLg1.out) HS.out).mono ?_
 rintro e w2 ⟨rfl, hb⟩
 have B2 := Aside0.mk (below_step BLg1.out hb)
 obtain ⟨-, -, q5, -, -, q19, q20⟩ := w_cells (Pd.blk_below HBg1.out hb)
 have HR2 := Aside0.mk (Kd.C_below (Kd.C_below HR.out BLg1.out) hb)
 clear hb HBg1 BLg1
 rw [HA.out]
 go_wp2_with fail
 go_loopg [32] (l.length + 1) (fun gq iv w' => ∃ (k : Nat), k ≤ l.length ∧ iv = .int .i64 (k : Int) ∧ Aside0 (gq = l.length + 1 - k) ∧ Aside0 ((if fine (l.drop k) = true then (0 : Int) else 1) = v) ∧ w' = w2)
 case atStart => exact ⟨0, by omega, rfl, ⟨rfl⟩, ⟨by rw [List.drop_zero]; exact HV.out⟩, rfl⟩
 case round =>
  obtain ⟨k, hk, rfl, hgq, hv, rfl⟩ := hrel
  by_cases hlt : k < l.length
  ·obtain ⟨ad0, e0, hx0⟩ := Kd.at_int HR2.out (k : Int) (by omega) (by omega)
   cases e0
   simp only [Int.toNat_natCast] at hx0
   have hf := fine_drop hlt
   obtain ⟨d, hd⟩ : ∃ d, rd l (k : Int) = d := ⟨_, rfl⟩
   rw [hd] at hx0 hf
   rcases (by omega : d < 0 ∨ (0 ≤ d ∧ 267180 < d) ∨ (0 ≤ d ∧ d ≤ 267180)) with c0 | ⟨c0, c1⟩ | ⟨c0, c1⟩
   ·have hv1 := hv.out
    rw [hf, decide_eq_false (by omega), Bool.false_and, if_neg (by decide)] at hv1
    have HV1 := Aside0.mk hv1
    clear hv1 hf hd hv
    go_wp2_with fail
    go_ret
    obtain rfl := HV1.out
    exact ⟨rfl, B2.out⟩
   ·have hv1 := hv.out
    rw [hf, decide_eq_false (by omega), Bool.false_and, if_neg (by decide)] at hv1
    have HV1 := Aside0.mk hv1
    clear hv1 hf hd hv
    go_wp2_with fail
    go_ret
    obtain rfl := HV1.out
    exact ⟨rfl, B2.out⟩
   ·have hv1 := hv.out
    rw [hf, decide_eq_true ⟨c0, c1⟩, Bool.true_and] at hv1
    have HV1 := Aside0.mk hv1
    clear hv1 hf hd hv
    go_wp2_with fail
    go_roundg (l.length + 1 - (k + 1))
    case measure => have := hgq.out; omega
    case rel => exact ⟨k + 1, by omega, by simp, ⟨rfl⟩, ⟨HV1.out⟩, rfl⟩
  ·have hv1 := hv.out
   rw [List.drop_of_length_le (by omega)] at hv1
   have HV1 := Aside0.mk (show (0 : Int) = v by simpa [fine] using hv1)
   clear hv1 hv
   go_wp2_with fail
   go_ret
   obtain rfl := HV1.out
   exact ⟨rfl, B2.out⟩
theorem may_any (p : Prod) (A1 : Option Addr) (c1 : Nat) (A2 : Option Addr) (c2 : Nat) (A3 : Option Addr) (c3 : Nat) (A : Option Addr) (l : List Int) (c : Nat) (m : Int) (w : World) (hg : GV w) (hp : ProdAt w p A1 c1 A2 c2 A3 c3) (hs : Small p) (hr : Kd.C (Kd.int .i64) w A l.length l) (hl : l.length ≤ 1000000) : Calls Tryz.prog 42 #[wv p A1 c1 A2 c2 A3 c3 A l c m] w (AskP p l m w) := by
 rcases err_two p with ha | ha
 ·by_cases h : (l.length : Int) = p.times ∧ 1 ≤ m ∧ m ≤ 10000000000000
  ·exact may_loop p A1 c1 A2 c2 A3 c3 A l c m w hg hp hs hr hl ha h.1 h.2.1 h.2.2
  ·exact may_arg p A1 c1 A2 c2 A3 c3 A l c m w hg hp hs hr hl ha (by omega)
 ·exact may_bad p A1 c1 A2 c2 A3 c3 A l c m w hg hp hs hr hl ha
end Go.Proofs.YtfmkdledofbhdaaGreat.Lv
/- Plain: days rolled lie near; parts between instalments are two years at most. -/
namespace Go.Proofs.YtfmkdledofbhdaaGreat.Lv
open Go.RowKit Go.Proofs.YtfmkdledofbhdaaGreatW.PrintWords Go.Proofs.YtfmkdledofbhdaaGreatW.PrintLast Go.Proofs.YtfmkdledofbhdaaGreatW.PrintMore Go.Proofs.YtfmkdledofbhdaaGreat.HW
open Go.Proofs.YtfmkdledofbhdaaGreat.Math Go.Proofs.YtfmkdledofbhdaaGreat.H Go.Proofs.YtfmkdledofbhdaaGreat.Pd Go.Proofs.YtfmkdledofbhdaaGreat.Du Pm
set_option linter.unusedVariables false
set_option linter.unusedSimpArgs false
def RB (how day x : Int) : Prop := how = 1 ∧ x = day ∨ how = 2 ∧ day ≤ x ∧ x ≤ day + 290 ∨ how = 4 ∧ day - 290 ≤ x ∧ x ≤ day ∨ how = 3 ∧ day - 290 ≤ x ∧ x ≤ day + 31
theorem actual_most : ∀ (k : Nat) {a : Int}, isDay a → isDay (a + k) → actual (a + k) ≤ actual a + 366 * k
 | 0, a, _, _ => by simp
 | k + 1, a, ha, hb => by
  obtain ⟨a1, a2⟩ := id ha
  obtain ⟨b1, b2⟩ := id hb
  have hm : isDay (a + k) := ⟨by omega, by omega⟩
  have hb' : isDay (a + k + 1) := ⟨by omega, by omega⟩
  have ih := actual_most k ha hm
  have hs := actual_succ hm hb'
  have hl := leap_01 (yearOf (a + k))
  rw [show a + ((k + 1 : Nat) : Int) = a + k + 1 by omega]
  omega
theorem thirty_le {a b : Int} (ha : isDay a) (hb : isDay b) (h : a ≤ b) : thirty a ≤ thirty b := by
 obtain ⟨y1, y2, m1, m2, d1, d2⟩ := date_bd ha
 obtain ⟨y3, y4, m3, m4, d3, d4⟩ := date_bd hb
 obtain ⟨_, _, f1, f2, f3, _⟩ := idx_spec ha
 obtain ⟨_, _, g1, g2, g3, _⟩ := idx_spec hb
 have ei : idx a = 12 * yearOf a + monthOf a - 1 := rfl
 have ej : idx b = 12 * yearOf b + monthOf b - 1 := rfl
 unfold thirty
 rw [if_pos ha, if_pos hb]
 rcases (by omega : idx a < idx b ∨ idx a = idx b ∨ idx b < idx a) with h1 | h1 | h1
 ·omega
 ·have := dayAt_mono (t := idx b) (d := dayOf b) (d' := dayOf a)
  rw [h1] at f3
  omega
 ·have := dayAt_less h1 f1 g2
  omega
end Go.Proofs.YtfmkdledofbhdaaGreat.Lv
/- Contracts by hand: level: what an instalment leaves. -/
namespace Go.Proofs.YtfmkdledofbhdaaGreat.Lv
open Go.RowKit Go.Proofs.YtfmkdledofbhdaaGreatW.PrintWords Go.Proofs.YtfmkdledofbhdaaGreatW.PrintLast Go.Proofs.YtfmkdledofbhdaaGreatW.PrintMore Go.Proofs.YtfmkdledofbhdaaGreat.HW
open Pm Pd
set_option linter.unusedVariables false
set_option linter.unusedSimpArgs false
open Go.Proofs.YtfmkdledofbhdaaGreat.H
theorem good_in {W h rest bal : Int} (G : H.Good W h rest) (b0 : 0 < bal) (b1 : bal ≤ 1000000000000000) : In W h rest bal := ⟨by have := G.w0; omega, b0, b1, G.r0, G.r1⟩
theorem bear_bd {W h rest bal rate n : Int} (G : H.Good W h rest) (b0 : 0 < bal) (b1 : bal ≤ 1000000000000000) : 0 ≤ (Gm.bear W h rest bal rate n).1 ∧ (Gm.bear W h rest bal rate n).1 ≤ 1000000000000000 := by
 by_cases e : (Gm.bear W h rest bal rate n).2.1 = 0
 ·obtain ⟨_, hq, he⟩ := bear_ok e
  refine ⟨(bear_in (good_in G b0 b1) e).1, ?_⟩
  rw [he]; exact hq
 ·rw [bear_eq] at e ⊢
  split at e
  ·rename_i h
   rw [if_pos h]
   split at e
   ·simp at e
   ·rename_i h2
    rw [if_neg h2]; simp
  ·rename_i h
   rw [if_neg h]; simp
theorem wk_cons {W h rate gr x : Int} {i : Int} {n : Int} {l : List Int} {bal rest : Int} {z : Int × Int × Int} (hz : Gm.bear W h rest bal rate n = z) :
  wk W h rate gr x i (n :: l) bal rest = if z.2.1 ≠ 0 then 1000000000000001 else if i < gr then wk W h rate gr x (i + 1) l bal z.2.2 else if bal + (z.1 - x) ≤ 0 then bal + (z.1 - x) else if 1000000000000000 < bal + (z.1 - x) then 1000000000000001 else wk W h rate gr x (i + 1) l (bal + (z.1 - x)) z.2.2 := by
 rw [wk, hz]
set_option maxRecDepth 100000 in
set_option maxHeartbeats 4000000 in
theorem left_any (p : Prod) (A1 : Option Addr) (c1 : Nat) (A2 : Option Addr) (c2 : Nat) (A3 : Option Addr) (c3 : Nat) (A : Option Addr) (l : List Int) (c : Nat) (m : Int) (x : Int) (w : World) (hc : 1 ≤ p.count ∧ p.count ≤ 3) (hrd : p.round = 1 ∨ p.round = 3) (hra : 0 ≤ p.rate ∧ p.rate ≤ 1000000000) (hgr : 0 ≤ p.grace ∧ p.grace ≤ 600) (hr : Kd.C (Kd.int .i64) w A l.length l) (hl : l.length ≤ 1000000) (hm0 : 1 ≤ m) (hm1 : m ≤ 10000000000000) (x0 : 0 ≤ x) (x1 : x ≤ 1000000000000000) :
  Calls Tryz.prog 45 #[wv p A1 c1 A2 c2 A3 c3 A l c m, .int .i64 x] w fun e w' => e = .returned (.int .i64 (wk (Gm.whole p.count) (Gm.half p.count p.round) p.rate p.grace x 0 l m 0)) ∧ Below w.heap.size w w' := by
 have HR := Aside0.mk hr
 have HN := Aside0.mk (fun W => bnew_any (c := p.count) (r := p.round) (by omega) hrd W)
 have GN := good_new p.count p.round
 obtain ⟨v, hv⟩ : ∃ v, wk (Gm.whole p.count) (Gm.half p.count p.round) p.rate p.grace x 0 l m 0 = v := ⟨_, rfl⟩
 rw [hv]
 have HV := Aside0.mk hv
 clear hr hc hrd hv
 obtain ⟨Wh, hWh⟩ : ∃ y, Gm.whole p.count = y := ⟨_, rfl⟩
 obtain ⟨Hf, hHf⟩ : ∃ y, Gm.half p.count p.round = y := ⟨_, rfl⟩
 rw [hWh, hHf] at GN HV
 have HWh := Aside0.mk hWh
 have HHf := Aside0.mk hHf
 clear hWh hHf
 have GG := Aside0.mk GN
 clear GN
 go_enter Tryz.func45, Tryz.ntmps45
 go_wp2_with ((with_reducible refine gate_dst (N := 2) rfl ?_); refine box_event ?hg (N := 2) ?hd (cs := wcs p A1 c1 A2 c2 A3 c3 A l c m) (t := 86) ?hr ?_; (case hd => rfl); (case hg => rfl); (case hr => first | (go_simp; done) | (go_simp; rfl)); intro g1 hg w1 hbg1 hblg1; have g1ge := (show w.heap.size ≤ g1 by rw [hg]; exact Nat.le_refl _); clear hg; have HBg1 := Aside0.mk hbg1; have BLg1 := Aside0.mk hblg1; obtain ⟨u1, u2, -, -, -, -, -⟩ := w_cells hbg1; clear hbg1 hblg1)
 refine (HN.out _).mono ?_
 rintro e w2 ⟨hb, gb, hgb, rfl, hba⟩
 rw [HWh.out, HHf.out] at hba
 have B2 := Aside0.mk (below_step BLg1.out hb)
 have hne : g1 ≠ gb := by have := Pd.blk_below HBg1.out (Below.refl _ _); have := blk_lt HBg1.out; omega
 have HB2 := Aside0.mk (Pd.blk_below HBg1.out hb)
 have gbge : w.heap.size ≤ gb := Nat.le_trans BLg1.out.size hgb
 have BA := Aside0.mk hba
 obtain ⟨-, -, -, -, -, u19, u20⟩ := w_cells HB2.out
 clear hb hgb hba HBg1 BLg1 u1 u2 HN
 go_wp2_with fail
 clear u20
 go_loopg [7, 27] (l.length + 1) (fun gq bv iv w' => ∃ (k : Nat) (bal rest : Int), k ≤ l.length ∧ iv = .int .i64 (k : Int) ∧ bv = .int .i64 bal ∧ 0 < bal ∧ bal ≤ 1000000000000000 ∧ Aside0 (gq = l.length + 1 - k) ∧ Aside0 (wk Wh Hf p.rate p.grace x (k : Int) (l.drop k) bal rest = v) ∧ Aside0 (BearAt w' gb Wh Hf rest) ∧ Aside0 (H.Good Wh Hf rest) ∧ Aside0 (w'.heap[g1]? = some (.cells (wcs p A1 c1 A2 c2 A3 c3 A l c m) 86 (0, 0))) ∧ Aside0 (Below w.heap.size w w'))
 case atStart => exact ⟨0, m, 0, by omega, rfl, rfl, by omega, by omega, ⟨rfl⟩, ⟨by rw [List.drop_zero]; exact HV.out⟩, BA, GG, HB2, B2⟩
 case round =>
  obtain ⟨k, bal, rest, hk, rfl, rfl, b0, b1, hgq, HW, BA, GG, HB, BB⟩ := hrel
  clear HV B2 HB2 u19
  by_cases hlt : k < l.length
  ·obtain ⟨ad0, e0, hx0⟩ := Kd.at_int HR.out (k : Int) (by omega) (by omega)
   cases e0
   simp only [Int.toNat_natCast] at hx0
   have hx1 := (BB.out.cell (cell_ltR hx0)).trans hx0
   obtain ⟨-, -, -, u6, u7, -, -⟩ := w_cells HB.out
   have hd : l.drop k = rd l (k : Int) :: l.drop (k + 1) := by rw [List.drop_eq_getElem_cons hlt]; simp [rd, hlt]
   have hw := HW.out
   rw [hd] at hw
   obtain ⟨d, hdd⟩ : ∃ d, rd l (k : Int) = d := ⟨_, rfl⟩
   rw [hdd] at hw hx1
   obtain ⟨z, hz⟩ : ∃ z, Gm.bear Wh Hf rest bal p.rate d = z := ⟨_, rfl⟩
   rw [wk_cons hz] at hw
   have zb := bear_bd (rate := p.rate) (n := d) GG.out b0 b1
   have G2 := good_bear (bal := bal) (rate := p.rate) (n := d) GG.out
   have RB := Aside0.mk (bear_any (bal := bal) (rate := p.rate) (n := d) BA.out GG.out)
   rw [hz] at zb G2 RB
   have GG2 := Aside0.mk G2
   have HW2 := Aside0.mk hw
   clear hx0 hd hdd hz hw G2 HW
   obtain ⟨z1, z2, z3⟩ := z
   simp only [] at zb GG2 RB HW2
   go_wp2_with fail
   refine RB.out.mono ?_
   rintro e w3 ⟨rfl, hba, hbut⟩
   have BA3 := Aside0.mk hba
   have HB3 := Aside0.mk ((hbut.block g1 (blk_lt HB.out) hne).trans HB.out)
   have BB3 := Aside0.mk (But.below BB.out BB.out.size gbge hbut)
   obtain ⟨-, -, -, u6, -, -, -⟩ := w_cells HB3.out
   clear hba hbut BA HB BB RB u7 hx1
   by_cases hz2 : z2 = 0
   ·subst hz2
    have hw := HW2.out
    rw [if_neg (by simp)] at hw
    by_cases hi : (k : Int) < p.grace
    ·rw [if_pos hi] at hw
     have HW3 := Aside0.mk hw
     clear hw HW2
     go_wp2_with fail
     go_roundg (l.length + 1 - (k + 1))
     case measure => have := hgq.out; omega
     case rel => exact ⟨k + 1, bal, z3, by omega, by simp, rfl, b0, b1, ⟨rfl⟩, ⟨by exact HW3.out⟩, BA3, GG2, HB3, BB3⟩
    ·rw [if_neg hi] at hw
     obtain ⟨nb, hnb⟩ : ∃ nb, bal + (z1 - x) = nb := ⟨_, rfl⟩
     rw [hnb] at hw
     have s1 : IntKind.i64.wrap (z1 - x) = z1 - x := IntWalk.i64_in _ (by omega)
     have s2 : IntKind.i64.wrap (bal + (z1 - x)) = nb := by rw [hnb]; exact IntWalk.i64_in _ (by omega)
     have nb1 : nb ≤ 2000000000000000 := by omega
     clear hnb HW2
     rcases (by omega : nb ≤ 0 ∨ (0 < nb ∧ 1000000000000000 < nb) ∨ (0 < nb ∧ nb ≤ 1000000000000000)) with h1 | ⟨h1, h2⟩ | ⟨h1, h2⟩
     ·rw [if_pos h1] at hw
      have HW3 := Aside0.mk hw
      clear hw
      go_wp2_with fail
      go_ret
      obtain rfl := HW3.out
      exact ⟨rfl, BB3.out⟩
     ·rw [if_neg (by omega), if_pos h2] at hw
      have HW3 := Aside0.mk hw
      clear hw
      go_wp2_with fail
      go_ret
      obtain rfl := HW3.out
      exact ⟨rfl, BB3.out⟩
     ·rw [if_neg (by omega), if_neg (by omega)] at hw
      have HW3 := Aside0.mk hw
      clear hw
      go_wp2_with fail
      go_roundg (l.length + 1 - (k + 1))
      case measure => have := hgq.out; omega
      case rel => exact ⟨k + 1, nb, z3, by omega, by simp, rfl, h1, h2, ⟨rfl⟩, ⟨by exact HW3.out⟩, BA3, GG2, HB3, BB3⟩
   ·have hw := HW2.out
    rw [if_pos hz2] at hw
    have HW3 := Aside0.mk hw
    have hzb : (z2 != 0) = true := by simpa using hz2
    clear hw hz2 HW2
    go_wp2_with fail
    go_ret
    obtain rfl := HW3.out
    exact ⟨rfl, BB3.out⟩
  ·have hw := HW.out
   rw [List.drop_of_length_le (by omega)] at hw
   have HW3 := Aside0.mk (show bal = v from hw)
   clear hw HW
   go_wp2_with fail
   go_ret
   obtain rfl := HW3.out
   exact ⟨rfl, BB.out⟩
end Go.Proofs.YtfmkdledofbhdaaGreat.Lv
/- Contracts by hand: level: the least instalment that leaves nothing. -/
namespace Go.Proofs.YtfmkdledofbhdaaGreat.Lv
open Go.RowKit Go.Proofs.YtfmkdledofbhdaaGreatW.PrintWords Go.Proofs.YtfmkdledofbhdaaGreatW.PrintLast Go.Proofs.YtfmkdledofbhdaaGreatW.PrintMore Go.Proofs.YtfmkdledofbhdaaGreat.HW
open Pm Pd
set_option linter.unusedVariables false
set_option linter.unusedSimpArgs false
open Go.Proofs.YtfmkdledofbhdaaGreat.H
abbrev noneE : Ending := .panicked [{ v := .iface 89 (.agg #[]), recovered := false }]
set_option maxRecDepth 100000 in
set_option maxHeartbeats 2000000 in
theorem least_no (p : Prod) (A1 : Option Addr) (c1 : Nat) (A2 : Option Addr) (c2 : Nat) (A3 : Option Addr) (c3 : Nat) (A : Option Addr) (l : List Int) (c : Nat) (m : Int) (f : Int → Int) (w : World) (LEFT : ∀ (x : Int) (W : World), 0 ≤ x → x ≤ 1000000000000000 → Below w.heap.size w W → Calls Tryz.prog 45 #[wv p A1 c1 A2 c2 A3 c3 A l c m, .int .i64 x] W fun e w' => e = .returned (.int .i64 (f x)) ∧ Below W.heap.size W w') (hf : 0 < f 1000000000000000) :
  Calls Tryz.prog 44 #[.func (.func 45) #[wv p A1 c1 A2 c2 A3 c3 A l c m] #[]] w fun e w' => e = noneE ∧ Below w.heap.size w w' := by
 have HL := Aside0.mk (LEFT 1000000000000000 w (by decide) (by decide) (Below.refl _ _))
 clear LEFT
 obtain ⟨y, hy⟩ : ∃ y, f 1000000000000000 = y := ⟨_, rfl⟩
 rw [hy] at hf HL
 clear hy
 go_enter Tryz.func44, Tryz.ntmps44
 go_wp2_with fail
 refine HL.out.mono ?_
 rintro e w1 ⟨rfl, hb⟩
 have B1 := Aside0.mk hb
 clear hb HL
 go_wp2_with fail
 exact ⟨rfl, rfl, B1.out⟩
set_option maxRecDepth 100000 in
set_option maxHeartbeats 4000000 in
theorem least_yes (p : Prod) (A1 : Option Addr) (c1 : Nat) (A2 : Option Addr) (c2 : Nat) (A3 : Option Addr) (c3 : Nat) (A : Option Addr) (l : List Int) (c : Nat) (m : Int) (f : Int → Int) (w : World) (LEFT : ∀ (x : Int) (W : World), 0 ≤ x → x ≤ 1000000000000000 → Below w.heap.size w W → Calls Tryz.prog 45 #[wv p A1 c1 A2 c2 A3 c3 A l c m, .int .i64 x] W fun e w' => e = .returned (.int .i64 (f x)) ∧ Below W.heap.size W w') (hf : f 1000000000000000 ≤ 0) :
  Calls Tryz.prog 44 #[.func (.func 45) #[wv p A1 c1 A2 c2 A3 c3 A l c m] #[]] w fun e w' => e = .returned (.int .i64 (srch f 50 0 1000000000000000)) ∧ Below w.heap.size w w' := by
 have HL := Aside0.mk (LEFT 1000000000000000 w (by decide) (by decide) (Below.refl _ _))
 have LE := Aside0.mk LEFT
 obtain ⟨v, hv⟩ : ∃ v, srch f 50 0 1000000000000000 = v := ⟨_, rfl⟩
 rw [hv]
 have HV := Aside0.mk hv
 clear LEFT hv
 obtain ⟨y, hy⟩ : ∃ y, f 1000000000000000 = y := ⟨_, rfl⟩
 rw [hy] at hf HL
 clear hy
 go_enter Tryz.func44, Tryz.ntmps44
 go_wp2_with fail
 refine HL.out.mono ?_
 rintro e w1 ⟨rfl, hb⟩
 have B1 := Aside0.mk hb
 clear hb HL
 go_wp2_with fail
 clear hf
 go_loopg [3, 4] 50 (fun gq lv hv w' => ∃ (lo hi : Int), lv = .int .i64 lo ∧ hv = .int .i64 hi ∧ 0 ≤ lo ∧ lo < hi ∧ hi ≤ 1000000000000000 ∧ Aside0 (hi - lo ≤ 2 ^ gq) ∧ Aside0 (srch f gq lo hi = v) ∧ Aside0 (Below w.heap.size w w'))
 case atStart => exact ⟨0, 1000000000000000, rfl, rfl, by decide, by decide, by decide, ⟨by decide⟩, HV, B1⟩
 case round =>
  obtain ⟨lo, hi, rfl, rfl, l0, l1, h1, hp, hs, BB⟩ := hrel
  obtain ⟨dd, hdd⟩ : ∃ dd, hi - lo = dd := ⟨_, rfl⟩
  have s1 : IntKind.i64.wrap (hi - lo) = dd := by rw [← hdd]; exact IntWalk.i64_in _ (by omega)
  by_cases hc : 1 < dd
  ·obtain ⟨j, hj⟩ : ∃ j, gk = j + 1 := by
    cases gk with
    | zero => have := hp.out; simp at this; omega
    | succ j => exact ⟨j, rfl⟩
   have hs1 := hs.out
   have hp1 := hp.out
   rw [hj, srch, hdd, if_pos hc] at hs1
   rw [hj, Int.pow_succ] at hp1
   obtain ⟨q, hq⟩ : ∃ q, Int.tdiv dd 2 = q := ⟨_, rfl⟩
   have hqd : q = dd / 2 := by rw [← hq]; exact Int.tdiv_eq_ediv_of_nonneg (by omega)
   rw [hq] at hs1
   obtain ⟨mid, hm⟩ : ∃ mid, lo + q = mid := ⟨_, rfl⟩
   rw [hm] at hs1
   have s2 : IntKind.i64.wrap (Int.tdiv dd 2) = q := by rw [hq]; exact IntWalk.i64_in _ (by omega)
   have s3 : IntKind.i64.wrap (lo + q) = mid := by rw [hm]; exact IntWalk.i64_in _ (by omega)
   have m0 : 0 ≤ mid := by omega
   have m1 : lo < mid := by omega
   have m2 : mid < hi := by omega
   have p1 : mid - lo ≤ 2 ^ j := by omega
   have p2 : hi - mid ≤ 2 ^ j := by omega
   have P1 := Aside0.mk p1
   have P2 := Aside0.mk p2
   have HJ := Aside0.mk hj
   have HS := Aside0.mk hs1
   have HL := Aside0.mk (LE.out mid wr m0 (by omega) BB.out)
   obtain ⟨y, hy⟩ : ∃ y, f mid = y := ⟨_, rfl⟩
   rw [hy] at HL HS
   clear hs hp hs1 hp1 hq hqd hm hdd p1 p2 hj hy
   go_wp2_with fail
   refine HL.out.mono ?_
   rintro e w3 ⟨rfl, hb⟩
   have B3 := Aside0.mk (below_step BB.out hb)
   clear hb HL BB
   by_cases hc2 : 0 < y
   ·have hs2 := HS.out
    rw [if_pos hc2] at hs2
    have HS2 := Aside0.mk hs2
    clear hs2 HS
    go_wp2_with fail
    go_roundg j
    case measure => have := HJ.out; omega
    case rel => exact ⟨mid, hi, rfl, rfl, m0, m2, h1, P2, HS2, B3⟩
   ·have hs2 := HS.out
    rw [if_neg hc2] at hs2
    have HS2 := Aside0.mk hs2
    clear hs2 HS
    go_wp2_with fail
    go_roundg j
    case measure => have := HJ.out; omega
    case rel => exact ⟨lo, mid, rfl, rfl, l0, m1, by omega, P1, HS2, B3⟩
  ·have hs1 := hs.out
   have he : hi = v := by
    cases gk with
    | zero => exact hs1
    | succ j => rw [srch, hdd, if_neg hc] at hs1; exact hs1
   have HE := Aside0.mk he
   clear hs hs1 hp hdd he
   go_wp2_with fail
   go_ret
   obtain rfl := HE.out
   exact ⟨rfl, BB.out⟩
end Go.Proofs.YtfmkdledofbhdaaGreat.Lv
/- Contracts by hand: level.Left and level.Of. -/
namespace Go.Proofs.YtfmkdledofbhdaaGreat.Lv
open Go.RowKit Go.Proofs.YtfmkdledofbhdaaGreatW.PrintWords Go.Proofs.YtfmkdledofbhdaaGreatW.PrintLast Go.Proofs.YtfmkdledofbhdaaGreatW.PrintMore Go.Proofs.YtfmkdledofbhdaaGreat.HW
open Pm Pd
set_option linter.unusedVariables false
set_option linter.unusedSimpArgs false
open Go.Proofs.YtfmkdledofbhdaaGreat.H
theorem of_idle (pv_ pe : Addr) (w : World) :
  CallsD Tryz.prog 43 #[.pointer (some pv_), .pointer (some pe)] .returning w fun e u' w' => e = .returned (.tuple #[]) ∧ u' = .returning ∧ w' = w := by
 refine callsD_of_wpS Tryz.func43 rfl fun c₀ cs hu => ?_
 simp only [Tryz.ntmps43, List.size_toArray, List.length_cons, List.length_nil, Nat.reduceAdd, Nat.reduceSub, Array.replicate_succ, Array.replicate_zero, List.push_toArray, List.append_toArray, List.nil_append, List.cons_append]
 apply wpS_seq
 apply wpS_region
 simp [wpOpsS, go_sem, recoverD, hu, Exit.thenS]
 refine rest_plainP fun Q HQ => ?_
 go_wp2
 refine HQ.out _ _ _ ?_
 clear HQ
 simp [bodyPostS, results, Tryz.results43, hu]
 cases c₀
 simp_all
theorem of_thrown (pv_ pe : Addr) (x y : Int) (older : List PanicEntry) (w : World) (hne : pv_.block ≠ pe.block) (hx : w.cell? pv_ = some (.int .i64 x)) (hy : w.cell? pe = some (.int .i64 y)) (fx : w.frozen? pv_ = false) (fy : w.frozen? pe = false) :
  CallsD Tryz.prog 43 #[.pointer (some pv_), .pointer (some pe)] (.panicking ({ v := .iface 89 (.agg #[]), recovered := false } :: older)) w fun e u' w' =>
   e = .returned (.tuple #[]) ∧ u' = .panicking ({ v := .iface 89 (.agg #[]), recovered := true } :: older) ∧ w' = ((w.alloc (.cells #[] 89)).setCell pv_ (.int .i64 0)).setCell pe (.int .i64 10) := by
 refine callsD_of_wpS Tryz.func43 rfl fun c₀ cs hu => ?_
 simp only [Tryz.ntmps43, List.size_toArray, List.length_cons, List.length_nil, Nat.reduceAdd, Nat.reduceSub, Array.replicate_succ, Array.replicate_zero, List.push_toArray, List.append_toArray, List.nil_append, List.cons_append]
 apply wpS_seq
 apply wpS_region
 simp [wpOpsS, go_sem, recoverD, hu, Exit.thenS]
 refine rest_plainP fun Q HQ => ?_
 have hta : ∀ w, (Instr.typeAssert (.iface 89 (.agg #[])) 20 89 true).run Tryz.prog w = .ok (.tuple #[.agg #[], .bool true]) w := fun _ => by kernel_rfl
 have hltx := cell_ltR hx
 have hlty := cell_ltR hy
 have hb := (Below.refl w.heap.size w).alloc (Nat.le_refl _) (.cells #[] 89)
 have hx2 : (w.alloc (.cells #[] 89)).cell? pv_ = some (.int .i64 x) := by rw [hb.cell hltx]; exact hx
 have fx2 : (w.alloc (.cells #[] 89)).frozen? pv_ = false := by rw [hb.frozen hltx]; exact fx
 have hy1 : (w.alloc (.cells #[] 89)).cell? pe = some (.int .i64 y) := by rw [hb.cell hlty]; exact hy
 have hy2 : ((w.alloc (.cells #[] 89)).setCell pv_ (.int .i64 0)).cell? pe = some (.int .i64 y) := by rw [World.cell?_setCell_other]; exact hy1; exact fun e => hne (by rw [e])
 have fy2 : (w.alloc (.cells #[] 89)).frozen? pe = false := by rw [hb.frozen hlty]; exact fy
 clear hb hy1
 go_wp2
 refine HQ.out _ _ _ ?_
 clear HQ
 simp [bodyPostS, results, Tryz.results43, hu]
theorem built_walk (p : Prod) (A1 : Option Addr) (c1 : Nat) (A2 : Option Addr) (c2 : Nat) (A3 : Option Addr) (c3 : Nat) (A : Option Addr) (l : List Int) (c : Nat) (m : Int) :
  Tryz.prog.built 86 [(0, .agg (pcs p A1 c1 A2 c2 A3 c3)), (1, .slice A l.length c), (2, .int .i64 m)] = some (wcs p A1 c1 A2 c2 A3 c3 A l c m) := by kernel_rfl
theorem ask_known {p : Prod} {l : List Int} {m : Int} (h : askE p l m = 0) : (1 ≤ p.count ∧ p.count ≤ 3) ∧ (p.round = 1 ∨ p.round = 3) ∧ (0 ≤ p.rate ∧ p.rate ≤ 1000000000) ∧ (0 ≤ p.grace ∧ p.grace ≤ 600) ∧ 1 ≤ m ∧ m ≤ 10000000000000 := by
 unfold askE at h
 split at h
 ·simp at h
 ·rename_i h1
  split at h
  ·rename_i h2
   have hk : ok p = true := by
    rcases err_two p with e | e
    ·unfold err at e; split at e; assumption; simp at e
    ·exact absurd e (fun e => h1 (by rw [e]; decide))
   simp only [ok, shapeOk, ratesOk, ordOk, lateOk, daysOk, Bool.and_eq_true, decide_eq_true_eq] at hk
   obtain ⟨⟨⟨⟨⟨_, b1, b2, b3, b4, b5, b6, b7⟩, ⟨d1, _⟩, _⟩, _⟩, _⟩, _⟩ := hk
   exact ⟨b1, b2, d1, ⟨b6.1, by omega⟩, h2.2.1, h2.2.2.1⟩
  ·simp at h
def lf (p : Prod) (l : List Int) (m : Int) (x : Int) : Int := wk (Gm.whole p.count) (Gm.half p.count p.round) p.rate p.grace x 0 l m 0
def ofE (p : Prod) (l : List Int) (m : Int) : Int × Int := if askE p l m ≠ 0 then (0, askE p l m) else if 0 < lf p l m 1000000000000000 then (0, 10) else (srch (lf p l m) 50 0 1000000000000000, 0)
def Two (v : Int × Int) (w : World) (e : Ending) (w' : World) : Prop := e = .returned (.tuple #[.int .i64 v.1, .int .i64 v.2]) ∧ Below w.heap.size w w'
end Go.Proofs.YtfmkdledofbhdaaGreat.Lv
/- Contracts by hand: level.Of. -/
namespace Go.Proofs.YtfmkdledofbhdaaGreat.Lv
open Go.RowKit Go.Proofs.YtfmkdledofbhdaaGreatW.PrintWords Go.Proofs.YtfmkdledofbhdaaGreatW.PrintLast Go.Proofs.YtfmkdledofbhdaaGreatW.PrintMore Go.Proofs.YtfmkdledofbhdaaGreat.HW
open Pm Pd
set_option linter.unusedVariables false
set_option linter.unusedSimpArgs false
open Go.Proofs.YtfmkdledofbhdaaGreat.H
structure ResB (w W : World) (g h : Nat) (x y : Value) : Prop where
 below : Below w.heap.size w W
 gge : w.heap.size ≤ g
 hge : w.heap.size ≤ h
 ne : g ≠ h
 c0 : W.cell? ⟨g, 0, none⟩ = some x
 f0 : W.frozen? ⟨g, 0, none⟩ = false
 c1 : W.cell? ⟨h, 0, none⟩ = some y
 f1 : W.frozen? ⟨h, 0, none⟩ = false
theorem ResB.step {w W W' : World} {g h : Nat} {x y : Value} (r : ResB w W g h x y) (hb : Below W.heap.size W W') : ResB w W' g h x y :=
 ⟨below_step r.below hb, r.gge, r.hge, r.ne, by rw [hb.cell (by exact cell_ltR r.c0)]; exact r.c0, by rw [hb.frozen (by exact cell_ltR r.c0)]; exact r.f0, by rw [hb.cell (by exact cell_ltR r.c1)]; exact r.c1, by rw [hb.frozen (by exact cell_ltR r.c1)]; exact r.f1⟩
theorem ResB.of {w W : World} {g h : Nat} {x y : Value} {t u : TypeId} (hb : Below w.heap.size w W) (hg : w.heap.size ≤ g) (hh : w.heap.size ≤ h) (ne : g ≠ h) (b0 : W.heap[g]? = some (.cells #[x] t (0, 0))) (b1 : W.heap[h]? = some (.cells #[y] u (0, 0))) : ResB w W g h x y :=
 ⟨hb, hg, hh, ne, (blk_cell b0 0).trans rfl, frozen_of_row W g 0 _ _ b0, (blk_cell b1 0).trans rfl, frozen_of_row W h 0 _ _ b1⟩
theorem ResB.put {w W : World} {g h : Nat} {x y : Value} (r : ResB w W g h x y) (u v : Value) : ResB w ((W.setCell ⟨g, 0, none⟩ u).setCell ⟨h, 0, none⟩ v) g h u v := by
 have hn : (⟨h, 0, none⟩ : Addr) ≠ ⟨g, 0, none⟩ := fun e => r.ne (by injection e with e1; exact e1.symm)
 refine ⟨(r.below.setCell (by exact r.gge) _).setCell (by exact r.hge) _, r.gge, r.hge, r.ne, ?_, ?_, ?_, ?_⟩
 ·rw [World.cell?_setCell_other _ _ _ _ (by first | exact hn | exact hn.symm), World.cell?_setCell_same _ _ _ r.c0]
 ·simp [go_sem, r.f0]
 ·rw [World.cell?_setCell_same (v := v) (u := y) _ _ (by rw [World.cell?_setCell_other _ _ _ _ (by first | exact hn | exact hn.symm)]; exact r.c1)]
 ·simp [go_sem, r.f1]
set_option maxRecDepth 100000 in
set_option maxHeartbeats 4000000 in
theorem Of_any (p : Prod) (A1 : Option Addr) (c1 : Nat) (A2 : Option Addr) (c2 : Nat) (A3 : Option Addr) (c3 : Nat) (A : Option Addr) (l : List Int) (c : Nat) (m : Int) (w : World) (hg : GV w) (hp : ProdAt w p A1 c1 A2 c2 A3 c3) (hs : Small p) (hr : Kd.C (Kd.int .i64) w A l.length l) (hl : l.length ≤ 1000000) :
  Calls Tryz.prog 17 #[pv p A1 c1 A2 c2 A3 c3, .slice A l.length c, .int .i64 m] w (Two (ofE p l m) w) := by
 have MA := Aside0.mk (fun W (hb : Below w.heap.size w W) => may_any p A1 c1 A2 c2 A3 c3 A l c m W (hg.below hb) (hp.below hb) hs (Kd.C_below hr hb) hl)
 have LE := Aside0.mk (fun (h : askE p l m = 0) (x : Int) (x0 : 0 ≤ x) (x1 : x ≤ 1000000000000000) W (hb : Below w.heap.size w W) => show Calls Tryz.prog 45 #[wv p A1 c1 A2 c2 A3 c3 A l c m, .int .i64 x] W fun e w' => e = .returned (.int .i64 (lf p l m x)) ∧ Below W.heap.size W w' from left_any p A1 c1 A2 c2 A3 c3 A l c m x W (ask_known h).1 (ask_known h).2.1 (ask_known h).2.2.1 (ask_known h).2.2.2.1 (Kd.C_below hr hb) hl (ask_known h).2.2.2.2.1 (ask_known h).2.2.2.2.2 x0 x1)
 clear hg hp hs hr
 unfold Two
 obtain ⟨v, hv⟩ : ∃ v, ofE p l m = v := ⟨_, rfl⟩
 rw [hv]
 have HV := Aside0.mk hv
 clear hv
 go_enter_defers Tryz.func17, Tryz.ntmps17
 go_wp2_with (first
  | ((with_reducible refine gate_dst (N := 3) rfl ?_); refine box_event ?hg (N := 3) ?hd (cs := pcs p A1 c1 A2 c2 A3 c3) (t := 27) ?hr ?_; (case hd => rfl); (case hg => rfl); (case hr => first | (go_simp; done) | (go_simp; rfl)); intro g1 hg w1 hbg1 hblg1; have g1ge := (show w.heap.size ≤ g1 by rw [hg]; exact Nat.le_refl _); clear hg; have HBg1 := Aside0.mk hbg1; have BLg1 := Aside0.mk hblg1; clear hbg1 hblg1)
  | ((with_reducible refine gate_dst (N := 6) rfl ?_); refine box_event ?hg (N := 6) ?hd (cs := #[.int .i64 0]) (t := 2) ?hr ?_; (case hd => rfl); (case hg => rfl); (case hr => first | (go_simp; done) | (go_simp; rfl)); intro g6 hg w6 hbg6 hblg6; have g6ge := (show w.heap.size ≤ g6 by rw [hg]; exact BLg1.out.size); have HBg1 := Aside0.mk (Pd.blk_below HBg1.out hblg6); have HBg6 := Aside0.mk hbg6; have BLg6 := Aside0.mk (below_step BLg1.out hblg6); clear hg hbg6 hblg6)
  | ((with_reducible refine gate_dst (N := 7) rfl ?_); refine box_event ?hg (N := 7) ?hd (cs := #[.int .i64 0]) (t := 33) ?hr ?_; (case hd => rfl); (case hg => rfl); (case hr => first | (go_simp; done) | (go_simp; rfl)); intro g7 hg w7 hbg7 hblg7; have g7ge := (show w.heap.size ≤ g7 by rw [hg]; exact BLg6.out.size); have HBg1 := Aside0.mk (Pd.blk_below HBg1.out hblg7); have ne67 : g6 ≠ g7 := (by have := blk_lt HBg6.out; omega); have HBg6 := Aside0.mk (Pd.blk_below HBg6.out hblg7); have HBg7 := Aside0.mk hbg7; have BLg7 := Aside0.mk (below_step BLg6.out hblg7); have R7 := Aside0.mk (ResB.of BLg7.out g6ge g7ge ne67 HBg6.out HBg7.out); clear hg hbg7 hblg7)
  | ((with_reducible refine gate_dst (N := 10) rfl ?_); refine wpList_load_row rfl 27 (.tmp 3) rfl g1 rfl 27 _ (0, 0) _ HBg1.out Tryz.underlying27 rfl info_prod ?_)
  | ((with_reducible refine gate_dst (N := 13) rfl ?_); refine build_event rfl (t := 86) rfl (cs := wcs p A1 c1 A2 c2 A3 c3 A l c m) ?hb ?_; (case hb => simp only [List.map_toArray, List.map_cons, List.map_nil]; exact built_walk p A1 c1 A2 c2 A3 c3 A l c m))
  | ((with_reducible refine gate_dst (N := 8) rfl ?_); refine copy_event rfl (N := 8) rfl rfl rfl (t := 86) (v := .tmp 13) rfl (cs := wcs p A1 c1 A2 c2 A3 c3 A l c m) (zs := wzs) ?hr rfl rfl info_walk ?hz (wcs_one _ _ _ _ _ _ _ _ _ _ _) ?_; (case hr => first | (go_simp; done) | (go_simp; rfl)); (case hz => rfl); intro g4 hg4 w4 hb4 hbl4; have R4 := Aside0.mk (R7.out.step hbl4); have HB4 := Aside0.mk hb4; have BL4 := Aside0.mk (below_step BLg7.out hbl4); clear hg4 hb4 hbl4)
  | ((with_reducible refine gate_dst (N := 14) rfl ?_); refine wpList_load_row rfl 86 (.tmp 8) rfl g4 rfl 86 _ (0, 0) _ HB4.out Tryz.underlying86 rfl info_walk ?_)
  | fail)
 refine (MA.out _ BL4.out).mono ?_
 rintro e w5 ⟨rfl, hb⟩
 have HB5 := Aside0.mk (Pd.blk_below HB4.out hb)
 have R5 := Aside0.mk (R4.out.step hb)
 clear hb HB4 BL4 HBg1 BLg1 HBg6 BLg6 HBg7 BLg7 R4 R7
 by_cases ha : askE p l m = 0
 ·have hx := HV.out
  unfold ofE at hx
  rw [if_neg (by rw [ha]; decide)] at hx
  have LL := Aside0.mk (fun (x : Int) (W : World) (x0 : 0 ≤ x) (x1 : x ≤ 1000000000000000) (hb : Below w5.heap.size w5 W) => LE.out ha x x0 x1 W (below_step R5.out.below hb))
  rw [ha]
  clear ha LE
  by_cases hf : 0 < lf p l m 1000000000000000
  ·rw [if_pos hf] at hx
   have HX := Aside0.mk hx
   have LN := Aside0.mk (least_no p A1 c1 A2 c2 A3 c3 A l c m (lf p l m) w5 LL.out hf)
   clear hx HV LL hf
   go_wp2_with (first
  | ((with_reducible refine gate_dst (N := 20) rfl ?_); refine wpList_load_row rfl 86 (.tmp 8) rfl g4 rfl 86 _ (0, 0) _ HB5.out Tryz.underlying86 rfl info_walk ?_)
  | fail)
   refine LN.out.mono ?_
   rintro e w6 ⟨rfl, hb⟩
   have R6 := Aside0.mk (R5.out.step hb)
   clear hb R5 HB5 LN
   refine leaves_cons (f := 43) (args := #[.pointer (some ⟨g6, 0, none⟩), .pointer (some ⟨g7, 0, none⟩)]) (by simp) (by simp [go_sem]) ?_
   refine (of_thrown ⟨g6, 0, none⟩ ⟨g7, 0, none⟩ 0 0 [] _ (by exact R6.out.ne) R6.out.c0 R6.out.c1 R6.out.f0 R6.out.f1).mono ?_
   rintro e u' w'' ⟨rfl, rfl, rfl⟩
   have RA := (R6.out.step ((Below.refl w6.heap.size w6).alloc (Nat.le_refl _) (.cells #[] 89))).put (.int .i64 0) (.int .i64 10)
   have c0 := RA.c0
   have c1 := RA.c1
   obtain rfl := HX.out
   simp [Leaves, settle, results, Tryz.results17, go_sem, c0, c1]
   exact RA.below
  ·rw [if_neg hf] at hx
   have HX := Aside0.mk hx
   have LN := Aside0.mk (least_yes p A1 c1 A2 c2 A3 c3 A l c m (lf p l m) w5 LL.out (by omega))
   clear hx HV LL hf
   go_wp2_with (first
  | ((with_reducible refine gate_dst (N := 20) rfl ?_); refine wpList_load_row rfl 86 (.tmp 8) rfl g4 rfl 86 _ (0, 0) _ HB5.out Tryz.underlying86 rfl info_walk ?_)
  | fail)
   refine LN.out.mono ?_
   rintro e w6 ⟨rfl, hb⟩
   have R6 := Aside0.mk (R5.out.step hb)
   clear hb R5 HB5 LN
   have c0 := R6.out.c0
   have f0 := R6.out.f0
   have c1 := R6.out.c1
   have f1 := R6.out.f1
   have ne := R6.out.ne
   have RP := Aside0.mk (R6.out.put (.int .i64 (srch (lf p l m) 50 0 1000000000000000)) (.int .i64 0))
   have c1' : (w6.setCell ⟨g6, 0, none⟩ (.int .i64 (srch (lf p l m) 50 0 1000000000000000))).cell? ⟨g7, 0, none⟩ = some (.int .i64 0) := by rw [World.cell?_setCell_other _ _ _ _ (by first | (intro e; injection e with e1; exact ne e1.symm) | (intro e; injection e with e1; exact ne e1))]; exact c1
   go_wp2_with fail
   refine leaves_cons (f := 43) (args := #[.pointer (some ⟨g6, 0, none⟩), .pointer (some ⟨g7, 0, none⟩)]) (by simp) (by simp [go_sem]) ?_
   refine (of_idle ⟨g6, 0, none⟩ ⟨g7, 0, none⟩ _).mono ?_
   rintro e u' w'' ⟨rfl, rfl, rfl⟩
   have d0 := RP.out.c0
   have d1 := RP.out.c1
   obtain rfl := HX.out
   simp [Leaves, settle, results, Tryz.results17, go_sem, d0, d1]
   exact RP.out.below
 ·have hx := HV.out
  unfold ofE at hx
  rw [if_pos ha] at hx
  obtain ⟨ae, hae⟩ : ∃ ae, askE p l m = ae := ⟨_, rfl⟩
  rw [hae] at ha hx ⊢
  have hn : (ae != 0) = true := by simpa using ha
  have HX := Aside0.mk hx
  clear hx HV ha hae LE
  have c0 := R5.out.c0
  have f0 := R5.out.f0
  have c1 := R5.out.c1
  have f1 := R5.out.f1
  have ne := R5.out.ne
  have RP := Aside0.mk (R5.out.put (.int .i64 0) (.int .i64 ae))
  have c1' : (w5.setCell ⟨g6, 0, none⟩ (.int .i64 0)).cell? ⟨g7, 0, none⟩ = some (.int .i64 0) := by rw [World.cell?_setCell_other _ _ _ _ (by first | (intro e; injection e with e1; exact ne e1.symm) | (intro e; injection e with e1; exact ne e1))]; exact c1
  go_wp2_with fail
  have d0 := RP.out.c0
  have d1 := RP.out.c1
  obtain rfl := HX.out
  simp [bodyPostD, Leaves, settle, results, Tryz.results17, go_sem, d0, d1]
  exact RP.out.below
end Go.Proofs.YtfmkdledofbhdaaGreat.Lv
/- Contracts by hand: the document's level: what may be asked; what is left. -/
namespace Go.Proofs.YtfmkdledofbhdaaGreat.Lv
open Go.RowKit Go.Proofs.YtfmkdledofbhdaaGreatW.PrintWords Go.Proofs.YtfmkdledofbhdaaGreatW.PrintLast Go.Proofs.YtfmkdledofbhdaaGreatW.PrintMore Go.Proofs.YtfmkdledofbhdaaGreat.HW
open Pm Pd
set_option linter.unusedVariables false
set_option linter.unusedSimpArgs false
open Go.Proofs.YtfmkdledofbhdaaGreat.H
theorem drop_rd {l : List Int} {k : Nat} (h : k < l.length) : l.drop k = rd l (k : Int) :: l.drop (k + 1) := by rw [List.drop_eq_getElem_cons h]; simp [rd, h]
set_option maxRecDepth 100000 in
set_option maxHeartbeats 2000000 in
theorem asked_bad (p : Prod) (A1 : Option Addr) (c1 : Nat) (A2 : Option Addr) (c2 : Nat) (A3 : Option Addr) (c3 : Nat) (A : Option Addr) (l : List Int) (c : Nat) (m : Int) (w : World) (hp : ProdAt w p A1 c1 A2 c2 A3 c3) (hs : Held p) (hr : Kd.C (Kd.int .i64) w A l.length l) (hl : l.length ≤ 1000000) (ha : err p = 9) : Calls Tryz.prog 51 #[pv p A1 c1 A2 c2 A3 c3, .slice A l.length c, .int .i64 m] w (AskP p l m w) := by
 have hx : askE p l m = 9 := by unfold askE; rw [ha, if_pos (by decide)]
 unfold AskP
 rw [hx]
 clear hx
 have HP := Aside0.mk hp
 have HS := Aside0.mk hs
 have HR := Aside0.mk hr
 have HA := Aside0.mk ha
 clear hp hs hr ha
 go_enter Tryz.func51, Tryz.ntmps51
 go_wp2_with (first
  | ((with_reducible refine gate_dst (N := 3) rfl ?_); refine box_event ?hg (N := 3) ?hd (cs := pcs p A1 c1 A2 c2 A3 c3) (t := 27) ?hr ?_; (case hd => rfl); (case hg => rfl); (case hr => first | (go_simp; done) | (go_simp; rfl)); intro g1 hg w1 hbg1 hblg1; have g1ge := (show w.heap.size ≤ g1 by rw [hg]; exact Nat.le_refl _); clear hg; have HBg1 := Aside0.mk hbg1; have BLg1 := Aside0.mk hblg1; clear hbg1 hblg1)
  | ((with_reducible refine gate_dst (N := 9) rfl ?_); refine wpList_load_row rfl 27 (.tmp 3) rfl g1 rfl 27 _ (0, 0) _ HBg1.out Tryz.underlying27 rfl info_prod ?_)
  | fail)
 refine (rcheck_any p A1 c1 A2 c2 A3 c3 _ (HP.out.below BLg1.out) HS.out).mono ?_
 rw [HA.out]
 rintro e w2 ⟨rfl, hb⟩
 have B2 := Aside0.mk (below_step BLg1.out hb)
 obtain ⟨-, -, -, -, -, q5, -⟩ := pc_cells (Pd.blk_below HBg1.out hb)
 have HR2 := Aside0.mk (Kd.C_below (Kd.C_below HR.out BLg1.out) hb)
 clear hb HBg1 BLg1
 go_wp2_with fail
 go_ret
 exact ⟨rfl, B2.out⟩
set_option maxRecDepth 100000 in
set_option maxHeartbeats 4000000 in
theorem asked_loop (p : Prod) (A1 : Option Addr) (c1 : Nat) (A2 : Option Addr) (c2 : Nat) (A3 : Option Addr) (c3 : Nat) (A : Option Addr) (l : List Int) (c : Nat) (m : Int) (w : World) (hp : ProdAt w p A1 c1 A2 c2 A3 c3) (hs : Held p) (hr : Kd.C (Kd.int .i64) w A l.length l) (hl : l.length ≤ 1000000) (ha : err p = 0) (b0 : Bool) (hb0 : b0 = decide ((l.length : Int) = p.times ∧ 1 ≤ m ∧ m ≤ 10000000000000)) : Calls Tryz.prog 51 #[pv p A1 c1 A2 c2 A3 c3, .slice A l.length c, .int .i64 m] w (AskP p l m w) := by
 have hx : askE p l m = if (b0 && fine l) = true then 0 else 1 := by
  unfold askE
  rw [ha, if_neg (by decide), hb0]
  by_cases h : (l.length : Int) = p.times ∧ 1 ≤ m ∧ m ≤ 10000000000000
  ·rw [decide_eq_true h, Bool.true_and]
   by_cases hf : fine l = true
   ·rw [if_pos hf, if_pos ⟨h.1, h.2.1, h.2.2, hf⟩]
   ·rw [if_neg hf, if_neg (fun x => hf x.2.2.2)]
  ·rw [decide_eq_false h, Bool.false_and, if_neg (fun x => h ⟨x.1, x.2.1, x.2.2.1⟩), if_neg (by decide)]
 unfold AskP
 obtain ⟨v, hv⟩ : ∃ v, (if (b0 && fine l) = true then (0 : Int) else 1) = v := ⟨_, rfl⟩
 rw [hx, hv]
 have HV := Aside0.mk hv
 have HB0 := Aside0.mk hb0
 clear hx hv hb0
 have HP := Aside0.mk hp
 have HS := Aside0.mk hs
 have HR := Aside0.mk hr
 have HA := Aside0.mk ha
 clear hp hs hr ha
 go_enter Tryz.func51, Tryz.ntmps51
 go_wp2_with (first
  | ((with_reducible refine gate_dst (N := 3) rfl ?_); refine box_event ?hg (N := 3) ?hd (cs := pcs p A1 c1 A2 c2 A3 c3) (t := 27) ?hr ?_; (case hd => rfl); (case hg => rfl); (case hr => first | (go_simp; done) | (go_simp; rfl)); intro g1 hg w1 hbg1 hblg1; have g1ge := (show w.heap.size ≤ g1 by rw [hg]; exact Nat.le_refl _); clear hg; have HBg1 := Aside0.mk hbg1; have BLg1 := Aside0.mk hblg1; clear hbg1 hblg1)
  | ((with_reducible refine gate_dst (N := 9) rfl ?_); refine wpList_load_row rfl 27 (.tmp 3) rfl g1 rfl 27 _ (0, 0) _ HBg1.out Tryz.underlying27 rfl info_prod ?_)
  | fail)
 refine (rcheck_any p A1 c1 A2 c2 A3 c3 _ (HP.out.below BLg1.out) HS.out).mono ?_
 rw [HA.out]
 rintro e w2 ⟨rfl, hb⟩
 have B2 := Aside0.mk (below_step BLg1.out hb)
 obtain ⟨-, -, -, -, -, q5, -⟩ := pc_cells (Pd.blk_below HBg1.out hb)
 have HR2 := Aside0.mk (Kd.C_below (Kd.C_below HR.out BLg1.out) hb)
 clear hb HBg1 BLg1
 have hcs : ((l.length : Int) == p.times) = false ∧ b0 = false ∨ ((l.length : Int) == p.times) = true ∧ m < 1 ∧ b0 = false ∨ ((l.length : Int) == p.times) = true ∧ 1 ≤ m ∧ 10000000000000 < m ∧ b0 = false ∨ ((l.length : Int) == p.times) = true ∧ 1 ≤ m ∧ m ≤ 10000000000000 ∧ b0 = true := by
  by_cases h : (l.length : Int) = p.times
  ·rcases (by omega : m < 1 ∨ (1 ≤ m ∧ 10000000000000 < m) ∨ (1 ≤ m ∧ m ≤ 10000000000000)) with h2 | ⟨h2, h3⟩ | ⟨h2, h3⟩
   ·exact .inr (.inl ⟨by simpa using h, h2, by rw [HB0.out]; exact decide_eq_false (by omega)⟩)
   ·exact .inr (.inr (.inl ⟨by simpa using h, h2, h3, by rw [HB0.out]; exact decide_eq_false (by omega)⟩))
   ·exact .inr (.inr (.inr ⟨by simpa using h, h2, h3, by rw [HB0.out]; exact decide_eq_true ⟨h, h2, h3⟩⟩))
  ·exact .inl ⟨by simpa using h, by rw [HB0.out]; exact decide_eq_false (fun x => h x.1)⟩
 clear HB0
 rcases hcs with ⟨h, hq⟩ | ⟨h, h2, hq⟩ | ⟨h, h2, h3, hq⟩ | ⟨h, h2, h3, hq⟩
 all_goals
  have HQ := Aside0.mk hq
  clear hq
  go_wp2_with fail
  clear h
  go_loopg [7, 8] (l.length + 1) (fun gq bv iv w' => ∃ (k : Nat) (b : Bool), k ≤ l.length ∧ bv = .bool b ∧ iv = .int .i64 (k : Int) ∧ Aside0 (gq = l.length + 1 - k) ∧ Aside0 ((if (b && fine (l.drop k)) = true then (0 : Int) else 1) = v) ∧ w' = w2)
  case atStart => exact ⟨0, b0, by omega, (by have hq := HQ.out; subst hq; first | rfl | (congr 1; exact decide_eq_false (by omega)) | (congr 1; exact decide_eq_true (by omega))), rfl, ⟨rfl⟩, ⟨by rw [List.drop_zero]; exact HV.out⟩, rfl⟩
  case round =>
   obtain ⟨k, b, hk, rfl, rfl, hgq, hv, rfl⟩ := hrel
   by_cases hlt : k < l.length
   ·obtain ⟨ad0, e0, hx0⟩ := Kd.at_int HR2.out (k : Int) (by omega) (by omega)
    cases e0
    simp only [Int.toNat_natCast] at hx0
    have hf := fine_drop hlt
    obtain ⟨d, hd⟩ : ∃ d, rd l (k : Int) = d := ⟨_, rfl⟩
    rw [hd] at hx0 hf
    have hv1 := hv.out
    rw [hf] at hv1
    cases b with
    | false =>
     rw [Bool.false_and] at hv1
     have HV1 := Aside0.mk (show (if (false && fine (l.drop (k + 1))) = true then (0 : Int) else 1) = v by rw [Bool.false_and]; exact hv1)
     clear hv1 hf hd hv
     go_wp2_with fail
     go_roundg (l.length + 1 - (k + 1))
     case measure => have := hgq.out; omega
     case rel => exact ⟨k + 1, false, by omega, (by first | rfl | (congr 1; exact decide_eq_false (by omega)) | (congr 1; exact decide_eq_true (by omega))), by simp, ⟨rfl⟩, ⟨HV1.out⟩, rfl⟩
    | true =>
     rw [Bool.true_and] at hv1
     rcases (by omega : d < 0 ∨ (0 ≤ d ∧ 267180 < d) ∨ (0 ≤ d ∧ d ≤ 267180)) with c0 | ⟨c0, c1⟩ | ⟨c0, c1⟩
     ·rw [decide_eq_false (by omega), Bool.false_and] at hv1
      have HV1 := Aside0.mk (show (if (false && fine (l.drop (k + 1))) = true then (0 : Int) else 1) = v by rw [Bool.false_and]; exact hv1)
      clear hv1 hf hd hv
      go_wp2_with fail
      go_roundg (l.length + 1 - (k + 1))
      case measure => have := hgq.out; omega
      case rel => exact ⟨k + 1, false, by omega, (by first | rfl | (congr 1; exact decide_eq_false (by omega)) | (congr 1; exact decide_eq_true (by omega))), by simp, ⟨rfl⟩, ⟨HV1.out⟩, rfl⟩
     ·rw [decide_eq_false (by omega), Bool.false_and] at hv1
      have HV1 := Aside0.mk (show (if (false && fine (l.drop (k + 1))) = true then (0 : Int) else 1) = v by rw [Bool.false_and]; exact hv1)
      clear hv1 hf hd hv
      go_wp2_with fail
      go_roundg (l.length + 1 - (k + 1))
      case measure => have := hgq.out; omega
      case rel => exact ⟨k + 1, false, by omega, (by first | rfl | (congr 1; exact decide_eq_false (by omega)) | (congr 1; exact decide_eq_true (by omega))), by simp, ⟨rfl⟩, ⟨HV1.out⟩, rfl⟩
     ·rw [decide_eq_true ⟨c0, c1⟩, Bool.true_and] at hv1
      have HV1 := Aside0.mk (show (if (true && fine (l.drop (k + 1))) = true then (0 : Int) else 1) = v by rw [Bool.true_and]; exact hv1)
      clear hv1 hf hd hv
      go_wp2_with fail
      go_roundg (l.length + 1 - (k + 1))
      case measure => have := hgq.out; omega
      case rel => exact ⟨k + 1, true, by omega, (by first | rfl | (congr 1; exact decide_eq_false (by omega)) | (congr 1; exact decide_eq_true (by omega))), by simp, ⟨rfl⟩, ⟨HV1.out⟩, rfl⟩
   ·have hv1 := hv.out
    rw [List.drop_of_length_le (by omega)] at hv1
    cases b with
    | false =>
     have HV1 := Aside0.mk (show (1 : Int) = v by simpa using hv1)
     clear hv1 hv
     go_wp2_with fail
     go_ret
     obtain rfl := HV1.out
     exact ⟨rfl, B2.out⟩
    | true =>
     have HV1 := Aside0.mk (show (0 : Int) = v by simpa [fine] using hv1)
     clear hv1 hv
     go_wp2_with fail
     go_ret
     obtain rfl := HV1.out
     exact ⟨rfl, B2.out⟩
theorem asked_any (p : Prod) (A1 : Option Addr) (c1 : Nat) (A2 : Option Addr) (c2 : Nat) (A3 : Option Addr) (c3 : Nat) (A : Option Addr) (l : List Int) (c : Nat) (m : Int) (w : World) (hp : ProdAt w p A1 c1 A2 c2 A3 c3) (hs : Held p) (hr : Kd.C (Kd.int .i64) w A l.length l) (hl : l.length ≤ 1000000) : Calls Tryz.prog 51 #[pv p A1 c1 A2 c2 A3 c3, .slice A l.length c, .int .i64 m] w (AskP p l m w) := by
 rcases err_two p with ha | ha
 ·exact asked_loop p A1 c1 A2 c2 A3 c3 A l c m w hp hs hr hl ha _ rfl
 ·exact asked_bad p A1 c1 A2 c2 A3 c3 A l c m w hp hs hr hl ha
set_option maxRecDepth 100000 in
set_option maxHeartbeats 4000000 in
theorem rwalk_any (p : Prod) (A1 : Option Addr) (c1 : Nat) (A2 : Option Addr) (c2 : Nat) (A3 : Option Addr) (c3 : Nat) (A : Option Addr) (l : List Int) (c : Nat) (m : Int) (x : Int) (w : World) (hc : 1 ≤ p.count ∧ p.count ≤ 3) (hrd : p.round = 1 ∨ p.round = 3) (hra : 0 ≤ p.rate ∧ p.rate ≤ 1000000000) (hgr : 0 ≤ p.grace ∧ p.grace ≤ 600) (hr : Kd.C (Kd.int .i64) w A l.length l) (hl : l.length ≤ 1000000) (hm0 : 1 ≤ m) (hm1 : m ≤ 10000000000000) (x0 : 0 ≤ x) (x1 : x ≤ 1000000000000000) :
  Calls Tryz.prog 52 #[pv p A1 c1 A2 c2 A3 c3, .slice A l.length c, .int .i64 m, .int .i64 x] w fun e w' => e = .returned (.int .i64 (wk (Gm.whole p.count) (Gm.half p.count p.round) p.rate p.grace x 0 l m 0)) ∧ Below w.heap.size w w' := by
 have HR := Aside0.mk hr
 obtain ⟨up, hup⟩ : ∃ up : Bool, p.round = 1 ∧ up = true ∨ p.round = 3 ∧ up = false := by
  rcases hrd with h | h
  ·exact ⟨true, .inl ⟨h, rfl⟩⟩
  ·exact ⟨false, .inr ⟨h, rfl⟩⟩
 have HN := Aside0.mk (fun W => rnew_any (c := p.count) (r := p.round) (up := up) (by omega) hup W)
 have GN := good_new p.count p.round
 have HH := Aside0.mk (show up = true ∧ Gm.whole p.count = 2 * Gm.half p.count p.round ∨ up = false ∧ Gm.half p.count p.round = 0 by
  rcases hup with ⟨h, h2⟩ | ⟨h, h2⟩
  ·rw [h]; exact .inl ⟨h2, (Gm.half_one p.count).symm⟩
  ·exact .inr ⟨h2, Gm.half_no (by omega)⟩)
 have HPW := Aside0.mk (show Gm.whole p.count = 1000000000 * Gm.gp p.count from rfl)
 have GPB := Aside0.mk (gp_bd p.count)
 obtain ⟨v, hv⟩ : ∃ v, wk (Gm.whole p.count) (Gm.half p.count p.round) p.rate p.grace x 0 l m 0 = v := ⟨_, rfl⟩
 rw [hv]
 have HV := Aside0.mk hv
 clear hr hc hrd hv hup
 obtain ⟨Wh, hWh⟩ : ∃ y, Gm.whole p.count = y := ⟨_, rfl⟩
 obtain ⟨Hf, hHf⟩ : ∃ y, Gm.half p.count p.round = y := ⟨_, rfl⟩
 obtain ⟨Pp, hPp⟩ : ∃ y, Gm.gp p.count = y := ⟨_, rfl⟩
 rw [hWh, hHf] at GN HV HH
 rw [hWh, hPp] at HPW
 rw [hPp] at GPB
 have HPp := Aside0.mk hPp
 clear hWh hHf hPp
 have GG := Aside0.mk GN
 have RB := Aside0.mk (fun (W : World) (gb : Nat) (bal rest n : Int) (G : H.Good Wh Hf rest) (RA : RefAt W gb Pp up rest) => rbear_any (bal := bal) (rate := p.rate) (n := n) RA GPB.out.1 GPB.out.2 HPW.out HH.out G)
 clear GN HH HPW GPB
 go_enter Tryz.func52, Tryz.ntmps52
 go_wp2_with ((with_reducible refine gate_dst (N := 4) rfl ?_); refine box_event ?hg (N := 4) ?hd (cs := pcs p A1 c1 A2 c2 A3 c3) (t := 27) ?hr ?_; (case hd => rfl); (case hg => rfl); (case hr => first | (go_simp; done) | (go_simp; rfl)); intro g1 hg w1 hbg1 hblg1; have g1ge := (show w.heap.size ≤ g1 by rw [hg]; exact Nat.le_refl _); clear hg; have HBg1 := Aside0.mk hbg1; have BLg1 := Aside0.mk hblg1; obtain ⟨-, u1, u2, -⟩ := pc_cells hbg1; clear hbg1 hblg1)
 refine (HN.out _).mono ?_
 rintro e w2 ⟨hb, gb, hgb, rfl, hba⟩
 rw [HPp.out] at hba
 have B2 := Aside0.mk (below_step BLg1.out hb)
 have hne : g1 ≠ gb := by have := blk_lt HBg1.out; omega
 have HB2 := Aside0.mk (Pd.blk_below HBg1.out hb)
 have gbge : w.heap.size ≤ gb := Nat.le_trans BLg1.out.size hgb
 have BA := Aside0.mk hba
 clear hb hgb hba HBg1 BLg1 u1 u2 HN HPp
 go_wp2_with fail
 go_loopg [11, 12] (l.length + 1) (fun gq bv iv w' => ∃ (k : Nat) (bal rest : Int), k ≤ l.length ∧ iv = .int .i64 (k : Int) ∧ bv = .int .i64 bal ∧ 0 < bal ∧ bal ≤ 1000000000000000 ∧ Aside0 (gq = l.length + 1 - k) ∧ Aside0 (wk Wh Hf p.rate p.grace x (k : Int) (l.drop k) bal rest = v) ∧ Aside0 (RefAt w' gb Pp up rest) ∧ Aside0 (H.Good Wh Hf rest) ∧ Aside0 (w'.heap[g1]? = some (.cells (pcs p A1 c1 A2 c2 A3 c3) 27 (0, 0))) ∧ Aside0 (Below w.heap.size w w'))
 case atStart => exact ⟨0, m, 0, by omega, rfl, rfl, by omega, by omega, ⟨rfl⟩, ⟨by rw [List.drop_zero]; exact HV.out⟩, BA, GG, HB2, B2⟩
 case round =>
  obtain ⟨k, bal, rest, hk, rfl, rfl, b0, b1, hgq, HW, BA, GG, HB, BB⟩ := hrel
  clear HV B2 HB2
  by_cases hlt : k < l.length
  ·obtain ⟨ad0, e0, hx0⟩ := Kd.at_int HR.out (k : Int) (by omega) (by omega)
   cases e0
   simp only [Int.toNat_natCast] at hx0
   have hx1 := (BB.out.cell (cell_ltR hx0)).trans hx0
   obtain ⟨-, -, -, -, -, -, -, u7, -⟩ := pc_cells HB.out
   have hd := drop_rd hlt
   have hw := HW.out
   rw [hd] at hw
   obtain ⟨d, hdd⟩ : ∃ d, rd l (k : Int) = d := ⟨_, rfl⟩
   rw [hdd] at hw hx1
   obtain ⟨z, hz⟩ : ∃ z, Gm.bear Wh Hf rest bal p.rate d = z := ⟨_, rfl⟩
   rw [wk_cons hz] at hw
   have zb := bear_bd (rate := p.rate) (n := d) GG.out b0 b1
   have G2 := good_bear (bal := bal) (rate := p.rate) (n := d) GG.out
   have RR := Aside0.mk (fun W RA => RB.out W gb bal rest d GG.out RA)
   rw [hz] at zb G2 RR
   have GG2 := Aside0.mk G2
   have HW2 := Aside0.mk hw
   have hadl : (ad0.add k).block < wr.heap.size := Nat.lt_of_lt_of_le (cell_ltR hx0) BB.out.size
   have hadn : (ad0.add k).block ≠ gb := by have := cell_ltR hx0; omega
   have HLT := Aside0.mk (blk_lt HB.out)
   clear hx0 hd hdd hz hw G2 HW
   obtain ⟨z1, z2, z3⟩ := z
   simp only [] at zb GG2 HW2
   have RA := Aside0.mk (BA.out.below (w1 := wr.drew) (Below.drew (Below.refl _ _)))
   have HADL := Aside0.mk hadl
   have HADN := Aside0.mk hadn
   have HNE := Aside0.mk hne
   clear hadl hadn
   go_wp2_with fail
   go_region_held3 (fun W => W.cell? ⟨g1, 7, none⟩ = some (.int .i64 p.rate) ∧ W.cell? (ad0.add k) = some (.int .i64 d)) (first | exact ⟨u7, hx1⟩ | go_keep) ((go_at_call 12; (with_reducible refine (RR.out _ RA.out).mono ?_); rintro e yy ⟨rfl, hba, hbut⟩; have u7 := (hbut.cell (p := ⟨g1, 7, none⟩) HLT.out HNE.out).trans u7; have hx1 := (hbut.cell (p := ad0.add k) HADL.out HADN.out).trans hx1))
   have BA3 := Aside0.mk hba
   have HB3 := Aside0.mk (show yy.heap[g1]? = some (.cells (pcs p A1 c1 A2 c2 A3 c3) 27 (0, 0)) from (hbut.block g1 HLT.out HNE.out).trans HB.out)
   have BB3 := Aside0.mk (But.below (Below.drew BB.out) (by first | exact BB.out.size | (simp; exact BB.out.size)) gbge hbut)
   obtain ⟨-, -, -, -, -, -, u6, -⟩ := pc_cells HB3.out
   clear hba hbut BA HB BB RR RA u7 hx1
   by_cases hz2 : z2 = 0
   ·subst hz2
    have hw := HW2.out
    rw [if_neg (by simp)] at hw
    by_cases hi : (k : Int) < p.grace
    ·rw [if_pos hi] at hw
     have HW3 := Aside0.mk hw
     clear hw HW2
     go_wp2_with fail
     go_roundg (l.length + 1 - (k + 1))
     case measure => have := hgq.out; omega
     case rel => exact ⟨k + 1, bal, z3, by omega, by simp, rfl, b0, b1, ⟨rfl⟩, ⟨by exact HW3.out⟩, BA3, GG2, HB3, BB3⟩
    ·rw [if_neg hi] at hw
     obtain ⟨nb, hnb⟩ : ∃ nb, bal + (z1 - x) = nb := ⟨_, rfl⟩
     rw [hnb] at hw
     have s1 : IntKind.i64.wrap (bal + z1) = bal + z1 := IntWalk.i64_in _ (by omega)
     have s2 : IntKind.i64.wrap (bal + z1 - x) = nb := by rw [← hnb, show bal + z1 - x = bal + (z1 - x) by omega]; exact IntWalk.i64_in _ (by omega)
     have nb1 : nb ≤ 2000000000000000 := by omega
     clear hnb HW2
     rcases (by omega : nb ≤ 0 ∨ (0 < nb ∧ 1000000000000000 < nb) ∨ (0 < nb ∧ nb ≤ 1000000000000000)) with h1 | ⟨h1, h2⟩ | ⟨h1, h2⟩
     ·rw [if_pos h1] at hw
      have HW3 := Aside0.mk hw
      clear hw
      go_wp2_with fail
      go_ret
      obtain rfl := HW3.out
      exact ⟨rfl, BB3.out⟩
     ·rw [if_neg (by omega), if_pos h2] at hw
      have HW3 := Aside0.mk hw
      clear hw
      go_wp2_with fail
      go_ret
      obtain rfl := HW3.out
      exact ⟨rfl, BB3.out⟩
     ·rw [if_neg (by omega), if_neg (by omega)] at hw
      have HW3 := Aside0.mk hw
      clear hw
      go_wp2_with fail
      go_roundg (l.length + 1 - (k + 1))
      case measure => have := hgq.out; omega
      case rel => exact ⟨k + 1, nb, z3, by omega, by simp, rfl, h1, h2, ⟨rfl⟩, ⟨by exact HW3.out⟩, BA3, GG2, HB3, BB3⟩
   ·have hw := HW2.out
    rw [if_pos hz2] at hw
    have HW3 := Aside0.mk hw
    have hzb : (z2 != 0) = true := by simpa using hz2
    clear hw hz2 HW2
    go_wp2_with fail
    go_ret
    obtain rfl := HW3.out
    exact ⟨rfl, BB3.out⟩
  ·have hw := HW.out
   rw [List.drop_of_length_le (by omega)] at hw
   have HW3 := Aside0.mk (show bal = v from hw)
   clear hw HW
   go_wp2_with fail
   go_ret
   obtain rfl := HW3.out
   exact ⟨rfl, BB.out⟩
end Go.Proofs.YtfmkdledofbhdaaGreat.Lv
/- Contracts by hand: the document's level: Left and Of. -/
namespace Go.Proofs.YtfmkdledofbhdaaGreat.Lv
open Go.RowKit Go.Proofs.YtfmkdledofbhdaaGreatW.PrintWords Go.Proofs.YtfmkdledofbhdaaGreatW.PrintLast Go.Proofs.YtfmkdledofbhdaaGreatW.PrintMore Go.Proofs.YtfmkdledofbhdaaGreat.HW
open Pm Pd
set_option linter.unusedVariables false
set_option linter.unusedSimpArgs false
open Go.Proofs.YtfmkdledofbhdaaGreat.H
def rofE (p : Prod) (l : List Int) (m : Int) : Int × Int := if askE p l m ≠ 0 then (0, askE p l m) else if 0 < lf p l m 1000000000000000 then (0, 10) else (rsrch (lf p l m) 50 0 1000000000000000, 0)
set_option maxRecDepth 100000 in
set_option maxHeartbeats 4000000 in
theorem rOf_any (p : Prod) (A1 : Option Addr) (c1 : Nat) (A2 : Option Addr) (c2 : Nat) (A3 : Option Addr) (c3 : Nat) (A : Option Addr) (l : List Int) (c : Nat) (m : Int) (w : World) (hp : ProdAt w p A1 c1 A2 c2 A3 c3) (hs : Held p) (hr : Kd.C (Kd.int .i64) w A l.length l) (hl : l.length ≤ 1000000) :
  Calls Tryz.prog 21 #[pv p A1 c1 A2 c2 A3 c3, .slice A l.length c, .int .i64 m] w (Two (rofE p l m) w) := by
 have MA := Aside0.mk (fun W (hb : Below w.heap.size w W) => asked_any p A1 c1 A2 c2 A3 c3 A l c m W (hp.below hb) hs (Kd.C_below hr hb) hl)
 have LE := Aside0.mk (fun (h : askE p l m = 0) (x : Int) (x0 : 0 ≤ x) (x1 : x ≤ 1000000000000000) W (hb : Below w.heap.size w W) => show Calls Tryz.prog 52 #[pv p A1 c1 A2 c2 A3 c3, .slice A l.length c, .int .i64 m, .int .i64 x] W fun e w' => e = .returned (.int .i64 (lf p l m x)) ∧ Below W.heap.size W w' from rwalk_any p A1 c1 A2 c2 A3 c3 A l c m x W (ask_known h).1 (ask_known h).2.1 (ask_known h).2.2.1 (ask_known h).2.2.2.1 (Kd.C_below hr hb) hl (ask_known h).2.2.2.2.1 (ask_known h).2.2.2.2.2 x0 x1)
 clear hp hs hr
 unfold Two
 obtain ⟨v, hv⟩ : ∃ v, rofE p l m = v := ⟨_, rfl⟩
 rw [hv]
 have HV := Aside0.mk hv
 clear hv
 go_enter Tryz.func21, Tryz.ntmps21
 go_wp2_with (first
  | ((with_reducible refine gate_dst (N := 3) rfl ?_); refine box_event ?hg (N := 3) ?hd (cs := pcs p A1 c1 A2 c2 A3 c3) (t := 27) ?hr ?_; (case hd => rfl); (case hg => rfl); (case hr => first | (go_simp; done) | (go_simp; rfl)); intro g1 hg w1 hbg1 hblg1; have g1ge := (show w.heap.size ≤ g1 by rw [hg]; exact Nat.le_refl _); clear hg; have HBg1 := Aside0.mk hbg1; have BLg1 := Aside0.mk hblg1; clear hbg1 hblg1)
  | ((with_reducible refine gate_dst (N := 12) rfl ?_); refine wpList_load_row rfl 27 (.tmp 3) rfl g1 rfl 27 _ (0, 0) _ HBg1.out Tryz.underlying27 rfl info_prod ?_)
  | fail)
 refine (MA.out _ BLg1.out).mono ?_
 rintro e w5 ⟨rfl, hb⟩
 have HB5 := Aside0.mk (Pd.blk_below HBg1.out hb)
 have B5 := Aside0.mk (below_step BLg1.out hb)
 clear hb HBg1 BLg1
 by_cases ha : askE p l m = 0
 ·have hx := HV.out
  unfold rofE at hx
  rw [if_neg (by rw [ha]; decide)] at hx
  have LL := Aside0.mk (LE.out ha)
  rw [ha]
  clear ha LE HV
  have L1 := Aside0.mk (LL.out 1000000000000000 (by decide) (by decide) w5 B5.out)
  generalize lf p l m = f at *
  obtain ⟨y, hy⟩ : ∃ y, f 1000000000000000 = y := ⟨_, rfl⟩
  rw [hy] at hx L1
  have HX := Aside0.mk hx
  clear hx hy
  go_wp2_with (first
  | ((with_reducible refine gate_dst (N := 19) rfl ?_); refine wpList_load_row rfl 27 (.tmp 3) rfl g1 rfl 27 _ (0, 0) _ HB5.out Tryz.underlying27 rfl info_prod ?_)
  | fail)
  refine L1.out.mono ?_
  rintro e w6 ⟨rfl, hb⟩
  have HB6 := Aside0.mk (Pd.blk_below HB5.out hb)
  have B6 := Aside0.mk (below_step B5.out hb)
  clear hb B5 HB5 L1
  by_cases hf : 0 < y
  ·have hx := HX.out
   rw [if_pos hf] at hx
   have HX2 := Aside0.mk hx
   clear hx HX
   go_wp2_with fail
   go_ret2
   obtain rfl := HX2.out
   exact ⟨rfl, B6.out⟩
  ·have hx := HX.out
   rw [if_neg hf] at hx
   obtain ⟨u, hu⟩ : ∃ u, rsrch f 50 0 1000000000000000 = u := ⟨_, rfl⟩
   rw [hu] at hx
   have HX2 := Aside0.mk hx
   have HU := Aside0.mk hu
   clear hx HX hu
   go_wp2_with fail
   clear hf
   go_loopg [9, 10] 50 (fun gq lv hv w' => ∃ (lo hi : Int), lv = .int .i64 lo ∧ hv = .int .i64 hi ∧ 0 ≤ lo ∧ lo ≤ hi ∧ hi ≤ 1000000000000000 ∧ Aside0 (hi - lo < 2 ^ gq) ∧ Aside0 (rsrch f gq lo hi = u) ∧ Aside0 (w'.heap[g1]? = some (.cells (pcs p A1 c1 A2 c2 A3 c3) 27 (0, 0))) ∧ Aside0 (Below w.heap.size w w'))
   case atStart => exact ⟨0, 1000000000000000, rfl, rfl, by decide, by decide, by decide, ⟨by decide⟩, HU, HB6, B6⟩
   case round =>
    obtain ⟨lo, hi, rfl, rfl, l0, l1, h1, hp, hs, HBB, BB⟩ := hrel
    clear HB6 B6 HU
    by_cases hc : lo < hi
    ·obtain ⟨j, hj⟩ : ∃ j, gk = j + 1 := by
      cases gk with
      | zero => have := hp.out; simp at this; omega
      | succ j => exact ⟨j, rfl⟩
     obtain ⟨dd, hdd⟩ : ∃ dd, hi - lo = dd := ⟨_, rfl⟩
     have s1 : IntKind.i64.wrap (hi - lo) = dd := by rw [← hdd]; exact IntWalk.i64_in _ (by omega)
     have hs1 := hs.out
     have hp1 := hp.out
     rw [hj, rsrch, hdd, if_pos hc] at hs1
     rw [hj, Int.pow_succ] at hp1
     obtain ⟨q, hq⟩ : ∃ q, Int.tdiv dd 2 = q := ⟨_, rfl⟩
     have hqd : q = dd / 2 := by rw [← hq]; exact Int.tdiv_eq_ediv_of_nonneg (by omega)
     rw [hq] at hs1
     obtain ⟨mid, hm⟩ : ∃ mid, lo + q = mid := ⟨_, rfl⟩
     rw [hm] at hs1
     have s2 : IntKind.i64.wrap (Int.tdiv dd 2) = q := by rw [hq]; exact IntWalk.i64_in _ (by omega)
     have s3 : IntKind.i64.wrap (lo + q) = mid := by rw [hm]; exact IntWalk.i64_in _ (by omega)
     have m0 : 0 ≤ mid := by omega
     have m1 : lo ≤ mid := by omega
     have m2 : mid < hi := by omega
     have p1 : mid - lo < 2 ^ j := by omega
     have p2 : hi - (mid + 1) < 2 ^ j := by omega
     have s4 : IntKind.i64.wrap (mid + 1) = mid + 1 := IntWalk.i64_in _ (by omega)
     have P1 := Aside0.mk p1
     have P2 := Aside0.mk p2
     have HJ := Aside0.mk hj
     have HS := Aside0.mk hs1
     have HL := Aside0.mk (LL.out mid m0 (by omega) wr BB.out)
     obtain ⟨y2, hy⟩ : ∃ y2, f mid = y2 := ⟨_, rfl⟩
     rw [hy] at HL HS
     clear hs hp hs1 hp1 hq hqd hm hdd p1 p2 hj hy
     go_wp2_with (first
  | ((with_reducible refine gate_dst (N := 34) rfl ?_); refine wpList_load_row rfl 27 (.tmp 3) rfl g1 rfl 27 _ (0, 0) _ HBB.out Tryz.underlying27 rfl info_prod ?_)
  | fail)
     refine HL.out.mono ?_
     rintro e w7 ⟨rfl, hb⟩
     have B7 := Aside0.mk (below_step BB.out hb)
     have HB7 := Aside0.mk (Pd.blk_below HBB.out hb)
     clear hb HL BB HBB
     by_cases hc2 : y2 ≤ 0
     ·have hs2 := HS.out
      rw [if_pos hc2] at hs2
      have HS2 := Aside0.mk hs2
      clear hs2 HS
      go_wp2_with fail
      go_roundg j
      case measure => have := HJ.out; omega
      case rel => exact ⟨lo, mid, rfl, rfl, l0, m1, by omega, P1, HS2, HB7, B7⟩
     ·have hs2 := HS.out
      rw [if_neg hc2] at hs2
      have HS2 := Aside0.mk hs2
      clear hs2 HS
      go_wp2_with fail
      go_roundg j
      case measure => have := HJ.out; omega
      case rel => exact ⟨mid + 1, hi, rfl, rfl, by omega, by omega, h1, P2, HS2, HB7, B7⟩
    ·have hs1 := hs.out
     have he : lo = u := by
      cases gk with
      | zero => exact hs1
      | succ j => rw [rsrch, if_neg hc] at hs1; exact hs1
     have HE := Aside0.mk he
     clear hs hs1 hp he
     go_wp2_with fail
     go_ret2
     obtain rfl := HX2.out
     obtain rfl := HE.out
     exact ⟨rfl, BB.out⟩
 ·have hx := HV.out
  unfold rofE at hx
  rw [if_pos ha] at hx
  obtain ⟨ae, hae⟩ : ∃ ae, askE p l m = ae := ⟨_, rfl⟩
  rw [hae] at ha hx ⊢
  have hn : (ae != 0) = true := by simpa using ha
  have HX := Aside0.mk hx
  clear hx HV ha hae LE
  go_wp2_with fail
  go_ret2
  obtain rfl := HX.out
  exact ⟨rfl, B5.out⟩
theorem lf_mono {p : Prod} {l : List Int} {m : Int} (h : askE p l m = 0) : (∀ x y, 0 ≤ x → x ≤ y → y ≤ 1000000000000000 → lf p l m x ≤ 0 → lf p l m y ≤ 0) ∧ 0 < lf p l m 0 := by
 obtain ⟨_, _, _, _, m0, m1⟩ := ask_known h
 have I : In (Gm.whole p.count) (Gm.half p.count p.round) 0 m := good_in (good_new p.count p.round) (by omega) (by omega)
 exact ⟨fun x y _ hxy _ h0 => wk_mono hxy l 0 m 0 m 0 I I (.inr ⟨rfl, Int.le_refl _⟩) (fun _ => .inr ⟨rfl, rfl⟩) h0, wk_zero l 0 m 0 I⟩
theorem of_rof (p : Prod) (l : List Int) (m : Int) : rofE p l m = ofE p l m := by
 unfold rofE ofE
 by_cases h : askE p l m = 0
 ·have hn : ¬ askE p l m ≠ 0 := by rw [h]; decide
  rw [if_neg hn, if_neg hn]
  by_cases h2 : 0 < lf p l m 1000000000000000
  ·rw [if_pos h2, if_pos h2]
  ·rw [if_neg h2, if_neg h2]
   obtain ⟨hm, hz⟩ := lf_mono h
   have a := srch_least (lf p l m) 50 0 1000000000000000 (by decide) (by decide) (by decide) (by decide) hz (by omega)
   have b := rsrch_least (lf p l m) hm 50 0 1000000000000000 (by decide) (by decide) (by decide) (by decide) (fun x h1 h2 => by omega) hz (by omega)
   rw [Least.uniq hm b a]
 ·rw [if_pos h, if_pos h]
end Go.Proofs.YtfmkdledofbhdaaGreat.Lv
/- Plain law of schedule: the lines of a loan, or why there are none. -/
namespace Go.Proofs.YtfmkdledofbhdaaGreat.Sc
open Go.RowKit Go.Proofs.YtfmkdledofbhdaaGreatW.PrintWords Go.Proofs.YtfmkdledofbhdaaGreatW.PrintLast Go.Proofs.YtfmkdledofbhdaaGreatW.PrintMore Go.Proofs.YtfmkdledofbhdaaGreat.HW
open Go.Proofs.YtfmkdledofbhdaaGreat.Math Go.Proofs.YtfmkdledofbhdaaGreat.H Go.Proofs.YtfmkdledofbhdaaGreat.Pd Go.Proofs.YtfmkdledofbhdaaGreat.Du Go.Proofs.YtfmkdledofbhdaaGreat.Lv Pm
set_option linter.unusedVariables false
set_option linter.unusedSimpArgs false
abbrev Ln := Int × Int × Int × Int
def prin (p : Prod) (m inst k v left : Int) : Int :=
 if k < p.grace then 0 else if k = p.times - 1 then left else if p.kind = 1 then min (inst - v) left else if p.kind = 2 then m / (p.times - p.grace) else 0
def lerr (p : Prod) (m inst k left : Int) (z : Int × Int × Int) : Int :=
 if z.2.1 ≠ 0 then 3 else if prin p m inst k z.1 left < 0 then 10
 else if p.kind = 1 ∧ k = p.times - 1 ∧ (p.times < prin p m inst k z.1 left + z.1 - inst ∨ p.times < -(prin p m inst k z.1 left + z.1 - inst)) then 10 else 0
def lines (p : Prod) (W h m inst : Int) : Int → List (Int × Int) → Int → Int → List Ln × Int
 | _, [], _, _ => ([], 0)
 | k, (d, n) :: r, left, rest =>
  if lerr p m inst k left (Gm.bear W h rest left p.rate n) ≠ 0 then ([], lerr p m inst k left (Gm.bear W h rest left p.rate n))
  else if (lines p W h m inst (k + 1) r (left - prin p m inst k (Gm.bear W h rest left p.rate n).1 left) (Gm.bear W h rest left p.rate n).2.2).2 = 0 then
   ((d, prin p m inst k (Gm.bear W h rest left p.rate n).1 left, (Gm.bear W h rest left p.rate n).1, left - prin p m inst k (Gm.bear W h rest left p.rate n).1 left) :: (lines p W h m inst (k + 1) r (left - prin p m inst k (Gm.bear W h rest left p.rate n).1 left) (Gm.bear W h rest left p.rate n).2.2).1, 0)
  else ([], (lines p W h m inst (k + 1) r (left - prin p m inst k (Gm.bear W h rest left p.rate n).1 left) (Gm.bear W h rest left p.rate n).2.2).2)
def join (pre : List Ln) (r : List Ln × Int) : List Ln × Int := if r.2 = 0 then (pre ++ r.1, 0) else ([], r.2)
theorem join_nil (r : List Ln × Int) (h : r.2 ≠ 0 → r.1 = []) : join [] r = r := by
 unfold join
 by_cases e : r.2 = 0
 ·rw [if_pos e]; exact Prod.ext (List.nil_append _) e.symm
 ·rw [if_neg e]; exact Prod.ext (h e).symm rfl
theorem lines_err (p : Prod) (W h m inst : Int) : ∀ (l : List (Int × Int)) (k left rest : Int), (lines p W h m inst k l left rest).2 ≠ 0 → (lines p W h m inst k l left rest).1 = []
 | [], k, left, rest, e => by simp [lines] at e
 | (d, n) :: r, k, left, rest, e => by
  rw [lines] at e ⊢
  split
  ·rfl
  ·rename_i h1
   rw [if_neg h1] at e
   split
   ·rename_i h2; rw [if_pos h2] at e; exact absurd rfl e
   ·rfl
theorem lines_cons {p : Prod} {W h m inst k left rest d n : Int} {r : List (Int × Int)} {z : Int × Int × Int} (hz : Gm.bear W h rest left p.rate n = z) (pre : List Ln) :
  join pre (lines p W h m inst k ((d, n) :: r) left rest) = if lerr p m inst k left z ≠ 0 then ([], lerr p m inst k left z) else join (pre ++ [(d, prin p m inst k z.1 left, z.1, left - prin p m inst k z.1 left)]) (lines p W h m inst (k + 1) r (left - prin p m inst k z.1 left) z.2.2) := by
 subst hz
 rw [lines]
 by_cases e : lerr p m inst k left (Gm.bear W h rest left p.rate n) ≠ 0
 ·rw [if_pos e, if_pos e, join, if_neg e]
 ·rw [if_neg e, if_neg e]
  by_cases e2 : (lines p W h m inst (k + 1) r (left - prin p m inst k (Gm.bear W h rest left p.rate n).1 left) (Gm.bear W h rest left p.rate n).2.2).2 = 0
  ·rw [if_pos e2, join, join, if_pos rfl, if_pos e2, List.append_assoc]; rfl
  ·rw [if_neg e2, join, join, if_neg e2, if_neg e2]
structure Mid (p : Prod) (m k left : Int) : Prop where
 l0 : 0 ≤ left
 l1 : left ≤ m
 eq : p.kind = 2 → k < p.times → left = m - (max 0 (k - p.grace)) * (m / (p.times - p.grace))
theorem part_bd {m n j : Int} (m0 : 0 ≤ m) (n0 : 1 ≤ n) (j0 : 0 ≤ j) (j1 : j ≤ n) : 0 ≤ m / n ∧ j * (m / n) ≤ m := by
 have a : 0 ≤ m / n := Int.ediv_nonneg m0 (by omega)
 have b : j * (m / n) ≤ n * (m / n) := Int.mul_le_mul_of_nonneg_right j1 a
 have c := Int.mul_ediv_self_le (x := m) (k := n) (by omega)
 exact ⟨a, by omega⟩
theorem prin_bd {p : Prod} {m inst k v left : Int} (M : Mid p m k left) (m0 : 0 ≤ m) (g0 : 0 ≤ p.grace) (gt : p.grace < p.times) (k0 : 0 ≤ k) (k1 : k < p.times) :
  prin p m inst k v left ≤ left ∧ (p.kind ≠ 1 → 0 ≤ prin p m inst k v left) ∧ (0 ≤ prin p m inst k v left → Mid p m (k + 1) (left - prin p m inst k v left)) := by
 obtain ⟨l0, l1, eq⟩ := M
 unfold prin
 by_cases h1 : k < p.grace
 ·rw [if_pos h1]
  refine ⟨l0, fun _ => Int.le_refl _, fun _ => ⟨by omega, by omega, fun h hk => ?_⟩⟩
  have := eq h k1
  rw [show max 0 (k - p.grace) = 0 by omega] at this
  rw [show max 0 (k + 1 - p.grace) = 0 by omega]
  omega
 ·rw [if_neg h1]
  by_cases h2 : k = p.times - 1
  ·rw [if_pos h2]
   exact ⟨Int.le_refl _, fun _ => l0, fun _ => ⟨by omega, by omega, fun h hk => by omega⟩⟩
  ·rw [if_neg h2]
   by_cases h3 : p.kind = 1
   ·rw [if_pos h3]
    exact ⟨by omega, fun h => absurd h3 h, fun _ => ⟨by omega, by omega, fun h _ => by omega⟩⟩
   ·rw [if_neg h3]
    by_cases h4 : p.kind = 2
    ·rw [if_pos h4]
     have e := eq h4 k1
     rw [show max 0 (k - p.grace) = k - p.grace by omega] at e
     obtain ⟨b1, b2⟩ := part_bd (m := m) (n := p.times - p.grace) (j := k - p.grace + 1) m0 (by omega) (by omega) (by omega)
     rw [Int.add_mul, Int.one_mul] at b2
     refine ⟨by omega, fun _ => b1, fun _ => ⟨by omega, by omega, fun _ _ => ?_⟩⟩
     rw [show max 0 (k + 1 - p.grace) = k - p.grace + 1 by omega, Int.add_mul, Int.one_mul]
     omega
    ·rw [if_neg h4]
     exact ⟨l0, fun _ => Int.le_refl _, fun _ => ⟨by omega, by omega, fun h _ => absurd h h4⟩⟩
end Go.Proofs.YtfmkdledofbhdaaGreat.Sc
/- Plain law of schedule: which errors there are; the whole of it. -/
namespace Go.Proofs.YtfmkdledofbhdaaGreat.Sc
open Go.RowKit Go.Proofs.YtfmkdledofbhdaaGreatW.PrintWords Go.Proofs.YtfmkdledofbhdaaGreatW.PrintLast Go.Proofs.YtfmkdledofbhdaaGreatW.PrintMore Go.Proofs.YtfmkdledofbhdaaGreat.HW
open Go.Proofs.YtfmkdledofbhdaaGreat.Math Go.Proofs.YtfmkdledofbhdaaGreat.H Go.Proofs.YtfmkdledofbhdaaGreat.Pd Go.Proofs.YtfmkdledofbhdaaGreat.Du Go.Proofs.YtfmkdledofbhdaaGreat.Lv Pm
set_option linter.unusedVariables false
set_option linter.unusedSimpArgs false
theorem place_may {c a b : Int} (hc : c = 1 ∨ c = 2 ∨ c = 3) (ha : isDay a) (hb : isDay b) (h : a ≤ b) : 0 ≤ place c b - place c a ∧ place c b - place c a ≤ 53436000 := by
 obtain ⟨p1, p2⟩ := id ha
 obtain ⟨q1, q2⟩ := id hb
 obtain ⟨y1, y2, m1, m2, d1, d2⟩ := date_bd ha
 obtain ⟨y3, y4, m3, m4, d3, d4⟩ := date_bd hb
 unfold place
 rcases hc with rfl | rfl | rfl
 ·simp only [if_true]
  have := thirty_le ha hb h
  unfold thirty at this ⊢
  rw [if_pos ha, if_pos hb] at this ⊢
  omega
 ·simp only [show ¬ ((2 : Int) = 1) by decide, if_false, if_true]; omega
 ·simp only [show ¬ ((3 : Int) = 1) by decide, show ¬ ((3 : Int) = 2) by decide, if_false]
  have hbb : isDay (a + ((b - a).toNat : Int)) := by rw [show a + ((b - a).toNat : Int) = b by omega]; exact hb
  have u := actual_most (b - a).toNat ha hbb
  have v := actual_up (b - a).toNat ha hbb
  rw [show a + ((b - a).toNat : Int) = b by omega] at u v
  omega
theorem parts_may {c : Int} (hc : c = 1 ∨ c = 2 ∨ c = 3) : ∀ (l : List Int) (s : Int), isDay s → (∀ d ∈ l, isDay d) → rise s l = true → ∀ n ∈ rpartsL c s l, 0 ≤ n ∧ n ≤ 53436000
 | [], s, _, _, _, n, hn => by simp [rpartsL] at hn
 | d :: r, s, hs, hd, hr, n, hn => by
  rw [rise, Bool.and_eq_true] at hr
  obtain ⟨r1, r2⟩ := hr
  have r1 := of_decide_eq_true r1
  have hdd := hd d (by simp)
  rw [rpartsL, between_ok hc hs hdd] at hn
  rcases List.mem_cons.1 hn with rfl | hn
  ·exact place_may hc hs hdd (by omega)
  ·exact parts_may hc r d hdd (fun x hx => hd x (by simp [hx])) r2 n hn
theorem bear_code {W h rest bal rate n : Int} (hm : Gm.may bal rate n) : (Gm.bear W h rest bal rate n).2.1 = 0 ∨ (Gm.bear W h rest bal rate n).2.1 = 3 := by
 rw [bear_eq, if_pos hm]
 split
 ·exact .inl rfl
 ·exact .inr rfl
def rerr (p : Prod) (m inst k left : Int) (z : Int × Int × Int) : Int :=
 if z.2.1 ≠ 0 then z.2.1 else if p.kind = 1 ∧ ((k = p.times - 1 ∧ (p.times < left + z.1 - inst ∨ p.times < -(left + z.1 - inst))) ∨ (k ≠ p.times - 1 ∧ p.grace ≤ k ∧ min left (inst - z.1) < 0)) then 10 else 0
theorem rerr_is {p : Prod} {m inst k left : Int} {z : Int × Int × Int} (hz : z.2.1 = 0 ∨ z.2.1 = 3) (M : Mid p m k left) (m0 : 0 ≤ m) (g0 : 0 ≤ p.grace) (gt : p.grace < p.times) (k0 : 0 ≤ k) (k1 : k < p.times) :
  rerr p m inst k left z = lerr p m inst k left z := by
 obtain ⟨b1, b2, _⟩ := prin_bd (inst := inst) (v := z.1) M m0 g0 gt k0 k1
 unfold rerr lerr
 rcases hz with hz | hz
 ·have hn : ¬ z.2.1 ≠ 0 := by rw [hz]; decide
  rw [if_neg hn, if_neg hn]
  by_cases h1 : p.kind = 1
  ·by_cases h2 : k = p.times - 1
   ·have e : prin p m inst k z.1 left = left := by unfold prin; rw [if_neg (by omega), if_pos h2]
    have l0 := M.l0
    rw [e, if_neg (show ¬ left < 0 by omega)]
    by_cases h3 : p.times < left + z.1 - inst ∨ p.times < -(left + z.1 - inst)
    ·rw [if_pos ⟨h1, .inl ⟨h2, h3⟩⟩, if_pos ⟨h1, h2, h3⟩]
    ·rw [if_neg (by rintro ⟨_, ⟨_, g⟩ | ⟨g, _⟩⟩ <;> contradiction), if_neg (by rintro ⟨_, _, g⟩; contradiction)]
   ·rw [if_neg (show ¬ (p.kind = 1 ∧ k = p.times - 1 ∧ _) from fun g => h2 g.2.1)]
    by_cases h4 : p.grace ≤ k
    ·have e : prin p m inst k z.1 left = min (inst - z.1) left := by unfold prin; rw [if_neg (by omega), if_neg h2, if_pos h1]
     rw [e]
     by_cases h5 : min (inst - z.1) left < 0
     ·rw [if_pos h5, if_pos ⟨h1, .inr ⟨h2, h4, by omega⟩⟩]
     ·rw [if_neg h5, if_neg (by rintro ⟨_, ⟨g, _⟩ | ⟨_, _, g⟩⟩; exact h2 g; omega)]
    ·have e : prin p m inst k z.1 left = 0 := by unfold prin; rw [if_pos (by omega)]
     rw [e, if_neg (by omega), if_neg (by rintro ⟨_, ⟨g, _⟩ | ⟨_, g, _⟩⟩ <;> first | exact h2 g | exact h4 g)]
  ·have := b2 h1
   rw [if_neg (fun g => h1 g.1), if_neg (by omega), if_neg (fun g => h1 g.1)]
 ·have hn : z.2.1 ≠ 0 := by rw [hz]; decide
  rw [if_pos hn, if_pos hn, hz]
def linesP (p : Prod) (start m inst : Int) : List Ln × Int := lines p (Gm.whole p.count) (Gm.half p.count p.round) m inst 0 ((daysP p start).1.zip (partsP p start).1) m 0
def schedP (p : Prod) (start m : Int) : List Ln × Int :=
 if (daysP p start).2 ≠ 0 then ([], (daysP p start).2)
 else if ¬ (1 ≤ m ∧ m ≤ 10000000000000) then ([], 16)
 else if p.kind = 1 then (if (ofE p (partsP p start).1 m).2 ≠ 0 then ([], (ofE p (partsP p start).1 m).2) else linesP p start m (ofE p (partsP p start).1 m).1)
 else linesP p start m 0
end Go.Proofs.YtfmkdledofbhdaaGreat.Sc
/- Contracts by hand: schedule: the principal part of an instalment. -/
namespace Go.Proofs.YtfmkdledofbhdaaGreat.Sc
open Go.RowKit Go.Proofs.YtfmkdledofbhdaaGreatW.PrintWords Go.Proofs.YtfmkdledofbhdaaGreatW.PrintLast Go.Proofs.YtfmkdledofbhdaaGreatW.PrintMore Go.Proofs.YtfmkdledofbhdaaGreat.HW
open Go.Proofs.YtfmkdledofbhdaaGreat.Math Go.Proofs.YtfmkdledofbhdaaGreat.H Go.Proofs.YtfmkdledofbhdaaGreat.Pd Go.Proofs.YtfmkdledofbhdaaGreat.Du Go.Proofs.YtfmkdledofbhdaaGreat.Lv Pm
set_option linter.unusedVariables false
set_option linter.unusedSimpArgs false
attribute [local go_sem] max2_int min2_int max_two min_two
abbrev mcs (p : Prod) (A1 : Option Addr) (c1 : Nat) (A2 : Option Addr) (c2 : Nat) (A3 : Option Addr) (c3 : Nat) (m inst left : Int) (b : Value) : Array Value := #[.string p.name, .int .i64 p.count, .int .i64 p.round, .int .i64 p.kind, .int .i64 p.every, .int .i64 p.times, .int .i64 p.grace, .int .i64 p.rate, .slice A1 p.resets.length c1, .int .i64 p.penalty, .int .i64 p.o1, .int .i64 p.o2, .int .i64 p.o3, .int .i64 p.o4, .int .i64 p.over, .slice A2 p.late.length c2, .int .i64 p.cap, .int .i64 p.roll, .slice A3 p.hol.length c3, .int .i64 m, .int .i64 inst, .int .i64 left, b]
theorem mk_cells {p : Prod} {A1 : Option Addr} {c1 : Nat} {A2 : Option Addr} {c2 : Nat} {A3 : Option Addr} {c3 : Nat} {m inst left : Int} {b : Value} {w : World} {g : Nat} {t : TypeId} (h : w.heap[g]? = some (.cells (mcs p A1 c1 A2 c2 A3 c3 m inst left b) t (0, 0))) :
  w.cell? ⟨g, 3, none⟩ = some (.int .i64 p.kind) ∧ w.cell? ⟨g, 5, none⟩ = some (.int .i64 p.times) ∧ w.cell? ⟨g, 6, none⟩ = some (.int .i64 p.grace) ∧ w.cell? ⟨g, 7, none⟩ = some (.int .i64 p.rate) ∧ w.cell? ⟨g, 19, none⟩ = some (.int .i64 m) ∧ w.cell? ⟨g, 20, none⟩ = some (.int .i64 inst) ∧ w.cell? ⟨g, 21, none⟩ = some (.int .i64 left) ∧ w.cell? ⟨g, 22, none⟩ = some b :=
 ⟨(blk_cell h 3).trans rfl, (blk_cell h 5).trans rfl, (blk_cell h 6).trans rfl, (blk_cell h 7).trans rfl, (blk_cell h 19).trans rfl, (blk_cell h 20).trans rfl, (blk_cell h 21).trans rfl, (blk_cell h 22).trans rfl⟩
set_option maxRecDepth 100000 in
set_option maxHeartbeats 4000000 in
theorem principal_any (p : Prod) (A1 : Option Addr) (c1 : Nat) (A2 : Option Addr) (c2 : Nat) (A3 : Option Addr) (c3 : Nat) (m inst left : Int) (b : Value) (k v : Int) (w : World) (g : Nat) (hb : w.heap[g]? = some (.cells (mcs p A1 c1 A2 c2 A3 c3 m inst left b) 56 (0, 0))) (g0 : 0 ≤ p.grace) (g1 : p.grace < p.times) (t1 : p.times ≤ 600) (k0 : 0 ≤ k) (k1 : k < p.times) (m0 : 0 ≤ m) (m1 : m ≤ 10000000000000) (i0 : 0 ≤ inst) (i1 : inst ≤ 1000000000000000) (v0 : 0 ≤ v) (v1 : v ≤ 1000000000000000) (l0 : 0 ≤ left) (l1 : left ≤ 10000000000000) :
  Calls Tryz.prog 48 #[.pointer (some ⟨g, 0, none⟩), .int .i64 k, .int .i64 v] w fun e w' => e = .returned (.int .i64 (prin p m inst k v left)) ∧ Drawn0 w w' := by
 obtain ⟨q3, q5, q6, -, q19, q20, q21, -⟩ := mk_cells hb
 have st : IntKind.i64.wrap (p.times - 1) = p.times - 1 := IntWalk.i64_in _ (by omega)
 obtain ⟨pr, hpr⟩ : ∃ x, prin p m inst k v left = x := ⟨_, rfl⟩
 rw [hpr]
 unfold prin at hpr
 clear hb
 by_cases h1 : k < p.grace
 ·rw [if_pos h1] at hpr
  have HP := Aside0.mk hpr
  clear hpr
  go_enter Tryz.func48, Tryz.ntmps48
  go_wp2_with fail
  go_ret
  obtain rfl := HP.out
  exact ⟨rfl, Drawn0.refl _⟩
 ·rw [if_neg h1] at hpr
  by_cases h2 : k = p.times - 1
  ·rw [if_pos h2] at hpr
   have hq : (k == p.times - 1) = true := by simpa using h2
   have HP := Aside0.mk hpr
   clear hpr h2
   go_enter Tryz.func48, Tryz.ntmps48
   go_wp2_with fail
   go_ret
   obtain rfl := HP.out
   exact ⟨rfl, Drawn0.refl _⟩
  ·rw [if_neg h2] at hpr
   have hq : (k == p.times - 1) = false := by simpa using h2
   clear h2
   by_cases h3 : p.kind = 1
   ·rw [if_pos h3] at hpr
    have hk : (p.kind == 1) = true := by simpa using h3
    have si : IntKind.i64.wrap (inst - v) = inst - v := IntWalk.i64_in _ (by omega)
    have hm : (if left < inst - v then left else inst - v) = pr := by rw [← hpr]; split <;> omega
    clear hpr h3
    go_enter Tryz.func48, Tryz.ntmps48
    go_wp2_with fail
    go_region_held3 (fun W => W.cell? ⟨g, 20, none⟩ = some (.int .i64 inst) ∧ W.cell? ⟨g, 21, none⟩ = some (.int .i64 left)) (first | exact ⟨q20, q21⟩ | go_keep) (fail)
    go_wp2_with fail
    go_ret
    exact ⟨by first | rfl | (rw [← hm]), ⟨_, rfl⟩⟩
   ·rw [if_neg h3] at hpr
    have hk : (p.kind == 1) = false := by simpa using h3
    clear h3
    by_cases h4 : p.kind = 2
    ·rw [if_pos h4] at hpr
     have hk2 : (p.kind == 2) = true := by simpa using h4
     obtain ⟨N, hN⟩ : ∃ N, p.times - p.grace = N := ⟨_, rfl⟩
     rw [hN] at hpr
     have sN : IntKind.i64.wrap (p.times - p.grace) = N := by rw [hN]; exact IntWalk.i64_in _ (by omega)
     have n1 : 1 ≤ N := by omega
     have nz : (N == 0) = false := by simp; omega
     have nz3 : ¬ N = 0 := by omega
     have nm : (N == -1) = false := by simp; omega
     have p0 : 0 ≤ pr := by rw [← hpr]; exact Int.ediv_nonneg m0 (by omega)
     have p1 : pr ≤ m := by rw [← hpr]; exact Int.ediv_le_self _ m0
     have sd : IntKind.i64.wrap (Int.tdiv m N) = pr := by rw [Int.tdiv_eq_ediv_of_nonneg m0, hpr]; exact IntWalk.i64_in _ (by omega)
     clear hpr h4 hN
     go_enter Tryz.func48, Tryz.ntmps48
     go_wp2_with fail
     go_region_held3 (fun W => W.cell? ⟨g, 19, none⟩ = some (.int .i64 m) ∧ W.cell? ⟨g, 5, none⟩ = some (.int .i64 p.times) ∧ W.cell? ⟨g, 6, none⟩ = some (.int .i64 p.grace)) (first | exact ⟨q19, q5, q6⟩ | go_keep) (fail)
     go_wp2_with fail
     go_ret
     exact ⟨rfl, ⟨_, rfl⟩⟩
    ·rw [if_neg h4] at hpr
     have hk2 : (p.kind == 2) = false := by simpa using h4
     have HP := Aside0.mk hpr
     clear hpr h4
     go_enter Tryz.func48, Tryz.ntmps48
     go_wp2_with fail
     go_ret
     obtain rfl := HP.out
     exact ⟨rfl, Drawn0.refl _⟩
end Go.Proofs.YtfmkdledofbhdaaGreat.Sc
/- Contracts by hand: schedule: one line. -/
namespace Go.Proofs.YtfmkdledofbhdaaGreat.Sc
open Go.RowKit Go.Proofs.YtfmkdledofbhdaaGreatW.PrintWords Go.Proofs.YtfmkdledofbhdaaGreatW.PrintLast Go.Proofs.YtfmkdledofbhdaaGreatW.PrintMore Go.Proofs.YtfmkdledofbhdaaGreat.HW
open Go.Proofs.YtfmkdledofbhdaaGreat.Math Go.Proofs.YtfmkdledofbhdaaGreat.H Go.Proofs.YtfmkdledofbhdaaGreat.Pd Go.Proofs.YtfmkdledofbhdaaGreat.Du Go.Proofs.YtfmkdledofbhdaaGreat.Lv Pm
set_option linter.unusedVariables false
set_option linter.unusedSimpArgs false
attribute [local go_sem] max2_int min2_int max_two min_two
theorem info_line : (Tryz.prog.info? 38).map (·.size) = some 4 := by kernel_rfl
theorem line_one (a b c d : Int) : (#[Value.int .i64 a, .int .i64 b, .int .i64 c, .int .i64 d]).all (·.oneCell') = true := by simp [Value.oneCell']
theorem built_line0 : Tryz.prog.built 38 [] = some #[.int .i64 0, .int .i64 0, .int .i64 0, .int .i64 0] := by kernel_rfl
theorem built_line (a b c d : Int) : Tryz.prog.built 38 [(0, .int .i64 a), (1, .int .i64 b), (2, .int .i64 c), (3, .int .i64 d)] = some #[.int .i64 a, .int .i64 b, .int .i64 c, .int .i64 d] := by kernel_rfl
theorem results_cell_tmp {P : Program} {fn : Func} {p q : Tmp} {ty : TypeId} (h : fn.results = #[.cell p ty, .tmp q]) (tmps : Array Value) (w : World) (g : Nat) (t : TypeId) (cs : Array Value) (d : TypeDesc)
  (hp : tmps.getD p undef = .pointer (some ⟨g, 0, none⟩)) (hg : w.heap[g]? = some (.cells cs t (0, 0)))
  (hu : P.underlying ty = some d) (hd : (match d with | .struct _ | .array _ _ => true | _ => false) = true) (hi : (P.info? ty).map (·.size) = some cs.size) :
  (results fn tmps).run P w = .ok (.tuple #[.agg cs, tmps.getD q undef]) w := by
 have hp' : tmps[p]?.getD undef = .pointer (some ⟨g, 0, none⟩) := by simpa using hp
 simp [results, h, hp', asAddr, run_loadVar_row w g t ty cs (0, 0) d hg hu hd hi]
structure But2 (a b : Nat) (w w' : World) : Prop where
 os : w'.os = w.os
 tape : w'.tape = w.tape
 output : w'.output = w.output
 size : w.heap.size ≤ w'.heap.size
 block : ∀ k, k < w.heap.size → k ≠ a → k ≠ b → w'.heap[k]? = w.heap[k]?
theorem But2.of {a b : Nat} {w w' : World} (h : Below w.heap.size w w') : But2 a b w w' := ⟨h.os, h.tape, h.output, h.size, fun k hk _ _ => h.block k hk⟩
theorem But2.below {a b : Nat} {w w1 w2 : World} (h : But2 a b w w1) (hb : Below w1.heap.size w1 w2) : But2 a b w w2 :=
 ⟨hb.os.trans h.os, hb.tape.trans h.tape, hb.output.trans h.output, Nat.le_trans h.size hb.size, fun k hk h1 h2 => (hb.block k (Nat.lt_of_lt_of_le hk h.size)).trans (h.block k hk h1 h2)⟩
theorem But2.but {a b g : Nat} {w w1 w2 : World} (h : But2 a b w w1) (hb : H.But g w1 w2) (hg : g = a ∨ g = b ∨ w.heap.size ≤ g) : But2 a b w w2 :=
 ⟨hb.os.trans h.os, hb.tape.trans h.tape, hb.output.trans h.output, Nat.le_trans h.size hb.size, fun k hk h1 h2 => (hb.block k (Nat.lt_of_lt_of_le hk h.size) (by rcases hg with rfl | rfl | hg; exact h1; exact h2; omega)).trans (h.block k hk h1 h2)⟩
def Lined (p : Prod) (A1 : Option Addr) (c1 : Nat) (A2 : Option Addr) (c2 : Nat) (A3 : Option Addr) (c3 : Nat) (m inst left : Int) (W h : Int) (gm gb : Nat) (k d : Int) (z : Int × Int × Int) (w : World) (e : Ending) (w' : World) : Prop :=
 But2 gm gb w w' ∧ ∃ v, e = .returned (.tuple #[.agg v, .int .i64 (lerr p m inst k left z)]) ∧
  (lerr p m inst k left z = 0 → v = #[.int .i64 d, .int .i64 (prin p m inst k z.1 left), .int .i64 z.1, .int .i64 (left - prin p m inst k z.1 left)] ∧ w'.heap[gm]? = some (.cells (mcs p A1 c1 A2 c2 A3 c3 m inst (left - prin p m inst k z.1 left) (.pointer (some ⟨gb, 0, none⟩))) 56 (0, 0)) ∧ BearAt w' gb W h z.2.2) ∧ (lerr p m inst k left z ≠ 0 → v = #[.int .i64 0, .int .i64 0, .int .i64 0, .int .i64 0])
theorem bear_bdL {W h rest bal rate n : Int} (G : H.Good W h rest) (b0 : 0 ≤ bal) (b1 : bal ≤ 1000000000000000) : 0 ≤ (Gm.bear W h rest bal rate n).1 ∧ (Gm.bear W h rest bal rate n).1 ≤ 1000000000000000 := by
 rw [bear_eq]
 split
 ·rename_i hm
  split
  ·rename_i hq
   exact ⟨(Gm.step (W := W) (h := h) (rest := rest) (x := bal * rate * n) (by have := G.w0; omega) (Int.mul_nonneg (Int.mul_nonneg hm.1 hm.2.2.1) hm.2.2.2.2.1) G.r0).1, hq⟩
  ·simp
 ·simp
set_option maxRecDepth 100000 in
set_option maxHeartbeats 8000000 in
theorem line_any (p : Prod) (A1 : Option Addr) (c1 : Nat) (A2 : Option Addr) (c2 : Nat) (A3 : Option Addr) (c3 : Nat) (m inst left W h rest n k d : Int) (gm gb : Nat) (w : World) (z : Int × Int × Int) (hz : Gm.bear W h rest left p.rate n = z) (A : BearAt w gb W h rest) (G : H.Good W h rest) (hm : w.heap[gm]? = some (.cells (mcs p A1 c1 A2 c2 A3 c3 m inst left (.pointer (some ⟨gb, 0, none⟩))) 56 (0, 0))) (hne : gm ≠ gb) (MM : Mid p m k left) (g0 : 0 ≤ p.grace) (g1 : p.grace < p.times) (t1 : p.times ≤ 600) (k0 : 0 ≤ k) (k1 : k < p.times) (m0 : 0 ≤ m) (m1 : m ≤ 10000000000000) (i0 : 0 ≤ inst) (i1 : inst ≤ 1000000000000000) (hk : p.kind = 1 ∨ p.kind = 2 ∨ p.kind = 3) :
  Calls Tryz.prog 19 #[.pointer (some ⟨gm, 0, none⟩), .int .i64 k, .int .i64 d, .int .i64 n] w (Lined p A1 c1 A2 c2 A3 c3 m inst left W h gm gb k d z w) := by
 have l0 := MM.l0
 have l1 : left ≤ 10000000000000 := by have := MM.l1; omega
 have RB := Aside0.mk (fun (U : World) (A : BearAt U gb W h rest) => bear_any (bal := left) (rate := p.rate) (n := n) A G)
 rw [hz] at RB
 obtain ⟨z1, z2, z3⟩ := z
 have zb := bear_bdL (rate := p.rate) (n := n) G l0 (show left ≤ 1000000000000000 by omega)
 rw [hz] at zb
 simp only [] at zb
 obtain ⟨pr, hpr⟩ : ∃ x, prin p m inst k z1 left = x := ⟨_, rfl⟩
 have PA := Aside0.mk (fun (U : World) (hU : U.heap[gm]? = some (.cells (mcs p A1 c1 A2 c2 A3 c3 m inst left (.pointer (some ⟨gb, 0, none⟩))) 56 (0, 0))) => show Calls Tryz.prog 48 #[.pointer (some ⟨gm, 0, none⟩), .int .i64 k, .int .i64 z1] U fun e w' => e = .returned (.int .i64 pr) ∧ Below U.heap.size U w' from by have := principal_any p A1 c1 A2 c2 A3 c3 m inst left (.pointer (some ⟨gb, 0, none⟩)) k z1 U gm hU g0 g1 t1 k0 k1 m0 m1 i0 i1 zb.1 zb.2 l0 l1; rw [hpr] at this; exact this.mono fun e w' h => ⟨h.1, h.2.below⟩)
 obtain ⟨p1, p2, p3⟩ := prin_bd (inst := inst) (v := z1) MM m0 g0 g1 k0 k1
 rw [hpr] at p1 p2
 have BA0 := Aside0.mk A
 have GM0 := Aside0.mk hm
 have gmlt := blk_lt hm
 have gblt := A.lt
 have st : IntKind.i64.wrap (p.times - 1) = p.times - 1 := IntWalk.i64_in _ (by omega)
 have NE := Aside0.mk hne
 clear A hm G MM p3
 go_enter Tryz.func19, Tryz.ntmps19
 go_wp2_with ((with_reducible refine gate_dst (N := 8) rfl ?_); refine box_event ?hg (N := 8) ?hd (cs := #[.int .i64 0, .int .i64 0, .int .i64 0, .int .i64 0]) (t := 38) ?hr ?_; (case hd => rfl); (case hg => rfl); (case hr => first | (go_simp; done) | (go_simp; rfl)); intro g8 hg w1 hb1 hbl1; have g8ge := (show w.heap.size ≤ g8 by rw [hg]; exact Nat.le_refl _); clear hg; have G8 := Aside0.mk hb1; have BT := Aside0.mk (But2.of (a := gm) (b := gb) hbl1); have GM := Aside0.mk (Pd.blk_below GM0.out hbl1); have BA := Aside0.mk ((BA0.out.below hbl1).below (w1 := w1.drew) (Below.drew (Below.refl _ _))); clear hb1 hbl1; obtain ⟨-, -, -, q7, -, q20, q21, q22⟩ := mk_cells GM.out)
 have g8ne : g8 ≠ gb := by omega
 have g8m : g8 ≠ gm := by omega
 have gmlt1 : gm < w1.heap.size := blk_lt GM.out
 have L8 := Aside0.mk (blk_lt G8.out)
 have LM := Aside0.mk gmlt1
 go_region_held3 (fun U => U.cell? ⟨gm, 22, none⟩ = some (.pointer (some ⟨gb, 0, none⟩)) ∧ U.cell? ⟨gm, 21, none⟩ = some (.int .i64 left) ∧ U.cell? ⟨gm, 7, none⟩ = some (.int .i64 p.rate)) (first | exact ⟨q22, q21, q7⟩ | go_keep) ((go_at_call 47; (with_reducible refine (RB.out _ BA.out).mono ?_); rintro e yy ⟨rfl, hba, hbut⟩; have q22 := (hbut.cell (p := ⟨gm, 22, none⟩) LM.out NE.out).trans q22; have q21 := (hbut.cell (p := ⟨gm, 21, none⟩) LM.out NE.out).trans q21; have q7 := (hbut.cell (p := ⟨gm, 7, none⟩) LM.out NE.out).trans q7))
 have BA := Aside0.mk hba
 have GM := Aside0.mk ((hbut.block gm LM.out NE.out).trans GM.out)
 have G8 := Aside0.mk ((hbut.block g8 L8.out g8ne).trans G8.out)
 have BT := Aside0.mk ((BT.out.below (Below.drew (Below.refl _ _))).but hbut (.inr (.inl rfl)))
 clear hba hbut q22 q7 gmlt1 LM L8
 by_cases hz2 : z2 = 0
 ·subst hz2
  by_cases hn : pr < 0
  ·have hL : lerr p m inst k left (z1, 0, z3) = 10 := by unfold lerr; rw [if_neg (fun h => h rfl)]; simp only []; rw [hpr, if_pos hn]
   have HL := Aside0.mk hL
   clear hL
   go_wp2_with (first
    | ((go_at_call 48; (with_reducible refine (PA.out _ GM.out).mono ?_); rintro e w5 ⟨rfl, hb⟩; have GM := Aside0.mk (Pd.blk_below GM.out hb); have G8 := Aside0.mk (Pd.blk_below G8.out hb); have BT := Aside0.mk (BT.out.below hb); have BA := Aside0.mk (BA.out.below hb); clear hb; obtain ⟨q3, q5, -, -, -, q20, q21, -⟩ := mk_cells GM.out; have f21 := frozen_of_row w5 gm 21 _ _ GM.out))
    | ((with_reducible refine gate_dst (N := 41) rfl ?_); refine build_event rfl (t := 38) rfl (cs := #[.int .i64 0, .int .i64 0, .int .i64 0, .int .i64 0]) ?hb ?_; (case hb => simp only [List.map_toArray, List.map_cons, List.map_nil]; exact built_line0))
    | ((with_reducible refine gate_store (t := 38) (p := 8) rfl ?_); refine row_event rfl (t := 38) (p := 8) (v := .tmp 41) rfl rfl (g := g8) (cs := #[.int .i64 0, .int .i64 0, .int .i64 0, .int .i64 0]) (zs := #[.int .i64 0, .int .i64 0, .int .i64 0, .int .i64 0]) rfl rfl G8.out info_line rfl (line_one 0 0 0 0) ?_; intro w9 hb8 hbut; have G8 := Aside0.mk hb8; have BT := Aside0.mk (BT.out.but hbut (.inr (.inr g8ge))); clear hb8 hbut))
   exact bodyPost_ret (v := .tuple #[.agg #[.int .i64 0, .int .i64 0, .int .i64 0, .int .i64 0], .int .i64 10]) (results_cell_tmp (g := g8) (cs := #[.int .i64 0, .int .i64 0, .int .i64 0, .int .i64 0]) Tryz.results19 _ _ _ _ rfl G8.out Tryz.underlying38 rfl info_line) rfl ⟨BT.out, _, by rw [HL.out], fun h => by rw [HL.out] at h; exact absurd h (by decide), fun _ => rfl⟩
  ·have s1 : IntKind.i64.wrap (pr + z1) = pr + z1 := IntWalk.i64_in _ (by omega)
   obtain ⟨ap, hap⟩ : ∃ x, pr + z1 - inst = x := ⟨_, rfl⟩
   have s2 : IntKind.i64.wrap (pr + z1 - inst) = ap := by rw [hap]; exact IntWalk.i64_in _ (by omega)
   have s3 : IntKind.i64.wrap (left - pr) = left - pr := IntWalk.i64_in _ (by omega)
   have s4 : IntKind.i64.wrap (-ap) = -ap := IntWalk.i64_in _ (by omega)
   obtain ⟨mx, hmx⟩ : ∃ x, (if ap < -ap then -ap else ap) = x := ⟨_, rfl⟩
   have hmx2 : mx = ap ∧ 0 ≤ ap ∨ mx = -ap ∧ ap < 0 := by rw [← hmx]; split <;> omega
   have hL0 : lerr p m inst k left (z1, 0, z3) = if p.kind = 1 ∧ k = p.times - 1 ∧ (p.times < ap ∨ p.times < -ap) then 10 else 0 := by
    unfold lerr
    rw [if_neg (fun h => h rfl)]
    simp only []
    rw [hpr, if_neg hn, hap]
   by_cases hbad : p.kind = 1 ∧ k = p.times - 1 ∧ (p.times < ap ∨ p.times < -ap)
   ·rw [if_pos hbad] at hL0
    obtain ⟨e1, e2, e3⟩ := hbad
    have hk1 : (p.kind == 1) = true := by simpa using e1
    have hq : (k == p.times - 1) = true := by simpa using e2
    have hmt : p.times < mx := by omega
    have HL := Aside0.mk hL0
    clear hap hmx2 e1 e2 e3 hpr hL0 hk
    go_wp2_with (first
     | ((go_at_call 48; (with_reducible refine (PA.out _ GM.out).mono ?_); rintro e w5 ⟨rfl, hb⟩; have GM := Aside0.mk (Pd.blk_below GM.out hb); have G8 := Aside0.mk (Pd.blk_below G8.out hb); have BT := Aside0.mk (BT.out.below hb); have BA := Aside0.mk (BA.out.below hb); clear hb; obtain ⟨q3, q5, -, -, -, q20, q21, -⟩ := mk_cells GM.out; have f21 := frozen_of_row w5 gm 21 _ _ GM.out))
     | ((with_reducible refine gate_dst (N := 78) rfl ?_); refine build_event rfl (t := 38) rfl (cs := #[.int .i64 0, .int .i64 0, .int .i64 0, .int .i64 0]) ?hb ?_; (case hb => simp only [List.map_toArray, List.map_cons, List.map_nil]; exact built_line0))
     | ((with_reducible refine gate_store (t := 38) (p := 8) rfl ?_); refine row_event rfl (t := 38) (p := 8) (v := .tmp 78) rfl rfl (g := g8) (cs := #[.int .i64 0, .int .i64 0, .int .i64 0, .int .i64 0]) (zs := #[.int .i64 0, .int .i64 0, .int .i64 0, .int .i64 0]) rfl rfl G8.out info_line rfl (line_one 0 0 0 0) ?_; intro w9 hb8 hbut; have G8 := Aside0.mk hb8; have BT := Aside0.mk (BT.out.but hbut (.inr (.inr g8ge))); clear hb8 hbut))
    exact bodyPost_ret (v := .tuple #[.agg #[.int .i64 0, .int .i64 0, .int .i64 0, .int .i64 0], .int .i64 10]) (results_cell_tmp (g := g8) (cs := #[.int .i64 0, .int .i64 0, .int .i64 0, .int .i64 0]) Tryz.results19 _ _ _ _ rfl G8.out Tryz.underlying38 rfl info_line) rfl ⟨BT.out, _, by rw [HL.out], fun h => by rw [HL.out] at h; exact absurd h (by decide), fun _ => rfl⟩
   ·rw [if_neg hbad] at hL0
    have HPR := Aside0.mk hpr
    have HL := Aside0.mk hL0
    have hcs : (p.kind == 1) = false ∨ ((p.kind == 1) = true ∧ (k == p.times - 1) = false) ∨ ((p.kind == 1) = true ∧ (k == p.times - 1) = true ∧ mx ≤ p.times) := by
     by_cases e1 : p.kind = 1
     ·by_cases e2 : k = p.times - 1
      ·exact .inr (.inr ⟨by simpa using e1, by simpa using e2, by have : ¬ (p.times < ap ∨ p.times < -ap) := fun g => hbad ⟨e1, e2, g⟩; omega⟩)
      ·exact .inr (.inl ⟨by simpa using e1, by simpa using e2⟩)
     ·exact .inl (by simpa using e1)
    clear hap hmx2 hpr hL0 hbad hk
    rcases hcs with e1 | ⟨e1, e2⟩ | ⟨e1, e2, e3⟩
    all_goals
     go_wp2_with (first
      | ((go_at_call 48; (with_reducible refine (PA.out _ GM.out).mono ?_); rintro e w5 ⟨rfl, hb⟩; have GM := Aside0.mk (Pd.blk_below GM.out hb); have G8 := Aside0.mk (Pd.blk_below G8.out hb); have BT := Aside0.mk (BT.out.below hb); have BA := Aside0.mk (BA.out.below hb); clear hb; obtain ⟨q3, q5, -, -, -, q20, q21, -⟩ := mk_cells GM.out; have f21 := frozen_of_row w5 gm 21 _ _ GM.out))
      | ((with_reducible refine gate_store (t := 2) (p := 86) rfl ?_); refine put_event rfl (t := 2) (p := 86) (v := .tmp 84) rfl rfl (g := gm) (i := 21) (cs := mcs p A1 c1 A2 c2 A3 c3 m inst left (.pointer (some ⟨gb, 0, none⟩))) (cs' := mcs p A1 c1 A2 c2 A3 c3 m inst (left - pr) (.pointer (some ⟨gb, 0, none⟩))) (x := .int .i64 (left - pr)) ?hr GM.out ?hc ?_; (case hc => rfl); (case hr => go_simp); intro w8 hb8 hbut; have GM := Aside0.mk hb8; have G8 := Aside0.mk ((hbut.block g8 (blk_lt G8.out) g8m).trans G8.out); have BA := Aside0.mk (BA.out.but hbut (Ne.symm NE.out)); have BT := Aside0.mk (BT.out.but hbut (.inl rfl)); have q21 : w8.cell? ⟨gm, 21, none⟩ = some (.int .i64 (left - pr)) := (blk_cell GM.out 21).trans rfl; clear hb8 hbut)
      | ((with_reducible refine gate_dst (N := 94) rfl ?_); refine build_event rfl (t := 38) rfl (cs := #[.int .i64 d, .int .i64 pr, .int .i64 z1, .int .i64 (left - pr)]) ?hb ?_; (case hb => simp only [List.map_toArray, List.map_cons, List.map_nil]; exact built_line d pr z1 (left - pr)))
      | ((with_reducible refine gate_store (t := 38) (p := 8) rfl ?_); refine row_event rfl (t := 38) (p := 8) (v := .tmp 94) rfl rfl (g := g8) (cs := #[.int .i64 d, .int .i64 pr, .int .i64 z1, .int .i64 (left - pr)]) (zs := #[.int .i64 0, .int .i64 0, .int .i64 0, .int .i64 0]) rfl rfl G8.out info_line rfl (line_one _ _ _ _) ?_; intro w9 hb8 hbut; have G8 := Aside0.mk hb8; have GM := Aside0.mk ((hbut.block gm (blk_lt GM.out) (Ne.symm g8m)).trans GM.out); have BA := Aside0.mk (BA.out.but hbut (Ne.symm g8ne)); have BT := Aside0.mk (BT.out.but hbut (.inr (.inr g8ge))); clear hb8 hbut))
     exact bodyPost_ret (v := .tuple #[.agg #[.int .i64 d, .int .i64 pr, .int .i64 z1, .int .i64 (left - pr)], .int .i64 0]) (results_cell_tmp (g := g8) (cs := #[.int .i64 d, .int .i64 pr, .int .i64 z1, .int .i64 (left - pr)]) Tryz.results19 _ _ _ _ rfl G8.out Tryz.underlying38 rfl info_line) rfl ⟨BT.out, _, by rw [HL.out], fun _ => ⟨by simp only []; rw [HPR.out], by simp only []; rw [HPR.out]; exact GM.out, BA.out⟩, fun h => absurd HL.out h⟩
 ·have hL : lerr p m inst k left (z1, z2, z3) = 3 := by unfold lerr; rw [if_pos (by simpa using hz2)]
  have hzb : (z2 != 0) = true := by simpa using hz2
  have HL := Aside0.mk hL
  clear hz2 hL
  go_wp2_with (first
   | ((with_reducible refine gate_dst (N := 34) rfl ?_); refine build_event rfl (t := 38) rfl (cs := #[.int .i64 0, .int .i64 0, .int .i64 0, .int .i64 0]) ?hb ?_; (case hb => simp only [List.map_toArray, List.map_cons, List.map_nil]; exact built_line0))
   | ((with_reducible refine gate_store (t := 38) (p := 8) rfl ?_); refine row_event rfl (t := 38) (p := 8) (v := .tmp 34) rfl rfl (g := g8) (cs := #[.int .i64 0, .int .i64 0, .int .i64 0, .int .i64 0]) (zs := #[.int .i64 0, .int .i64 0, .int .i64 0, .int .i64 0]) rfl rfl G8.out info_line rfl (line_one 0 0 0 0) ?_; intro w9 hb8 hbut; have G8 := Aside0.mk hb8; have BT := Aside0.mk (BT.out.but hbut (.inr (.inr g8ge))); clear hb8 hbut))
  exact bodyPost_ret (v := .tuple #[.agg #[.int .i64 0, .int .i64 0, .int .i64 0, .int .i64 0], .int .i64 3]) (results_cell_tmp (g := g8) (cs := #[.int .i64 0, .int .i64 0, .int .i64 0, .int .i64 0]) Tryz.results19 _ _ _ _ rfl G8.out Tryz.underlying38 rfl info_line) rfl ⟨BT.out, _, by rw [HL.out], fun h => by rw [HL.out] at h; exact absurd h (by decide), fun _ => rfl⟩
end Go.Proofs.YtfmkdledofbhdaaGreat.Sc
/- Plain law of schedule: what holds of lines that are there. -/
namespace Go.Proofs.YtfmkdledofbhdaaGreat.Sc
open Go.RowKit Go.Proofs.YtfmkdledofbhdaaGreatW.PrintWords Go.Proofs.YtfmkdledofbhdaaGreatW.PrintLast Go.Proofs.YtfmkdledofbhdaaGreatW.PrintMore Go.Proofs.YtfmkdledofbhdaaGreat.HW
open Go.Proofs.YtfmkdledofbhdaaGreat.Math Go.Proofs.YtfmkdledofbhdaaGreat.H Go.Proofs.YtfmkdledofbhdaaGreat.Pd Go.Proofs.YtfmkdledofbhdaaGreat.Du Go.Proofs.YtfmkdledofbhdaaGreat.Lv Pm
set_option linter.unusedVariables false
set_option linter.unusedSimpArgs false
def Chain (p : Prod) (W h m inst : Int) : Int → Int → Int → List (Int × Int) → List Ln → Prop
 | k, left, rest, [], [] => True
 | k, left, rest, (d, n) :: r, x :: t =>
  (Gm.bear W h rest left p.rate n).2.1 = 0 ∧ lerr p m inst k left (Gm.bear W h rest left p.rate n) = 0 ∧ x.1 = d ∧ x.2.1 = prin p m inst k (Gm.bear W h rest left p.rate n).1 left ∧ x.2.2.1 = (Gm.bear W h rest left p.rate n).1 ∧ x.2.2.2 = left - x.2.1 ∧ 0 ≤ x.2.1 ∧
   Chain p W h m inst (k + 1) x.2.2.2 (Gm.bear W h rest left p.rate n).2.2 r t
 | _, _, _, _, _ => False
theorem lerr_zero {p : Prod} {m inst k left : Int} {z : Int × Int × Int} (h : lerr p m inst k left z = 0) : z.2.1 = 0 ∧ 0 ≤ prin p m inst k z.1 left ∧ (p.kind = 1 → k = p.times - 1 → prin p m inst k z.1 left + z.1 - inst ≤ p.times ∧ -(prin p m inst k z.1 left + z.1 - inst) ≤ p.times) := by
 unfold lerr at h
 split at h
 ·simp at h
 ·rename_i h1
  split at h
  ·simp at h
  ·rename_i h2
   split at h
   ·simp at h
   ·rename_i h3
    exact ⟨by simpa using h1, by omega, fun a b => by
     have : ¬ (p.times < prin p m inst k z.1 left + z.1 - inst ∨ p.times < -(prin p m inst k z.1 left + z.1 - inst)) := fun g => h3 ⟨a, b, g⟩
     omega⟩
theorem lines_chain {p : Prod} {W h m inst : Int} : ∀ (l : List (Int × Int)) (k left rest : Int) (ls : List Ln), lines p W h m inst k l left rest = (ls, 0) → Chain p W h m inst k left rest l ls
 | [], k, left, rest, ls, e => by
  rw [lines] at e
  obtain ⟨rfl, -⟩ := Prod.mk.inj e
  trivial
 | (d, n) :: r, k, left, rest, ls, e => by
  rw [lines] at e
  split at e
  ·rename_i h1
   exact absurd (congrArg Prod.snd e) h1
  ·rename_i h1
   have h1 : lerr p m inst k left (Gm.bear W h rest left p.rate n) = 0 := by simpa using h1
   split at e
   ·rename_i h2
    obtain ⟨rfl, -⟩ := Prod.mk.inj e
    obtain ⟨z0, pr, _⟩ := lerr_zero h1
    exact ⟨z0, h1, rfl, rfl, rfl, rfl, pr, lines_chain r _ _ _ _ (Prod.ext rfl h2)⟩
   ·rename_i h2
    exact absurd (congrArg Prod.snd e) h2
theorem chain_len {p : Prod} {W h m inst : Int} : ∀ (l : List (Int × Int)) (k left rest : Int) (ls : List Ln), Chain p W h m inst k left rest l ls → ls.length = l.length
 | [], k, left, rest, [], c => rfl
 | [], k, left, rest, x :: t, c => by simp [Chain] at c
 | y :: r, k, left, rest, [], c => by simp [Chain] at c
 | (d, n) :: r, k, left, rest, x :: t, c => by
  obtain ⟨_, _, _, _, _, _, _, c⟩ := c
  simp [chain_len r _ _ _ t c]
def looks (p : Prod) : Int → Int → Int → List Ln → Prop
 | k, left, day, [] => left = 0
 | k, left, day, x :: t => x.2.2.2 = left - x.2.1 ∧ 0 ≤ x.2.1 ∧ 0 ≤ x.2.2.1 ∧ 0 ≤ x.2.2.2 ∧ (k < p.grace → x.2.1 = 0) ∧ day < x.1 ∧ looks p (k + 1) x.2.2.2 x.1 t
theorem chain_looks {p : Prod} {m inst : Int} {W h : Int} (m0 : 0 ≤ m) (m1 : m ≤ 10000000000000) (g0 : 0 ≤ p.grace) (gt : p.grace < p.times) : ∀ (l : List (Int × Int)) (k left rest day : Int) (ls : List Ln), H.Good W h rest → Chain p W h m inst k left rest l ls → Mid p m k left → 0 ≤ k → k + l.length = p.times → 0 < l.length ∨ left = 0 → rise day (l.map (·.1)) = true → looks p k left day ls
 | [], k, left, rest, day, [], G, c, M, k0, kl, hn, hr => by
  rcases hn with h | h
  ·simp at h
  ·exact h
 | [], k, left, rest, day, x :: t, G, c, M, k0, kl, hn, hr => by simp [Chain] at c
 | y :: r, k, left, rest, day, [], G, c, M, k0, kl, hn, hr => by simp [Chain] at c
 | (d, n) :: r, k, left, rest, day, x :: t, G, c, M, k0, kl, hn, hr => by
  obtain ⟨c1, c2, c3, c4, c5, c6, c7, c8⟩ := c
  simp only [List.length_cons] at kl
  have kt : k < p.times := by omega
  obtain ⟨p1, p2, p3⟩ := prin_bd (inst := inst) (v := (Gm.bear W h rest left p.rate n).1) M m0 g0 gt k0 kt
  rw [List.map_cons, rise, Bool.and_eq_true] at hr
  obtain ⟨r1, r2⟩ := hr
  have r1 := of_decide_eq_true r1
  have M2 := p3 (by omega)
  rw [← c4, ← c6] at M2
  obtain ⟨hm, hq, he⟩ := bear_ok c1
  have v0 : 0 ≤ (Gm.bear W h rest left p.rate n).1 := by
   rw [he]
   exact (Gm.step (W := W) (h := h) (rest := rest) (x := left * p.rate * n) (by have := G.w0; omega) (Int.mul_nonneg (Int.mul_nonneg hm.1 hm.2.2.1) hm.2.2.2.2.1) G.r0).1
  refine ⟨c6, c7, by omega, M2.l0, fun hk => ?_, by omega, ?_⟩
  ·rw [c4]; unfold prin; rw [if_pos hk]
  ·refine chain_looks m0 m1 g0 gt r (k + 1) x.2.2.2 _ x.1 t (good_bear G) c8 M2 (by omega) (by omega) ?_ (by rw [c3]; exact r2)
   rcases (by omega : 0 < r.length ∨ r.length = 0) with h1 | h1
   ·exact .inl h1
   ·right
    have kk : k = p.times - 1 := by omega
    rw [c6, c4]
    unfold prin
    rw [if_neg (by omega), if_pos kk]
    omega
end Go.Proofs.YtfmkdledofbhdaaGreat.Sc
/- Arguments opened: a product. -/
namespace Go.Proofs.YtfmkdledofbhdaaGreat.Pd
open Go.ChangeShapes Go.WideShapes Go.Deep Go.RowKit Go.Joins Go.ChangeAt Go.Proofs.YtfmkdledofbhdaaGreatW.PrintWords Go.Proofs.YtfmkdledofbhdaaGreat.Op
open Pm
set_option linter.unusedVariables false
set_option linter.unusedSimpArgs false
set_option linter.constructorNameAsVariable false
section
variable {H : Type} {enc : TypeId × Value → H} {P : Program} {w : World} {base : Nat} {spare : Nat → Bool} {held : Bool}
theorem open_rowsC {t e : TypeId} {fs : Array Field} {fuel : Nat} {x : Value} {y : DataW H × List MemPlace} (ht : P.underlying t = some (.slice e)) (he : P.underlying e = some (.struct fs))
  (hone : oneCellFields P fs = true) (hC : P.cellsOf e = fs.size) (hint : ∀ (j : Nat) (f : Field), fs[j]? = some f → P.underlying f.type = some (.int .i64)) (h : DataW.trod enc P w base spare held fuel t [x] = some y) :
  ∃ (A : Option Addr) (cap : Nat) (rows : List (List Int)), x = .slice A rows.length cap ∧ (A = none → cap = 0) ∧ rows.length ≤ cap ∧ cap ≤ maxLen ∧ IntRows w A fs.size rows := by
 have hx : ∃ A0 n0 c0, x = .slice A0 n0 c0 := by
  rcases open_slice ht h with ⟨h0, _⟩ | ⟨a, len, cap, m, n, D, Pl, h0, _⟩
  ·simp at h0; exact ⟨_, _, _, h0⟩
  ·simp at h0; exact ⟨_, _, _, h0⟩
 obtain ⟨A0, n0, c0, rfl⟩ := hx
 have hf : DataW.trod enc P w base spare held fuel t (Value.slice A0 n0 c0).cells.toList = some y := h
 rcases open_slice ht hf with ⟨h0, _⟩ | ⟨a, len, cap, m, n, D, Pl, hcs, hb, hl, hm, hmm, hx, hi⟩
 ·simp [Value.cells] at h0
  obtain ⟨rfl, rfl, rfl⟩ := h0
  exact ⟨none, 0, [], rfl, fun _ => rfl, Nat.le_refl _, Nat.zero_le _, fun r hr => by simp at hr, fun i r h => by simp at h⟩
 ·simp [Value.cells] at hcs
  obtain ⟨rfl, rfl, rfl⟩ := hcs
  have hlm : n0 ≤ m := by rw [hmm]; split <;> omega
  obtain ⟨rows, hrl, hrows⟩ := list_of (P := fun i (r : List Int) => (r.length = fs.size ∧ ∀ x ∈ r, (Lit.int .i64 x).wf = true) ∧ ∀ (j : Nat) (x : Int), r[j]? = some x → w.cell? (a.add (i * fs.size + j)) = some (.int .i64 x)) n0 (fun i hin => by
   obtain ⟨cs', hc, ht'⟩ := hi i (by omega)
   rw [hC] at hc
   obtain ⟨ys, n', hn', hy, hlen, hyl, hfl⟩ := DataW.trod_struct he ht'
   obtain ⟨_, hcl, hat⟩ := World.cells?_some hc
   obtain ⟨r, hr1, hr2⟩ := list_of (P := fun j (x : Int) => w.cell? (a.add (i * fs.size + j)) = some (.int .i64 x) ∧ (Lit.int .i64 x).wf = true) fs.size (fun j hj => by
    obtain ⟨f, hfj⟩ : ∃ f, fs[j]? = some f := ⟨_, Array.getElem?_eq_getElem hj⟩
    obtain ⟨ho, hk⟩ := hone_of' hone j f hfj
    have h1 := hfl j f hfj
    rw [ho, hk] at h1
    have hone' : (cs'.drop j).take 1 = [cs'[j]'(by omega)] := by
     rw [List.drop_eq_getElem_cons (by omega)]
     rfl
    rw [hone'] at h1
    have hys : ys[j]? = some (ys[j]'(by omega)) := List.getElem?_eq_getElem (by omega)
    rw [hys] at h1
    obtain ⟨x, hx1, _, hx3⟩ := DataW.trod_int (hint j f hfj) h1
    simp at hx1
    refine ⟨x, ?_, hx3⟩
    rw [← Go.Deep.add_add, hat j hj, List.getElem?_eq_getElem (by omega), hx1])
   exact ⟨r, ⟨hr1, fun x hx => by
    obtain ⟨j, hj, rfl⟩ := List.getElem_of_mem hx
    exact (hr2 j _ (List.getElem?_eq_getElem hj)).2⟩, fun j x hj => (hr2 j x hj).1⟩)
  subst hrl
  refine ⟨some a, c0, rows, rfl, (fun h => by cases h), hl, hm, fun r hr => ?_, fun i r hi => ⟨a, rfl, (hrows i r hi).2⟩⟩
  obtain ⟨i, hi2, rfl⟩ := List.getElem_of_mem hr
  exact (hrows i _ (List.getElem?_eq_getElem hi2)).1
theorem open_intsC {t e : TypeId} {fuel : Nat} {x : Value} {y : DataW H × List MemPlace} (ht : P.underlying t = some (.slice e)) (he : P.underlying e = some (.int .i64)) (hc : P.cellsOf e = 1) (h : DataW.trod enc P w base (fun _ => true) held fuel t [x] = some y) :
  ∃ (A : Option Addr) (cap : Nat) (l : List Int), x = .slice A l.length cap ∧ (A = none → cap = 0) ∧ l.length ≤ cap ∧ cap ≤ maxLen ∧ Kd.C (Kd.int .i64) w A l.length l := by
 rcases open_ints ht he hc h with ⟨hcs, _⟩ | ⟨a, len, cap, zs, hcs, _, hl, hm, hz, _, hcell, hwz⟩
 ·simp at hcs
  exact ⟨none, 0, [], hcs, fun _ => rfl, Nat.le_refl _, Nat.zero_le _, Kd.C_nil _ w⟩
 ·simp at hcs
  have hz' : zs.length = cap := by simpa using hz
  have hlen : (zs.take len).length = len := by rw [List.length_take]; omega
  refine ⟨some a, cap, zs.take len, by rw [hlen]; exact hcs, (fun h => by cases h), by omega, hm, ?_⟩
  refine Kd.C_of_reads (d := (0 : Int)) ⟨rfl, by unfold maxLen at hm; omega, fun _ => ⟨a, rfl, fun j hj => ?_⟩⟩
  rw [hlen] at hj
  rw [hcell j (by omega)]
  congr 2
  rw [List.getD_eq_getElem?_getD, List.getD_eq_getElem?_getD, List.getElem?_take]
  simp [hj]
theorem arr19 {cs : Array Value} (h : cs.size = 19) : ∃ v0 v1 v2 v3 v4 v5 v6 v7 v8 v9 v10 v11 v12 v13 v14 v15 v16 v17 v18, cs = #[v0, v1, v2, v3, v4, v5, v6, v7, v8, v9, v10, v11, v12, v13, v14, v15, v16, v17, v18] := by
 obtain ⟨l⟩ := cs
 match l, h with
 | [v0, v1, v2, v3, v4, v5, v6, v7, v8, v9, v10, v11, v12, v13, v14, v15, v16, v17, v18], _ => exact ⟨v0, v1, v2, v3, v4, v5, v6, v7, v8, v9, v10, v11, v12, v13, v14, v15, v16, v17, v18, rfl⟩
end
theorem cells_prod : Tryz.prog.cellsOf 27 = 19 := by kernel_rfl
theorem cells_string : Tryz.prog.cellsOf 9 = 1 := by kernel_rfl
theorem cells_int : Tryz.prog.cellsOf 3 = 1 := by kernel_rfl
theorem cells_int64 : Tryz.prog.cellsOf 2 = 1 := by kernel_rfl
theorem cells_resets : Tryz.prog.cellsOf 22 = 1 := by kernel_rfl
theorem cells_tiers : Tryz.prog.cellsOf 24 = 1 := by kernel_rfl
theorem cells_ints : Tryz.prog.cellsOf 25 = 1 := by kernel_rfl
theorem cells_four : Tryz.prog.cellsOf 23 = 4 := by kernel_rfl
set_option maxRecDepth 100000 in
theorem open_prod {H : Type} {enc : TypeId × Value → H} {w : World} {base b0 : Nat} {held : Bool} {r : Reach} {v : Value} {d : DataW H} {q : List MemPlace} (hv : Value.okWide Tryz.prog w r b0 27 v) (h : DataW.Trod enc Tryz.prog w base (fun _ => true) held 27 v d q) :
  ∃ (p : Prod) (A1 : Option Addr) (c1 : Nat) (A2 : Option Addr) (c2 : Nat) (A3 : Option Addr) (c3 : Nat), v = pv p A1 c1 A2 c2 A3 c3 ∧ ProdAt w p A1 c1 A2 c2 A3 c3 ∧ p.name.size ≤ maxLen ∧ c1 ≤ maxLen ∧ c2 ≤ maxLen ∧ c3 ≤ maxLen := by
 obtain ⟨cs, rfl, hsz⟩ := okWide_struct Tryz.underlying27 hv
 obtain ⟨v0, v1, v2, v3, v4, v5, v6, v7, v8, v9, v10, v11, v12, v13, v14, v15, v16, v17, v18, rfl⟩ := arr19 (hsz.trans cells_prod)
 obtain ⟨fuel, hf⟩ := h
 obtain ⟨xs, n, _, hx, hl, hlen, hfl⟩ := DataW.trod_struct Tryz.underlying27 hf
 have hy : ∀ i, i < 16 → ∃ y, xs[i]? = some y := fun i hi => ⟨_, List.getElem?_eq_getElem (by rw [hlen]; exact hi)⟩
 obtain ⟨y0, e0⟩ := hy 0 (by decide)
 have g0 : DataW.trod enc Tryz.prog w base (fun _ => true) held n 9 ([v0, v1, v2, v3, v4, v5, v6, v7, v8, v9, v10, v11, v12, v13, v14, v15, v16, v17, v18].drop 0 |>.take (Tryz.prog.cellsOf 9)) = some y0 := (hfl 0 _ rfl).trans e0
 rw [cells_string] at g0
 have k0 : DataW.trod enc Tryz.prog w base (fun _ => true) held n 9 [v0] = some y0 := g0
 obtain ⟨y1, e1⟩ := hy 1 (by decide)
 have g1 : DataW.trod enc Tryz.prog w base (fun _ => true) held n 3 ([v0, v1, v2, v3, v4, v5, v6, v7, v8, v9, v10, v11, v12, v13, v14, v15, v16, v17, v18].drop 1 |>.take (Tryz.prog.cellsOf 3)) = some y1 := (hfl 1 _ rfl).trans e1
 rw [cells_int] at g1
 have k1 : DataW.trod enc Tryz.prog w base (fun _ => true) held n 3 [v1] = some y1 := g1
 obtain ⟨y2, e2⟩ := hy 2 (by decide)
 have g2 : DataW.trod enc Tryz.prog w base (fun _ => true) held n 3 ([v0, v1, v2, v3, v4, v5, v6, v7, v8, v9, v10, v11, v12, v13, v14, v15, v16, v17, v18].drop 2 |>.take (Tryz.prog.cellsOf 3)) = some y2 := (hfl 2 _ rfl).trans e2
 rw [cells_int] at g2
 have k2 : DataW.trod enc Tryz.prog w base (fun _ => true) held n 3 [v2] = some y2 := g2
 obtain ⟨y3, e3⟩ := hy 3 (by decide)
 have g3 : DataW.trod enc Tryz.prog w base (fun _ => true) held n 3 ([v0, v1, v2, v3, v4, v5, v6, v7, v8, v9, v10, v11, v12, v13, v14, v15, v16, v17, v18].drop 3 |>.take (Tryz.prog.cellsOf 3)) = some y3 := (hfl 3 _ rfl).trans e3
 rw [cells_int] at g3
 have k3 : DataW.trod enc Tryz.prog w base (fun _ => true) held n 3 [v3] = some y3 := g3
 obtain ⟨y4, e4⟩ := hy 4 (by decide)
 have g4 : DataW.trod enc Tryz.prog w base (fun _ => true) held n 3 ([v0, v1, v2, v3, v4, v5, v6, v7, v8, v9, v10, v11, v12, v13, v14, v15, v16, v17, v18].drop 4 |>.take (Tryz.prog.cellsOf 3)) = some y4 := (hfl 4 _ rfl).trans e4
 rw [cells_int] at g4
 have k4 : DataW.trod enc Tryz.prog w base (fun _ => true) held n 3 [v4] = some y4 := g4
 obtain ⟨y5, e5⟩ := hy 5 (by decide)
 have g5 : DataW.trod enc Tryz.prog w base (fun _ => true) held n 3 ([v0, v1, v2, v3, v4, v5, v6, v7, v8, v9, v10, v11, v12, v13, v14, v15, v16, v17, v18].drop 5 |>.take (Tryz.prog.cellsOf 3)) = some y5 := (hfl 5 _ rfl).trans e5
 rw [cells_int] at g5
 have k5 : DataW.trod enc Tryz.prog w base (fun _ => true) held n 3 [v5] = some y5 := g5
 obtain ⟨y6, e6⟩ := hy 6 (by decide)
 have g6 : DataW.trod enc Tryz.prog w base (fun _ => true) held n 3 ([v0, v1, v2, v3, v4, v5, v6, v7, v8, v9, v10, v11, v12, v13, v14, v15, v16, v17, v18].drop 6 |>.take (Tryz.prog.cellsOf 3)) = some y6 := (hfl 6 _ rfl).trans e6
 rw [cells_int] at g6
 have k6 : DataW.trod enc Tryz.prog w base (fun _ => true) held n 3 [v6] = some y6 := g6
 obtain ⟨y7, e7⟩ := hy 7 (by decide)
 have g7 : DataW.trod enc Tryz.prog w base (fun _ => true) held n 2 ([v0, v1, v2, v3, v4, v5, v6, v7, v8, v9, v10, v11, v12, v13, v14, v15, v16, v17, v18].drop 7 |>.take (Tryz.prog.cellsOf 2)) = some y7 := (hfl 7 _ rfl).trans e7
 rw [cells_int64] at g7
 have k7 : DataW.trod enc Tryz.prog w base (fun _ => true) held n 2 [v7] = some y7 := g7
 obtain ⟨y8, e8⟩ := hy 8 (by decide)
 have g8 : DataW.trod enc Tryz.prog w base (fun _ => true) held n 22 ([v0, v1, v2, v3, v4, v5, v6, v7, v8, v9, v10, v11, v12, v13, v14, v15, v16, v17, v18].drop 8 |>.take (Tryz.prog.cellsOf 22)) = some y8 := (hfl 8 _ rfl).trans e8
 rw [cells_resets] at g8
 have k8 : DataW.trod enc Tryz.prog w base (fun _ => true) held n 22 [v8] = some y8 := g8
 obtain ⟨y9, e9⟩ := hy 9 (by decide)
 have g9 : DataW.trod enc Tryz.prog w base (fun _ => true) held n 2 ([v0, v1, v2, v3, v4, v5, v6, v7, v8, v9, v10, v11, v12, v13, v14, v15, v16, v17, v18].drop 9 |>.take (Tryz.prog.cellsOf 2)) = some y9 := (hfl 9 _ rfl).trans e9
 rw [cells_int64] at g9
 have k9 : DataW.trod enc Tryz.prog w base (fun _ => true) held n 2 [v9] = some y9 := g9
 obtain ⟨y10, e10⟩ := hy 10 (by decide)
 have g10 : DataW.trod enc Tryz.prog w base (fun _ => true) held n 23 ([v0, v1, v2, v3, v4, v5, v6, v7, v8, v9, v10, v11, v12, v13, v14, v15, v16, v17, v18].drop 10 |>.take (Tryz.prog.cellsOf 23)) = some y10 := (hfl 10 _ rfl).trans e10
 rw [cells_four] at g10
 have k10 : DataW.trod enc Tryz.prog w base (fun _ => true) held n 23 [v10, v11, v12, v13] = some y10 := g10
 obtain ⟨y11, e11⟩ := hy 11 (by decide)
 have g11 : DataW.trod enc Tryz.prog w base (fun _ => true) held n 3 ([v0, v1, v2, v3, v4, v5, v6, v7, v8, v9, v10, v11, v12, v13, v14, v15, v16, v17, v18].drop 14 |>.take (Tryz.prog.cellsOf 3)) = some y11 := (hfl 11 _ rfl).trans e11
 rw [cells_int] at g11
 have k11 : DataW.trod enc Tryz.prog w base (fun _ => true) held n 3 [v14] = some y11 := g11
 obtain ⟨y12, e12⟩ := hy 12 (by decide)
 have g12 : DataW.trod enc Tryz.prog w base (fun _ => true) held n 24 ([v0, v1, v2, v3, v4, v5, v6, v7, v8, v9, v10, v11, v12, v13, v14, v15, v16, v17, v18].drop 15 |>.take (Tryz.prog.cellsOf 24)) = some y12 := (hfl 12 _ rfl).trans e12
 rw [cells_tiers] at g12
 have k12 : DataW.trod enc Tryz.prog w base (fun _ => true) held n 24 [v15] = some y12 := g12
 obtain ⟨y13, e13⟩ := hy 13 (by decide)
 have g13 : DataW.trod enc Tryz.prog w base (fun _ => true) held n 2 ([v0, v1, v2, v3, v4, v5, v6, v7, v8, v9, v10, v11, v12, v13, v14, v15, v16, v17, v18].drop 16 |>.take (Tryz.prog.cellsOf 2)) = some y13 := (hfl 13 _ rfl).trans e13
 rw [cells_int64] at g13
 have k13 : DataW.trod enc Tryz.prog w base (fun _ => true) held n 2 [v16] = some y13 := g13
 obtain ⟨y14, e14⟩ := hy 14 (by decide)
 have g14 : DataW.trod enc Tryz.prog w base (fun _ => true) held n 3 ([v0, v1, v2, v3, v4, v5, v6, v7, v8, v9, v10, v11, v12, v13, v14, v15, v16, v17, v18].drop 17 |>.take (Tryz.prog.cellsOf 3)) = some y14 := (hfl 14 _ rfl).trans e14
 rw [cells_int] at g14
 have k14 : DataW.trod enc Tryz.prog w base (fun _ => true) held n 3 [v17] = some y14 := g14
 obtain ⟨y15, e15⟩ := hy 15 (by decide)
 have g15 : DataW.trod enc Tryz.prog w base (fun _ => true) held n 25 ([v0, v1, v2, v3, v4, v5, v6, v7, v8, v9, v10, v11, v12, v13, v14, v15, v16, v17, v18].drop 18 |>.take (Tryz.prog.cellsOf 25)) = some y15 := (hfl 15 _ rfl).trans e15
 rw [cells_ints] at g15
 have k15 : DataW.trod enc Tryz.prog w base (fun _ => true) held n 25 [v18] = some y15 := g15
 clear hy hfl hf
 obtain ⟨nm, m0, _, z0⟩ := DataW.trod_string Tryz.underlying9 k0
 simp at m0
 subst m0
 obtain ⟨x1, m1, _, _⟩ := DataW.trod_int Tryz.underlying3 k1
 simp at m1
 subst m1
 obtain ⟨x2, m2, _, _⟩ := DataW.trod_int Tryz.underlying3 k2
 simp at m2
 subst m2
 obtain ⟨x3, m3, _, _⟩ := DataW.trod_int Tryz.underlying3 k3
 simp at m3
 subst m3
 obtain ⟨x4, m4, _, _⟩ := DataW.trod_int Tryz.underlying3 k4
 simp at m4
 subst m4
 obtain ⟨x5, m5, _, _⟩ := DataW.trod_int Tryz.underlying3 k5
 simp at m5
 subst m5
 obtain ⟨x6, m6, _, _⟩ := DataW.trod_int Tryz.underlying3 k6
 simp at m6
 subst m6
 obtain ⟨x7, m7, _, _⟩ := DataW.trod_int Tryz.underlying2 k7
 simp at m7
 subst m7
 obtain ⟨x9, m9, _, _⟩ := DataW.trod_int Tryz.underlying2 k9
 simp at m9
 subst m9
 obtain ⟨x11, m11, _, _⟩ := DataW.trod_int Tryz.underlying3 k11
 simp at m11
 subst m11
 obtain ⟨x13, m13, _, _⟩ := DataW.trod_int Tryz.underlying2 k13
 simp at m13
 subst m13
 obtain ⟨x14, m14, _, _⟩ := DataW.trod_int Tryz.underlying3 k14
 simp at m14
 subst m14
 obtain ⟨u0, u1, u2, u3, nn, _, f0, f1, f2, f3⟩ := trod_array4 Tryz.underlying23 cells_int k10
 obtain ⟨o0, mo0, _, _⟩ := DataW.trod_int Tryz.underlying3 f0
 simp at mo0
 subst mo0
 obtain ⟨o1, mo1, _, _⟩ := DataW.trod_int Tryz.underlying3 f1
 simp at mo1
 subst mo1
 obtain ⟨o2, mo2, _, _⟩ := DataW.trod_int Tryz.underlying3 f2
 simp at mo2
 subst mo2
 obtain ⟨o3, mo3, _, _⟩ := DataW.trod_int Tryz.underlying3 f3
 simp at mo3
 subst mo3
 obtain ⟨A1, c1, l1, rfl, n1, lc1, cm1, hr1⟩ := open_rowsC Tryz.underlying22 Tryz.underlying105 (by kernel_rfl) (by kernel_rfl) (fun j f hj => by have hmem := Array.mem_of_getElem? hj; simp at hmem; rcases hmem with rfl | rfl <;> first | exact Tryz.underlying3 | exact Tryz.underlying2) k8
 obtain ⟨A2, c2, l2, rfl, n2, lc2, cm2, hr2⟩ := open_rowsC Tryz.underlying24 Tryz.underlying107 (by kernel_rfl) (by kernel_rfl) (fun j f hj => by have hmem := Array.mem_of_getElem? hj; simp at hmem; rcases hmem with rfl | rfl <;> first | exact Tryz.underlying3 | exact Tryz.underlying2) k12
 obtain ⟨A3, c3, l3, rfl, n3, lc3, cm3, hr3⟩ := open_intsC Tryz.underlying25 Tryz.underlying3 cells_int k15
 exact ⟨{ name := nm, count := x1, round := x2, kind := x3, every := x4, times := x5, grace := x6, rate := x7, resets := l1, penalty := x9, o1 := o0, o2 := o1, o3 := o2, o4 := o3, over := x11, late := l2, cap := x13, roll := x14, hol := l3 }, A1, c1, A2, c2, A3, c3, rfl, ⟨hr1, lc1, n1, hr2, lc2, n2, hr3, lc3, n3⟩, z0, cm1, cm2, cm3⟩
end Go.Proofs.YtfmkdledofbhdaaGreat.Pd
