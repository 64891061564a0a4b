/- Texts of this claim, joined in build order. -/
import Derived.RowKit
import Derived.Below
import Derived.Deep.Draws
import Derived.Deep.AppendLies
import Derived.Maps.AppendAt
import Derived.OwnWalk
import Derived.Laws.BytesArg
import Derived.Laws.MakeOwn
import Derived.Laws.OwnMore
import Derived.Tactics
import Derived.Lib.ConvBytes
import Derived.Laws.Slices
import Derived.WalkKit
import Derived.KernelRfl
import Derived.RowKit3
import Derived.Deep.LoopGhost
import Derived.Deep.QuietTactic
import Derived.BigQuiet
import Derived.WideLaws
import Derived.Deep.DeepCutAuto
import Derived.Deep.CutBlock
import Derived.Deep.RegionHeld3
import Derived.Lib.AppendStr
import Derived.ArgAppend
import Derived.Laws.IdiomCopy
import Derived.OrdersHeld
import Derived.Laws.BitsLemmas
import Derived.Test.YtcfpkkgdofblfaaProg
import Derived.WalkLawsBesides
import Derived.WalkSpells
import Derived.Lib.IndexMore
import Derived.Deep.Slices
import Derived.Deep.Fields
import Derived.ChangeSame
import Derived.Lib.SmallJoins
import Derived.ProofKit
import Derived.Defers
import Derived.Laws.Tables
import Derived.Deep.WholeRow
import Derived.Recover
import Derived.StillTailTactics
import Derived.Shelf.Small.Bits
import Derived.Shelf.Strconv.Itoa0
import Derived.Shelf.Strings.Search1
import Derived.Shelf.Strings.Search2
import Derived.Shelf.Strings.Search3
import Derived.Shelf.LaysM
import Derived.Shelf.Strings.Shaped
import Derived.Shelf.Bits.Mul64
import Derived.Lib.SlBytesConst
import Derived.Deep.RegionWith
import Derived.IntWalk
import Derived.Lib.Hide
import Derived.BigFrame
import Derived.Laws.StructEq
import Derived.Lib.BitFns
import Derived.Laws.BitsAllLaws
import Derived.Laws.Externs
import Derived.RegionTactic
import Derived.Deep.MidRow
import Derived.OpenShut
import Derived.ShutString
import Derived.ChangeOld
import Derived.Laws.IdiomArrays
import Derived.SizedLaws
import Derived.HandedShaped
import Derived.Shelf.Vars
import Derived.ChangeSlices
set_option linter.unusedVariables false
set_option linter.unusedSimpArgs false
/- Plain arithmetic of what a balance bears: the rest, and the whole. -/
namespace Go.Proofs.Ytcfpkkgdofblfaa.Gm
def gp (c : Int) : Int := if c = 1 then 360 else if c = 2 then 365 else 133590
def whole (c : Int) : Int := 1000000000 * gp c
def half (c r : Int) : Int := if r = 1 then whole c / 2 else 0
theorem whole_bd (c : Int) : 360000000000 ≤ whole c ∧ whole c ≤ 133590000000000 ∧ whole c % 2 = 0 := by
 unfold whole gp
 split
 ·decide
 ·split <;> decide
theorem half_bd (c r : Int) : 0 ≤ half c r ∧ 2 * half c r ≤ whole c := by
 have := whole_bd c
 unfold half
 split <;> omega
theorem half_one (c : Int) : 2 * half c 1 = whole c := by
 have := whole_bd c
 unfold half
 rw [if_pos rfl]; omega
theorem half_no {c r : Int} (h : r ≠ 1) : half c r = 0 := if_neg h
def q (W h rest x : Int) : Int := (x + (rest + h)) / W
def r (W h rest x : Int) : Int := (x + (rest + h)) % W - h
theorem step {W h rest x : Int} (hW : 0 < W) (hx : 0 ≤ x) (r0 : -h ≤ rest) : 0 ≤ q W h rest x ∧ -h ≤ r W h rest x ∧ r W h rest x < W - h ∧ r W h rest x = rest + x - q W h rest x * W := by
 unfold q r
 have e := Int.emod_add_mul_ediv (x + (rest + h)) W
 have h1 := Int.emod_nonneg (x + (rest + h)) (show W ≠ 0 by omega)
 have h2 := Int.emod_lt_of_pos (x + (rest + h)) hW
 have h3 : 0 ≤ (x + (rest + h)) / W := Int.ediv_nonneg (by omega) (by omega)
 rw [Int.mul_comm] at e
 refine ⟨h3, by omega, by omega, by omega⟩
theorem most {W h rest x M : Int} (hW : 0 < W) (r1 : rest < W - h) (hx : x ≤ M * W) : q W h rest x ≤ M := by
 unfold q
 have : (x + (rest + h)) / W < M + 1 := by
  refine Int.ediv_lt_of_lt_mul hW ?_
  rw [Int.add_mul, Int.one_mul]; omega
 omega
theorem uniq {W h x s : Int} (hW : 0 < W) (h1 : -h ≤ x - s * W) (h2 : x - s * W < W - h) : q W h 0 x = s ∧ r W h 0 x = x - s * W := by
 unfold q r
 have e : x + (0 + h) = (x - s * W + h) + s * W := by omega
 have a : (x + (0 + h)) / W = s := by
  rw [e, Int.add_mul_ediv_right _ _ (by omega), Int.ediv_eq_zero_of_lt (by omega) (by omega)]; omega
 have b : (x + (0 + h)) % W = x - s * W + h := by
  rw [e, Int.add_mul_emod_self_right, Int.emod_eq_of_lt (by omega) (by omega)]
 exact ⟨a, by omega⟩
theorem more {W h x y : Int} (hW : 0 < W) (hxy : x ≤ y) : q W h 0 x ≤ q W h 0 y := by
 unfold q
 exact Int.ediv_le_ediv hW (by omega)
theorem none {W h : Int} (hW : 0 < W) (h0 : 0 ≤ h) (h1 : h < W) : q W h 0 0 = 0 ∧ r W h 0 0 = 0 := by
 obtain ⟨a, b⟩ := uniq (W := W) (h := h) (x := 0) (s := 0) hW (by omega) (by omega)
 exact ⟨a, by omega⟩
theorem mul_le {a b A B : Int} (a0 : 0 ≤ a) (b0 : 0 ≤ b) (hA : a ≤ A) (hB : b ≤ B) : 0 ≤ a * b ∧ a * b ≤ A * B :=
 ⟨Int.mul_nonneg a0 b0, Int.mul_le_mul hA hB b0 (by omega)⟩
def may (bal rate n : Int) : Prop := 0 ≤ bal ∧ bal ≤ 1000000000000000 ∧ 0 ≤ rate ∧ rate ≤ 1000000000 ∧ 0 ≤ n ∧ n ≤ 53436000
instance (bal rate n : Int) : Decidable (may bal rate n) := by unfold may; exact inferInstance
def bear (W h rest bal rate n : Int) : Int × Int × Int :=
 if may bal rate n then (if q W h rest (bal * rate * n) ≤ 1000000000000000 then (q W h rest (bal * rate * n), 0, r W h rest (bal * rate * n)) else (0, 3, rest)) else (0, 1, rest)
end Go.Proofs.Ytcfpkkgdofblfaa.Gm
/- Plain law of level: what an instalment leaves, and the least one that leaves nothing. -/
namespace Go.Proofs.Ytcfpkkgdofblfaa.Lv
set_option linter.unusedVariables false
set_option linter.unusedSimpArgs false
def wk (W h rate gr inst : Int) : Int → List Int → Int → Int → Int
 | _, [], bal, _ => bal
 | i, n :: l, bal, rest =>
  if (Gm.bear W h rest bal rate n).2.1 ≠ 0 then 1000000000000001
  else if i < gr then wk W h rate gr inst (i + 1) l bal (Gm.bear W h rest bal rate n).2.2
  else if bal + ((Gm.bear W h rest bal rate n).1 - inst) ≤ 0 then bal + ((Gm.bear W h rest bal rate n).1 - inst)
  else if 1000000000000000 < bal + ((Gm.bear W h rest bal rate n).1 - inst) then 1000000000000001
  else wk W h rate gr inst (i + 1) l (bal + ((Gm.bear W h rest bal rate n).1 - inst)) (Gm.bear W h rest bal rate n).2.2
structure In (W h rest bal : Int) : Prop where
 w0 : 0 < W
 b0 : 0 < bal
 b1 : bal ≤ 1000000000000000
 r0 : -h ≤ rest
 r1 : rest < W - h
theorem bear_eq {W h rest bal rate n : Int} : Gm.bear W h rest bal rate n = if Gm.may bal rate n then (if Gm.q W h rest (bal * rate * n) ≤ 1000000000000000 then (Gm.q W h rest (bal * rate * n), 0, Gm.r W h rest (bal * rate * n)) else (0, 3, rest)) else (0, 1, rest) := rfl
theorem bear_ok {W h rest bal rate n : Int} (e : (Gm.bear W h rest bal rate n).2.1 = 0) : Gm.may bal rate n ∧ Gm.q W h rest (bal * rate * n) ≤ 1000000000000000 ∧ Gm.bear W h rest bal rate n = (Gm.q W h rest (bal * rate * n), 0, Gm.r W h rest (bal * rate * n)) := by
 rw [bear_eq] at e ⊢
 by_cases hm : Gm.may bal rate n
 ·rw [if_pos hm] at e ⊢
  by_cases hq : Gm.q W h rest (bal * rate * n) ≤ 1000000000000000
  ·rw [if_pos hq]; exact ⟨hm, hq, rfl⟩
  ·rw [if_neg hq] at e; simp at e
 ·rw [if_neg hm] at e; simp at e
theorem two {W h rate n b1 r1 b2 r2 : Int} (I1 : In W h r1 b1) (I2 : In W h r2 b2) (hb : b1 < b2 ∨ b1 = b2 ∧ r1 ≤ r2) (e : (Gm.bear W h r2 b2 rate n).2.1 = 0) :
  (Gm.bear W h r1 b1 rate n).2.1 = 0 ∧ (b1 + (Gm.bear W h r1 b1 rate n).1 < b2 + (Gm.bear W h r2 b2 rate n).1 ∨ b1 + (Gm.bear W h r1 b1 rate n).1 = b2 + (Gm.bear W h r2 b2 rate n).1 ∧ (Gm.bear W h r1 b1 rate n).2.2 ≤ (Gm.bear W h r2 b2 rate n).2.2) ∧
   0 ≤ (Gm.bear W h r1 b1 rate n).1 ∧ (Gm.bear W h r1 b1 rate n).1 ≤ 1000000000000000 := by
 obtain ⟨hm, hq, he⟩ := bear_ok e
 obtain ⟨w0, p0, p1, q0, q1⟩ := I1
 obtain ⟨_, s0, s1, t0, t1⟩ := I2
 obtain ⟨m0, m1, m2, m3, m4, m5⟩ := hm
 have hm1 : Gm.may b1 rate n := ⟨by omega, by omega, m2, m3, m4, m5⟩
 have rn0 := Int.mul_nonneg m2 m4
 have x1 := Int.mul_nonneg (Int.le_of_lt p0) rn0
 have x2 := Int.mul_nonneg (Int.le_of_lt s0) rn0
 have x12 : b1 * (rate * n) ≤ b2 * (rate * n) := Int.mul_le_mul_of_nonneg_right (by omega) rn0
 rw [← Int.mul_assoc] at x1 x2
 have g1 := Gm.step (W := W) (h := h) (rest := r1) (x := b1 * rate * n) w0 x1 q0
 have g2 := Gm.step (W := W) (h := h) (rest := r2) (x := b2 * rate * n) w0 x2 t0
 obtain ⟨a0, a1, a2, a3⟩ := g1
 obtain ⟨c0, c1, c2, c3⟩ := g2
 have hq1 : Gm.q W h r1 (b1 * rate * n) ≤ 1000000000000000 := by
  rcases hb with hb | ⟨rfl, hr⟩
  ·by_cases hw : rate * n ≤ W
   ·-- no more than the balance
    have : b1 * (rate * n) ≤ b1 * W := Int.mul_le_mul_of_nonneg_left hw (by omega)
    rw [← Int.mul_assoc] at this
    have := Gm.most (W := W) (h := h) (rest := r1) (x := b1 * rate * n) (M := b1) w0 q1 this
    omega
   ·refine Int.le_trans ?_ hq
    unfold Gm.q
    refine Int.ediv_le_ediv w0 ?_
    have : (b1 + 1) * (rate * n) ≤ b2 * (rate * n) := Int.mul_le_mul_of_nonneg_right (by omega) rn0
    rw [show (b1 + 1) * (rate * n) = b1 * rate * n + rate * n by rw [Int.add_mul, Int.one_mul, Int.mul_assoc], show b2 * (rate * n) = b2 * rate * n from (Int.mul_assoc ..).symm] at this
    omega
  ·refine Int.le_trans ?_ hq
   unfold Gm.q
   exact Int.ediv_le_ediv w0 (by omega)
 have h1 : Gm.bear W h r1 b1 rate n = (Gm.q W h r1 (b1 * rate * n), 0, Gm.r W h r1 (b1 * rate * n)) := by rw [bear_eq, if_pos hm1, if_pos hq1]
 rw [h1, he]
 refine ⟨rfl, ?_, a0, hq1⟩
 simp only []
 generalize Gm.q W h r1 (b1 * rate * n) = u1 at *
 generalize Gm.q W h r2 (b2 * rate * n) = u2 at *
 generalize Gm.r W h r1 (b1 * rate * n) = v1 at *
 generalize Gm.r W h r2 (b2 * rate * n) = v2 at *
 rw [← Int.mul_assoc, ← Int.mul_assoc] at x12
 generalize b1 * rate * n = y1 at *
 generalize b2 * rate * n = y2 at *
 have tot : (b1 + u1) * W + v1 ≤ (b2 + u2) * W + v2 := by
  have e1 : (b1 + u1) * W + v1 = b1 * W + r1 + y1 := by rw [Int.add_mul, a3]; omega
  have e2 : (b2 + u2) * W + v2 = b2 * W + r2 + y2 := by rw [Int.add_mul, c3]; omega
  rw [e1, e2]
  rcases hb with hb | ⟨rfl, hr⟩
  ·have : (b1 + 1) * W ≤ b2 * W := Int.mul_le_mul_of_nonneg_right (by omega) (by omega)
   rw [Int.add_mul] at this
   omega
  ·omega
 by_cases hlt : b1 + u1 < b2 + u2
 ·exact Or.inl hlt
 ·right
  have hge : (b2 + u2) * W ≤ (b1 + u1) * W := Int.mul_le_mul_of_nonneg_right (by omega) (by omega)
  have heq : b1 + u1 = b2 + u2 := by
   rcases (by omega : b1 + u1 = b2 + u2 ∨ b2 + u2 + 1 ≤ b1 + u1) with h | h
   ·exact h
   ·have : (b2 + u2 + 1) * W ≤ (b1 + u1) * W := Int.mul_le_mul_of_nonneg_right h (by omega)
    rw [Int.add_mul] at this
    omega
  rw [heq] at tot
  exact ⟨heq, by omega⟩
theorem bear_in {W h rest bal rate n : Int} (I : In W h rest bal) (e : (Gm.bear W h rest bal rate n).2.1 = 0) : 0 ≤ (Gm.bear W h rest bal rate n).1 ∧ -h ≤ (Gm.bear W h rest bal rate n).2.2 ∧ (Gm.bear W h rest bal rate n).2.2 < W - h := by
 obtain ⟨⟨m0, m1, m2, m3, m4, m5⟩, hq, he⟩ := bear_ok e
 rw [he]
 obtain ⟨a0, a1, a2, a3⟩ := Gm.step (W := W) (h := h) (rest := rest) (x := bal * rate * n) I.w0 (Int.mul_nonneg (Int.mul_nonneg m0 m2) m4) I.r0
 exact ⟨a0, a1, a2⟩
theorem wk_mono {W h rate gr x1 x2 : Int} (hx : x2 ≤ x1) : ∀ (l : List Int) (i b1 r1 b2 r2 : Int), In W h r1 b1 → In W h r2 b2 → (b1 < b2 ∨ b1 = b2 ∧ r1 ≤ r2) → (i < gr → b1 < b2 ∨ b1 = b2 ∧ r1 = r2) → wk W h rate gr x2 i l b2 r2 ≤ 0 → wk W h rate gr x1 i l b1 r1 ≤ 0
 | [], i, b1, r1, b2, r2, I1, I2, hb, hg, h0 => by
  have := I2.b0
  simp only [wk] at h0
  omega
 | n :: l, i, b1, r1, b2, r2, I1, I2, hb, hg, h0 => by
  rw [wk] at h0 ⊢
  by_cases e : (Gm.bear W h r2 b2 rate n).2.1 = 0
  ·obtain ⟨e1, ht, hq0, hq1⟩ := two I1 I2 hb e
   obtain ⟨k1, k2, k3⟩ := bear_in I1 e1
   obtain ⟨j1, j2, j3⟩ := bear_in I2 e
   rw [if_neg (by simpa using e)] at h0
   rw [if_neg (by simpa using e1)]
   by_cases hi : i < gr
   ·rw [if_pos hi] at h0 ⊢
    refine wk_mono hx l (i + 1) _ _ _ _ ⟨I1.w0, I1.b0, I1.b1, k2, k3⟩ ⟨I2.w0, I2.b0, I2.b1, j2, j3⟩ ?_ ?_ h0
    ·rcases hg hi with h | ⟨rfl, rfl⟩
     ·exact Or.inl h
     ·exact Or.inr ⟨rfl, Int.le_refl _⟩
    ·intro _
     rcases hg hi with h | ⟨rfl, rfl⟩
     ·exact Or.inl h
     ·exact Or.inr ⟨rfl, rfl⟩
   ·rw [if_neg hi] at h0 ⊢
    generalize Gm.bear W h r1 b1 rate n = z1 at *
    generalize Gm.bear W h r2 b2 rate n = z2 at *
    by_cases c2 : b2 + (z2.1 - x2) ≤ 0
    ·rw [if_pos (by omega)]; omega
    ·rw [if_neg c2] at h0
     by_cases d2 : 1000000000000000 < b2 + (z2.1 - x2)
     ·rw [if_pos d2] at h0; omega
     ·rw [if_neg d2] at h0
      by_cases c1 : b1 + (z1.1 - x1) ≤ 0
      ·rw [if_pos c1]; omega
      ·rw [if_neg c1, if_neg (by omega)]
       exact wk_mono hx l (i + 1) _ _ _ _ ⟨I1.w0, by omega, by omega, k2, k3⟩ ⟨I2.w0, by omega, by omega, j2, j3⟩ (by omega) (fun h => by omega) h0
  ·rw [if_pos (by simpa using e)] at h0
   omega
theorem wk_zero {W h rate gr : Int} : ∀ (l : List Int) (i b r : Int), In W h r b → 0 < wk W h rate gr 0 i l b r
 | [], i, b, r, I => by simp only [wk]; exact I.b0
 | n :: l, i, b, r, I => by
  rw [wk]
  by_cases e : (Gm.bear W h r b rate n).2.1 = 0
  ·obtain ⟨k1, k2, k3⟩ := bear_in I e
   have b0 := I.b0
   rw [if_neg (by simpa using e)]
   split
   ·exact wk_zero l _ _ _ ⟨I.w0, I.b0, I.b1, k2, k3⟩
   ·rw [if_neg (by omega)]
    split
    ·omega
    ·exact wk_zero l _ _ _ ⟨I.w0, by omega, by omega, k2, k3⟩
  ·rw [if_pos (by simpa using e)]; omega
theorem wk_rate {W h gr x : Int} (w0 : 0 < W) (h0 : 0 ≤ h) (h1 : h < W) (x0 : 0 ≤ x) : ∀ (l : List Int) (i b : Int), gr ≤ i → 0 < b → b ≤ 1000000000000000 → (∀ n ∈ l, 0 ≤ n ∧ n ≤ 53436000) → (wk W h 0 gr x i l b 0 ≤ 0 ↔ b ≤ l.length * x)
 | [], i, b, hi, b0, b1, hl => by simp only [wk, List.length_nil]; omega
 | n :: l, i, b, hi, b0, b1, hl => by
  obtain ⟨n0, n1⟩ := hl n (List.mem_cons_self ..)
  obtain ⟨z1, z2⟩ := Gm.none (W := W) (h := h) w0 h0 h1
  have hb : Gm.bear W h 0 b 0 n = (0, 0, 0) := by
   rw [bear_eq, if_pos ⟨by omega, by omega, by omega, by omega, n0, n1⟩, Int.mul_zero, Int.zero_mul, z1, z2, if_pos (by omega)]
  rw [wk, hb, if_neg (by simp), if_neg (by omega)]
  simp only [List.length_cons]
  have hm : (((l.length + 1 : Nat) : Int)) * x = l.length * x + x := by rw [Int.natCast_add, Int.add_mul]; simp
  have hp : 0 ≤ (l.length : Int) * x := Int.mul_nonneg (by omega) x0
  rw [hm]
  split
  ·omega
  ·rw [if_neg (by omega), wk_rate w0 h0 h1 x0 l (i + 1) _ (by omega) (by omega) (by omega) (fun n h => hl n (List.mem_cons_of_mem _ h))]
   omega
theorem wk_grace {W h gr x : Int} (w0 : 0 < W) (h0 : 0 ≤ h) (h1 : h < W) : ∀ (l : List Int) (i b : Int), 0 ≤ i → i + l.length ≥ gr → i ≤ gr → 0 < b → b ≤ 1000000000000000 → (∀ n ∈ l, 0 ≤ n ∧ n ≤ 53436000) → wk W h 0 gr x i l b 0 = wk W h 0 gr x gr (l.drop (gr - i).toNat) b 0
 | [], i, b, hi, hl, hg, b0, b1, ha => by simp [wk]
 | n :: l, i, b, hi, hl, hg, b0, b1, ha => by
  rcases (by omega : i = gr ∨ i < gr) with rfl | hlt
  ·simp
  ·obtain ⟨n0, n1⟩ := ha n (List.mem_cons_self ..)
   obtain ⟨z1, z2⟩ := Gm.none (W := W) (h := h) w0 h0 h1
   have hb : Gm.bear W h 0 b 0 n = (0, 0, 0) := by
    rw [bear_eq, if_pos ⟨by omega, by omega, by omega, by omega, n0, n1⟩, Int.mul_zero, Int.zero_mul, z1, z2, if_pos (by omega)]
   rw [wk, hb, if_neg (by simp), if_pos hlt]
   have e : (gr - i).toNat = (gr - (i + 1)).toNat + 1 := by omega
   rw [e, List.drop_succ_cons]
   exact wk_grace w0 h0 h1 l (i + 1) b (by omega) (by simp at hl; omega) (by omega) b0 b1 (fun n h => ha n (List.mem_cons_of_mem _ h))
def srch (f : Int → Int) : Nat → Int → Int → Int
 | 0, _, hi => hi
 | k + 1, lo, hi => if 1 < hi - lo then (if 0 < f (lo + Int.tdiv (hi - lo) 2) then srch f k (lo + Int.tdiv (hi - lo) 2) hi else srch f k lo (lo + Int.tdiv (hi - lo) 2)) else hi
def rsrch (f : Int → Int) : Nat → Int → Int → Int
 | 0, lo, _ => lo
 | k + 1, lo, hi => if lo < hi then (if f (lo + Int.tdiv (hi - lo) 2) ≤ 0 then rsrch f k lo (lo + Int.tdiv (hi - lo) 2) else rsrch f k (lo + Int.tdiv (hi - lo) 2 + 1) hi) else lo
structure Least (f : Int → Int) (v : Int) : Prop where
 yes : f v ≤ 0
 v1 : 1 ≤ v
 vm : v ≤ 1000000000000000
 no : 0 < f (v - 1)
theorem srch_least (f : Int → Int) : ∀ (k : Nat) (lo hi : Int), 0 ≤ lo → lo < hi → hi ≤ 1000000000000000 → hi - lo ≤ 2 ^ k → 0 < f lo → f hi ≤ 0 → Least f (srch f k lo hi)
 | 0, lo, hi, h0, h1, h2, h3, h4, h5 => by
  have : hi - lo = 1 := by simp at h3; omega
  exact ⟨h5, by simp only [srch]; omega, h2, by simp only [srch]; rw [show hi - 1 = lo by omega]; exact h4⟩
 | k + 1, lo, hi, h0, h1, h2, h3, h4, h5 => by
  rw [srch]
  have hp : (2 : Int) ^ (k + 1) = 2 ^ k * 2 := Int.pow_succ ..
  split
  ·rename_i hc
   have ht : Int.tdiv (hi - lo) 2 = (hi - lo) / 2 := Int.tdiv_eq_ediv_of_nonneg (by omega)
   rw [ht]
   split
   ·rename_i hf
    exact srch_least f k _ _ (by omega) (by omega) h2 (by omega) hf h5
   ·rename_i hf
    exact srch_least f k _ _ h0 (by omega) (by omega) (by omega) h4 (by omega)
  ·exact ⟨h5, by omega, h2, by rw [show hi - 1 = lo by omega]; exact h4⟩
theorem Least.uniq {f : Int → Int} (hm : ∀ x y, 0 ≤ x → x ≤ y → y ≤ 1000000000000000 → f x ≤ 0 → f y ≤ 0) {u v : Int} (hu : Least f u) (hv : Least f v) : u = v := by
 obtain ⟨a1, a2, a3, a4⟩ := hu
 obtain ⟨b1, b2, b3, b4⟩ := hv
 rcases (by omega : u = v ∨ u ≤ v - 1 ∨ v ≤ u - 1) with h | h | h
 ·exact h
 ·have := hm u (v - 1) (by omega) h (by omega) a1; omega
 ·have := hm v (u - 1) (by omega) h (by omega) b1; omega
theorem rsrch_least (f : Int → Int) (hm : ∀ x y, 0 ≤ x → x ≤ y → y ≤ 1000000000000000 → f x ≤ 0 → f y ≤ 0) : ∀ (k : Nat) (lo hi : Int), 0 ≤ lo → lo ≤ hi → hi ≤ 1000000000000000 → hi - lo < 2 ^ k → (∀ x, 0 ≤ x → x < lo → 0 < f x) → 0 < f 0 → f hi ≤ 0 → Least f (rsrch f k lo hi)
 | 0, lo, hi, h0, h1, h2, h3, h4, hz, h5 => by
  obtain rfl : lo = hi := by simp at h3; omega
  have : 1 ≤ lo := by
   rcases (by omega : lo = 0 ∨ 1 ≤ lo) with rfl | h
   ·omega
   ·exact h
  exact ⟨h5, by simp only [rsrch]; omega, h2, by simp only [rsrch]; exact h4 _ (by omega) (by omega)⟩
 | k + 1, lo, hi, h0, h1, h2, h3, h4, hz, h5 => by
  rw [rsrch]
  have hp : (2 : Int) ^ (k + 1) = 2 ^ k * 2 := Int.pow_succ ..
  split
  ·rename_i hc
   have ht : Int.tdiv (hi - lo) 2 = (hi - lo) / 2 := Int.tdiv_eq_ediv_of_nonneg (by omega)
   rw [ht]
   split
   ·rename_i hf
    exact rsrch_least f hm k _ _ h0 (by omega) (by omega) (by omega) h4 hz hf
   ·rename_i hf
    refine rsrch_least f hm k _ _ (by omega) (by omega) h2 (by omega) (fun x x0 hx => ?_) hz h5
    rcases (by omega : f x ≤ 0 ∨ 0 < f x) with h | h
    ·have := hm x _ x0 (show x ≤ lo + (hi - lo) / 2 by omega) (by omega) h; omega
    ·exact h
  ·obtain rfl : lo = hi := by omega
   have : 1 ≤ lo := by
    rcases (by omega : lo = 0 ∨ 1 ≤ lo) with rfl | h
    ·omega
    ·exact h
   exact ⟨h5, this, h2, h4 _ (by omega) (by omega)⟩
end Go.Proofs.Ytcfpkkgdofblfaa.Lv
set_option linter.unusedVariables false
set_option linter.unusedSimpArgs false
namespace Go.Proofs.YtcfpkkgdofblfaaW.PrintWords
open Go.RowKit
structure Aside0 (p : Prop) : Prop where mk :: (out : p)
structure Drawn0 (w w' : World) : Prop where mk :: (out : ∃ n, w' = w.drewN n)
theorem Drawn0.refl (w : World) : Drawn0 w w := ⟨⟨0, rfl⟩⟩
theorem Drawn0.step {w w' : World} (h : Drawn0 w w') (n : Nat) : Drawn0 w (w'.drewN n) := by
  obtain ⟨m, rfl⟩ := h
  exact ⟨⟨m + n, World.drewN_drewN ..⟩⟩
theorem Drawn0.grown {w w' : World} (h : Drawn0 w w') : Grown w w' := by
  obtain ⟨n, rfl⟩ := h
  induction n with
  | zero => exact Grown.refl _
  | succ n ih => rw [← World.drew_drewN]; exact Grown.drew ih
theorem Drawn0.below {w w' : World} (h : Drawn0 w w') : Below w.heap.size w w' := by
  obtain ⟨n, rfl⟩ := h
  induction n with
  | zero => exact Below.refl _ _
  | succ n ih => rw [← World.drew_drewN]; exact ih.drew
/-! ### 1. Values and lists -/
def rd (xs : List Int) (i : Int) : Int := xs.getD i.toNat 0
def nums (k : IntKind) (xs : List Int) : List Value := xs.map fun x => .int k x
theorem nums_length (k : IntKind) (xs : List Int) : (nums k xs).length = xs.length := by simp [nums]
/-! ### 2. The world -/
theorem below_alloc {w W : World} (h : Below w.heap.size w W) (o : Obj) : Below w.heap.size w (W.alloc o) := h.alloc h.size o
theorem below_drew {B : Nat} {w W : World} (h : Below B w W) : Below B w W.drew := ⟨h.os, h.tape, h.output, h.size, h.block⟩
theorem pw_below_drewN {B : Nat} {w W : World} (h : Below B w W) (n : Nat) : Below B w (W.drewN n) := ⟨h.os, h.tape, h.output, h.size, h.block⟩
theorem below_then {B : Nat} {w w1 w2 : World} (h : Below B w w1) (hB : B ≤ w1.heap.size) (k : Below w1.heap.size w1 w2) : Below B w w2 :=
  h.trans ⟨k.os, k.tape, k.output, k.size, fun i hi => k.block i (Nat.lt_of_lt_of_le hi hB)⟩
theorem grown_of_below {w w1 : World} (h : Below w.heap.size w w1) (row : Option Nat) : w.grownBy w1 row := ⟨h.os, h.tape, h.output, h.size, fun i hi _ => h.block i hi⟩
theorem pw_cell_below {w w1 : World} (h : Below w.heap.size w w1) {a : Addr} {v : Value} (hc : w.cell? a = some v) : w1.cell? a = some v := (h.cell (World.block_lt_of_cell? w a hc)).trans hc
/-! ### 3. A slice of whole numbers that is read; nil, empty and other slices alike -/
def ReadsInt (w : World) (k : IntKind) (A : Option Addr) (n : Nat) (xs : List Int) : Prop :=
  xs.length = n ∧ n ≤ 9223372036854775807 ∧ (0 < n → ∃ ad, A = some ad ∧ ∀ j, j < n → w.cell? (ad.add j) = some (.int k (xs.getD j 0)))
theorem ReadsInt.at_ {w : World} {k : IntKind} {A : Option Addr} {n : Nat} {xs : List Int} (h : ReadsInt w k A n xs) (i : Int) (h0 : 0 ≤ i) (h1 : i < n) : ∃ ad, A = some ad ∧ w.cell? (ad.add i.toNat) = some (.int k (rd xs i)) := by
  obtain ⟨ad, e, hc⟩ := h.2.2 (by omega)
  exact ⟨ad, e, hc _ (by omega)⟩
theorem ReadsInt.below {w w1 : World} {k : IntKind} {A : Option Addr} {n : Nat} {xs : List Int} (h : ReadsInt w k A n xs) (hb : Below w.heap.size w w1) : ReadsInt w1 k A n xs :=
  ⟨h.1, h.2.1, fun hn => by
    obtain ⟨ad, e, hc⟩ := h.2.2 hn
    exact ⟨ad, e, fun j hj => pw_cell_below hb (hc j hj)⟩⟩
/-! ### 4. A row of the call's own -/
theorem own_nil (W : World) (base : Nat) (e : TypeId) (size : Nat) : W.ownsRow base e size (.slice none 0 0) 0 [] := ⟨by simp, .inl ⟨rfl, rfl⟩⟩
theorem own_base {w : World} {base : Nat} {e : TypeId} {size n : Nat} {v : Value} {xs : List Value} (h : w.ownsRow base e size v n xs) (k : Nat) (hk : v.ownBlock = some k) : base ≤ k := by
  rcases h.2 with ⟨rfl, _⟩ | ⟨g, cap, cur, rfl, hb, _⟩
  · simp [Value.ownBlock] at hk
  · have : g = k := by simpa [Value.ownBlock] using hk
    omega
theorem own_lt {w : World} {base : Nat} {e : TypeId} {size n : Nat} {v : Value} {xs : List Value} (h : w.ownsRow base e size v n xs) (k : Nat) (hk : v.ownBlock = some k) : k < w.heap.size := by
  rcases h.2 with ⟨rfl, _⟩ | ⟨g, cap, cur, rfl, hb, hh, _⟩
  · simp [Value.ownBlock] at hk
  · have : g = k := by simpa [Value.ownBlock] using hk
    subst this
    exact (Array.getElem?_eq_some_iff.1 hh).1
theorem pw_own_below {w w1 : World} {base : Nat} {e : TypeId} {size n : Nat} {v : Value} {xs : List Value} (h : w.ownsRow base e size v n xs) (hb : Below w.heap.size w w1) : w1.ownsRow base e size v n xs :=
  h.kept (grown_of_below hb none) (by cases v.ownBlock <;> simp)
theorem own_other {w w1 : World} {base : Nat} {e : TypeId} {size n : Nat} {v : Value} {xs : List Value} (h : w.ownsRow base e size v n xs) {row : Option Nat} (hg : w.grownBy w1 row) (hne : v.ownBlock = none ∨ v.ownBlock ≠ row) : w1.ownsRow base e size v n xs := h.kept hg hne
/-! ### 5. append(v, x): behind 'at_builtin'; the goal's world is 'W.alloc' of the variadic's box -/
section
variable {P : Program} {ops : Array Oper} {rest : List Oper} {o : Oper} {a : Act} {Q : Exit → Act → World → Prop}
end
/-! ### 6. make([]T, n), n an Int; a literal -/
section
variable {P : Program}
end
/-! ### 7. v[i] read and v[i] = x, v a row of the call's own: 'obtain ⟨g, cap, rfl, hgb, hgl⟩ := HO.out.form (by omega)' first -/
/-! ### 8. append(v, ys...): ys a slice that is read, nil let in; behind 'at_builtin' -/
section
variable {P : Program} {ops : Array Oper} {rest : List Oper} {o : Oper} {a : Act} {Q : Exit → Act → World → Prop}
end
/-! ### 9. []byte(s): a slice that is read (its row bears a conversion's mark: no row of one's own); cuts of a slice that is read -/
def bytesOf (s : ByteArray) : List Int := s.data.toList.map fun b => (b.toNat : Int)
theorem ReadsInt.take_ {w : World} {k : IntKind} {A : Option Addr} {n : Nat} {xs : List Int} (h : ReadsInt w k A n xs) (i : Nat) (hi : i ≤ n) : ReadsInt w k A i (xs.take i) := by
  refine ⟨by rw [List.length_take, h.1]; omega, by have := h.2.1; omega, fun hp => ?_⟩
  obtain ⟨ad, e, hc⟩ := h.2.2 (by omega)
  refine ⟨ad, e, fun j hj => ?_⟩
  rw [hc j (by omega)]
  simp [List.getD_eq_getElem?_getD, hj]
/-! ### 10. Rounds: more rounds give the same answer; what ends gives a number of rounds -/
def LeO {α : Type} (a b : Option α) : Prop := ∀ r, a = some r → b = some r
theorem LeO.refl {α : Type} (a : Option α) : LeO a a := fun _ h => h
theorem LeO.none {α : Type} (b : Option α) : LeO Option.none b := fun _ h => by cases h
theorem LeO.trans {α : Type} {a b c : Option α} (h : LeO a b) (k : LeO b c) : LeO a c := fun r hr => k r (h r hr)
theorem LeO.ite {α : Type} {c : Prop} [Decidable c] {a a' b b' : Option α} (h : LeO a a') (k : LeO b b') : LeO (if c then a else b) (if c then a' else b') := by
  split
  · exact h
  · exact k
theorem LeO.bind {α β : Type} {a a' : Option α} {f f' : α → Option β} (h : LeO a a') (k : ∀ x, LeO (f x) (f' x)) : LeO (a.bind f) (a'.bind f') := by
  intro r hr
  obtain ⟨x, hx, hf⟩ := Option.bind_eq_some_iff.1 hr
  exact Option.bind_eq_some_iff.2 ⟨x, h x hx, k x r hf⟩
theorem LeO.map {α β : Type} {a a' : Option α} (f : α → β) (h : LeO a a') : LeO (a.map f) (a'.map f) := by
  intro r hr
  obtain ⟨x, hx, hf⟩ := Option.map_eq_some_iff.1 hr
  exact Option.map_eq_some_iff.2 ⟨x, h x hx, hf⟩
theorem more_rounds {α : Type} {g : Nat → Option α} (h : ∀ k, LeO (g k) (g (k + 1))) (k : Nat) : ∀ j, LeO (g k) (g (k + j))
  | 0 => LeO.refl _
  | j + 1 => (more_rounds h k j).trans (h (k + j))
theorem at_rounds {α : Type} {g : Nat → Option α} (h : ∀ k, LeO (g k) (g (k + 1))) {k k' : Nat} (hk : k ≤ k') {r : α} (hr : g k = some r) : g k' = some r := by
  have := more_rounds h k (k' - k) r hr
  rwa [Nat.add_sub_cancel' hk] at this
/-! ### 11. Rows of elements of several cells (structs): read, made. R: what an element's cells say ('RepItem w': printed for each type) -/
def Reps {α : Type} (R : α → List Value → Prop) (size : Nat) (ps : List α) (cs : List Value) : Prop :=
  cs.length = ps.length * size ∧ ∀ j p, ps[j]? = some p → R p ((cs.drop (j * size)).take size)
theorem Reps.none {α : Type} (R : α → List Value → Prop) (size : Nat) : Reps R size [] [] := ⟨by simp, fun j p h => by simp at h⟩
theorem Reps.snoc {α : Type} {R : α → List Value → Prop} {size : Nat} {ps : List α} {cs c : List Value} {p : α} (h : Reps R size ps cs) (hp : R p c) (hc : c.length = size) : Reps R size (ps ++ [p]) (cs ++ c) := by
  refine ⟨by rw [List.length_append, h.1, hc, List.length_append, List.length_singleton, Nat.add_mul, Nat.one_mul], fun j q hq => ?_⟩
  rcases Nat.lt_or_ge j ps.length with hj | hj
  · rw [List.getElem?_append_left hj] at hq
    have h1 : j * size + size ≤ cs.length := by rw [h.1, ← Nat.succ_mul]; exact Nat.mul_le_mul_right _ hj
    have h2 := h.2 j q hq
    rw [List.drop_append_of_le_length (by omega), List.take_append_of_le_length (by rw [List.length_drop]; omega)]
    exact h2
  · have hj' : j = ps.length := by
      have := (List.getElem?_eq_some_iff.1 hq).1
      rw [List.length_append, List.length_singleton] at this
      omega
    subst hj'
    have hq' : p = q := by simpa using hq
    subst hq'
    rw [← h.1, List.drop_left, ← hc, List.take_length]
    exact hp
theorem Reps.imp_ {α : Type} {R R' : α → List Value → Prop} {size : Nat} {ps : List α} {cs : List Value} (h : Reps R size ps cs) (hR : ∀ p c, R p c → R' p c) : Reps R' size ps cs := ⟨h.1, fun j p hj => hR _ _ (h.2 j p hj)⟩
def ReadsRow {α : Type} (R : α → List Value → Prop) (size : Nat) (w : World) (A : Option Addr) (n : Nat) (ps : List α) : Prop :=
  ps.length = n ∧ n ≤ 9223372036854775807 ∧ (0 < n → ∃ ad, A = some ad ∧ ∀ j p, ps[j]? = some p → ∃ c, c.length = size ∧ R p c ∧ ∀ i u, c[i]? = some u → w.cell? (ad.add (j * size + i)) = some u)
theorem ReadsRow.imp_ {α : Type} {R R' : α → List Value → Prop} {size : Nat} {w w1 : World} {A : Option Addr} {n : Nat} {ps : List α} (h : ReadsRow R size w A n ps) (hb : Below w.heap.size w w1) (hR : ∀ p c, R p c → R' p c) : ReadsRow R' size w1 A n ps :=
  ⟨h.1, h.2.1, fun hn => by
    obtain ⟨ad, e, hc⟩ := h.2.2 hn
    refine ⟨ad, e, fun j p hj => ?_⟩
    obtain ⟨c, hs, hr, hcell⟩ := hc j p hj
    exact ⟨c, hs, hR _ _ hr, fun i u hu => pw_cell_below hb (hcell i u hu)⟩⟩
theorem own_reads_row {α : Type} {R : α → List Value → Prop} {w : World} {base n size : Nat} {e : TypeId} {v : Value} {ps : List α} {cs : List Value} (h : w.ownsRow base e size v n cs) (hR : Reps R size ps cs) (hn : ps.length = n) :
    ∃ A c, v = .slice A n c ∧ ReadsRow R size w A n ps := by
  rcases Nat.eq_zero_or_pos n with h0 | h0
  · rcases h.2 with ⟨rfl, rfl⟩ | ⟨g, cap, cur, rfl, _⟩
    · exact ⟨none, 0, rfl, hn, by omega, fun hp => absurd hp (by omega)⟩
    · exact ⟨_, cap, rfl, hn, by omega, fun hp => absurd hp (by omega)⟩
  · obtain ⟨g, cap, rfl, _, _⟩ := h.form h0
    have hm : n ≤ 9223372036854775807 := by
      rcases h.2 with ⟨_, h1⟩ | ⟨g', cap', cur, he, _, _, h1, h2, _⟩
      · omega
      · simp only [maxLen] at h2
        omega
    refine ⟨_, cap, rfl, hn, hm, fun _ => ⟨_, rfl, fun j p hj => ⟨(cs.drop (j * size)).take size, ?_, hR.2 j p hj, fun i u hu => ?_⟩⟩⟩
    · have hjl := (List.getElem?_eq_some_iff.1 hj).1
      have h1 : j * size + size ≤ cs.length := by rw [hR.1, ← Nat.succ_mul]; exact Nat.mul_le_mul_right _ hjl
      rw [List.length_take, List.length_drop]
      omega
    · refine h.cells (g := g) rfl _ u ?_
      rw [List.getElem?_take] at hu
      split at hu
      · rw [List.getElem?_drop] at hu
        exact hu
      · cases hu
section
variable {P : Program} {ops : Array Oper} {rest : List Oper} {o : Oper} {a : Act} {Q : Exit → Act → World → Prop}
theorem print_append_cells {w0 W : World} (base : Nat) (hgd : o.guard = none) (s x : Operand) (t e : TypeId) (z : Value) (size bytes : Nat)
    (ho : o.op = .call { callee := .builtin .append, args := #[s, x], argTypes := #[t, t] })
    (ht : P.underlying t = some (.slice e)) (hinfo : (P.info? e).map (fun i => (i.zero, i.size, i.bytes)) = some (some z, size, bytes)) (hz : z.cells.size = size) (hs0 : 0 < size) (hb0 : 0 < bytes)
    (v : Value) (n : Nat) (xs ys : List Value) (hs : a.eval s = v) (hx : a.eval x = .slice (some ⟨W.heap.size, 0, none⟩) 1 1) (hys : ys.length = size) (h1 : ∀ u ∈ ys, u.oneCell' = true)
    (HO : W.ownsRow base e size v n xs) (HB : Below base w0 W) (hbase : base ≤ W.heap.size) (hl : (n + 1) * bytes ≤ 140737488355328)
    (h : ∀ v1 w1, w1.ownsRow base e size v1 (n + 1) (xs ++ ys) → Below base w0 w1 → W.grownBy w1 v.ownBlock → (v1.ownBlock = v.ownBlock ∨ ∃ b, v1.ownBlock = some b ∧ W.heap.size ≤ b) → wpList P ops Q rest (a.put o.dst v1) w1) :
    wpList P ops Q (o :: rest) a (W.alloc (.cells ys.toArray e)) := by
  obtain ⟨i0, hi, hzz⟩ := Option.map_eq_some_iff.1 hinfo
  simp only [Prod.mk.injEq] at hzz
  obtain ⟨hz0, hz1, hz2⟩ := hzz
  have hlen : n + 1 ≤ 140737488355328 := Nat.le_trans (Nat.le_mul_of_pos_right _ hb0) hl
  refine wpList_append_own_at (W.alloc (.cells ys.toArray e)) hgd s x t ho base e i0 z size bytes ht hi hz0 hz1 hz2 hz hs0 v n xs hs (HO.alloc _) ⟨W.heap.size, 0, none⟩ 1 1 ys hx (by rw [hys]; simp)
    (by simpa using World.news_of_block (cs := ys.toArray) (t := e) (fr := (0, 0)) (heap_alloc_new W (.cells ys.toArray e))) h1 (by simp only [maxLen]; omega) hl (by simp; omega) ?_
  intro v1 w1 hown hg _ hat
  refine h v1 w1 hown ((HB.alloc hbase _).grown hg (by simp; omega) (own_base HO)) (World.grownBy.trans (World.grownBy_alloc W _ _) hg) ?_
  rcases hat with hat | hat
  · exact .inl hat
  · exact .inr ⟨_, hat, by simp⟩
end
/-! ### 12. A block of one's own that is a state: its cells, what a store leaves -/
theorem blk_set {w : World} {g : Nat} {t : TypeId} {cs : Array Value} (h : w.heap[g]? = some (.cells cs t (0, 0))) (i : Nat) (u : Value) : (w.setCell ⟨g, i, none⟩ u).heap[g]? = some (.cells (cs.setIfInBounds i u) t (0, 0)) := by
  simp [World.setCell, Array.getElem?_modify, h]
theorem blk_far {w : World} {g : Nat} {t : TypeId} {cs : Array Value} (h : w.heap[g]? = some (.cells cs t (0, 0))) {p : Addr} (hp : g ≠ p.block) (u : Value) : (w.setCell p u).heap[g]? = some (.cells cs t (0, 0)) := (Below.heap_setCell w p u g hp).trans h
theorem blk_lt {w : World} {g : Nat} {o : Obj} (h : w.heap[g]? = some o) : g < w.heap.size := (Array.getElem?_eq_some_iff.1 h).1
theorem blk_cell {w : World} {g : Nat} {t : TypeId} {cs : Array Value} (h : w.heap[g]? = some (.cells cs t (0, 0))) (i : Nat) : w.cell? ⟨g, i, none⟩ = cs[i]? := cell_of_row w g i cs t (0, 0) h
theorem blk_frozen {w : World} {g : Nat} {t : TypeId} {cs : Array Value} (h : w.heap[g]? = some (.cells cs t (0, 0))) (i : Nat) : w.frozen? ⟨g, i, none⟩ = false := by simp [World.frozen?, h]
/-! ### 13. Two states at once: what a call on the state at block g (its row before: 'row') has turned -/
def KeepBut (w w' : World) (g : Nat) (row : Option Nat) : Prop := w.heap.size ≤ w'.heap.size ∧ ∀ i, i < w.heap.size → i ≠ g → some i ≠ row → w'.heap[i]? = w.heap[i]?
theorem KeepBut.refl (w : World) (g : Nat) (row : Option Nat) : KeepBut w w g row := ⟨Nat.le_refl _, fun _ _ _ _ => rfl⟩
theorem KeepBut.of_below {w w1 : World} (h : Below w.heap.size w w1) (g : Nat) (row : Option Nat) : KeepBut w w1 g row := ⟨h.size, fun i hi _ _ => h.block i hi⟩
theorem KeepBut.trans {w w1 w2 : World} {g : Nat} {row row1 : Option Nat} (h : KeepBut w w1 g row) (k : KeepBut w1 w2 g row1) (hr : row1 = row ∨ ∃ b, row1 = some b ∧ w.heap.size ≤ b) : KeepBut w w2 g row :=
  ⟨Nat.le_trans h.1 k.1, fun i hi hg hn => by
    refine (k.2 i (Nat.lt_of_lt_of_le hi h.1) hg ?_).trans (h.2 i hi hg hn)
    rcases hr with rfl | ⟨b, rfl, hb⟩
    · exact hn
    · intro e
      injection e with e
      omega⟩
theorem KeepBut.blk {w w1 : World} {g g' : Nat} {row : Option Nat} {o : Obj} (h : KeepBut w w1 g row) (hb : w.heap[g']? = some o) (hg : g' ≠ g) (hr : some g' ≠ row) : w1.heap[g']? = some o := (h.2 g' (blk_lt hb) hg hr).trans hb
theorem KeepBut.own {w w1 : World} {g : Nat} {row : Option Nat} {base : Nat} {e : TypeId} {size n : Nat} {v : Value} {xs : List Value} (h : KeepBut w w1 g row) (ho : w.ownsRow base e size v n xs) (hg : v.ownBlock ≠ some g) (hr : v.ownBlock = none ∨ v.ownBlock ≠ row) : w1.ownsRow base e size v n xs := by
  obtain ⟨h1, h2⟩ := ho
  refine ⟨h1, ?_⟩
  rcases h2 with h2 | ⟨b, cap, cur, rfl, hb, hh, r⟩
  · exact .inl h2
  · refine .inr ⟨b, cap, cur, rfl, hb, h.blk hh ?_ ?_, r⟩
    · intro e
      exact hg (by rw [← e]; rfl)
    · rcases hr with hr | hr
      · simp [Value.ownBlock] at hr
      · exact hr
/-! ### 10b. From some number of rounds on -/
def Ev {α : Type} (g : Nat → Option α) (r : α) : Prop := ∃ K, ∀ k, K ≤ k → g k = some r
theorem Ev.of {α : Type} {g : Nat → Option α} {r : α} (hg : ∀ k, LeO (g k) (g (k + 1))) {k : Nat} (h : g k = some r) : Ev g r := ⟨k, fun _ hk => at_rounds hg hk h⟩
theorem Ev.bind {α β : Type} {g : Nat → Option α} {f : Nat → α → Option β} {a : α} {r : β} (h : Ev g a) (k : Ev (fun n => f n a) r) : Ev (fun n => (g n).bind (f n)) r := by
  obtain ⟨K, h⟩ := h
  obtain ⟨K', k⟩ := k
  refine ⟨max K K', fun n hn => ?_⟩
  have h1 := h n (by omega)
  have h2 := k n (by omega)
  simp only [h1, Option.bind_some]
  exact h2
theorem Ev.step {α : Type} {g f : Nat → Option α} {r : α} (h : ∀ k, g (k + 1) = f k) (k : Ev f r) : Ev g r := by
  obtain ⟨K, k⟩ := k
  refine ⟨K + 1, fun n hn => ?_⟩
  obtain ⟨m, rfl⟩ : ∃ m, n = m + 1 := ⟨n - 1, by omega⟩
  rw [h]
  exact k m (by omega)
theorem Ev.congr {α : Type} {g f : Nat → Option α} {r : α} (h : ∀ k, g k = f k) (k : Ev f r) : Ev g r := by
  obtain ⟨K, k⟩ := k
  exact ⟨K, fun n hn => (h n).trans (k n hn)⟩
/-! ### 14. append as_ one step of a region that draws its order: for 'go_region_law' (and a region walked by hand) -/
section
variable {P : Program} {ops : Array Oper} {o : Oper} {a : Act} {Q : Exit → Act → World → Prop} {K : Act → World → Prop}
end
/-! ### 15. A row's base may be lowered -/
theorem own_weaken {w : World} {base base' : Nat} {e : TypeId} {size n : Nat} {v : Value} {xs : List Value} (h : w.ownsRow base e size v n xs) (hb : base' ≤ base) : w.ownsRow base' e size v n xs := by
  obtain ⟨h1, h2⟩ := h
  refine ⟨h1, ?_⟩
  rcases h2 with h2 | ⟨g, cap, cur, rfl, hg, r⟩
  · exact .inl h2
  · exact .inr ⟨g, cap, cur, rfl, Nat.le_trans hb hg, r⟩
/-! ### 16. Parts 3 to 9 for ANY element of one cell: 'enc' (Value.int k, Value.string, Value.bool), a default 'd' -/
section
variable {α : Type} {enc : α → Value} {d : α}
def encs (enc : α → Value) (xs : List α) : List Value := xs.map enc
def rdOf (d : α) (xs : List α) (i : Int) : α := xs.getD i.toNat d
theorem encs_length (xs : List α) : (encs enc xs).length = xs.length := by simp [encs]
theorem encs_get (xs : List α) (j : Nat) (h : j < xs.length) : (encs enc xs)[j]? = some (enc (xs.getD j d)) := by
  simp [encs, List.getElem?_eq_getElem h, List.getD_eq_getElem?_getD]
def ReadsOf (enc : α → Value) (d : α) (w : World) (A : Option Addr) (n : Nat) (xs : List α) : Prop :=
  xs.length = n ∧ n ≤ 9223372036854775807 ∧ (0 < n → ∃ ad, A = some ad ∧ ∀ j, j < n → w.cell? (ad.add j) = some (enc (xs.getD j d)))
theorem ReadsOf.at_ {w : World} {A : Option Addr} {n : Nat} {xs : List α} (h : ReadsOf enc d w A n xs) (i : Int) (h0 : 0 ≤ i) (h1 : i < n) : ∃ ad, A = some ad ∧ w.cell? (ad.add i.toNat) = some (enc (rdOf d xs i)) := by
  obtain ⟨ad, e, hc⟩ := h.2.2 (by omega)
  exact ⟨ad, e, hc _ (by omega)⟩
theorem ReadsOf.below {w w1 : World} {A : Option Addr} {n : Nat} {xs : List α} (h : ReadsOf enc d w A n xs) (hb : Below w.heap.size w w1) : ReadsOf enc d w1 A n xs :=
  ⟨h.1, h.2.1, fun hn => by
    obtain ⟨ad, e, hc⟩ := h.2.2 hn
    exact ⟨ad, e, fun j hj => pw_cell_below hb (hc j hj)⟩⟩
theorem ReadsOf.take_ {w : World} {A : Option Addr} {n : Nat} {xs : List α} (h : ReadsOf enc d w A n xs) (i : Nat) (hi : i ≤ n) : ReadsOf enc d w A i (xs.take i) := by
  refine ⟨by rw [List.length_take, h.1]; omega, by have := h.2.1; omega, fun hp => ?_⟩
  obtain ⟨ad, e, hc⟩ := h.2.2 (by omega)
  refine ⟨ad, e, fun j hj => ?_⟩
  rw [hc j (by omega)]
  simp [List.getD_eq_getElem?_getD, hj]
theorem own_reads_of {w : World} {base n : Nat} {e : TypeId} {v : Value} {xs : List α} (h : w.ownsRow base e 1 v n (encs enc xs)) : ∃ A c, v = .slice A n c ∧ ReadsOf enc d w A n xs := by
  have hl : xs.length = n := by have := h.1; simp [encs] at this; exact this
  rcases Nat.eq_zero_or_pos n with h0 | h0
  · rcases h.2 with ⟨rfl, rfl⟩ | ⟨g, cap, cur, rfl, _⟩
    · exact ⟨none, 0, rfl, hl, by omega, fun hp => absurd hp (by omega)⟩
    · exact ⟨_, cap, rfl, hl, by omega, fun hp => absurd hp (by omega)⟩
  · obtain ⟨g, cap, rfl, _, _⟩ := h.form h0
    have hm : n ≤ 9223372036854775807 := by
      rcases h.2 with ⟨_, h1⟩ | ⟨g', cap', cur, he, _, _, h1, h2, _⟩
      · omega
      · simp only [maxLen] at h2
        omega
    exact ⟨_, cap, rfl, hl, hm, fun _ => ⟨_, rfl, fun j hj => h.cells (g := g) rfl j _ (encs_get xs j (by omega))⟩⟩
end
section
variable {α : Type} {P : Program} {ops : Array Oper} {rest : List Oper} {o : Oper} {a : Act} {Q : Exit → Act → World → Prop}
end
/-! ### 17. Rows of one element type held at once: no two share a block -/
/-! ### 18. A block behind a new one; behind a draw -/
theorem blk_alloc {w : World} {g : Nat} {o : Obj} (h : w.heap[g]? = some o) (o' : Obj) : (w.alloc o').heap[g]? = some o := (Below.heap_alloc w o' g (blk_lt h)).trans h
theorem blk_drew {w : World} {g : Nat} {o : Obj} (h : w.heap[g]? = some o) : w.drew.heap[g]? = some o := h
theorem blk_drewN {w : World} {g : Nat} {o : Obj} (h : w.heap[g]? = some o) (n : Nat) : (w.drewN n).heap[g]? = some o := h
theorem blk_below {w w1 : World} {g : Nat} {o : Obj} (h : w.heap[g]? = some o) (hb : Below w.heap.size w w1) : w1.heap[g]? = some o := (hb.block g (blk_lt h)).trans h
theorem blk_new (w : World) (o : Obj) : (w.alloc o).heap[w.heap.size]? = some o := heap_alloc_new w o
/-! ### 19. Results that lie in memory beside others -/
section
variable {P : Program}
theorem results_ct {fn : Func} {p u : Tmp} {ty : TypeId} (h : fn.results = #[.cell p ty, .tmp u]) (tmps : Array Value) (w : World) (g : Nat) (t : TypeId) (cs : Array Value) (fr : Nat × Nat) (d : TypeDesc)
    (hp : tmps.getD p undef = .pointer (some ⟨g, 0, none⟩)) (hg : w.heap[g]? = some (.cells cs t fr))
    (hu : P.underlying ty = some d) (hd : (match d with | .struct _ | .array _ _ => true | _ => false) = true) (hi : (P.info? ty).map (·.size) = some cs.size) :
    (results fn tmps).run P w = .ok (.tuple #[.agg cs, tmps.getD u undef]) w := by
  have hp' : tmps[p]?.getD undef = .pointer (some ⟨g, 0, none⟩) := by simpa using hp
  simp [results, h, hp', asAddr, run_loadVar_row w g t ty cs fr d hg hu hd hi]
end
/-! ### 20. Rows of elements of any kind: R is what an element's cells say -/
theorem own_le {w : World} {base n m c size : Nat} {e : TypeId} {A : Option Addr} {xs : List Value} (h : w.ownsRow base e size (.slice A m c) n xs) : m ≤ c := by
  rcases h.2 with ⟨he, _⟩ | ⟨g, cap, cur, he, _, _, hnc, _⟩
  · injection he with _ h2 h3
    omega
  · injection he with _ h2 h3
    omega
theorem own_reads_of_le {α : Type} {enc : α → Value} {d : α} {w : World} {base n : Nat} {e : TypeId} {v : Value} {xs : List α} (h : w.ownsRow base e 1 v n (encs enc xs)) : ∃ A c, v = .slice A n c ∧ n ≤ c ∧ ReadsOf enc d w A n xs := by
  obtain ⟨A, c, rfl, hr⟩ := own_reads_of (d := d) h
  exact ⟨A, c, rfl, own_le h, hr⟩
def OwnRow {α : Type} (R : α → List Value → Prop) (e : TypeId) (size : Nat) (w : World) (base : Nat) (v : Value) (ps : List α) : Prop :=
  ∃ inner, w.ownsRow base e size v ps.length inner ∧ Reps R size ps inner
section
variable {α : Type} {R R' : α → List Value → Prop} {e : TypeId} {size : Nat} {w w1 : World} {base : Nat} {v : Value} {ps : List α}
theorem OwnRow.none_ (R : α → List Value → Prop) (e : TypeId) (size : Nat) (w : World) (base : Nat) : OwnRow R e size w base (.slice none 0 0) [] := ⟨[], own_nil _ _ _ _, Reps.none _ _⟩
theorem OwnRow.imp_ (h : OwnRow R e size w base v ps) (hR : ∀ p c, R p c → R' p c) : OwnRow R' e size w base v ps := by
  obtain ⟨inner, ho, hr⟩ := h
  exact ⟨inner, ho, hr.imp_ hR⟩
theorem OwnRow.below (h : OwnRow R e size w base v ps) (hb : Below w.heap.size w w1) : OwnRow R e size w1 base v ps := by
  obtain ⟨inner, ho, hr⟩ := h
  exact ⟨inner, pw_own_below ho hb, hr⟩
theorem OwnRow.other (h : OwnRow R e size w base v ps) {row : Option Nat} (hg : w.grownBy w1 row) (hne : v.ownBlock = none ∨ v.ownBlock ≠ row) : OwnRow R e size w1 base v ps := by
  obtain ⟨inner, ho, hr⟩ := h
  exact ⟨inner, own_other ho hg hne, hr⟩
theorem OwnRow.reads (h : OwnRow R e size w base v ps) : ∃ A c, v = .slice A ps.length c ∧ ps.length ≤ c ∧ ReadsRow R size w A ps.length ps := by
  obtain ⟨inner, ho, hr⟩ := h
  obtain ⟨A, c, rfl, hrow⟩ := own_reads_row ho hr rfl
  exact ⟨A, c, rfl, own_le ho, hrow⟩
end
section
variable {P : Program} {ops : Array Oper} {rest : List Oper} {o : Oper} {a : Act} {Q : Exit → Act → World → Prop} {α : Type} {R : α → List Value → Prop}
theorem OwnRow.append {w0 W : World} (base : Nat) (hgd : o.guard = none) (s x : Operand) (t e : TypeId) (z : Value) (size bytes : Nat)
    (ho : o.op = .call { callee := .builtin .append, args := #[s, x], argTypes := #[t, t] })
    (ht : P.underlying t = some (.slice e)) (hinfo : (P.info? e).map (fun i => (i.zero, i.size, i.bytes)) = some (some z, size, bytes)) (hz : z.cells.size = size) (hs0 : 0 < size) (hb0 : 0 < bytes)
    (v : Value) (ps : List α) (p : α) (cs : List Value) (hs : a.eval s = v) (hx : a.eval x = .slice (some ⟨W.heap.size, 0, none⟩) 1 1) (hp : R p cs) (hcs : cs.length = size) (h1 : ∀ u ∈ cs, u.oneCell' = true)
    (HO : OwnRow R e size W base v ps) (HB : Below base w0 W) (hbase : base ≤ W.heap.size) (hl : (ps.length + 1) * bytes ≤ 140737488355328)
    (h : ∀ v1 w1, OwnRow R e size w1 base v1 (ps ++ [p]) → Below base w0 w1 → W.grownBy w1 v.ownBlock → (v1.ownBlock = v.ownBlock ∨ ∃ b, v1.ownBlock = some b ∧ W.heap.size ≤ b) → wpList P ops Q rest (a.put o.dst v1) w1) :
    wpList P ops Q (o :: rest) a (W.alloc (.cells cs.toArray e)) := by
  obtain ⟨inner, hown, hr⟩ := HO
  refine print_append_cells base hgd s x t e z size bytes ho ht hinfo hz hs0 hb0 v ps.length inner cs hs hx hcs h1 hown HB hbase hl ?_
  intro v1 w1 hown1 hb1 hg1 hat1
  exact h v1 w1 ⟨inner ++ cs, by rw [List.length_append, List.length_singleton]; exact hown1, hr.snoc hp hcs⟩ hb1 hg1 hat1
end
section
variable {P : Program} {ops : Array Oper} {o : Oper} {a : Act} {Q : Exit → Act → World → Prop} {K : Act → World → Prop} {α : Type} {R : α → List Value → Prop}
end
/-! ### 21. Cuts of a slice that came in, lengths spelled as_ the lists' -/
section
variable {α : Type} {P : Program}
end
/-! ### 22. append([]byte, s...), s a string; behind 'at_builtin'. (No word on where the new row lies: two rows of bytes at once don't go by it.) -/
section
variable {P : Program} {ops : Array Oper} {rest : List Oper} {o : Oper} {a : Act} {Q : Exit → Act → World → Prop}
end
/-! ### 23. KINDS: what a value's cells say, read (K) and made (M), kind by kind; every mover proved once -/
structure Kd (α : Type) where
  sz : Nat
  E : List Nat
  K : World → α → List Value → Prop
  M : World → Nat → (Nat → Prop) → α → List Value → Prop
  K_len : ∀ {w x cs}, K w x cs → cs.length = sz
  K_one : ∀ {w x cs}, K w x cs → ∀ u ∈ cs, u.oneCell' = true
  K_below : ∀ {w w1 : World} {x cs}, Below w.heap.size w w1 → K w x cs → K w1 x cs
  K_of_M : ∀ {w base ok x cs}, M w base ok x cs → K w x cs
  M_mono : ∀ {w base ok ok' x cs}, (∀ k, ok k → ok' k) → M w base ok x cs → M w base ok' x cs
  M_bound : ∀ {w : World} {base ok x cs}, M w base ok x cs → M w base (fun k => ok k ∧ base ≤ k ∧ k < w.heap.size ∧ ∃ q, q ∈ E ∧ ∃ cells, w.heap[k]? = some (.cells cells q (0, 0))) x cs
  M_move : ∀ {w w1 : World} {base ok x cs}, (∀ k, ok k → w1.heap[k]? = w.heap[k]?) → M w base ok x cs → M w1 base ok x cs
  M_lower : ∀ {w base base' ok x cs}, base' ≤ base → M w base ok x cs → M w base' ok x cs
theorem own_move {w w1 : World} {base : Nat} {e : TypeId} {size n : Nat} {v : Value} {xs : List Value} (h : w.ownsRow base e size v n xs) (hm : ∀ k, v.ownBlock = some k → w1.heap[k]? = w.heap[k]?) : w1.ownsRow base e size v n xs := by
  obtain ⟨h1, h2⟩ := h
  refine ⟨h1, ?_⟩
  rcases h2 with h2 | ⟨g, cap, cur, rfl, hg, hh, r⟩
  · exact .inl h2
  · exact .inr ⟨g, cap, cur, rfl, hg, (hm g (by simp [Value.ownBlock])).trans hh, r⟩
theorem own_typed {w : World} {base : Nat} {e : TypeId} {size n : Nat} {v : Value} {xs : List Value} (h : w.ownsRow base e size v n xs) (k : Nat) (hk : v.ownBlock = some k) : ∃ cells, w.heap[k]? = some (.cells cells e (0, 0)) := by
  rcases h.2 with ⟨rfl, _⟩ | ⟨g, cap, cur, rfl, hg, hh, r⟩
  · simp [Value.ownBlock] at hk
  · have : g = k := by simpa [Value.ownBlock] using hk
    subst this
    exact ⟨cur, hh⟩
namespace Kd
def C {α : Type} (d : Kd α) (w : World) (A : Option Addr) (n : Nat) (xs : List α) : Prop := ReadsRow (d.K w) d.sz w A n xs
def R {α : Type} (d : Kd α) (e : Nat) (w : World) (base : Nat) (ok : Nat → Prop) (v : Value) (xs : List α) : Prop :=
  (∀ k, v.ownBlock = some k → ok k) ∧ OwnRow (d.M w base (fun k => ok k ∧ some k ≠ v.ownBlock)) e d.sz w base v xs
section
variable {α : Type} {d : Kd α} {e : Nat} {w w1 : World} {base : Nat} {ok ok' : Nat → Prop} {v : Value} {xs : List α}
theorem C_below {A : Option Addr} {n : Nat} (h : d.C w A n xs) (hb : Below w.heap.size w w1) : d.C w1 A n xs := ReadsRow.imp_ h hb (fun _ _ hp => d.K_below hb hp)
theorem R_nil (d : Kd α) (e : Nat) (w : World) (base : Nat) (ok : Nat → Prop) : d.R e w base ok (.slice none 0 0) [] := ⟨fun k hk => by simp [Value.ownBlock] at hk, OwnRow.none_ _ _ _ _ _⟩
theorem R_mono (h : d.R e w base ok v xs) (hok : ∀ k, ok k → ok' k) : d.R e w base ok' v xs := ⟨fun k hk => hok k (h.1 k hk), h.2.imp_ (fun _ _ hp => d.M_mono (fun k hk => ⟨hok k hk.1, hk.2⟩) hp)⟩
theorem R_bound (h : d.R e w base ok v xs) : d.R e w base (fun k => ok k ∧ base ≤ k ∧ k < w.heap.size ∧ ∃ q, q ∈ e :: d.E ∧ ∃ cells, w.heap[k]? = some (.cells cells q (0, 0))) v xs := by
  obtain ⟨h0, inner, ho, hr⟩ := h
  refine ⟨fun k hk => ?_, inner, ho, hr.imp_ (fun _ _ hp => d.M_mono (fun k hk => ?_) (d.M_bound hp))⟩
  · obtain ⟨cells, hc⟩ := own_typed ho k hk
    exact ⟨h0 k hk, own_base ho k hk, own_lt ho k hk, e, List.mem_cons_self, cells, hc⟩
  · obtain ⟨⟨h1, h2⟩, h3, h4, q, hq, hc⟩ := hk
    exact ⟨⟨h1, h3, h4, q, List.mem_cons_of_mem _ hq, hc⟩, h2⟩
theorem R_move (h : d.R e w base ok v xs) (hm : ∀ k, ok k → w1.heap[k]? = w.heap[k]?) : d.R e w1 base ok v xs := by
  obtain ⟨h0, inner, ho, hr⟩ := h
  exact ⟨h0, inner, own_move ho (fun k hk => hm k (h0 k hk)), hr.imp_ (fun _ _ hp => d.M_move (fun k hk => hm k hk.1) hp)⟩
theorem R_lower {base' : Nat} (h : d.R e w base ok v xs) (hb : base' ≤ base) : d.R e w base' ok v xs := by
  obtain ⟨h0, inner, ho, hr⟩ := h
  exact ⟨h0, inner, own_weaken ho hb, hr.imp_ (fun _ _ hp => d.M_lower hb hp)⟩
theorem R_step (h : d.R e w base ok v xs) (hm : ∀ k, ok k → k < w.heap.size → w1.heap[k]? = w.heap[k]?) : d.R e w1 base ok v xs :=
  R_mono (R_move (R_bound h) (fun k hk => hm k hk.1 hk.2.2.1)) (fun _ hk => hk.1)
theorem M_step {x : α} {cs : List Value} (h : d.M w base ok x cs) (hm : ∀ k, ok k → k < w.heap.size → w1.heap[k]? = w.heap[k]?) : d.M w1 base ok x cs :=
  d.M_mono (fun _ hk => hk.1) (d.M_move (fun k hk => hm k hk.1 hk.2.2.1) (d.M_bound h))
theorem R_below (h : d.R e w base ok v xs) (hb : Below w.heap.size w w1) : d.R e w1 base ok v xs := R_step h (fun k _ hk => hb.block k hk)
theorem R_reads (h : d.R e w base ok v xs) : ∃ A c, v = .slice A xs.length c ∧ xs.length ≤ c ∧ d.C w A xs.length xs := by
  obtain ⟨A, c, he, hl, hr⟩ := OwnRow.reads h.2
  exact ⟨A, c, he, hl, hr.imp_ (Below.refl _ _) (fun _ _ hp => d.K_of_M hp)⟩
end
/-! #### the kinds -/
def scalar {α : Type} (enc : α → Value) (h1 : ∀ x, (enc x).oneCell' = true) : Kd α where
  sz := 1
  E := []
  K := fun _ x cs => cs = [enc x]
  M := fun _ _ _ x cs => cs = [enc x]
  K_len := fun h => by rw [h]; rfl
  K_one := fun h u hu => by
    rw [h] at hu
    rw [List.mem_singleton.1 hu]
    exact h1 _
  K_below := fun _ h => h
  K_of_M := fun h => h
  M_mono := fun _ h => h
  M_bound := fun h => h
  M_move := fun _ h => h
  M_lower := fun _ h => h
def int (k : IntKind) : Kd Int := scalar (Value.int k) (fun _ => rfl)
def bool : Kd Bool := scalar Value.bool (fun _ => rfl)
def string : Kd ByteArray := scalar Value.string (fun _ => rfl)
def slice {α : Type} (e : Nat) (d : Kd α) : Kd (List α) where
  sz := 1
  E := e :: d.E
  K := fun w xs cs => ∃ A c, cs = [.slice A xs.length c] ∧ xs.length ≤ c ∧ d.C w A xs.length xs
  M := fun w base ok xs cs => ∃ v, cs = [v] ∧ d.R e w base ok v xs
  K_len := by
    rintro w x cs ⟨A, c, rfl, _⟩
    rfl
  K_one := by
    rintro w x cs ⟨A, c, rfl, _⟩ u hu
    rw [List.mem_singleton.1 hu]
    rfl
  K_below := by
    rintro w w1 x cs hb ⟨A, c, rfl, hl, hr⟩
    exact ⟨A, c, rfl, hl, C_below hr hb⟩
  K_of_M := by
    rintro w base ok x cs ⟨v, rfl, h⟩
    obtain ⟨A, c, rfl, hl, hr⟩ := R_reads h
    exact ⟨A, c, rfl, hl, hr⟩
  M_mono := by
    rintro w base ok ok' x cs hok ⟨v, rfl, h⟩
    exact ⟨v, rfl, R_mono h hok⟩
  M_bound := by
    rintro w base ok x cs ⟨v, rfl, h⟩
    exact ⟨v, rfl, R_bound h⟩
  M_move := by
    rintro w w1 base ok x cs hm ⟨v, rfl, h⟩
    exact ⟨v, rfl, R_move h hm⟩
  M_lower := by
    rintro w base base' ok x cs hb ⟨v, rfl, h⟩
    exact ⟨v, rfl, R_lower h hb⟩
def bot {α : Type} (sz : Nat) (E : List Nat) : Kd α where
  sz := sz
  E := E
  K := fun _ _ _ => False
  M := fun _ _ _ _ _ => False
  K_len := fun h => h.elim
  K_one := fun h => h.elim
  K_below := fun _ h => h
  K_of_M := fun h => h
  M_mono := fun _ h => h
  M_bound := fun h => h
  M_move := fun _ h => h
  M_lower := fun _ h => h
def upto {α : Type} (F : Kd α → Kd α) (sz : Nat) (E : List Nat) : Nat → Kd α
  | 0 => bot sz E
  | n + 1 => F (upto F sz E n)
/-! #### an element of a row that is read; an element appended -/
theorem R_appended {α : Type} {d : Kd α} {e base : Nat} {ok okp : Nat → Prop} {W w1 : World} {v v1 : Value} {xs : List α} {p : α} {inner cs : List Value} (h0 : ∀ k, v.ownBlock = some k → ok k) (hr : Reps (d.M W base (fun k => ok k ∧ some k ≠ v.ownBlock)) d.sz xs inner) (hp : d.M W base okp p cs) (hokp : ∀ k, okp k → ok k ∧ some k ≠ v.ownBlock) (hfresh : ∀ k, W.heap.size ≤ k → ok k)
    (hown : w1.ownsRow base e d.sz v1 (xs.length + 1) (inner ++ cs)) (hg : W.grownBy w1 v.ownBlock) (hat : v1.ownBlock = v.ownBlock ∨ ∃ b, v1.ownBlock = some b ∧ W.heap.size ≤ b) : d.R e w1 base ok v1 (xs ++ [p]) := by
  have hne : ∀ k, some k ≠ v.ownBlock → k < W.heap.size → some k ≠ v1.ownBlock := by
    intro k hk hlt
    rcases hat with hat | ⟨b, hb, hle⟩
    · rw [hat]; exact hk
    · rw [hb]
      intro he
      injection he with he
      omega
  have step : ∀ {q : α} {c : List Value} {o : Nat → Prop}, d.M W base o q c → (∀ k, o k → ok k ∧ some k ≠ v.ownBlock) → d.M w1 base (fun k => ok k ∧ some k ≠ v1.ownBlock) q c := by
    intro q c o hq ho
    have h1 := d.M_move (w1 := w1) (fun k hk => hg.block k hk.2.2.1 (ho k hk.1).2) (d.M_bound hq)
    exact d.M_mono (fun k hk => ⟨(ho k hk.1).1, hne k (ho k hk.1).2 hk.2.2.1⟩) h1
  refine ⟨fun k hk => ?_, inner ++ cs, by rw [List.length_append, List.length_singleton]; exact hown, ?_⟩
  · rcases hat with hat | ⟨b, hb, hle⟩
    · exact h0 k (hat ▸ hk)
    · rw [hb] at hk
      injection hk with hk
      exact hfresh k (by omega)
  · exact (hr.imp_ (fun _ _ hq => step hq (fun _ hk => hk))).snoc (step hp hokp) (d.K_len (d.K_of_M hp))
section
variable {P : Program} {ops : Array Oper} {rest : List Oper} {o : Oper} {a : Act} {Q : Exit → Act → World → Prop} {α : Type}
theorem R_append (d : Kd α) {w0 W : World} (base : Nat) (hgd : o.guard = none) (s x : Operand) (t e : TypeId) (z : Value) (bytes : Nat)
    (ho : o.op = .call { callee := .builtin .append, args := #[s, x], argTypes := #[t, t] })
    (ht : P.underlying t = some (.slice e)) (hinfo : (P.info? e).map (fun i => (i.zero, i.size, i.bytes)) = some (some z, d.sz, bytes)) (hz : z.cells.size = d.sz) (hs0 : 0 < d.sz) (hb0 : 0 < bytes)
    (v : Value) (xs : List α) (p : α) (cs : List Value) (ok okp : Nat → Prop) (hs : a.eval s = v) (hx : a.eval x = .slice (some ⟨W.heap.size, 0, none⟩) 1 1) (hp : d.M W base okp p cs) (hokp : ∀ k, okp k → ok k ∧ some k ≠ v.ownBlock) (hfresh : ∀ k, W.heap.size ≤ k → ok k)
    (HO : d.R e W base ok v xs) (HB : Below base w0 W) (hbase : base ≤ W.heap.size) (hl : (xs.length + 1) * bytes ≤ 140737488355328)
    (h : ∀ v1 w1, d.R e w1 base ok v1 (xs ++ [p]) → Below base w0 w1 → W.grownBy w1 v.ownBlock → (v1.ownBlock = v.ownBlock ∨ ∃ b, v1.ownBlock = some b ∧ W.heap.size ≤ b) → wpList P ops Q rest (a.put o.dst v1) w1) :
    wpList P ops Q (o :: rest) a (W.alloc (.cells cs.toArray e)) := by
  obtain ⟨h0, inner, hown, hr⟩ := HO
  refine print_append_cells base hgd s x t e z d.sz bytes ho ht hinfo hz hs0 hb0 v xs.length inner cs hs hx (d.K_len (d.K_of_M hp)) (d.K_one (d.K_of_M hp)) hown HB hbase hl ?_
  intro v1 w1 hown1 hb1 hg1 hat1
  exact h v1 w1 (R_appended h0 hr hp hokp hfresh hown1 hg1 hat1) hb1 hg1 hat1
end
section
variable {P : Program} {ops : Array Oper} {o : Oper} {a : Act} {Q : Exit → Act → World → Prop} {Kc : Act → World → Prop} {α : Type}
end
theorem own_of_R {α : Type} {enc : α → Value} {h1 : ∀ x, (enc x).oneCell' = true} {e : Nat} {w : World} {base : Nat} {ok : Nat → Prop} {v : Value} {xs : List α} (h : (scalar enc h1).R e w base ok v xs) : w.ownsRow base e 1 v xs.length (encs enc xs) := by
  obtain ⟨_, inner, ho, hr⟩ := h
  have : inner = encs enc xs := by
    apply List.ext_getElem?
    intro j
    rcases Nat.lt_or_ge j xs.length with hj | hj
    · have h2 := hr.2 j _ (List.getElem?_eq_getElem hj)
      have hl : j < inner.length := by have := hr.1; simp [scalar] at this; omega
      have h3 : (inner.drop (j * 1)).take 1 = [enc xs[j]] := h2
      rw [Nat.mul_one, List.drop_eq_getElem_cons hl] at h3
      have h4 : inner[j] = enc xs[j] := by
        have h5 := congrArg List.head? h3
        rw [List.take_succ_cons] at h5
        exact Option.some.inj h5
      rw [List.getElem?_eq_getElem hl, h4]
      simp [encs, List.getElem?_eq_getElem hj]
    · have h3 : inner.length = xs.length := by have := hr.1; simp [scalar] at this; omega
      rw [List.getElem?_eq_none (by omega), List.getElem?_eq_none (by rw [encs_length]; omega)]
  rw [← this]
  exact ho
theorem C_of_reads {α : Type} {enc : α → Value} {d : α} {h1 : ∀ x, (enc x).oneCell' = true} {w : World} {A : Option Addr} {n : Nat} {xs : List α} (h : ReadsOf enc d w A n xs) : (scalar enc h1).C w A n xs := by
  refine ⟨h.1, h.2.1, fun hn => ?_⟩
  obtain ⟨ad, e, hc⟩ := h.2.2 hn
  refine ⟨ad, e, fun j p hj => ⟨[enc p], rfl, rfl, fun i u hu => ?_⟩⟩
  obtain ⟨hl, hp⟩ := List.getElem?_eq_some_iff.1 hj
  have h2 := hc j (by have := h.1; omega)
  rw [List.getD_eq_getElem?_getD, hj] at h2
  cases i with
  | zero =>
    have : enc p = u := by simpa using hu
    subst this
    simpa [scalar] using h2
  | succ i => simp at hu
theorem reads_of_C {α : Type} {enc : α → Value} {d : α} {h1 : ∀ x, (enc x).oneCell' = true} {w : World} {A : Option Addr} {n : Nat} {xs : List α} (h : (scalar enc h1).C w A n xs) : ReadsOf enc d w A n xs := by
  refine ⟨h.1, h.2.1, fun hn => ?_⟩
  obtain ⟨ad, e, hc⟩ := h.2.2 hn
  refine ⟨ad, e, fun j hj => ?_⟩
  have hl : j < xs.length := by have := h.1; omega
  obtain ⟨c, _, hK, hcell⟩ := hc j _ (List.getElem?_eq_getElem hl)
  have hK' : c = [enc xs[j]] := hK
  subst hK'
  have := hcell 0 _ rfl
  simpa [scalar, List.getD_eq_getElem?_getD, List.getElem?_eq_getElem hl] using this
end Kd
/-! ### 24. Kinds nested in themselves -/
namespace Kd
section
variable {α : Type} {F : Kd α → Kd α} {sz : Nat} {E : List Nat} {hs : ∀ n, (upto F sz E n).sz = sz} {hE : ∀ n q, q ∈ (upto F sz E n).E → q ∈ E}
end
end Kd
/-! ### 25. What is held while another row is written: 'ok' says that its rows are none of that row's block -/
namespace Kd
end Kd
/-! ### 26. Words for a printer that takes every slice by its kind -/
namespace Kd
section
variable {α β : Type} {d : Kd α} {d' : Kd β} {e e' : Nat} {w w1 W : World} {base b b' : Nat} {ok ok' okv oku : Nat → Prop} {v u : Value} {xs : List α} {ys : List β}
theorem R_alloc (h : d.R e w base ok v xs) (o : Obj) : d.R e (w.alloc o) base ok v xs := R_below h (below_alloc (Below.refl _ _) o)
theorem R_drew (h : d.R e w base ok v xs) : d.R e w.drew base ok v xs := R_below h (below_drew (Below.refl _ _))
theorem R_drewN (h : d.R e w base ok v xs) (m : Nat) : d.R e (w.drewN m) base ok v xs := R_below h (pw_below_drewN (Below.refl _ _) m)
theorem C_alloc {A : Option Addr} {n : Nat} (h : d.C w A n xs) (o : Obj) : d.C (w.alloc o) A n xs := C_below h (below_alloc (Below.refl _ _) o)
theorem C_drew {A : Option Addr} {n : Nat} (h : d.C w A n xs) : d.C w.drew A n xs := C_below h (below_drew (Below.refl _ _))
theorem C_drewN {A : Option Addr} {n : Nat} (h : d.C w A n xs) (m : Nat) : d.C (w.drewN m) A n xs := C_below h (pw_below_drewN (Below.refl _ _) m)
theorem C_nil (d : Kd α) (w : World) : d.C w none ([] : List α).length [] := ⟨rfl, by simp, fun h => absurd h (Nat.lt_irrefl 0)⟩
theorem R_reads' {A : Option Addr} {n c : Nat} (h : d.R e w base ok (.slice A n c) xs) : n = xs.length ∧ n ≤ c ∧ d.C w A xs.length xs := by
  obtain ⟨A', c', he, hl, hr⟩ := R_reads h
  injection he with h1 h2 h3
  subst h1
  exact ⟨h2, by omega, hr⟩
end
/-! #### scalars -/
section
variable {w W : World} {A : Option Addr} {n : Nat}
theorem at_int {k : IntKind} {xs : List Int} (h : (Kd.int k).C w A n xs) (i : Int) (h0 : 0 ≤ i) (h1 : i < n) : ∃ ad, A = some ad ∧ w.cell? (ad.add i.toNat) = some (.int k (rd xs i)) :=
  ReadsOf.at_ (reads_of_C (enc := Value.int k) (d := (0 : Int)) (h1 := fun _ => rfl) h) i h0 h1
variable {α : Type} {enc : α → Value} {h1 : ∀ x, (enc x).oneCell' = true} {e base g cap : Nat} {ok : Nat → Prop} {xs : List α}
end
/-! #### events: a letter for what make and a literal leave -/
section
variable {P : Program} {ops : Array Oper} {rest : List Oper} {o : Oper} {a : Act} {Q : Exit → Act → World → Prop}
theorem event_run {W w1 : World} {v : Value} (hgd : o.guard = none) (hrun : (execOp a.eval o).run P W = .ok (.value v) w1) (h : wpList P ops Q rest (a.put o.dst v) w1) : wpList P ops Q (o :: rest) a W := by
  refine wpList_plain hgd fun K hK => ?_
  unfold Oper.wp
  rw [hrun]
  exact hK _ _ h
variable {α : Type}
end
end Kd
/-! ### 27. Cuts of a row of one's own: 'xs = xs[:n]' stays a row (R_take); 'xs = xs[k:]' is a row that begins inside its block (Kd.Q), append goes on it too -/
section
variable {P : Program}
end
def QRow (w : World) (base : Nat) (e : TypeId) (size : Nat) (v : Value) (n : Nat) (xs : List Value) : Prop :=
  xs.length = n * size ∧
  ((n = 0 ∧ ∃ A, v = .slice A 0 0 ∧ ∀ a, A = some a → base ≤ a.block ∧ ∃ cur, w.heap[a.block]? = some (.cells cur e (0, 0))) ∨
   ∃ g off cap cur, v = .slice (some ⟨g, off * size, none⟩) n cap ∧ base ≤ g ∧ w.heap[g]? = some (.cells cur e (0, 0)) ∧ n ≤ cap ∧ off + cap ≤ maxLen ∧ cur.size = (off + cap) * size ∧ (cur.toList.drop (off * size)).take (n * size) = xs)
section
variable {w w1 : World} {base n size : Nat} {e : TypeId} {v : Value} {xs : List Value}
theorem q_of_own (h : w.ownsRow base e size v n xs) : QRow w base e size v n xs := by
  obtain ⟨h1, h2⟩ := h
  refine ⟨h1, ?_⟩
  rcases h2 with ⟨rfl, h0⟩ | ⟨g, cap, cur, rfl, hb, hh, hnc, hcm, hcs, ht⟩
  · exact .inl ⟨h0, none, rfl, fun a ha => by cases ha⟩
  · exact .inr ⟨g, 0, cap, cur, by rw [Nat.zero_mul], hb, hh, hnc, by rw [Nat.zero_add]; exact hcm, by rw [Nat.zero_add]; exact hcs, by rw [Nat.zero_mul, List.drop_zero]; exact ht⟩
end
section
variable {P : Program}
end
/-! ### 28. The kinds' words for cuts: R_take; Q (a row that may begin inside its block) with all of R's movers -/
namespace Kd
def Q {α : Type} (d : Kd α) (e : Nat) (w : World) (base : Nat) (ok : Nat → Prop) (v : Value) (xs : List α) : Prop :=
  (∀ k, v.ownBlock = some k → ok k) ∧ ∃ inner, QRow w base e d.sz v xs.length inner ∧ Reps (d.M w base (fun k => ok k ∧ some k ≠ v.ownBlock)) d.sz xs inner
section
variable {α : Type} {d : Kd α} {e : Nat} {w w1 W : World} {base : Nat} {ok ok' : Nat → Prop} {v : Value} {xs : List α}
theorem Q_of_R (h : d.R e w base ok v xs) : d.Q e w base ok v xs := by
  obtain ⟨h0, inner, ho, hr⟩ := h
  exact ⟨h0, inner, q_of_own ho, hr⟩
theorem Q_nil (d : Kd α) (e : Nat) (w : World) (base : Nat) (ok : Nat → Prop) : d.Q e w base ok (.slice none 0 0) [] := Q_of_R (R_nil d e w base ok)
end
section
variable {P : Program} {ops : Array Oper} {rest : List Oper} {o : Oper} {a : Act} {Q' : Exit → Act → World → Prop} {Kc : Act → World → Prop} {α : Type}
end
end Kd
/-! ### 29. Movers that ask of another row no more than they need: for R and for Q -/
namespace Kd
section
variable {α : Type} {d : Kd α} {e e' : Nat} {w w1 W : World} {base : Nat} {ok : Nat → Prop} {u v : Value} {xs : List α}
end
end Kd
/-! ### 30. Elements written: x[i] = T{..}, x[i].f = v, swaps, in a row of elements of any kind -/
namespace Kd
section
variable {α : Type} {d : Kd α} {e base g n cap : Nat} {ok okp : Nat → Prop} {W : World} {xs : List α}
end
end Kd
/-! ### 31. What came in, put into what is made: 'fixed d w0' (read in w0, whatever happens since), 'or_ a b', 'mix' (a slice that came in, or one that is made) -/
namespace Kd
section
variable {α : Type} {F : Kd α → Kd α} {sz : Nat} {E : List Nat} {hs : ∀ n, (upto F sz E n).sz = sz} {hE : ∀ n q, q ∈ (upto F sz E n).E → q ∈ E}
end
end Kd
/-! ### 32. A whole row appended, of elements of any kind; copy onto a row of scalars of one's own -/
namespace Kd
section
variable {P : Program} {ops : Array Oper} {rest : List Oper} {o : Oper} {a : Act} {Q : Exit → Act → World → Prop} {α : Type}
end
end Kd
/-! ### 33. A store into a row of one's own, as_ an event: no go_simp -/
namespace Kd
section
variable {P : Program} {ops : Array Oper} {rest : List Oper} {o : Oper} {a : Act} {Q : Exit → Act → World → Prop} {α : Type}
end
end Kd
/-! ### 34. Cuts that are only read, of any row -/
theorem add_add (a : Addr) (i j : Nat) : (a.add i).add j = a.add (i + j) := by
  unfold Addr.add
  by_cases h1 : i = 0 <;> by_cases h2 : j = 0 <;> simp [h1, h2, Nat.add_assoc]
namespace Kd
section
variable {α : Type} {k : Kd α} {w : World} {A : Option Addr} {xs : List α} {m c : Nat}
end
end Kd
section
variable {P : Program}
end
/-! ### 35. string(b), b read (a cut too) -/
/-! ### 6. What the printer adds -/
theorem below_size {w W : World} (h : Below w.heap.size w W) : w.heap.size ≤ W.heap.size := h.size
theorem below_step {w W w2 : World} (h : Below w.heap.size w W) (k : Below W.heap.size W w2) : Below w.heap.size w w2 := below_then h h.size k
theorem ReadsInt.nil (W : World) (k : IntKind) : ReadsInt W k none ([] : List Int).length [] := ⟨rfl, by simp, fun h => absurd h (Nat.lt_irrefl 0)⟩
theorem ReadsInt.drewN {W : World} {k : IntKind} {A : Option Addr} {n : Nat} {xs : List Int} (h : ReadsInt W k A n xs) (m : Nat) : ReadsInt (W.drewN m) k A n xs := h
theorem ReadsInt.ofRow {k : IntKind} {w : World} {a : Option Addr} {len cap : Nat} {zs : List Int} (h : (a = none ∧ len = 0 ∧ cap = 0 ∧ zs = []) ∨ ∃ x, a = some x ∧ len ≤ cap ∧ cap ≤ maxLen ∧ zs.length = cap ∧ (∀ i, i < zs.length → w.cell? (x.add i) = some (.int k (zs.getD i 0))) ∧ ∀ n ∈ zs, (Lit.int k n).wf = true) :
    ∃ l : List Int, len = l.length ∧ ReadsInt w k a l.length l ∧ l.length ≤ maxLen ∧ ∀ x ∈ l, (Lit.int k x).wf = true := by
  rcases h with ⟨rfl, rfl, rfl, rfl⟩ | ⟨x, rfl, hl, hm, hz, hc, hw⟩
  · exact ⟨[], rfl, ReadsInt.nil _ _, Nat.zero_le _, fun x hx => by simp at hx⟩
  · have e : (zs.take len).length = len := by simp; omega
    have hm' : len ≤ maxLen := Nat.le_trans hl hm
    refine ⟨zs.take len, e.symm, ⟨rfl, by rw [e]; simpa [maxLen] using hm', fun _ => ⟨x, rfl, fun j hj => ?_⟩⟩, by rw [e]; exact hm', fun y hy => hw y (List.mem_of_mem_take hy)⟩
    rw [e] at hj
    rw [hc j (by omega)]
    simp [List.getD, List.getElem?_take, hj]
theorem below_set {w W : World} {g j : Nat} {v : Value} (h : Below w.heap.size w W) (hg : w.heap.size ≤ g) : Below w.heap.size w (W.setCell ⟨g, j, none⟩ v) := h.setCell hg _
theorem ReadsOf.nil {α : Type} (enc : α → Value) (d : α) (W : World) : ReadsOf enc d W none ([] : List α).length [] := ⟨rfl, by simp, fun h => absurd h (Nat.lt_irrefl 0)⟩
theorem ReadsOf.drewN {α : Type} {enc : α → Value} {d : α} {W : World} {A : Option Addr} {n : Nat} {xs : List α} (h : ReadsOf enc d W A n xs) (m : Nat) : ReadsOf enc d (W.drewN m) A n xs := h
theorem blk_put {w : World} {g : Nat} {t : TypeId} {cs cs' : Array Value} (h : w.heap[g]? = some (.cells cs t (0, 0))) (i : Nat) (u : Value) (e : cs.setIfInBounds i u = cs') : (w.setCell ⟨g, i, none⟩ u).heap[g]? = some (.cells cs' t (0, 0)) := e ▸ blk_set h i u
theorem ReadsInt.ofRowC {k : IntKind} {w : World} {a : Option Addr} {len cap : Nat} {zs : List Int} (h : (a = none ∧ len = 0 ∧ cap = 0 ∧ zs = []) ∨ ∃ x, a = some x ∧ len ≤ cap ∧ cap ≤ maxLen ∧ zs.length = cap ∧ (∀ i, i < zs.length → w.cell? (x.add i) = some (.int k (zs.getD i 0))) ∧ ∀ n ∈ zs, (Lit.int k n).wf = true) :
    ∃ l : List Int, len = l.length ∧ ReadsInt w k a l.length l ∧ l.length ≤ maxLen ∧ (∀ x ∈ l, (Lit.int k x).wf = true) ∧ l.length ≤ cap := by
  have hl : len ≤ cap := by
    rcases h with ⟨_, rfl, rfl, _⟩ | ⟨_, _, h, _⟩
    · exact Nat.le_refl _
    · exact h
  obtain ⟨l, e, h1, h2, h3⟩ := ReadsInt.ofRow h
  exact ⟨l, e, h1, h2, h3, e ▸ hl⟩
theorem below_drew1 {base : Nat} {w W : World} (h : Below base w W) : Below base w W.drew := h.drew
namespace Kd
section
variable {α β : Type} {d : Kd α} {d' : Kd β} {e e' base base' n : Nat} {ok ok' : Nat → Prop} {w W w1 W1 : World} {v u : Value} {xs : List α} {ys : List β} {A : Option Addr} {c : Nat}
end
section
variable {α : Type} {enc : α → Value} {h1 : ∀ x, (enc x).oneCell' = true} {w W : World} {A : Option Addr} {n g : Nat} {xs : List α}
end
end Kd
namespace Kd
section
variable {α : Type} {d : Kd α} {e base g : Nat} {ok : Nat → Prop} {w w1 : World} {v : Value} {xs : List α} {o : Obj}
end
end Kd
section
variable {P : Program} {ops : Array Oper} {rest : List Oper} {o : Oper} {a : Act} {Q : Exit → Act → World → Prop}
theorem box_event {W : World} (hgd : o.guard = none) {N : Tmp} (_hd : o.dst = some N) {cs : Array Value} {t : TypeId}
    (hrun : (execOp a.eval o).run P W = .ok (.value (.pointer (some ⟨W.heap.size, 0, none⟩))) (W.alloc (.cells cs t (0, 0))))
    (h : ∀ g, g = W.heap.size → ∀ w1, w1.heap[g]? = some (.cells cs t (0, 0)) → Below W.heap.size W w1 → wpList P ops Q rest (a.put o.dst (.pointer (some ⟨g, 0, none⟩))) w1) : wpList P ops Q (o :: rest) a W :=
  Kd.event_run hgd hrun (h _ rfl _ (blk_new W _) (below_alloc (Below.refl _ _) _))
end
namespace Kd
section
variable {α : Type} {enc : α → Value} {h1 : ∀ x, (enc x).oneCell' = true} {e base g n cap : Nat} {ok : Nat → Prop} {W : World} {xs : List α}
end
end Kd
section
variable {P : Program} {ops : Array Oper} {rest : List Oper} {o : Oper} {a : Act} {Q : Exit → Act → World → Prop}
theorem store_event {W w1 : World} (hgd : o.guard = none) {t : TypeId} {p : Tmp} {v : Operand} (_ho : o.op = .store t (.tmp p) v) (hN : o.dst = none)
    (hrun : (execOp a.eval o).run P W = .ok .skip w1) (h : ∀ w', w' = w1 → wpList P ops Q rest a w') : wpList P ops Q (o :: rest) a W := by
  refine wpList_plain hgd fun K hK => ?_
  unfold Oper.wp
  rw [hrun]
  show K (a.put o.dst undef) w1
  rw [hN]
  exact hK _ _ (h _ rfl)
end
namespace Kd
section
variable {α : Type} {enc : α → Value} {h1 : ∀ x, (enc x).oneCell' = true} {e base g n cap : Nat} {ok : Nat → Prop} {W : World} {xs : List α}
end
end Kd
section
variable {P : Program} {ops : Array Oper} {rest : List Oper} {o : Oper} {a : Act} {Q : Exit → Act → World → Prop} {W : World}
theorem gate_dst {N : Tmp} (_hN : o.dst = some N) (h : wpList P ops Q (o :: rest) a W) : wpList P ops Q (o :: rest) a W := h
theorem gate_store {t : TypeId} {p : Tmp} {v : Operand} (_ho : o.op = .store t (.tmp p) v) (h : wpList P ops Q (o :: rest) a W) : wpList P ops Q (o :: rest) a W := h
end
/-! ### 36. Events as_ one step of a region that draws (for one_, two_, three_) -/
section
variable {P : Program} {ops : Array Oper} {o : Oper} {a : Act} {Q : Exit → Act → World → Prop} {Kc : Act → World → Prop}
namespace Kd
variable {α : Type}
end Kd
end
/-! ### 37. Results of any shape -/
section
variable {P : Program} {tmps : Array Value} {w : World}
end
/-! ### 38. 'out = append(out[:k], out[k+1:]...)': an element taken out of a row of one's own, in place -/
namespace Kd
section
variable {P : Program} {α : Type}
end
section
variable {P : Program} {ops : Array Oper} {rest : List Oper} {o : Oper} {a : Act} {Q : Exit → Act → World → Prop} {Kc : Act → World → Prop} {α : Type}
end
end Kd
end Go.Proofs.YtcfpkkgdofblfaaW.PrintWords
/-
 PRINTED WORDS, second file: A REGION THAT DRAWS ITS ORDER, WALKED BY HAND, where its last store writes what its own loads read ('x.f = append(x.f, f(i))'). Plain theorems; no macro, no elab. A claim may hold it (turn the namespace's name).
 A load may be taken first in every world that meets S; behind the operations of ds nothing is shown; sound because each of ds waits for what is taken (Region.lastB). The kernel checks it.
 By an AI agent of Go's test side, Mon Nov 16 2026. No person has read it.
-/
namespace Go.Proofs.YtcfpkkgdofblfaaW.PrintLast
section
variable {P : Program} {ops : Array Oper} {Q : Exit → Act → World → Prop} {md : Region.Mode} {S : World → Prop} {ds : List Nat}
def Region.reachB (md : Region.Mode) (ops : Array Oper) (i : Nat) : Nat → Nat → Bool
 | 0, _ => false
 | fuel + 1, d => match ops[d]? with
  | some o => o.after.any fun e => Region.binds md e && (e.on == i || Region.reachB md ops i fuel e.on)
  | none => false
def Region.closedB (md : Region.Mode) (ops : Array Oper) (listed : Array Bool) : Bool :=
 (List.range ops.size).all fun j => !listed.getD j false || match ops[j]? with
  | some o => o.after.all fun e => !Region.binds md e || listed.getD e.on false
  | none => true
def Region.lastB (md : Region.Mode) (ops : Array Oper) (listed : Array Bool) (ds : List Nat) (i : Nat) : Bool :=
 ds.all fun d => listed.getD d true || Region.reachB md ops i ops.size d
def ListedClosed (md : Region.Mode) (ops : Array Oper) (listed : Array Bool) : Prop :=
 ∀ j oj, ops[j]? = some oj → listed.getD j false = true → ∀ e ∈ oj.after, Region.binds md e = true → listed.getD e.on false = true
theorem Region.closedB_spec {listed : Array Bool} (h : Region.closedB md ops listed = true) : ListedClosed md ops listed := by
 intro j oj hj hl e he hb
 have hlt : j < ops.size := (Array.getElem?_eq_some_iff.1 hj).1
 have h1 := List.all_eq_true.1 h j (List.mem_range.2 hlt)
 simp only [hl, hj, Bool.not_true, Bool.false_or] at h1
 have h2 := Array.all_eq_true_iff_forall_mem.1 h1 e he
 simpa [hb] using h2
theorem ListedClosed.set {listed : Array Bool} {i : Nat} (h : ListedClosed md ops listed) (hi : i ∈ Region.ready md ops listed) : ListedClosed md ops (listed.setIfInBounds i true) := by
 obtain ⟨_, oi, hoi, hall⟩ := mem_ready.1 hi
 intro j oj hj hl e he hb
 by_cases hij : i = j
 ·subst hij
  have : oj = oi := Option.some.inj (hj.symm.trans hoi)
  subst this
  exact getD_set_true (hall e he hb)
 ·rw [getD_set_ne false hij] at hl
  exact getD_set_true (h j oj hj hl e he hb)
theorem Region.reach_listed {listed : Array Bool} {i : Nat} (hc : ListedClosed md ops listed) : ∀ (fuel d : Nat), Region.reachB md ops i fuel d = true → listed.getD d false = true → listed.getD i false = true
 | 0, _, h, _ => by simp [Region.reachB] at h
 | fuel + 1, d, h, hl => by
  unfold Region.reachB at h
  cases ho : ops[d]? with
  | none => rw [ho] at h; simp at h
  | some o =>
   rw [ho] at h
   obtain ⟨e, he, h1⟩ := Array.any_eq_true'.1 h
   simp only [Bool.and_eq_true, Bool.or_eq_true, beq_iff_eq] at h1
   have hle := hc d o ho hl e he h1.1
   rcases h1.2 with h2 | h2
   ·rw [← h2]; exact hle
   ·exact Region.reach_listed hc fuel e.on h2 hle
theorem Region.reach_not_ready {listed : Array Bool} {i d fuel : Nat} (hc : ListedClosed md ops listed) (hr : Region.reachB md ops i fuel d = true) (hun : listed.getD i true = false) : d ∉ Region.ready md ops listed := by
 intro hd
 obtain ⟨_, o, ho, hall⟩ := mem_ready.1 hd
 have hi : listed.getD i false = true := by
  cases fuel with
  | zero => simp [Region.reachB] at hr
  | succ n =>
   unfold Region.reachB at hr
   rw [ho] at hr
   obtain ⟨e, he, h1⟩ := Array.any_eq_true'.1 hr
   simp only [Bool.and_eq_true, Bool.or_eq_true, beq_iff_eq] at h1
   have hle := hall e he h1.1
   rcases h1.2 with h2 | h2
   ·rw [← h2]; exact hle
   ·exact Region.reach_listed hc n e.on h2 hle
 rcases Nat.lt_or_ge i listed.size with h' | h'
 ·simp [h'] at hun hi
  rw [hun] at hi
  cases hi
 ·simp [Array.getElem?_eq_none h'] at hun
def wpAnyLast (P : Program) (md : Region.Mode) (ops : Array Oper) (Q : Exit → Act → World → Prop) (S : World → Prop) (ds : List Nat) : Nat → Array Bool → Act → World → Prop
 | 0, listed, a, w => Region.ready md ops listed = [] ∧ Q .normal a w
 | fuel + 1, listed, a, w =>
  (Region.ready md ops listed = [] → Q .normal a w) ∧
  ∀ i ∈ Region.ready md ops listed, wpOp P ops Q i (fun a' w' => (i ∉ ds → S w → S w') ∧ wpAnyLast P md ops Q S ds fuel (listed.setIfInBounds i true) a' w') a w
theorem wpAny_of_last : ∀ (fuel : Nat) (listed : Array Bool) (a : Act) (w : World), wpAnyLast P md ops Q S ds fuel listed a w → wpAny P md ops Q fuel listed a w
 | 0, _, _, _, h => h
 | fuel + 1, _, _, _, h => ⟨h.1, fun i hi => wpOp_mono (fun a' w' h' => wpAny_of_last fuel _ a' w' h'.2) (h.2 i hi)⟩
theorem wpAnyLast_first {i : Nat} {oi : Oper} {v : Value} (hi : ops[i]? = some oi) (hsel : ∀ (j : Nat) (o : Oper) cs b, ops[j]? = some o → o.op ≠ .select cs b)
  (hQ : ∀ c a w, Q (.panic c) (a.put oi.dst v) w → Q (.panic c) a w) (n : Nat) :
  ∀ (fuel : Nat) (listed : Array Bool) (a : Act) (w : World),
   (∀ j oj, ops[j]? = some oj → j ≠ i → listed.getD j true = false → (∀ e ∈ oj.after, Region.binds md e = true → e.on ≠ i) → oi.apart ops oj = true) →
   ListedClosed md ops listed → (∀ d ∈ ds, listed.getD d true = false → Region.reachB md ops i n d = true) →
   i ∈ Region.ready md ops listed → YieldsIf P ops S oi v a → S w →
   wpAnyLast P md ops Q S ds fuel (listed.setIfInBounds i true) (a.put oi.dst v) w → wpAnyLast P md ops Q S ds (fuel + 1) listed a w := by
 intro fuel
 induction fuel with
 | zero =>
  intro listed a w _ _ _ hr hy hS H
  refine ⟨fun h => (by rw [h] at hr; cases hr), fun j hj => ?_⟩
  by_cases hji : j = i
  ·subst hji; exact hy.wpOp hi hS ⟨fun _ h => h, H⟩
  ·have := ready_mono hj hji
   rw [H.1] at this
   cases this
 | succ fuel ih =>
  intro listed a w hfree hc hd hr hy hS H
  refine ⟨fun h => (by rw [h] at hr; cases hr), fun j hj => ?_⟩
  by_cases hji : j = i
  ·subst hji; exact hy.wpOp hi hS ⟨fun _ h => h, H⟩
  ·have h1 := H.2 j (ready_mono hj hji)
   obtain ⟨hjun, oj, hoj, hall⟩ := mem_ready.1 hj
   have hiun := (mem_ready.1 hr).1
   have hnot : ∀ e ∈ oj.after, Region.binds md e = true → e.on ≠ i := fun e he hb heq => by
    have h1 := hall e he hb
    rw [heq] at h1
    rcases Nat.lt_or_ge i listed.size with h' | h'
    ·simp [h'] at hiun h1; rw [hiun] at h1; cases h1
    ·simp [Array.getElem?_eq_none h'] at h1
   have hjd : j ∉ ds := fun hm => Region.reach_not_ready hc (hd j hm hjun) hiun hj
   have h2 := wpOp_putIf hoj (hfree j oj hoj hji hjun hnot) (fun cs b => hsel i oi cs b hi) (fun cs b => hsel j oj cs b hoj) hQ hy h1
   have hfree' : ∀ k ok, ops[k]? = some ok → k ≠ i → (listed.setIfInBounds j true).getD k true = false →
     (∀ e ∈ ok.after, Region.binds md e = true → e.on ≠ i) → oi.apart ops ok = true := fun k ok hk hki hun hno => by
    refine hfree k ok hk hki ?_ hno
    by_cases hjk : j = k
    ·subst hjk; exact hjun
    ·rw [getD_set_ne true hjk] at hun; exact hun
   have hd' : ∀ d ∈ ds, (listed.setIfInBounds j true).getD d true = false → Region.reachB md ops i n d = true := fun d hm hun => by
    refine hd d hm ?_
    by_cases hjk : j = d
    ·subst hjk; exact hjun
    ·rw [getD_set_ne true hjk] at hun; exact hun
   refine wpOp_mono (fun a' w' h3 => ⟨h3.2.1, ih (listed.setIfInBounds j true) a' w' hfree' (hc.set hj) hd' (ready_mono hr (Ne.symm hji)) h3.1 (h3.2.1 hjd hS) ?_⟩) h2
   rw [Array.setIfInBounds_comm _ _ hji]
   exact h3.2.2
theorem wpAnyLast_any {i : Nat} {oi : Oper} {v : Value} (hi : ops[i]? = some oi) (hsel : ∀ (j : Nat) (o : Oper) cs b, ops[j]? = some o → o.op ≠ .select cs b)
  (hQ : ∀ c a w, Q (.panic c) (a.put oi.dst v) w → Q (.panic c) a w) :
  ∀ (fuel : Nat) (listed : Array Bool) (a : Act) (w : World),
   (∀ j oj, ops[j]? = some oj → j ≠ i → listed.getD j true = false → (∀ e ∈ oj.after, Region.binds md e = true → e.on ≠ i) → oi.apart ops oj = true) →
   i ∈ Region.ready md ops listed → Yields P ops oi v a →
   wpAnyLast P md ops Q S ds fuel (listed.setIfInBounds i true) (a.put oi.dst v) w → wpAnyLast P md ops Q S ds (fuel + 1) listed a w := by
 intro fuel
 induction fuel with
 | zero =>
  intro listed a w _ hr hy H
  refine ⟨fun h => (by rw [h] at hr; cases hr), fun j hj => ?_⟩
  by_cases hji : j = i
  ·subst hji; exact (hy.yieldsIf (S := fun _ => True)).wpOp hi trivial ⟨fun _ h => h, H⟩
  ·have := ready_mono hj hji
   rw [H.1] at this
   cases this
 | succ fuel ih =>
  intro listed a w hfree hr hy H
  refine ⟨fun h => (by rw [h] at hr; cases hr), fun j hj => ?_⟩
  by_cases hji : j = i
  ·subst hji; exact (hy.yieldsIf (S := fun _ => True)).wpOp hi trivial ⟨fun _ h => h, H⟩
  ·have h1 := H.2 j (ready_mono hj hji)
   obtain ⟨hjun, oj, hoj, hall⟩ := mem_ready.1 hj
   have hiun := (mem_ready.1 hr).1
   have hnot : ∀ e ∈ oj.after, Region.binds md e = true → e.on ≠ i := fun e he hb heq => by
    have h1 := hall e he hb
    rw [heq] at h1
    rcases Nat.lt_or_ge i listed.size with h' | h'
    ·simp [h'] at hiun h1; rw [hiun] at h1; cases h1
    ·simp [Array.getElem?_eq_none h'] at h1
   have h2 := wpOp_put hoj (hfree j oj hoj hji hjun hnot) (fun cs b => hsel i oi cs b hi) (fun cs b => hsel j oj cs b hoj) hQ hy h1
   have hfree' : ∀ k ok, ops[k]? = some ok → k ≠ i → (listed.setIfInBounds j true).getD k true = false →
     (∀ e ∈ ok.after, Region.binds md e = true → e.on ≠ i) → oi.apart ops ok = true := fun k ok hk hki hun hno => by
    refine hfree k ok hk hki ?_ hno
    by_cases hjk : j = k
    ·subst hjk; exact hjun
    ·rw [getD_set_ne true hjk] at hun; exact hun
   refine wpOp_mono (fun a' w' h3 => ⟨h3.2.1, ih (listed.setIfInBounds j true) a' w' hfree' (ready_mono hr (Ne.symm hji)) h3.1 ?_⟩) h2
   rw [Array.setIfInBounds_comm _ _ hji]
   exact h3.2.2
theorem wpAnyLast_take {i : Nat} {oi : Oper} {v : Value} {fuel : Nat} {listed : Array Bool} {a : Act} {w : World} (hi : ops[i]? = some oi)
  (hs : Region.noSelect ops = true) (hf : Region.free md ops listed i = true) (hr : (Region.ready md ops listed).contains i = true)
  (hc : Region.closedB md ops listed = true) (hl : Region.lastB md ops listed ds i = true)
  (hQ : ∀ c a w, Q (.panic c) (a.put oi.dst v) w → Q (.panic c) a w) (hy : YieldsIf P ops S oi v a) (hS : S w)
  (h : wpAnyLast P md ops Q S ds fuel (listed.setIfInBounds i true) (a.put oi.dst v) w) : wpAnyLast P md ops Q S ds (fuel + 1) listed a w :=
 wpAnyLast_first hi (Region.noSelect_spec hs) hQ ops.size fuel listed a w (Region.free_spec hi hf) (Region.closedB_spec hc)
  (fun d hm hun => by have := List.all_eq_true.1 hl d hm; rw [hun] at this; simpa using this) (by simpa using hr) hy hS h
theorem wpAnyLast_all {rs : List Nat} {fuel : Nat} {listed : Array Bool} {a : Act} {w : World} (hr : Region.ready md ops listed = rs) (hne : rs ≠ [])
  (h : ∀ i ∈ rs, wpOp P ops Q i (fun a' w' => (i ∉ ds → S w → S w') ∧ wpAnyLast P md ops Q S ds fuel (listed.setIfInBounds i true) a' w') a w) : wpAnyLast P md ops Q S ds (fuel + 1) listed a w :=
 ⟨fun h0 => absurd (hr ▸ h0) hne, hr ▸ h⟩
theorem wpAnyLast_done {listed : Array Bool} {a : Act} {w : World} (hr : Region.ready md ops listed = []) (h : Q .normal a w) :
  ∀ fuel, wpAnyLast P md ops Q S ds fuel listed a w
 | 0 => ⟨hr, h⟩
 | _ + 1 => ⟨fun _ => h, by rw [hr]; simp⟩
theorem wp_region_last {id : Nat} {a : Act} {w : World} (hm : P.follows .mixedOrders = true)
  (h : wpAnyLast P .any ops Q S ds ops.size (Array.replicate ops.size false) a { w with drawn := w.drawn + 1 }) : (Code.region id ops true).wp P Q a w :=
 wp_region_any hm (wpAny_of_last _ _ _ _ h)
end
section
variable {P : Program} {ops : Array Oper} {Q : Exit → Act → World → Prop} {md : Region.Mode} {S : World → Prop} {ds : List Nat}
def AllReadyL (P : Program) (md : Region.Mode) (ops : Array Oper) (Q : Exit → Act → World → Prop) (S : World → Prop) (ds : List Nat) (fuel : Nat) (listed : Array Bool) (a : Act) (w : World) (rs : List Nat) : Prop :=
 ∀ i ∈ rs, wpOp P ops Q i (fun a' w' => (i ∉ ds → S w → S w') ∧ wpAnyLast P md ops Q S ds fuel (listed.setIfInBounds i true) a' w') a w
theorem AllReadyL.nil {fuel : Nat} {listed : Array Bool} {a : Act} {w : World} : AllReadyL P md ops Q S ds fuel listed a w [] := fun _ h => by cases h
theorem AllReadyL.cons {fuel : Nat} {listed : Array Bool} {a : Act} {w : World} {i : Nat} {o : Oper} {rs : List Nat} (ho : ops[i]? = some o) (hd : i ∉ ds)
  (h : ∀ K' : Act → World → Prop, Shut (∀ a w, S w → (S w → wpAnyLast P md ops Q S ds fuel (listed.setIfInBounds i true) a w) → K' a w) → if Region.wanted o (yielded ops a.tmps) = true then Oper.wp P o a w K' Q else K' (a.put o.dst undef) w)
  (hs : AllReadyL P md ops Q S ds fuel listed a w rs) : AllReadyL P md ops Q S ds fuel listed a w (i :: rs) := fun j hj => by
 rcases List.mem_cons.1 hj with rfl | hj
 ·exact wpOp_step ho (fun K' hK => h K' (fun a w hS hW => hK a w ⟨fun _ _ => hS, hW hS⟩))
 ·exact hs j hj
theorem AllReadyL.cons_last {fuel : Nat} {listed : Array Bool} {a : Act} {w : World} {i : Nat} {o : Oper} {rs : List Nat} (ho : ops[i]? = some o) (hd : i ∈ ds)
  (h : ∀ K' : Act → World → Prop, Shut (∀ a w, wpAnyLast P md ops Q S ds fuel (listed.setIfInBounds i true) a w → K' a w) → if Region.wanted o (yielded ops a.tmps) = true then Oper.wp P o a w K' Q else K' (a.put o.dst undef) w)
  (hs : AllReadyL P md ops Q S ds fuel listed a w rs) : AllReadyL P md ops Q S ds fuel listed a w (i :: rs) := fun j hj => by
 rcases List.mem_cons.1 hj with rfl | hj
 ·exact wpOp_step ho (fun K' hK => h K' (fun a w hW => hK a w ⟨fun hn => absurd hd hn, hW⟩))
 ·exact hs j hj
theorem wpAnyLast_ready {rs : List Nat} {fuel : Nat} {listed : Array Bool} {a : Act} {w : World} (hr : Region.ready md ops listed = rs) (hne : rs ≠ [])
  (h : AllReadyL P md ops Q S ds fuel listed a w rs) : wpAnyLast P md ops Q S ds (fuel + 1) listed a w := wpAnyLast_all hr hne h
theorem start_ {id n : Nat} {a : Act} {w : World} (l : Array Bool) (hm : P.follows .mixedOrders = true) (hn : ops.size = n) (hl : Array.replicate n false = l) (hS : S w.drew)
  (h : S w.drew → wpAnyLast P .any ops Q S ds n l a w.drew) : (Code.region id ops true).wp P Q a w := by
 subst hn
 subst hl
 exact wp_region_last hm (h hS)
def takeB (md : Region.Mode) (ops : Array Oper) (ds : List Nat) (l l' : Array Bool) (i : Nat) : Bool :=
 Region.noSelect ops && Region.free md ops l i && (Region.ready md ops l).contains i && Region.closedB md ops l && Region.lastB md ops l ds i && (l.setIfInBounds i true == l')
theorem take_ {i : Nat} {N : Option Tmp} {oi : Oper} {v : Value} {fuel : Nat} {l : Array Bool} {a : Act} {w : World} (l' : Array Bool) (hi : ops[i]? = some oi) (hN : oi.dst = N) (hc : takeB md ops ds l l' i = true)
  (hQ : ∀ c a w, Q (.panic c) (a.put oi.dst v) w → Q (.panic c) a w) (hy : YieldsIf P ops S oi v a) (hS : S w) {a' : Act} (ha : a.put N v = a')
  (h : wpAnyLast P md ops Q S ds fuel l' a' w) : wpAnyLast P md ops Q S ds (fuel + 1) l a w := by
 subst ha
 subst hN
 simp only [takeB, Bool.and_eq_true, beq_iff_eq] at hc
 obtain ⟨⟨⟨⟨⟨h1, h2⟩, h3⟩, h4⟩, h5⟩, h6⟩ := hc
 subst h6
 exact wpAnyLast_take hi h1 h2 h3 h4 h5 hQ hy hS h
def anyB (md : Region.Mode) (ops : Array Oper) (l l' : Array Bool) (i : Nat) : Bool :=
 Region.noSelect ops && Region.free md ops l i && (Region.ready md ops l).contains i && (l.setIfInBounds i true == l')
theorem pure_ {i : Nat} {N : Option Tmp} {oi : Oper} {v : Value} {fuel : Nat} {l : Array Bool} {a : Act} {w : World} (l' : Array Bool) (hi : ops[i]? = some oi) (hN : oi.dst = N) (hc : anyB md ops l l' i = true)
  (hQ : ∀ c a w, Q (.panic c) (a.put oi.dst v) w → Q (.panic c) a w) (hy : Yields P ops oi v a) {a' : Act} (ha : a.put N v = a')
  (h : wpAnyLast P md ops Q S ds fuel l' a' w) : wpAnyLast P md ops Q S ds (fuel + 1) l a w := by
 subst ha
 subst hN
 simp only [anyB, Bool.and_eq_true, beq_iff_eq] at hc
 obtain ⟨⟨⟨h1, h2⟩, h3⟩, h6⟩ := hc
 subst h6
 exact wpAnyLast_any hi (Region.noSelect_spec h1) hQ fuel l a w (Region.free_spec hi h2) (by simpa using h3) hy h
def readyB (md : Region.Mode) (ops : Array Oper) (l l' : Array Bool) (i : Nat) : Bool := (Region.ready md ops l == [i]) && (l.setIfInBounds i true == l')
theorem one_ {i : Nat} {N : Option Tmp} {oi : Oper} {fuel : Nat} {l : Array Bool} {a : Act} {w : World} (l' : Array Bool) (hi : ops[i]? = some oi) (hN : oi.dst = N) (hc : readyB md ops l l' i = true) (hd : i ∉ ds)
  (h : ∀ K : Act → World → Prop, Shut (∀ a' w', S w' → (S w' → wpAnyLast P md ops Q S ds fuel l' a' w') → K a' w') → if Region.wanted oi (yielded ops a.tmps) = true then Oper.wp P oi a w K Q else K (a.put N undef) w) :
  wpAnyLast P md ops Q S ds (fuel + 1) l a w := by
 subst hN
 simp only [readyB, Bool.and_eq_true, beq_iff_eq] at hc
 obtain ⟨h1, h2⟩ := hc
 subst h2
 exact wpAnyLast_ready h1 (by simp) (AllReadyL.cons hi hd (fun K hK => h K hK) AllReadyL.nil)
theorem last_ {i : Nat} {N : Option Tmp} {oi : Oper} {fuel : Nat} {l : Array Bool} {a : Act} {w : World} (l' : Array Bool) (hi : ops[i]? = some oi) (hN : oi.dst = N) (hc : readyB md ops l l' i = true) (hd : i ∈ ds)
  (h : ∀ K : Act → World → Prop, Shut (∀ a' w', wpAnyLast P md ops Q S ds fuel l' a' w' → K a' w') → if Region.wanted oi (yielded ops a.tmps) = true then Oper.wp P oi a w K Q else K (a.put N undef) w) :
  wpAnyLast P md ops Q S ds (fuel + 1) l a w := by
 subst hN
 simp only [readyB, Bool.and_eq_true, beq_iff_eq] at hc
 obtain ⟨h1, h2⟩ := hc
 subst h2
 exact wpAnyLast_ready h1 (by simp) (AllReadyL.cons_last hi hd (fun K hK => h K hK) AllReadyL.nil)
theorem done_ {l : Array Bool} {a : Act} {w : World} {n : Nat} (hr : (Region.ready md ops l == []) = true) (h : Q .normal a w) : wpAnyLast P md ops Q S ds n l a w := wpAnyLast_done (by simpa using hr) h n
/-! ### Several operations that write or call may come up: each order is walked, what follows is shown once (join_) -/
theorem norm_ {fuel : Nat} {l : Array Bool} {a a' : Act} {w : World} (ha : a = a') (h : wpAnyLast P md ops Q S ds fuel l a' w) : wpAnyLast P md ops Q S ds fuel l a w := by
 subst ha
 exact h
theorem call_ {oi : Oper} {N : Option Tmp} {a : Act} {w : World} {K : Act → World → Prop} (f : FuncId) (args : Array Value) (hw : Region.wanted oi (yielded ops a.tmps) = true) (hN : oi.dst = N) (hrun : (execOp a.eval oi).run P w = .ok (.enter f args) w)
  (h : Calls P f args w fun e w' => ∃ v, e = .returned v ∧ K (a.put N v) w') : if Region.wanted oi (yielded ops a.tmps) = true then Oper.wp P oi a w K Q else K (a.put N undef) w := by
 rw [if_pos hw]
 subst hN
 unfold Oper.wp
 rw [hrun, Oper.upon_enter]
 refine h.mono fun e w'' hh => ?_
 obtain ⟨v, rfl, hk⟩ := hh
 exact hk
theorem enters_ {f : FuncId} {fn : Func} (hf : P.funcs[f]? = some fn) (hname : (fn.name == "runtime.NumGoroutine") = false) (hb : fn.body.isSome = true) (args : Array Value) (w : World) : (callFunc f args).run P w = .ok (.enter f args) w := by
 have h1 : fn.name ≠ "runtime.NumGoroutine" := by simpa using hname
 obtain ⟨c, hc⟩ := Option.isSome_iff_exists.1 hb
 simp [callFunc, hf, h1, hc]
theorem goes_ {oi : Oper} {N : Option Tmp} {a : Act} {w : World} {K : Act → World → Prop} {f : FuncId} {fn : Func} {as1 : Array Operand} {ts : Array TypeId} (hf : P.funcs[f]? = some fn) (hname : (fn.name == "runtime.NumGoroutine") = false) (hb : fn.body.isSome = true) (args : Array Value)
  (hw : Region.wanted oi (yielded ops a.tmps) = true) (hN : oi.dst = N) (hop : oi.op = .call { callee := .value (.func f), args := as1, argTypes := ts }) (hargs : as1.map a.eval = args)
  (h : Calls P f args w fun e w' => ∃ v, e = .returned v ∧ K (a.put N v) w') : if Region.wanted oi (yielded ops a.tmps) = true then Oper.wp P oi a w K Q else K (a.put N undef) w := by
 refine call_ f args hw hN ?_ h
 have he := enters_ hf hname hb args w
 unfold execOp
 simp [hop, resolve, Deferred.ofValue, invoke, Act.eval, hargs, he]
theorem goesL_ {rest : List Oper} {oi : Oper} {a : Act} {w : World} (N : Option Tmp) (hd : oi.dst = N) (hg : oi.guard = none) {f : FuncId} {fn : Func} {as1 : Array Operand} {ts : Array TypeId} (hf : P.funcs[f]? = some fn) (hname : (fn.name == "runtime.NumGoroutine") = false) (hb : fn.body.isSome = true) (args : Array Value)
  (hop : oi.op = .call { callee := .value (.func f), args := as1, argTypes := ts }) (hargs : as1.map a.eval = args)
  (h : Calls P f args w fun e w' => ∃ v, e = .returned v ∧ wpList P ops Q rest (a.put N v) w') : wpList P ops Q (oi :: rest) a w := by
 refine wpList_plain hg fun K hK => ?_
 have he := enters_ hf hname hb args w
 have hrun : (execOp a.eval oi).run P w = .ok (.enter f args) w := by
  unfold execOp
  simp [hop, resolve, Deferred.ofValue, invoke, Act.eval, hargs, he]
 unfold Oper.wp
 rw [hrun, Oper.upon_enter]
 refine h.mono fun e w'' hh => ?_
 obtain ⟨v, rfl, hk⟩ := hh
 subst hd
 exact hK _ _ hk
theorem skip_ {oi : Oper} {a : Act} {w w1 : World} {K : Act → World → Prop} (hw : Region.wanted oi (yielded ops a.tmps) = true) (hN : oi.dst = none) (hrun : (execOp a.eval oi).run P w = .ok .skip w1)
  (h : K a w1) : if Region.wanted oi (yielded ops a.tmps) = true then Oper.wp P oi a w K Q else K (a.put none undef) w := by
 rw [if_pos hw]
 unfold Oper.wp
 rw [hrun]
 show K (a.put oi.dst undef) w1
 rw [hN]
 exact h
theorem i64_w (n : Int) : IntKind.i64.wrap n = Go.RowKit.wrap64 n := by unfold Go.RowKit.wrap64; exact IntKind.wrap_i64 n
theorem i32_w (n : Int) : IntKind.i32.wrap n = Go.RowKit.wrap32 n := by unfold Go.RowKit.wrap32; exact IntKind.wrap_i32 n
end
end Go.Proofs.YtcfpkkgdofblfaaW.PrintLast
/-! ### 40. Elements whose inner rows lie apart: what is stored into one says nothing of the others.
   S: as1 R, with an owner function f (block to element's index). H: as1 S with a hole: of element i its cells alone are told, its blocks are oki. -/
namespace Go.Proofs.YtcfpkkgdofblfaaW.PrintWords
open Go.RowKit
namespace Kd
def tag {α : Type} (f : Nat → Nat) (d : Kd α) : Kd (α × Nat) where
  sz := d.sz
  E := d.E
  K := fun w x cs => d.K w x.1 cs
  M := fun w base ok x cs => d.M w base (fun k => ok k ∧ f k = x.2) x.1 cs
  K_len := fun h => d.K_len h
  K_one := fun h => d.K_one h
  K_below := fun hb h => d.K_below hb h
  K_of_M := fun h => d.K_of_M h
  M_mono := fun hok h => d.M_mono (fun k hk => ⟨hok k hk.1, hk.2⟩) h
  M_bound := fun h => d.M_mono (fun _ hk => ⟨⟨hk.1.1, hk.2⟩, hk.1.2⟩) (d.M_bound h)
  M_move := fun hm h => d.M_move (fun k hk => hm k hk.1) h
  M_lower := fun hb h => d.M_lower hb h
def raw (sz : Nat) : Kd (List Value) where
  sz := sz
  E := []
  K := fun _ x cs => cs = x ∧ cs.length = sz ∧ ∀ u ∈ cs, u.oneCell' = true
  M := fun _ _ _ x cs => cs = x ∧ cs.length = sz ∧ ∀ u ∈ cs, u.oneCell' = true
  K_len := fun h => h.2.1
  K_one := fun h => h.2.2
  K_below := fun _ h => h
  K_of_M := fun h => h
  M_mono := fun _ h => h
  M_bound := fun h => h
  M_move := fun _ h => h
  M_lower := fun _ h => h
def S {α : Type} (d : Kd α) (e : Nat) (w : World) (base : Nat) (ok : Nat → Prop) (v : Value) (xs : List α) : Prop := ∃ f, (tag f d).R e w base ok v xs.zipIdx
section
variable {α β : Type} {d : Kd α} {d' : Kd β} {e e' : Nat} {w w1 W : World} {base b : Nat} {ok ok' okv oku : Nat → Prop} {u v : Value} {xs : List α} {ys : List β}
theorem S_nil (d : Kd α) (e : Nat) (w : World) (base : Nat) (ok : Nat → Prop) : S d e w base ok (.slice none 0 0) [] := ⟨fun _ => 0, R_nil _ _ _ _ _⟩
end
section
variable {α β : Type} {d : Kd α} {d' : Kd β} {e e' g : Nat} {w w1 W : World} {base b : Nat} {ok ok' okv oku : Nat → Prop} {u v : Value} {xs : List α} {ys : List β}
end
/-! #### append, make, literals: the new element's blocks are none of the elder ones' -/
section
variable {P : Program} {ops : Array Oper} {rest : List Oper} {o : Oper} {a : Act} {Q : Exit → Act → World → Prop} {Kc : Act → World → Prop} {α : Type}
end
/-! #### a row with a hole: element i is lent, its blocks are oki; of it the row says its cells alone -/
def gap {α : Type} (f : Nat → Nat) (d : Kd α) (i : Nat) (c : List Value) : Kd (α × Nat) where
  sz := d.sz
  E := d.E
  K := fun w x cs => (x.2 = i → cs = c ∧ cs.length = d.sz ∧ ∀ u ∈ cs, u.oneCell' = true) ∧ (x.2 ≠ i → d.K w x.1 cs)
  M := fun w base ok x cs => (x.2 = i → cs = c ∧ cs.length = d.sz ∧ ∀ u ∈ cs, u.oneCell' = true) ∧ (x.2 ≠ i → d.M w base (fun k => ok k ∧ f k = x.2) x.1 cs)
  K_len := fun {w x cs} h => by
    by_cases hx : x.2 = i
    · exact (h.1 hx).2.1
    · exact d.K_len (h.2 hx)
  K_one := fun {w x cs} h => by
    by_cases hx : x.2 = i
    · exact (h.1 hx).2.2
    · exact d.K_one (h.2 hx)
  K_below := fun hb h => ⟨h.1, fun hx => d.K_below hb (h.2 hx)⟩
  K_of_M := fun h => ⟨h.1, fun hx => d.K_of_M (h.2 hx)⟩
  M_mono := fun hok h => ⟨h.1, fun hx => d.M_mono (fun k hk => ⟨hok k hk.1, hk.2⟩) (h.2 hx)⟩
  M_bound := fun h => ⟨h.1, fun hx => d.M_mono (fun _ hk => ⟨⟨hk.1.1, hk.2⟩, hk.1.2⟩) (d.M_bound (h.2 hx))⟩
  M_move := fun hm h => ⟨h.1, fun hx => d.M_move (fun k hk => hm k hk.1) (h.2 hx)⟩
  M_lower := fun hb h => ⟨h.1, fun hx => d.M_lower hb (h.2 hx)⟩
def H {α : Type} (d : Kd α) (e : Nat) (w : World) (base : Nat) (ok : Nat → Prop) (v : Value) (xs : List α) (i : Int) (oki : Nat → Prop) (c : List Value) : Prop :=
  (∀ k, oki k → ok k) ∧ ∃ f, (gap f d i.toNat c).R e w base (fun k => ok k ∧ ¬ oki k) v xs.zipIdx
section
variable {α β : Type} {d : Kd α} {e e' g n cap : Nat} {w w1 W : World} {base : Nat} {ok ok' oki okp : Nat → Prop} {u v : Value} {xs : List α} {i : Int} {c : List Value}
end
section
variable {P : Program} {ops : Array Oper} {rest : List Oper} {o : Oper} {a : Act} {Q : Exit → Act → World → Prop} {α : Type}
end
end Kd
end Go.Proofs.YtcfpkkgdofblfaaW.PrintWords
/-! ### 43. What is read beside a state: it stays read whatever the state's calls turn ('∀ W', KeepBut w W' g none → d.C W' A n xs') -/
namespace Go.Proofs.YtcfpkkgdofblfaaW.PrintWords
open Go.RowKit
namespace Kd
structure Heap {α : Type} (d : Kd α) : Prop where
 K : ∀ {w w1 : World} {x : α} {cs : List Value}, (∀ k, k < w.heap.size → w1.heap[k]? = w.heap[k]?) → d.K w x cs → d.K w1 x cs
theorem cell_heap {w w1 : World} (hb : ∀ k, k < w.heap.size → w1.heap[k]? = w.heap[k]?) {a : Addr} {v : Value} (h : w.cell? a = some v) : w1.cell? a = some v := by
 have := hb a.block (World.block_lt_of_cell? w a h)
 simpa [World.cell?, this] using h
theorem Heap.C {α : Type} {d : Kd α} (hd : Heap d) {w w1 : World} {A : Option Addr} {n : Nat} {xs : List α} (hb : ∀ k, k < w.heap.size → w1.heap[k]? = w.heap[k]?) (h : d.C w A n xs) : d.C w1 A n xs :=
 ⟨h.1, h.2.1, fun hn => by
  obtain ⟨ad, e, hc⟩ := h.2.2 hn
  refine ⟨ad, e, fun j p hj => ?_⟩
  obtain ⟨c, hs, hr, hcell⟩ := hc j p hj
  exact ⟨c, hs, hd.K hb hr, fun i u hu => cell_heap hb (hcell i u hu)⟩⟩
section
variable {α : Type} {d : Kd α} {e base g n c : Nat} {ok : Nat → Prop} {w w0 W : World} {A : Option Addr} {xs : List α}
end
end Kd
end Go.Proofs.YtcfpkkgdofblfaaW.PrintWords
/-! ### 45. What a call keeps: all but the blocks of S (the rows that it was given to write) and what is new since -/
namespace Go.Proofs.YtcfpkkgdofblfaaW.PrintWords
open Go.RowKit
def Kept (w W : World) (S : Nat → Prop) : Prop := w.heap.size ≤ W.heap.size ∧ ∀ i, i < w.heap.size → ¬ S i → W.heap[i]? = w.heap[i]?
section
variable {w W W2 : World} {S S2 S' : Nat → Prop}
theorem Kept.refl (w : World) (S : Nat → Prop) : Kept w w S := ⟨Nat.le_refl _, fun _ _ _ => rfl⟩
theorem Kept.of_below (h : Below w.heap.size w W) (S : Nat → Prop) : Kept w W S := ⟨h.size, fun i hi _ => h.block i hi⟩
theorem Kept.mono (h : Kept w W S) (hs : ∀ k, S k → S' k) : Kept w W S' := ⟨h.1, fun i hi hn => h.2 i hi (fun hk => hn (hs i hk))⟩
theorem Kept.then_ (h : Kept w W S) (k : Kept W W2 S2) (hs : ∀ k, S2 k → S k ∨ w.heap.size ≤ k) : Kept w W2 S :=
 ⟨Nat.le_trans h.1 k.1, fun i hi hn => (k.2 i (Nat.lt_of_lt_of_le hi h.1) (fun h2 => (hs i h2).elim hn (fun h3 => by omega))).trans (h.2 i hi hn)⟩
theorem Kept.below (h : Kept w W S) (hb : Below W.heap.size W W2) : Kept w W2 S := h.then_ (Kept.of_below hb (fun _ => False)) (fun _ hk => hk.elim)
theorem Kept.alloc (h : Kept w W S) (o : Obj) : Kept w (W.alloc o) S := h.below (below_alloc (Below.refl _ _) o)
theorem Kept.drew (h : Kept w W S) : Kept w W.drew S := h
theorem Kept.drewN (h : Kept w W S) (m : Nat) : Kept w (W.drewN m) S := h
theorem Kept.setCell (h : Kept w W S) {p : Addr} (hp : S p.block ∨ w.heap.size ≤ p.block) (u : Value) : Kept w (W.setCell p u) S :=
 h.then_ (S2 := fun k => k = p.block) ⟨by simp [World.setCell], fun i _ hn => Below.heap_setCell W p u i hn⟩ (fun k hk => by rw [hk]; exact hp)
end
namespace Kd
section
variable {α : Type} {d : Kd α} {e base n c : Nat} {ok oki S S2 : Nat → Prop} {w w0 W W1 W2 : World} {v : Value} {A : Option Addr} {xs : List α} {i : Int} {cs : List Value}
end
end Kd
end Go.Proofs.YtcfpkkgdofblfaaW.PrintWords
/-! ### 46. Values that share: what is only read, with the blocks it lies in (its footprint 'ok'): Foot, F (a row that is read), FK (an element's cells) -/
namespace Go.Proofs.YtcfpkkgdofblfaaW.PrintWords
open Go.RowKit
def Foot (P : World → Prop) (W : World) (ok : Nat → Prop) : Prop := ∀ W' : World, (∀ k, ok k → k < W.heap.size → W'.heap[k]? = W.heap[k]?) → P W'
theorem heap_lt {W W1 : World} {k : Nat} (h : W1.heap[k]? = W.heap[k]?) (hlt : k < W.heap.size) : k < W1.heap.size := by
 rw [Array.getElem?_eq_getElem hlt] at h
 exact (Array.getElem?_eq_some_iff.1 h).1
namespace Foot
variable {P Q : World → Prop} {W W1 : World} {ok ok' : Nat → Prop}
theorem mono (h : Foot P W ok) (hok : ∀ k, ok k → ok' k) : Foot P W ok' := fun W' hW => h W' (fun k hk hlt => hW k (hok k hk) hlt)
theorem step (h : Foot P W ok) (hm : ∀ k, ok k → k < W.heap.size → W1.heap[k]? = W.heap[k]?) : Foot P W1 ok := fun W' hW => h W' (fun k hk hlt => (hW k hk (heap_lt (hm k hk hlt) hlt)).trans (hm k hk hlt))
end Foot
namespace Kd
def F {α : Type} (d : Kd α) (W : World) (ok : Nat → Prop) (A : Option Addr) (n : Nat) (xs : List α) : Prop := Foot (fun W => d.C W A n xs) W ok
def FK {α : Type} (d : Kd α) (W : World) (ok : Nat → Prop) (x : α) (c : List Value) : Prop := Foot (fun W => d.K W x c) W ok
section
variable {α β : Type} {d : Kd α} {e base n n' cc g N : Nat} {ok ok' okp S : Nat → Prop} {w w0 w1 W W1 : World} {A A' : Option Addr} {u v v1 : Value} {xs : List α} {xs' : List β} {d' : Kd β} {x : α} {c : List Value}
theorem F_nil (d : Kd α) (W : World) (ok : Nat → Prop) : F d W ok none ([] : List α).length [] := fun W' _ => C_nil d W'
theorem FK_of_M (h : d.M W base ok x c) : FK d W ok x c := fun _ hW => d.K_of_M (M_step h hW)
end
end Kd
end Go.Proofs.YtcfpkkgdofblfaaW.PrintWords
/-! ### 47. N: a row of the call's own whose elements share (what they lead to is only read) -/
namespace Go.Proofs.YtcfpkkgdofblfaaW.PrintWords
open Go.RowKit
namespace Kd
def chunks (sz : Nat) (n : Nat) (inner : List Value) : List (List Value) := (List.range n).map fun j => (inner.drop (j * sz)).take sz
theorem chunks_length (sz n : Nat) (inner : List Value) : (chunks sz n inner).length = n := by simp [chunks]
theorem chunks_at {sz n : Nat} {inner : List Value} {j : Nat} (hj : j < n) : (chunks sz n inner)[j]? = some ((inner.drop (j * sz)).take sz) := by simp [chunks, hj]
theorem chunks_get {sz n : Nat} {inner : List Value} {j : Nat} {c : List Value} (h : (chunks sz n inner)[j]? = some c) : c = (inner.drop (j * sz)).take sz := by
 have hj : j < n := by have := (List.getElem?_eq_some_iff.1 h).1; rwa [chunks_length] at this
 rw [chunks_at hj] at h
 injection h with h
 exact h.symm
theorem reps_raw {α : Type} {Rr : α → List Value → Prop} {sz : Nat} {xs : List α} {inner : List Value} (h : Reps Rr sz xs inner) (hR : ∀ x c, Rr x c → c.length = sz ∧ ∀ u ∈ c, u.oneCell' = true) : Reps (fun x cs => cs = x ∧ cs.length = sz ∧ ∀ u ∈ cs, u.oneCell' = true) sz (chunks sz xs.length inner) inner := by
 refine ⟨by rw [chunks_length]; exact h.1, fun j p hj => ?_⟩
 have hjl : j < xs.length := by have := (List.getElem?_eq_some_iff.1 hj).1; rwa [chunks_length] at this
 have hp := chunks_get hj
 exact ⟨hp.symm, hR _ _ (h.2 j _ (List.getElem?_eq_getElem hjl))⟩
section
variable {α : Type} {d : Kd α} {e base n cc g : Nat} {ok ok' okp S : Nat → Prop} {w w1 W W1 : World} {A : Option Addr} {u v v1 : Value} {xs : List α} {x : α} {c : List Value}
def N {α : Type} (d : Kd α) (e : Nat) (w : World) (base : Nat) (ok : Nat → Prop) (v : Value) (xs : List α) : Prop :=
 (∀ k, v.ownBlock = some k → ok k) ∧ ∃ rows : List (List Value), rows.length = xs.length ∧ (raw d.sz).R e w base (fun k => some k = v.ownBlock) v rows ∧ ∀ (j : Nat) (x : α) (c : List Value), xs[j]? = some x → rows[j]? = some c → FK d w (fun k => ok k ∧ some k ≠ v.ownBlock) x c
theorem R_N (h : d.R e w base ok v xs) : N d e w base ok v xs := by
 obtain ⟨h0, inner, ho, hr⟩ := h
 refine ⟨h0, chunks d.sz xs.length inner, chunks_length _ _ _, ⟨fun k hk => hk.symm, inner, by rw [chunks_length]; exact ho, reps_raw hr (fun x c hp => ⟨d.K_len (d.K_of_M hp), d.K_one (d.K_of_M hp)⟩)⟩, fun j x c hx hc => ?_⟩
 rw [chunks_get hc]
 exact FK_of_M (hr.2 j x hx)
theorem N_nil (d : Kd α) (e : Nat) (w : World) (base : Nat) (ok : Nat → Prop) : N d e w base ok (.slice none 0 0) [] := R_N (R_nil _ _ _ _ _)
end
end Kd
end Go.Proofs.YtcfpkkgdofblfaaW.PrintWords
namespace Go.Proofs.YtcfpkkgdofblfaaW.PrintMore
open Go.RowKit Go.Proofs.YtcfpkkgdofblfaaW.PrintWords
namespace Kd
open Go.Proofs.YtcfpkkgdofblfaaW.PrintWords.Kd
end Kd
namespace Kd
open Go.Proofs.YtcfpkkgdofblfaaW.PrintWords.Kd
section
variable {α : Type} {d : Kd α} {e base g N : Nat} {ok : Nat → Prop} {W w1 : World} {u v : Value} {xs : List α}
end
end Kd
theorem max2_int (k k' : IntKind) (x y : Int) : Builtin.max2 (.int k x) (.int k' y) = pure (.int k (if x < y then y else x)) := by simp only [Builtin.max2, gt_iff_lt]
theorem min2_int (k k' : IntKind) (x y : Int) : Builtin.min2 (.int k x) (.int k' y) = pure (.int k (if y < x then y else x)) := by simp only [Builtin.min2]
theorem max_two (ats : Array TypeId) (ty : TypeId) (a b : Value) : Builtin.max_ ats ty #[a, b] = (Builtin.max2 a b >>= fun s => pure s) := by simp only [Builtin.max_, List.foldlM_cons, List.foldlM_nil]
theorem min_two (ats : Array TypeId) (ty : TypeId) (a b : Value) : Builtin.min_ ats ty #[a, b] = (Builtin.min2 a b >>= fun s => pure s) := by simp only [Builtin.min_, List.foldlM_cons, List.foldlM_nil]
theorem max_three (ats : Array TypeId) (ty : TypeId) (a b c : Value) : Builtin.max_ ats ty #[a, b, c] = (Builtin.max2 a b >>= fun s => Builtin.max2 s c >>= fun s => pure s) := by simp only [Builtin.max_, List.foldlM_cons, List.foldlM_nil]
theorem min_three (ats : Array TypeId) (ty : TypeId) (a b c : Value) : Builtin.min_ ats ty #[a, b, c] = (Builtin.min2 a b >>= fun s => Builtin.min2 s c >>= fun s => pure s) := by simp only [Builtin.min_, List.foldlM_cons, List.foldlM_nil]
theorem max_four (ats : Array TypeId) (ty : TypeId) (a b c d : Value) : Builtin.max_ ats ty #[a, b, c, d] = (Builtin.max2 a b >>= fun s => Builtin.max2 s c >>= fun s => Builtin.max2 s d >>= fun s => pure s) := by simp only [Builtin.max_, List.foldlM_cons, List.foldlM_nil]
theorem min_four (ats : Array TypeId) (ty : TypeId) (a b c d : Value) : Builtin.min_ ats ty #[a, b, c, d] = (Builtin.min2 a b >>= fun s => Builtin.min2 s c >>= fun s => Builtin.min2 s d >>= fun s => pure s) := by simp only [Builtin.min_, List.foldlM_cons, List.foldlM_nil]
end Go.Proofs.YtcfpkkgdofblfaaW.PrintMore
namespace Go.Proofs.YtcfpkkgdofblfaaW.PrintWords
open Go.RowKit
section
variable {P : Program} {ops : Array Oper} {rest : List Oper} {o : Oper} {a : Act} {Q : Exit → Act → World → Prop} {W : World}
theorem gate_callee {f : FuncId} {as1 : Array Operand} {ts : Array TypeId} (_ho : o.op = .call { callee := .value (.func f), args := as1, argTypes := ts }) (h : wpList P ops Q (o :: rest) a W) : wpList P ops Q (o :: rest) a W := h
theorem gate_builtin {b : Builtin} {xs : Array Operand} {ts : Array TypeId} (_ho : o.op = .call { callee := .builtin b, args := xs, argTypes := ts }) (h : wpList P ops Q (o :: rest) a W) : wpList P ops Q (o :: rest) a W := h
end
def mx (a b : Int) : Int := if a < b then b else a
def mn (a b : Int) : Int := if b < a then b else a
def shl (k : IntKind) (x y : Int) : Int := k.wrap (x * 2 ^ min y.toNat k.bits)
def shr (k : IntKind) (x y : Int) : Int := x / 2 ^ min y.toNat k.bits
theorem shl_small {k : IntKind} {x y j : Int} (h : shl k x y = j) (hy : y ≤ k.bits) : k.wrap (x * 2 ^ y.toNat) = j := by rw [← h]; unfold shl; rw [Nat.min_eq_left (by omega)]
theorem shr_small {k : IntKind} {x y j : Int} (h : shr k x y = j) (hy : y ≤ k.bits) : x / 2 ^ y.toNat = j := by rw [← h]; unfold shr; rw [Nat.min_eq_left (by omega)]
theorem drewN_self (w : World) (n : Nat) : w.drewN n = w.drewN n := rfl
namespace Kd
section
variable {α : Type} {d : Kd α} {e base : Nat} {ok : Nat → Prop} {W w1 : World} {v : Value} {xs : List α}
end
section
variable {α : Type} {d : Kd α} {e base g n cap : Nat} {ok oki okp : Nat → Prop} {W : World} {xs : List α} {i : Int} {c : List Value}
end
section
variable {α : Type} {d : Kd α} {e base b b' g N : Nat} {ok ok1 : Nat → Prop} {W W2 w1 : World} {u v : Value} {xs ys : List α} {S : Nat → Prop}
end
end Kd
end Go.Proofs.YtcfpkkgdofblfaaW.PrintWords
namespace Go.Proofs.YtcfpkkgdofblfaaW.PrintWords
open Go.RowKit
namespace Kd
def V {α : Type} (d : Kd α) (_e : Nat) (W : World) (_base : Nat) (ok : Nat → Prop) (v : Value) (xs : List α) : Prop := ∃ A c, v = .slice A xs.length c ∧ xs.length ≤ c ∧ F d W ok A xs.length xs
section
variable {α β : Type} {d : Kd α} {e base base' n m c g N' lo hi : Nat} {ok ok' S : Nat → Prop} {w W w1 : World} {A : Option Addr} {ad : Addr} {u v v1 : Value} {xs : List α}
theorem V_nil (d : Kd α) (e : Nat) (W : World) (base : Nat) (ok : Nat → Prop) : V d e W base ok (.slice none 0 0) [] := ⟨none, 0, rfl, Nat.le_refl _, F_nil d W ok⟩
end
end Kd
end Go.Proofs.YtcfpkkgdofblfaaW.PrintWords
/- Words by hand: a call through a function value that is known (a method value, a closure without captured variables). -/
namespace Go.Proofs.Ytcfpkkgdofblfaa.HW
open Go.RowKit Go.Proofs.YtcfpkkgdofblfaaW.PrintWords Go.Proofs.YtcfpkkgdofblfaaW.PrintLast Go.Proofs.YtcfpkkgdofblfaaW.PrintMore
theorem run_makeFunc_ (P : Program) (fn : Fn) (first cap : Array Value) (w : World) : (Instr.makeFunc fn first cap).run P w = .ok (.func fn first cap) w := rfl
section
variable {P : Program} {ops : Array Oper} {rest : List Oper} {o : Oper} {a : Act} {Q : Exit → Act → World → Prop} {W : World}
theorem gate_calleeV {t : Tmp} {as1 : Array Operand} {ts : Array TypeId} (_ho : o.op = .call { callee := .value (.tmp t), args := as1, argTypes := ts }) (h : wpList P ops Q (o :: rest) a W) : wpList P ops Q (o :: rest) a W := h
theorem goesV_ {rest : List Oper} {oi : Oper} {a : Act} {w : World} (t : Tmp) (first : Array Value) {f : FuncId} (hv : a.eval (.tmp t) = .func (.func f) first #[]) (N : Option Tmp) (hd : oi.dst = N) (hg : oi.guard = none) {fn : Func} {as1 : Array Operand} {ts : Array TypeId} (hf : P.funcs[f]? = some fn) (hname : (fn.name == "runtime.NumGoroutine") = false) (hb : fn.body.isSome = true) (args : Array Value)
  (hop : oi.op = .call { callee := .value (.tmp t), args := as1, argTypes := ts }) (hargs : first ++ as1.map a.eval = args)
  (h : Calls P f args w fun e w' => ∃ v, e = .returned v ∧ wpList P ops Q rest (a.put N v) w') : wpList P ops Q (oi :: rest) a w := by
 refine wpList_plain hg fun K hK => ?_
 have he := enters_ hf hname hb args w
 have hrun : (execOp a.eval oi).run P w = .ok (.enter f args) w := by
  unfold execOp
  simp [hop, resolve, Deferred.ofValue, invoke, hv, hargs, he]
 unfold Oper.wp
 rw [hrun, Oper.upon_enter]
 refine h.mono fun e w'' hh => ?_
 obtain ⟨v, rfl, hk⟩ := hh
 subst hd
 exact hK _ _ hk
end
end Go.Proofs.Ytcfpkkgdofblfaa.HW
/- Plain law: which products may be. -/
namespace Go.Proofs.Ytcfpkkgdofblfaa.Pm
set_option linter.unusedVariables false
structure Prod where
 name : ByteArray
 count : Int
 round : Int
 kind : Int
 every : Int
 times : Int
 grace : Int
 rate : Int
 resets : List (List Int)
 penalty : Int
 o1 : Int
 o2 : Int
 o3 : Int
 o4 : Int
 over : Int
 late : List (List Int)
 cap : Int
 roll : Int
 hol : List Int
def txt (l : List UInt8) : ByteArray := ⟨l.toArray⟩
def small (c : UInt8) : Bool := decide (97 ≤ (c.toNat : Int)) && decide ((c.toNat : Int) ≤ 122)
def other (c : UInt8) : Bool := (decide (48 ≤ (c.toNat : Int)) && decide ((c.toNat : Int) ≤ 57)) || decide ((c.toNat : Int) = 45)
def letter (c : UInt8) : Bool := small c || other c
def chars : List UInt8 → Bool
 | [] => true
 | c :: l => small c && l.all letter
def wordsL : List (List UInt8) :=
 [[112, 114, 111, 100, 117, 99, 116], [99, 111, 117, 110, 116], [116, 104, 105, 114, 116, 121], [102, 105, 120, 101, 100], [97, 99, 116, 117, 97, 108], [114, 111, 117, 110, 100], [104, 97, 108, 102, 45, 117, 112], [100, 111, 119, 110], [107, 105, 110, 100], [97, 110, 110, 117, 105, 116, 121], [101, 113, 117, 97, 108], [98, 117, 108, 108, 101, 116], [101, 118, 101, 114, 121], [116, 105, 109, 101, 115], [103, 114, 97, 99, 101], [114, 97, 116, 101], [112, 101, 110, 97, 108, 116, 121], [114, 101, 115, 101, 116], [108, 97, 116, 101], [99, 97, 112], [104, 111, 108, 105, 100, 97, 121], [111, 114, 100, 101, 114], [102, 101, 101, 115], [105, 110, 116, 101, 114, 101, 115, 116], [112, 114, 105, 110, 99, 105, 112, 97, 108], [111, 118, 101, 114], [104, 111, 108, 100], [112, 114, 101, 112, 97, 121], [114, 101, 102, 117, 110, 100], [114, 111, 108, 108], [115, 116, 97, 121], [110, 101, 120, 116], [119, 105, 116, 104, 105, 110], [112, 114, 101, 118, 105, 111, 117, 115]]
def isWord (l : List UInt8) : Bool := wordsL.contains l
def nameOk (l : List UInt8) : Bool := chars l && decide (1 ≤ l.length) && decide (l.length ≤ 20) && !isWord l
def shapeOk (p : Prod) : Bool :=
 nameOk p.name.data.toList && decide ((1 ≤ p.count ∧ p.count ≤ 3) ∧ (p.round = 1 ∨ p.round = 3) ∧ (1 ≤ p.kind ∧ p.kind ≤ 3) ∧ (p.every = 1 ∨ p.every = 2 ∨ p.every = 3 ∨ p.every = 4 ∨ p.every = 6 ∨ p.every = 12) ∧ (1 ≤ p.times ∧ p.times ≤ 600) ∧ (0 ≤ p.grace ∧ p.grace ≤ p.times - 1) ∧ (p.kind = 3 → p.grace = 0))
def resetsOk (times : Int) : Int → List (List Int) → Bool
 | _, [] => true
 | prev, r :: l => decide (1 ≤ r.getD 0 0 ∧ r.getD 0 0 ≤ times - 1 ∧ 0 ≤ r.getD 1 0 ∧ r.getD 1 0 ≤ 1000000000 ∧ prev < r.getD 0 0) && resetsOk times (r.getD 0 0) l
def ratesOk (p : Prod) : Bool := decide ((0 ≤ p.rate ∧ p.rate ≤ 1000000000) ∧ (0 ≤ p.penalty ∧ p.penalty ≤ 1000000000) ∧ p.resets.length ≤ 20) && resetsOk p.times 0 p.resets
def orderOk (a b c d : Int) : Bool := decide ((1 ≤ a ∧ a ≤ 4) ∧ (1 ≤ b ∧ b ≤ 4) ∧ (1 ≤ c ∧ c ≤ 4) ∧ (1 ≤ d ∧ d ≤ 4) ∧ a ≠ b ∧ a ≠ c ∧ a ≠ d ∧ b ≠ c ∧ b ≠ d ∧ c ≠ d)
def ordOk (p : Prod) : Bool := orderOk p.o1 p.o2 p.o3 p.o4 && decide (1 ≤ p.over ∧ p.over ≤ 3)
def tiersOk : Int → Int → List (List Int) → Bool
 | _, _, [] => true
 | pd, pf, t :: l => decide (1 ≤ t.getD 0 0 ∧ t.getD 0 0 ≤ 365 ∧ 0 ≤ t.getD 1 0 ∧ t.getD 1 0 ≤ 10000000000000 ∧ pd < t.getD 0 0 ∧ pf ≤ t.getD 1 0) && tiersOk (t.getD 0 0) (t.getD 1 0) l
def lateOk (p : Prod) : Bool := decide (p.late.length ≤ 8 ∧ (0 ≤ p.cap ∧ p.cap ≤ 10000000000000) ∧ (p.late = [] → p.cap = 0)) && tiersOk 0 0 p.late
def holsOk : Int → List Int → Bool
 | _, [] => true
 | p, a :: l => decide (-25567 ≤ a ∧ a ≤ 84370 ∧ p < a) && holsOk a l
def daysOk (p : Prod) : Bool := decide (p.hol.length ≤ 200 ∧ (1 ≤ p.roll ∧ p.roll ≤ 4) ∧ (p.roll = 1 → p.hol = [])) && holsOk (-25568) p.hol
def ok (p : Prod) : Bool := shapeOk p && ratesOk p && ordOk p && lateOk p && daysOk p
def err (p : Prod) : Int := if ok p = true then 0 else 9
def joined : List (List UInt8) → List UInt8
 | [] => [32]
 | w :: ws => 32 :: (w ++ joined ws)
theorem joined_head (ws : List (List UInt8)) : ∃ t, joined ws = 32 :: t := by cases ws <;> exact ⟨_, rfl⟩
theorem pre_word : ∀ (s w L : List UInt8), (32 : UInt8) ∉ s → (32 : UInt8) ∉ w → ((s ++ [32]).isPrefixOf (w ++ 32 :: L) = true ↔ s = w)
 | [], [], L, _, _ => by simp
 | [], b :: w, L, _, hw => by
  have h1 : ((32 : UInt8) == b) = false := by
   rw [beq_eq_false_iff_ne]; intro e; exact hw (by simp [e])
  simp [List.isPrefixOf, h1]
 | a :: s, [], L, hs, _ => by
  have h1 : (a == (32 : UInt8)) = false := by
   rw [beq_eq_false_iff_ne]; intro e; exact hs (by simp [e])
  simp [List.isPrefixOf, h1]
 | a :: s, b :: w, L, hs, hw => by
  have ih := pre_word s w L (fun h => hs (List.mem_cons_of_mem _ h)) (fun h => hw (List.mem_cons_of_mem _ h))
  simp only [List.cons_append, List.isPrefixOf, Bool.and_eq_true, beq_iff_eq, List.cons.injEq]
  rw [ih]
end Go.Proofs.Ytcfpkkgdofblfaa.Pm
/- Contracts by hand: a calendar made new; of no other text of this seat. -/
namespace Go.Proofs.Ytcfpkkgdofblfaa.Nw
open Go.RowKit Go.Proofs.YtcfpkkgdofblfaaW.PrintWords Go.Proofs.YtcfpkkgdofblfaaW.PrintLast Go.Proofs.YtcfpkkgdofblfaaW.PrintMore Go.Proofs.Ytcfpkkgdofblfaa.HW
set_option linter.unusedVariables false
set_option linter.unusedSimpArgs false
def isDay (n : Int) : Prop := -25567 ≤ n ∧ n ≤ 84370
instance (n : Int) : Decidable (isDay n) := by unfold isDay; infer_instance
theorem rd_nat (l : List Int) (k : Nat) (h : k < l.length) : rd l (k : Int) = l[k] := by
 simp [rd, h]
theorem rd_cons (l : List Int) (k : Nat) (h : k < l.length) : l.drop k = rd l (k : Int) :: l.drop (k + 1) := by
 rw [List.drop_eq_getElem_cons h, rd_nat l k h]
def rises : Int → List Int → Bool
 | _, [] => true
 | p, x :: xs => decide (isDay x) && (decide (p < x) && rises x xs)
theorem rises_all (l : List Int) : ∀ p, rises p l = true → ∀ x ∈ l, isDay x ∧ p < x := by
 induction l with
 | nil => intro p _ x hx; simp at hx
 | cons y ys ih =>
  intro p h x hx
  simp only [rises, Bool.and_eq_true, decide_eq_true_eq] at h
  obtain ⟨h1, h2, h3⟩ := h
  rcases List.mem_cons.1 hx with rfl | hx
  ·exact ⟨h1, h2⟩
  ·obtain ⟨h4, h5⟩ := ih y h3 x hx
   exact ⟨h4, by omega⟩
theorem rises_pair (l : List Int) : ∀ p, rises p l = true → l.Pairwise (· < ·) := by
 induction l with
 | nil => intro p _; exact List.Pairwise.nil
 | cons y ys ih =>
  intro p h
  simp only [rises, Bool.and_eq_true, decide_eq_true_eq] at h
  exact List.Pairwise.cons (fun x hx => (rises_all ys y h.2.2 x hx).2) (ih y h.2.2)
theorem rises_pm (l : List Int) : ∀ p, rises p l = Pm.holsOk p l := by
 induction l with
 | nil => intro p; rfl
 | cons a l ih =>
  intro p
  simp only [rises, Pm.holsOk, ih]
  rw [Bool.eq_iff_iff]
  simp only [Bool.and_eq_true, decide_eq_true_eq]
  constructor
  ·rintro ⟨⟨h1, h2⟩, h3, h4⟩; exact ⟨⟨h1, h2, h3⟩, h4⟩
  ·rintro ⟨⟨h1, h2, h3⟩, h4⟩; exact ⟨⟨h1, h2⟩, h3, h4⟩
theorem there_any (n : Int) (w : World) : Calls Try.prog 65 #[.int .i64 n] w fun e w' => e = .returned (.bool (decide (isDay n))) ∧ Drawn0 w w' := by
 by_cases h1 : -25567 ≤ n
 ·by_cases h2 : n ≤ 84370
  ·have hd : decide (isDay n) = true := decide_eq_true ⟨h1, h2⟩
   rw [hd]
   clear hd
   go_enter Try.func65, Try.ntmps65
   go_wp2
   go_ret
   exact ⟨rfl, Drawn0.refl _⟩
  ·have hd : decide (isDay n) = false := decide_eq_false (fun h => h2 h.2)
   rw [hd]
   have q : decide (n ≤ 84370) = false := decide_eq_false h2
   clear hd
   go_enter Try.func65, Try.ntmps65
   go_wp2
   go_ret
   exact ⟨rfl, Drawn0.refl _⟩
 ·have hd : decide (isDay n) = false := decide_eq_false (fun h => h1 h.1)
  rw [hd]
  have q : decide (-25567 ≤ n) = false := decide_eq_false h1
  clear hd
  go_enter Try.func65, Try.ntmps65
  go_wp2
  go_ret
  exact ⟨rfl, Drawn0.refl _⟩
theorem info_int : (Try.prog.info? 3).map (fun i => (i.zero, i.size, i.bytes)) = some (some (.int .i64 0), 1, 8) := by kernel_rfl
def Cloned (l : List Int) (w : World) (e : Ending) (w' : World) : Prop := ∃ A c, e = .returned (.slice A l.length c) ∧ Kd.C (Kd.int .i64) w' A l.length l ∧ l.length ≤ c ∧ Below w.heap.size w w' ∧ (∀ ad, A = some ad → w.heap.size ≤ ad.block)
theorem clone_nil (w : World) : Calls Try.prog 66 #[.slice none 0 0] w (Cloned [] w) := by
 have hnil := fun (w : World) => Lib.run_eql_slice_nil (P := Try.prog) w 25 3 none 0 0 0 0 Try.underlying25
 go_enter Try.func66, Try.ntmps66
 go_wp2_with fail
 go_ret
 exact ⟨none, 0, rfl, ⟨rfl, by simp, fun h => absurd h (Nat.lt_irrefl 0)⟩, Nat.le_refl _, Below.refl _ _, fun ad h => by cases h⟩
theorem clone_some (ad : Addr) (c0 : Nat) (l : List Int) (w : World) (hr0 : Kd.C (Kd.int .i64) w (some ad) l.length l) (hc0 : l.length ≤ c0) (hm : l.length ≤ 1000000) : Calls Try.prog 66 #[.slice (some ad) l.length c0] w (Cloned l w) := by
 have HN : ∀ j u, (nums .i64 l)[j]? = some u → (w.alloc (.cells #[] 3)).cell? (ad.add j) = some u := by
  intro j u hu
  have hj : j < l.length := by
   rcases Nat.lt_or_ge j l.length with h | h
   ·exact h
   ·rw [List.getElem?_eq_none (by rw [nums_length]; exact h)] at hu; cases hu
  obtain ⟨ad', e, hc⟩ := Kd.at_int (Kd.C_below hr0 ((Below.refl w.heap.size w).alloc (Nat.le_refl _) (.cells #[] 3))) (j : Int) (by omega) (by omega)
  obtain rfl : ad = ad' := Option.some.inj e
  rw [Int.toNat_natCast] at hc
  rw [hc, ← hu, rd_nat l j hj]
  simp [nums, hj]
 have HNN := Aside0.mk HN
 clear hr0 HN
 have hown : (w.alloc (.cells #[] 3)).ownsRow w.heap.size 3 1 (.slice (some ⟨w.heap.size, 0, none⟩) 0 0) 0 [] :=
  ⟨rfl, Or.inr ⟨w.heap.size, 0, #[], rfl, Nat.le_refl _, heap_alloc_new w _, Nat.le_refl _, Nat.zero_le _, rfl, rfl⟩⟩
 have HO := Aside0.mk hown
 clear hown
 obtain ⟨i0, hi, hz0, hz1, hz2⟩ := info_parts info_int
 have hnil := fun (w : World) => Lib.run_eql_slice_nil (P := Try.prog) w 25 3 (some ad) l.length c0 0 0 Try.underlying25
 go_enter Try.func66, Try.ntmps66
 go_wp2_with ((at_builtin; refine wpList_append_own _ rfl _ _ 25 rfl w.heap.size 3 i0 (.int .i64 0) 1 8 Try.underlying25 hi hz0 hz1 hz2 rfl (by decide) _ 0 [] rfl HO.out ad l.length c0 (nums .i64 l) rfl (by simp [nums]) HNN.out (by intro u hu; simp [nums] at hu; obtain ⟨a, _, rfl⟩ := hu; rfl) (by unfold maxLen; omega) (by omega) (by simp) ?_); intro v' w1 hown1 hgrow _)
 have hown2 : w1.ownsRow w.heap.size 3 1 v' l.length (encs (Value.int .i64) l) := by simpa [nums, encs] using hown1
 obtain ⟨A, c, rfl, hle, hr⟩ := own_reads_of_le (d := (0 : Int)) hown2
 have hb : Below w.heap.size w w1 := ((Below.refl w.heap.size w).alloc (Nat.le_refl _) (.cells #[] 3)).grown hgrow (by simp) (fun k hk => by cases hk; exact Nat.le_refl _)
 have hbs : ∀ ad, A = some ad → w.heap.size ≤ ad.block := fun ad e => own_base hown2 _ (by rw [e]; rfl)
 have HBS := Aside0.mk hbs
 clear hbs
 have HB := Aside0.mk hb
 have HC := Aside0.mk (show Kd.C (Kd.int .i64) w1 A l.length l from Kd.C_of_reads hr)
 clear hown1 hown2 hgrow hr hb
 go_wp2
 go_ret
 exact ⟨A, c, rfl, HC.out, hle, HB.out, HBS.out⟩
theorem clone_any (A0 : Option Addr) (c0 : Nat) (l : List Int) (w : World) (hr0 : Kd.C (Kd.int .i64) w A0 l.length l) (hc0 : l.length ≤ c0) (hn : A0 = none → c0 = 0) (hm : l.length ≤ 1000000) : Calls Try.prog 66 #[.slice A0 l.length c0] w (Cloned l w) := by
 cases A0 with
 | some ad => exact clone_some ad c0 l w hr0 hc0 hm
 | none =>
  obtain rfl := hn rfl
  obtain rfl : l = [] := List.eq_nil_of_length_eq_zero (by omega)
  exact clone_nil w
theorem new_many (A0 : Option Addr) (c0 : Nat) (l : List Int) (w : World) (h200 : 200 < l.length) (hm : l.length ≤ 1000000) :
  Calls Try.prog 34 #[.slice A0 l.length c0] w fun e w' => e = .returned (.tuple #[.pointer none, .int .i64 1]) ∧ Drawn0 w w' := by
 go_enter Try.func34, Try.ntmps34
 go_wp2_with fail
 go_ret2
 exact ⟨rfl, Drawn0.refl _⟩
def CalIn (B : Nat) (w : World) (gb : Nat) (l : List Int) : Prop := ∃ A c, w.cell? ⟨gb, 0, none⟩ = some (.slice A l.length c) ∧ Kd.C (Kd.int .i64) w A l.length l ∧ l.length ≤ c ∧ l.length ≤ 200 ∧ l.Pairwise (· < ·) ∧ gb < w.heap.size ∧ (∀ ad, A = some ad → B ≤ ad.block)
def Made2 (l : List Int) (b : Bool) (w : World) (e : Ending) (w' : World) : Prop := Below w.heap.size w w' ∧ (b = false → e = .returned (.tuple #[.pointer none, .int .i64 1])) ∧ (b = true → ∃ gb, w.heap.size ≤ gb ∧ e = .returned (.tuple #[.pointer (some ⟨gb, 0, none⟩), .int .i64 0]) ∧ CalIn w.heap.size w' gb l)
set_option maxHeartbeats 1000000 in
theorem new_few2 (A0 : Option Addr) (c0 : Nat) (l : List Int) (b : Bool) (w : World) (hr0 : Kd.C (Kd.int .i64) w A0 l.length l) (hc0 : l.length ≤ c0) (hn : A0 = none → c0 = 0) (hm : l.length ≤ 200) (hb : rises (-25568) l = b) :
  Calls Try.prog 34 #[.slice A0 l.length c0] w (Made2 l b w) := by
 have HR0 := Aside0.mk hr0
 have HB := Aside0.mk hb
 have HN := Aside0.mk hn
 clear hr0 hb hn
 go_enter Try.func34, Try.ntmps34
 go_wp2_with fail
 go_loopg [11] (l.length + 1) (fun gq i w' => ∃ (k : Nat) (p : Int), k ≤ l.length ∧ i = .int .i64 k ∧ Aside0 (gq = l.length + 1 - k) ∧ Aside0 (k = 0 ∧ p = -25568 ∨ 0 < k ∧ p = rd l ((k : Int) - 1)) ∧ Aside0 (rises p (l.drop k) = b) ∧ Drawn0 w w')
 case atStart => exact ⟨0, -25568, Nat.zero_le _, rfl, ⟨rfl⟩, ⟨Or.inl ⟨rfl, rfl⟩⟩, ⟨by rw [← HB.out]; rfl⟩, Drawn0.refl _⟩
 case round =>
  obtain ⟨k, p, hk, rfl, hg, hp, hq, ⟨m1, rfl⟩⟩ := hrel
  by_cases hlt : k < l.length
  ·obtain ⟨ad, e0, hx0⟩ := Kd.at_int HR0.out (k : Int) (by omega) (by omega)
   subst e0
   rw [Int.toNat_natCast] at hx0
   have hrc := hq.out
   rw [rd_cons l k hlt] at hrc
   simp only [rises] at hrc
   have HX : Aside0 (∀ j : Nat, j < l.length → w.cell? (ad.add j) = some (.int .i64 (rd l (j : Int)))) := ⟨fun j hj => by
    obtain ⟨ad', e', hx'⟩ := Kd.at_int HR0.out (j : Int) (by omega) (by omega)
    obtain rfl : ad = ad' := Option.some.inj e'
    rw [Int.toNat_natCast] at hx'
    exact hx'⟩
   by_cases hd : isDay (rd l (k : Int))
   ·have d1 := decide_eq_true hd
    rw [d1, Bool.true_and] at hrc
    rcases (by omega : k = 0 ∨ 0 < k) with h0 | h0
    ·have hp0 : p = -25568 := by rcases hp.out with h | h <;> omega
     have hlt2 : decide (p < rd l (k : Int)) = true := decide_eq_true (by have := hd.1; omega)
     rw [hlt2, Bool.true_and] at hrc
     have HQ := Aside0.mk hrc
     have g1 : (k : Int) ≤ 0 := by omega
     clear hrc hq hd hlt2 hp0 hp h0
     go_wp2_with fail
     refine (there_any _ _).mono ?_
     rintro e w1 ⟨rfl, ⟨m2, rfl⟩⟩
     go_wp2_with fail
     go_roundg (l.length + 1 - (k + 1))
     case measure => have := hg.out; omega
     case rel => exact ⟨k + 1, rd l (k : Int), by omega, by simp, ⟨rfl⟩, ⟨Or.inr ⟨by omega, by congr 1; omega⟩⟩, HQ, ⟨_, rfl⟩⟩
    ·have hx1 := HX.out (k - 1) (by omega)
     have hp1 : p = rd l (((k - 1 : Nat) : Int)) := by
      rcases hp.out with h | h
      ·omega
      ·rw [h.2]; congr 1; omega
     have g1 : (0 : Int) ≤ (k : Int) - 1 := by omega
     by_cases hlt2 : p < rd l (k : Int)
     ·rw [decide_eq_true hlt2, Bool.true_and] at hrc
      have HQ := Aside0.mk hrc
      have hle2 : decide (rd l (k : Int) ≤ rd l (((k - 1 : Nat) : Int))) = false := decide_eq_false (by omega)
      clear hrc hq hd hlt2 hp1 hp
      go_wp2_with fail
      refine (there_any _ _).mono ?_
      rintro e w1 ⟨rfl, ⟨m2, rfl⟩⟩
      go_wp2_with fail
      go_roundg (l.length + 1 - (k + 1))
      case measure => have := hg.out; omega
      case rel => exact ⟨k + 1, rd l (k : Int), by omega, by simp, ⟨rfl⟩, ⟨Or.inr ⟨by omega, by congr 1; omega⟩⟩, HQ, ⟨_, rfl⟩⟩
     ·rw [decide_eq_false hlt2, Bool.false_and] at hrc
      subst hrc
      have hle2 : decide (rd l (k : Int) ≤ rd l (((k - 1 : Nat) : Int))) = true := decide_eq_true (by omega)
      clear hq hd hlt2 hp1 hp
      go_wp2_with fail
      refine (there_any _ _).mono ?_
      rintro e w1 ⟨rfl, ⟨m2, rfl⟩⟩
      go_wp2_with fail
      go_ret2
      exact ⟨pw_below_drewN (Below.refl _ _) _, fun _ => rfl, fun h => by cases h⟩
   ·have d1 := decide_eq_false hd
    rw [d1, Bool.false_and] at hrc
    subst hrc
    clear hd hq
    go_wp2_with fail
    refine (there_any _ _).mono ?_
    rintro e w1 ⟨rfl, ⟨m2, rfl⟩⟩
    go_wp2_with fail
    go_ret2
    exact ⟨pw_below_drewN (Below.refl _ _) _, fun _ => rfl, fun h => by cases h⟩
  ·have hk2 : k = l.length := by omega
   subst hk2
   have hrc := hq.out
   rw [List.drop_length] at hrc
   obtain rfl : b = true := by rw [← hrc]; rfl
   clear hq
   go_wp2_with fail
   refine (clone_any A0 c0 l _ (Kd.C_drewN HR0.out _) hc0 HN.out (by omega)).mono ?_
   rintro e w1 ⟨A, c, rfl, hc1, hle, hbl, hbs⟩
   have HBS := Aside0.mk hbs
   clear hbs
   have HC1 := Aside0.mk hc1
   have HBL := Aside0.mk hbl
   clear hc1 hbl
   have hBsz := HBL.out.size
   have hgb : (w1.alloc (.cells #[.slice A l.length c] 94)).cell? ⟨w1.heap.size, 0, none⟩ = some (.slice A l.length c) := by simp [go_sem]
   have HCA := Aside0.mk (show CalIn w.heap.size (w1.alloc (.cells #[.slice A l.length c] 94)) w1.heap.size l from ⟨A, c, hgb, Kd.C_below HC1.out ((Below.refl _ _).alloc (Nat.le_refl _) _), hle, hm, rises_pair l _ HB.out, by simp, by have := HBS.out; simpa using this⟩)
   have HBB := Aside0.mk ((pw_below_drewN (Below.refl w.heap.size w) (m1)).trans (HBL.out.mono (by simp)))
   clear hgb
   go_wp2_with fail
   go_ret2
   exact ⟨HBB.out.alloc HBB.out.size _, (fun h => by cases h), fun _ => ⟨w1.heap.size, HBB.out.size, rfl, HCA.out⟩⟩
def New1 (l : List Int) (w : World) (e : Ending) (w' : World) : Prop := Below w.heap.size w w' ∧ ∃ q, (e = .returned (.tuple #[q, .int .i64 (if decide (l.length ≤ 200) && Pm.holsOk (-25568) l then 0 else 1)]))
theorem new_any (A0 : Option Addr) (c0 : Nat) (l : List Int) (w : World) (hr0 : Kd.C (Kd.int .i64) w A0 l.length l) (hc0 : l.length ≤ c0) (hn : A0 = none → c0 = 0) (hm : l.length ≤ 1000000) :
  Calls Try.prog 34 #[.slice A0 l.length c0] w (New1 l w) := by
 by_cases h : l.length ≤ 200
 ·refine (new_few2 A0 c0 l _ w hr0 hc0 hn h rfl).mono ?_
  rintro e w1 ⟨hb, h1, h2⟩
  refine ⟨hb, ?_⟩
  rw [decide_eq_true h, Bool.true_and, ← rises_pm]
  cases hr : rises (-25568) l with
  | true =>
   obtain ⟨gb, _, he, _⟩ := h2 hr
   exact ⟨_, by rw [he]; rfl⟩
  | false => exact ⟨_, by rw [h1 hr]; rfl⟩
 ·refine (new_many A0 c0 l w (by omega) hm).mono ?_
  rintro e w1 ⟨rfl, hd⟩
  refine ⟨hd.below, .pointer none, ?_⟩
  rw [decide_eq_false h]; rfl
end Go.Proofs.Ytcfpkkgdofblfaa.Nw
/- Plain law: a word among the words of grammar. -/
namespace Go.Proofs.Ytcfpkkgdofblfaa.Pm
open Go
set_option linter.unusedVariables false
theorem index_cons_pos (b : UInt8) (l sub : List UInt8) : 0 ≤ Lib.index (b :: l) sub ↔ sub.isPrefixOf (b :: l) = true ∨ 0 ≤ Lib.index l sub := by
 have hg := Lib.index_ge l sub
 rw [Lib.index]
 by_cases h : sub.isPrefixOf (b :: l) = true
 ·rw [if_pos h]; simp [h]
 ·rw [if_neg h]
  by_cases e : Lib.index l sub = -1
  ·rw [if_pos (by rw [e]; rfl), e]; simp [h]
  ·rw [if_neg (by simpa using e)]
   simp only [h, false_or]
   constructor <;> intro <;> omega
theorem index_nil_neg (a : UInt8) (t : List UInt8) : ¬ 0 ≤ Lib.index [] (a :: t) := by simp [Lib.index]
theorem index_skip (t L : List UInt8) : ∀ w : List UInt8, (32 : UInt8) ∉ w → (0 ≤ Lib.index (w ++ L) (32 :: t) ↔ 0 ≤ Lib.index L (32 :: t))
 | [], _ => by simp
 | b :: w, hw => by
  have h1 : ((32 : UInt8) == b) = false := by
   rw [beq_eq_false_iff_ne]; intro e; exact hw (by simp [e])
  have ih := index_skip t L w (fun h => hw (List.mem_cons_of_mem _ h))
  rw [List.cons_append, index_cons_pos, ih]
  simp [List.isPrefixOf, h1]
theorem index_joined (s : List UInt8) (hs : (32 : UInt8) ∉ s) : ∀ ws : List (List UInt8), (∀ w ∈ ws, (32 : UInt8) ∉ w) → (0 ≤ Lib.index (joined ws) (32 :: (s ++ [32])) ↔ s ∈ ws)
 | [], _ => by
  rw [joined, index_cons_pos]
  have h := index_nil_neg 32 (s ++ [32])
  have h2 : ¬ (s ++ [32]).isPrefixOf ([] : List UInt8) = true := by cases s <;> simp [List.isPrefixOf]
  simp [List.isPrefixOf, h, h2]
 | w :: ws, hw => by
  obtain ⟨t, ht⟩ := joined_head ws
  have ih := index_joined s hs ws (fun v hv => hw v (List.mem_cons_of_mem _ hv))
  have hw0 := hw w (by simp)
  rw [joined, index_cons_pos, index_skip _ _ w hw0, ih]
  have hp := pre_word s w t hs hw0
  simp only [List.isPrefixOf, beq_self_eq_true, Bool.true_and, List.mem_cons]
  rw [ht, hp]
theorem words_no : ∀ w ∈ wordsL, (32 : UInt8) ∉ w := by decide +kernel
theorem contains_word (s : List UInt8) (hs : (32 : UInt8) ∉ s) : Lib.contains (joined wordsL) (32 :: (s ++ [32])) = isWord s := by
 unfold Lib.contains isWord
 rw [Bool.eq_iff_iff, decide_eq_true_iff, List.contains_iff_mem]
 exact index_joined s hs wordsL words_no
theorem letter_no (c : UInt8) (h : letter c = true) : c ≠ 32 := by
 intro e; subst e; revert h; decide
end Go.Proofs.Ytcfpkkgdofblfaa.Pm
/- Arguments opened: structs of whole numbers, and slices of them. -/
namespace Go.Proofs.Ytcfpkkgdofblfaa.Op
open Go.ChangeShapes Go.WideShapes Go.Deep Go.RowKit Go.Joins
def IntRows (w : World) (A : Option Addr) (sz : Nat) (rows : List (List Int)) : Prop :=
 (∀ r ∈ rows, r.length = sz ∧ ∀ x ∈ r, (Lit.int .i64 x).wf = true) ∧ ∀ (i : Nat) (r : List Int), rows[i]? = some r → ∃ ad, A = some ad ∧ ∀ (j : Nat) (x : Int), r[j]? = some x → w.cell? (ad.add (i * sz + j)) = some (.int .i64 x)
theorem list_of {α : Type} {P : Nat → α → Prop} (n : Nat) : (∀ i, i < n → ∃ x, P i x) → ∃ l : List α, l.length = n ∧ ∀ (i : Nat) (x : α), l[i]? = some x → P i x := by
 induction n with
 | zero => intro _; exact ⟨[], rfl, fun i x h => by simp at h⟩
 | succ n ih =>
  intro h
  obtain ⟨l, hl, hp⟩ := ih (fun i hi => h i (by omega))
  obtain ⟨x, hx⟩ := h n (by omega)
  refine ⟨l ++ [x], by simp [hl], fun i y hy => ?_⟩
  rcases Nat.lt_or_ge i l.length with h1 | h1
  ·rw [List.getElem?_append_left h1] at hy; exact hp i y hy
  ·rw [List.getElem?_append_right h1] at hy
   have : i - l.length = 0 := by
    rcases Nat.eq_zero_or_pos (i - l.length) with h2 | h2
    ·exact h2
    ·rw [List.getElem?_eq_none (by simp only [List.length_cons, List.length_nil]; omega)] at hy; cases hy
   rw [this] at hy
   simp at hy
   subst hy
   obtain rfl : i = n := by omega
   exact hx
section
variable {H : Type} {enc : TypeId × Value → H} {P : Program} {w : World} {base : Nat} {spare : Nat → Bool} {held : Bool}
theorem hone_of' {P : Program} {fs : Array Field} (h : oneCellFields P fs = true) (j : Nat) (f : Field) (hj : fs[j]? = some f) : f.offset = j ∧ P.cellsOf f.type = 1 := hone_of h j f hj
end
theorem IntRows.below {w w1 : World} {A : Option Addr} {sz : Nat} {rows : List (List Int)} (h : IntRows w A sz rows) (hb : Below w.heap.size w w1) : IntRows w1 A sz rows := by
 refine ⟨h.1, fun i r hi => ?_⟩
 obtain ⟨ad, e, hc⟩ := h.2 i r hi
 refine ⟨ad, e, fun j x hj => ?_⟩
 have hj' := hc j x hj
 have hlt : (ad.add (i * sz + j)).block < w.heap.size := by
  rcases Nat.lt_or_ge (ad.add (i * sz + j)).block w.heap.size with h1 | h1
  ·exact h1
  ·exfalso
   have e : w.heap[(ad.add (i * sz + j)).block]? = none := Array.getElem?_eq_none h1
   simp [World.cell?, e] at hj'
 rw [hb.cell hlt]; exact hj'
end Go.Proofs.Ytcfpkkgdofblfaa.Op
/- Contracts by hand: a product by value; what is thrown of it. -/
namespace Go.Proofs.Ytcfpkkgdofblfaa.Pd
open Go.RowKit Go.Proofs.YtcfpkkgdofblfaaW.PrintWords Go.Proofs.YtcfpkkgdofblfaaW.PrintLast Go.Proofs.YtcfpkkgdofblfaaW.PrintMore Go.Proofs.Ytcfpkkgdofblfaa.HW
open Pm
set_option linter.unusedVariables false
set_option linter.unusedSimpArgs false
abbrev pv (p : Prod) (A1 : Option Addr) (c1 : Nat) (A2 : Option Addr) (c2 : Nat) (A3 : Option Addr) (c3 : Nat) : Value :=
 .agg #[.string p.name, .int .i64 p.count, .int .i64 p.round, .int .i64 p.kind, .int .i64 p.every, .int .i64 p.times, .int .i64 p.grace, .int .i64 p.rate, .slice A1 p.resets.length c1, .int .i64 p.penalty, .int .i64 p.o1, .int .i64 p.o2, .int .i64 p.o3, .int .i64 p.o4, .int .i64 p.over, .slice A2 p.late.length c2, .int .i64 p.cap, .int .i64 p.roll, .slice A3 p.hol.length c3]
structure ProdAt (w : World) (p : Prod) (A1 : Option Addr) (c1 : Nat) (A2 : Option Addr) (c2 : Nat) (A3 : Option Addr) (c3 : Nat) : Prop where
 r1 : Op.IntRows w A1 2 p.resets
 l1 : p.resets.length ≤ c1
 n1 : A1 = none → c1 = 0
 r2 : Op.IntRows w A2 2 p.late
 l2 : p.late.length ≤ c2
 n2 : A2 = none → c2 = 0
 r3 : Kd.C (Kd.int .i64) w A3 p.hol.length p.hol
 l3 : p.hol.length ≤ c3
 n3 : A3 = none → c3 = 0
theorem ProdAt.below {w w1 : World} {p : Prod} {A1 : Option Addr} {c1 : Nat} {A2 : Option Addr} {c2 : Nat} {A3 : Option Addr} {c3 : Nat} (h : ProdAt w p A1 c1 A2 c2 A3 c3) (hb : Below w.heap.size w w1) : ProdAt w1 p A1 c1 A2 c2 A3 c3 :=
 ⟨h.r1.below hb, h.l1, h.n1, h.r2.below hb, h.l2, h.n2, Kd.C_below h.r3 hb, h.l3, h.n3⟩
structure Small (p : Prod) : Prop where
 name : p.name.size ≤ 1000000
 s1 : p.resets.length ≤ 1000000
 s2 : p.late.length ≤ 1000000
 s3 : p.hol.length ≤ 1000000
theorem must_yes (w : World) : Calls Try.prog 81 #[.bool true] w fun e w' => e = .returned (.tuple #[]) ∧ w = w' := by
 go_enter Try.func81, Try.ntmps81
 go_wp2
 go_end0
 exact ⟨rfl, rfl⟩
abbrev refusedE : Ending := .panicked [{ v := .iface 86 (.agg #[]), recovered := false }]
theorem must_no (w : World) : Calls Try.prog 81 #[.bool false] w fun e w' => e = refusedE ∧ w = w' := by
 go_enter Try.func81, Try.ntmps81
 go_wp2
 exact ⟨rfl, rfl, rfl⟩
theorem within_i (v a b : Int) (w : World) : Calls Try.prog 83 #[.int .i64 v, .int .i64 a, .int .i64 b] w fun e w' => e = .returned (.bool (decide (a ≤ v ∧ v ≤ b))) ∧ w = w' := by
 by_cases h1 : a ≤ v
 ·by_cases h2 : v ≤ b
  ·have hd : decide (a ≤ v ∧ v ≤ b) = true := decide_eq_true ⟨h1, h2⟩
   rw [hd]
   clear hd
   go_enter Try.func83, Try.ntmps83
   go_wp2
   go_ret
   exact ⟨rfl, rfl⟩
  ·have hd : decide (a ≤ v ∧ v ≤ b) = false := decide_eq_false (fun h => h2 h.2)
   rw [hd]
   have q : decide (v ≤ b) = false := decide_eq_false h2
   clear hd
   go_enter Try.func83, Try.ntmps83
   go_wp2
   go_ret
   exact ⟨rfl, rfl⟩
 ·have hd : decide (a ≤ v ∧ v ≤ b) = false := decide_eq_false (fun h => h1 h.1)
  rw [hd]
  have q : decide (a ≤ v) = false := decide_eq_false h1
  clear hd
  go_enter Try.func83, Try.ntmps83
  go_wp2
  go_ret
  exact ⟨rfl, rfl⟩
theorem within_l (v a b : Int) (w : World) : Calls Try.prog 84 #[.int .i64 v, .int .i64 a, .int .i64 b] w fun e w' => e = .returned (.bool (decide (a ≤ v ∧ v ≤ b))) ∧ w = w' := by
 by_cases h1 : a ≤ v
 ·by_cases h2 : v ≤ b
  ·have hd : decide (a ≤ v ∧ v ≤ b) = true := decide_eq_true ⟨h1, h2⟩
   rw [hd]
   clear hd
   go_enter Try.func84, Try.ntmps84
   go_wp2
   go_ret
   exact ⟨rfl, rfl⟩
  ·have hd : decide (a ≤ v ∧ v ≤ b) = false := decide_eq_false (fun h => h2 h.2)
   rw [hd]
   have q : decide (v ≤ b) = false := decide_eq_false h2
   clear hd
   go_enter Try.func84, Try.ntmps84
   go_wp2
   go_ret
   exact ⟨rfl, rfl⟩
 ·have hd : decide (a ≤ v ∧ v ≤ b) = false := decide_eq_false (fun h => h1 h.1)
  rw [hd]
  have q : decide (a ≤ v) = false := decide_eq_false h1
  clear hd
  go_enter Try.func84, Try.ntmps84
  go_wp2
  go_ret
  exact ⟨rfl, rfl⟩
theorem within_i_is {v a b : Int} {r : Bool} (h : decide (a ≤ v ∧ v ≤ b) = r) (w : World) : Calls Try.prog 83 #[.int .i64 v, .int .i64 a, .int .i64 b] w fun e w' => e = .returned (.bool r) ∧ w = w' := h ▸ within_i v a b w
theorem within_l_is {v a b : Int} {r : Bool} (h : decide (a ≤ v ∧ v ≤ b) = r) (w : World) : Calls Try.prog 84 #[.int .i64 v, .int .i64 a, .int .i64 b] w fun e w' => e = .returned (.bool r) ∧ w = w' := h ▸ within_l v a b w
section
variable {P : Program} {ops : Array Oper} {rest : List Oper} {a : Act} {Q : Exit → Act → World → Prop}
theorem copy_event {W : World} {o1 o2 : Oper} (hg1 : o1.guard = none) {N : Tmp} (hd1 : o1.dst = some N) (hg2 : o2.guard = none) (hd2 : o2.dst = none) {t : TypeId} {v : Operand} (ho2 : o2.op = .store t (.tmp N) v) {cs zs : Array Value}
  (hrun : (execOp a.eval o1).run P W = .ok (.value (.pointer (some ⟨W.heap.size, 0, none⟩))) (W.alloc (.cells zs t (0, 0))))
  (hp : (a.put o1.dst (.pointer (some ⟨W.heap.size, 0, none⟩))).eval (.tmp N) = .pointer (some ⟨W.heap.size, 0, none⟩))
  (hv : (a.put o1.dst (.pointer (some ⟨W.heap.size, 0, none⟩))).eval v = .agg cs)
  (hi : (P.info? t).map (·.size) = some cs.size) (hz : zs.size = cs.size) (h1 : cs.all (·.oneCell') = true)
  (h : ∀ g, g = W.heap.size → ∀ w1, w1.heap[g]? = some (.cells cs t (0, 0)) → Below W.heap.size W w1 → wpList P ops Q rest (a.put o1.dst (.pointer (some ⟨g, 0, none⟩))) w1) : wpList P ops Q (o1 :: o2 :: rest) a W := by
 refine Kd.event_run hg1 hrun ?_
 refine wpList_store_row hg2 t (.tmp N) v ho2 W.heap.size cs hp hv t zs (heap_alloc_new W _) hi hz h1 ?_
 rw [hd2, World.setRow_alloc_new]
 exact h _ rfl _ (blk_new W _) (below_alloc (Below.refl _ _) _)
end
theorem info_prod : (Try.prog.info? 27).map (·.size) = some 19 := by kernel_rfl
theorem info_looks : (Try.prog.info? 88).map (·.size) = some 19 := by kernel_rfl
abbrev pcs (p : Prod) (A1 : Option Addr) (c1 : Nat) (A2 : Option Addr) (c2 : Nat) (A3 : Option Addr) (c3 : Nat) : Array Value :=
 #[.string p.name, .int .i64 p.count, .int .i64 p.round, .int .i64 p.kind, .int .i64 p.every, .int .i64 p.times, .int .i64 p.grace, .int .i64 p.rate, .slice A1 p.resets.length c1, .int .i64 p.penalty, .int .i64 p.o1, .int .i64 p.o2, .int .i64 p.o3, .int .i64 p.o4, .int .i64 p.over, .slice A2 p.late.length c2, .int .i64 p.cap, .int .i64 p.roll, .slice A3 p.hol.length c3]
theorem pcs_one (p : Prod) (A1 : Option Addr) (c1 : Nat) (A2 : Option Addr) (c2 : Nat) (A3 : Option Addr) (c3 : Nat) : (pcs p A1 c1 A2 c2 A3 c3).all (·.oneCell') = true := by
 simp [Value.oneCell']
abbrev pzs : Array Value :=
 #[.string ⟨#[]⟩, .int .i64 0, .int .i64 0, .int .i64 0, .int .i64 0, .int .i64 0, .int .i64 0, .int .i64 0, .slice none 0 0, .int .i64 0, .int .i64 0, .int .i64 0, .int .i64 0, .int .i64 0, .int .i64 0, .slice none 0 0, .int .i64 0, .int .i64 0, .slice none 0 0]
theorem pc_cells {p : Prod} {A1 : Option Addr} {c1 : Nat} {A2 : Option Addr} {c2 : Nat} {A3 : Option Addr} {c3 : Nat} {w : World} {g : Nat} {t : TypeId} (h : w.heap[g]? = some (.cells (pcs p A1 c1 A2 c2 A3 c3) t (0, 0))) :
  w.cell? ⟨g, 0, none⟩ = some (.string p.name) ∧ w.cell? ⟨g, 1, none⟩ = some (.int .i64 p.count) ∧ w.cell? ⟨g, 2, none⟩ = some (.int .i64 p.round) ∧ w.cell? ⟨g, 3, none⟩ = some (.int .i64 p.kind) ∧ w.cell? ⟨g, 4, none⟩ = some (.int .i64 p.every) ∧ w.cell? ⟨g, 5, none⟩ = some (.int .i64 p.times) ∧ w.cell? ⟨g, 6, none⟩ = some (.int .i64 p.grace) ∧ w.cell? ⟨g, 7, none⟩ = some (.int .i64 p.rate) ∧ w.cell? ⟨g, 8, none⟩ = some (.slice A1 p.resets.length c1) ∧ w.cell? ⟨g, 9, none⟩ = some (.int .i64 p.penalty) ∧ w.cell? ⟨g, 10, none⟩ = some (.int .i64 p.o1) ∧ w.cell? ⟨g, 11, none⟩ = some (.int .i64 p.o2) ∧ w.cell? ⟨g, 12, none⟩ = some (.int .i64 p.o3) ∧ w.cell? ⟨g, 13, none⟩ = some (.int .i64 p.o4) ∧ w.cell? ⟨g, 14, none⟩ = some (.int .i64 p.over) ∧ w.cell? ⟨g, 15, none⟩ = some (.slice A2 p.late.length c2) ∧ w.cell? ⟨g, 16, none⟩ = some (.int .i64 p.cap) ∧ w.cell? ⟨g, 17, none⟩ = some (.int .i64 p.roll) ∧ w.cell? ⟨g, 18, none⟩ = some (.slice A3 p.hol.length c3) :=
 ⟨(blk_cell h 0).trans rfl, (blk_cell h 1).trans rfl, (blk_cell h 2).trans rfl, (blk_cell h 3).trans rfl, (blk_cell h 4).trans rfl, (blk_cell h 5).trans rfl, (blk_cell h 6).trans rfl, (blk_cell h 7).trans rfl, (blk_cell h 8).trans rfl, (blk_cell h 9).trans rfl, (blk_cell h 10).trans rfl, (blk_cell h 11).trans rfl, (blk_cell h 12).trans rfl, (blk_cell h 13).trans rfl, (blk_cell h 14).trans rfl, (blk_cell h 15).trans rfl, (blk_cell h 16).trans rfl, (blk_cell h 17).trans rfl, (blk_cell h 18).trans rfl⟩
theorem blk_below {w w1 : World} {g : Nat} {o : Obj} (h : w.heap[g]? = some o) (hb : Below w.heap.size w w1) : w1.heap[g]? = some o := by rw [hb.block g (blk_lt h)]; exact h
theorem must_yes_of {b : Bool} (h : b = true) (w : World) : Calls Try.prog 81 #[.bool b] w fun e w' => e = .returned (.tuple #[]) ∧ w = w' := h ▸ must_yes w
theorem must_no_of {b : Bool} (h : b = false) (w : World) : Calls Try.prog 81 #[.bool b] w fun e w' => e = refusedE ∧ w = w' := h ▸ must_no w
end Go.Proofs.Ytcfpkkgdofblfaa.Pd
/-
 DERIVED: THE SHELF's CONTRACTS AT THIS DUMP, IN PLAIN WORDS (tools/lay-plain.mjs out of 'TryShelf.lean', which tools/lay-shelf.mjs wrote): THE SAME DECLARATIONS UNDER THE SAME NAMES: 'import', 'namespace', 'open', 'def', 'theorem' AND NOTHING ELSE: no command of the shelf's: FOR A HAND-IN. Each laying: the table of numbers ('.._ren') and one theorem, a field a fact of the dump's own or the kernel's comparison; each contract: ONE APPLICATION.
-/
namespace Go.Proofs
open Go.Shelf
def Try.lays134_ren : Go.Shelf.Ren := ⟨fun | 134 => 113 | 129 => 116 | n => n, fun | 53 => 47 | 3 => 3 | 4 => 4 | 46 => 30 | 5 => 5 | 9 => 9 | n => n, fun | n => n⟩
theorem Try.lays134 : Go.Proofs.Lays.n134 Try.prog Try.lays134_ren := {
 mixed := by kernel_rfl
 f129 := Try.func116.trans (congrArg some (by kernel_rfl))
 f134 := Try.func113.trans (congrArg some (by kernel_rfl))
 t3 := Try.underlying3
 a3 := Try.isAgg3
 z3 := Try.sizeOf3
 v3 := Try.zeroValue3
 t4 := Try.underlying4
 a4 := Try.isAgg4
 z4 := Try.sizeOf4
 v4 := Try.zeroValue4
 t5 := Try.underlying5
 a5 := Try.isAgg5
 z5 := Try.sizeOf5
 v5 := Try.zeroValue5
 t9 := Try.underlying9
 a9 := Try.isAgg9
 z9 := Try.sizeOf9
 v9 := Try.zeroValue9
 t46 := Try.underlying30
 a46 := Try.isAgg30
 z46 := Try.sizeOf30
 v46 := Try.zeroValue30
 t53 := Try.underlying47
 a53 := Try.isAgg47
 z53 := Try.sizeOf47
 v53 := Try.zeroValue47 }
theorem Try.bits_LeadingZeros64 (x : Int) (w : World) (h0 : 0 ≤ x) (h1 : x ≤ 18446744073709551615) :
  Calls Try.prog 113 #[.int .u64 x] w fun e w' => e = .returned (.int .i64 (64 - (Lib.bitLen x.toNat : Int))) ∧ w' = w := Any.bits_LeadingZeros64 Try.lays134 x w h0 h1
def Try.lays144_ren : Go.Shelf.Ren := ⟨fun | 144 => 102 | 143 => 110 | 219 => 114 | 217 => 117 | 225 => 118 | 224 => 119 | 267 => 120 | 266 => 121 | 314 => 122 | n => n, fun | 9 => 9 | 4 => 4 | 3 => 3 | 5 => 5 | 46 => 30 | 146 => 148 | 51 => 147 | n => n, fun | 1 => 2 | n => n⟩
theorem Try.lays144 : Go.Proofs.Lays.n144 Try.prog Try.lays144_ren := {
 mixed := by kernel_rfl
 f143 := Try.func110.trans (congrArg some (by kernel_rfl))
 f144 := Try.func102.trans (congrArg some (by kernel_rfl))
 f217 := Try.func117.trans (congrArg some (by kernel_rfl))
 f219 := Try.func114.trans (congrArg some (by kernel_rfl))
 f224 := Try.func119.trans (congrArg some (by kernel_rfl))
 f225 := Try.func118.trans (congrArg some (by kernel_rfl))
 f266 := Try.func121.trans (congrArg some (by kernel_rfl))
 f267 := Try.func120.trans (congrArg some (by kernel_rfl))
 f314 := Try.func122.trans (congrArg some (by kernel_rfl))
 t3 := Try.underlying3
 a3 := Try.isAgg3
 z3 := Try.sizeOf3
 v3 := Try.zeroValue3
 t4 := Try.underlying4
 a4 := Try.isAgg4
 z4 := Try.sizeOf4
 v4 := Try.zeroValue4
 t5 := Try.underlying5
 a5 := Try.isAgg5
 z5 := Try.sizeOf5
 v5 := Try.zeroValue5
 t9 := Try.underlying9
 a9 := Try.isAgg9
 z9 := Try.sizeOf9
 v9 := Try.zeroValue9
 t46 := Try.underlying30
 a46 := Try.isAgg30
 z46 := Try.sizeOf30
 v46 := Try.zeroValue30
 t51 := Try.underlying147
 a51 := Try.isAgg147
 z51 := Try.sizeOf147
 v51 := Try.zeroValue147
 t146 := Try.underlying148
 a146 := Try.isAgg148
 z146 := Try.sizeOf148
 v146 := Try.zeroValue148
 g1 := by kernel_rfl }
open Go.RowKit Go.Lib in
theorem Try.strings_Contains (s sub : ByteArray) (m : Int) (w : World) (hs : s.size < 4294967281) (hm : w.cell? ⟨2, 0, none⟩ = some (.int .i64 m)) :
  Calls Try.prog 102 #[.string s, .string sub] w fun e w' => e = .returned (.bool (Lib.contains s.data.toList sub.data.toList)) ∧ w' = w := Any.strings_Contains Try.lays144 s sub m w hs hm
def Try.lays264_ren : Go.Shelf.Ren := ⟨fun | 264 => 107 | n => n, fun | 53 => 47 | 46 => 30 | n => n, fun | n => n⟩
theorem Try.lays264 : Go.Proofs.Lays.n264 Try.prog Try.lays264_ren := {
 mixed := by kernel_rfl
 f264 := Try.func107.trans (congrArg some (by kernel_rfl))
 t46 := Try.underlying30
 a46 := Try.isAgg30
 z46 := Try.sizeOf30
 v46 := Try.zeroValue30
 t53 := Try.underlying47
 a53 := Try.isAgg47
 z53 := Try.sizeOf47
 v53 := Try.zeroValue47 }
open Go.RowKit Go.Lib in
theorem Try.bits_Mul64 (x y : Nat) (hx : x < 18446744073709551616) (hy : y < 18446744073709551616) (w : World) :
  Calls Try.prog 107 #[.int .u64 x, .int .u64 y] w fun e w' => e = .returned (.tuple #[.int .u64 ((x * y / 18446744073709551616 : Nat) : Int), .int .u64 ((x * y % 18446744073709551616 : Nat) : Int)]) ∧ w' = w := Any.bits_Mul64 Try.lays264 x y hx hy w
end Go.Proofs
/- Contracts by hand: a name. -/
namespace Go.Proofs.Ytcfpkkgdofblfaa.Pd
open Go.RowKit Go.Proofs.YtcfpkkgdofblfaaW.PrintWords Go.Proofs.YtcfpkkgdofblfaaW.PrintLast Go.Proofs.YtcfpkkgdofblfaaW.PrintMore Go.Proofs.Ytcfpkkgdofblfaa.HW
open Pm
set_option linter.unusedVariables false
set_option linter.unusedSimpArgs false
def GV (w : World) : Prop := ∃ m, w.cell? ⟨2, 0, none⟩ = some (.int .i64 m)
theorem GV.lt {w : World} (h : GV w) : 2 < w.heap.size := by
 obtain ⟨m, h⟩ := h
 rcases Nat.lt_or_ge 2 w.heap.size with h1 | h1
 ·exact h1
 ·exfalso
  have e : w.heap[2]? = none := Array.getElem?_eq_none h1
  simp [World.cell?, e] at h
theorem GV.below {w w1 : World} (h : GV w) (hb : Below w.heap.size w w1) : GV w1 := by
 have hl := h.lt
 obtain ⟨m, h⟩ := h
 exact ⟨m, by rw [hb.cell hl]; exact h⟩
theorem bytes_belowP (w : World) (t : ByteArray) : Below w.heap.size w (Lib.bytesWorld w 5 t) := by
 refine ⟨rfl, rfl, rfl, ?_, fun k hk => ?_⟩
 ·rw [Lib.bytesWorld_size]; omega
 ·exact Lib.bytesWorld_at_old _ _ _ k hk
set_option maxRecDepth 100000 in
theorem name_empty (s : ByteArray) (w : World) (h : s.size = 0) : Calls Try.prog 82 #[.string s] w fun e w' => e = .returned (.bool false) ∧ w = w' := by
 have h1 : s.size < 1 := by omega
 clear h
 go_enter Try.func82, Try.ntmps82
 go_wp2_with fail
 go_ret
 exact ⟨rfl, rfl⟩
set_option maxRecDepth 100000 in
theorem name_long (s : ByteArray) (w : World) (h : 20 < s.size) : Calls Try.prog 82 #[.string s] w fun e w' => e = .returned (.bool false) ∧ w = w' := by
 go_enter Try.func82, Try.ntmps82
 go_wp2_with fail
 go_ret
 exact ⟨rfl, rfl⟩
set_option maxRecDepth 100000 in
theorem name_head (s : ByteArray) (w : World) (h0 : 0 < s.size) (h20 : s.size ≤ 20) (hc : (s[0].toNat : Int) < 97 ∨ 122 < (s[0].toNat : Int)) : Calls Try.prog 82 #[.string s] w fun e w' => e = .returned (.bool false) ∧ w = w' := by
 have h1 : 1 ≤ s.size := h0
 rcases hc with hc | hc
 ·go_enter Try.func82, Try.ntmps82
  go_wp2_with fail
  go_ret
  exact ⟨rfl, rfl⟩
 ·have hc2 : 97 ≤ (s[0].toNat : Int) := by omega
  go_enter Try.func82, Try.ntmps82
  go_wp2_with fail
  go_ret
  exact ⟨rfl, rfl⟩
theorem getD_dropP (l : List UInt8) (k : Nat) (h : k < l.length) : l.drop k = l.getD k 0 :: l.drop (k + 1) := by
 rw [List.drop_eq_getElem_cons h, List.getD_eq_getElem?_getD, List.getElem?_eq_getElem h]; rfl
theorem letter_yes {c : UInt8} (h : letter c = true) : (97 ≤ (c.toNat : Int) ∧ (c.toNat : Int) ≤ 122) ∨ (48 ≤ (c.toNat : Int) ∧ (c.toNat : Int) ≤ 57) ∨ (c.toNat : Int) = 45 := by
 simpa [letter, small, other, Bool.or_eq_true, Bool.and_eq_true] using h
theorem letter_not {c : UInt8} (h : letter c = false) : ¬ ((97 ≤ (c.toNat : Int) ∧ (c.toNat : Int) ≤ 122) ∨ (48 ≤ (c.toNat : Int) ∧ (c.toNat : Int) ≤ 57) ∨ (c.toNat : Int) = 45) := by
 intro h2
 have : letter c = true := by simpa [letter, small, other, Bool.or_eq_true, Bool.and_eq_true] using h2
 rw [h] at this; cases this
theorem all_no {l : List UInt8} (h : l.all letter = true) : (32 : UInt8) ∉ l := by
 intro hm
 exact letter_no _ (List.all_eq_true.1 h _ hm) rfl
theorem words_is (s : ByteArray) (h : s.data.toList.all letter = true) : Lib.contains (joined wordsL) ((⟨#[32]⟩ : ByteArray) ++ s ++ (⟨#[32]⟩ : ByteArray)).data.toList = isWord s.data.toList := by
 have e : ((⟨#[32]⟩ : ByteArray) ++ s ++ (⟨#[32]⟩ : ByteArray)).data.toList = 32 :: (s.data.toList ++ [32]) := by simp
 rw [e]
 exact contains_word _ (all_no h)
theorem contains_is (ws s : ByteArray) {w : World} (hw : ws.data.toList = joined wordsL) (h : s.data.toList.all letter = true) (hg : GV w) :
  Calls Try.prog 102 #[.string ws, .string ((⟨#[32]⟩ : ByteArray) ++ s ++ (⟨#[32]⟩ : ByteArray))] w fun e w' => e = .returned (.bool (isWord s.data.toList)) ∧ w = w' := by
 obtain ⟨m, hm⟩ := hg
 have hsz : ws.size < 4294967281 := by
  have : ws.size = ws.data.toList.length := rfl
  rw [this, hw]; decide +kernel
 refine (Try.strings_Contains ws _ m w hsz hm).mono ?_
 rintro e w1 ⟨rfl, rfl⟩
 rw [hw, words_is s h]
 exact ⟨rfl, rfl⟩
set_option maxRecDepth 100000 in
set_option maxHeartbeats 1000000 in
theorem name_tail (s : ByteArray) (w : World) (hg : GV w) (h0 : 0 < s.size) (h20 : s.size ≤ 20) (hc0 : 97 ≤ (s[0].toNat : Int)) (hc1 : (s[0].toNat : Int) ≤ 122) : Calls Try.prog 82 #[.string s] w fun e w' => e = .returned (.bool (s.data.toList.all letter && !isWord s.data.toList)) ∧ Below w.heap.size w w' := by
 have h1 : 1 ≤ s.size := h0
 have HG := Aside0.mk hg
 have hcv := fun (W : World) (t : ByteArray) => Lib.run_convert_string_bytes (P := Try.prog) W 9 135 5 t Try.underlying9 Try.underlying135 Try.underlying5
 have hbel := Aside0.mk (bytes_belowP w s)
 have HC := Aside0.mk (fun j hj => Lib.bytesWorld_cell w 5 s j hj)
 obtain ⟨l, hl⟩ : ∃ l, s.data.toList = l := ⟨_, rfl⟩
 have hlen : l.length = s.size := by rw [← hl]; rfl
 have HL := Aside0.mk hlen
 have HLS := Aside0.mk hl
 obtain ⟨bb, hbb⟩ : ∃ bb, l.all letter = bb := ⟨_, rfl⟩
 have HBB := Aside0.mk hbb
 have hgoal : Aside0 ((s.data.toList.all letter && !isWord s.data.toList) = (bb && !isWord l)) := ⟨by rw [hl, hbb]⟩
 rw [hgoal.out]
 clear hlen hl hbb hg
 go_enter Try.func82, Try.ntmps82
 go_wp2_with fail
 clear hcv
 generalize hW : Lib.bytesWorld w 5 s = W at *
 clear hW
 go_loop [26] (fun i => ∃ (k : Nat), k ≤ s.size ∧ i = .int .i64 k ∧ Aside0 ((l.drop k).all letter = bb)) (fun i => s.size - (intOf i).toNat)
 case atStart => exact ⟨0, Nat.zero_le _, rfl, ⟨by simpa using HBB.out⟩⟩
 case round =>
  obtain ⟨k, hk, rfl, hd⟩ := hrel
  by_cases hlt : k < s.size
  ·have hc := HC.out k hlt
   rw [HLS.out, List.getD_eq_getElem?_getD] at hc
   have hdr := getD_dropP l k (by rw [HL.out]; exact hlt)
   rw [List.getD_eq_getElem?_getD] at hdr
   have hd2 := hd.out
   rw [hdr, List.all_cons] at hd2
   generalize l[k]?.getD 0 = c at *
   clear hdr hd
   have hb0 : 0 ≤ (c.toNat : Int) := by omega
   have hb1 : (c.toNat : Int) ≤ 255 := by have := c.toNat_lt; omega
   cases hcl : letter c with
   | true =>
    rw [hcl, Bool.true_and] at hd2
    have HD := Aside0.mk hd2
    clear hd2
    rcases letter_yes hcl with ⟨q1, q2⟩ | ⟨q1, q2⟩ | q1
    ·clear hcl
     go_wp2_with fail
     go_round
     case rel => exact ⟨k + 1, by omega, by go_num, HD⟩
     case measure => simp [intOf]; omega
    ·have q3 : (c.toNat : Int) < 97 := by omega
     clear hcl
     go_wp2_with fail
     go_round
     case rel => exact ⟨k + 1, by omega, by go_num, HD⟩
     case measure => simp [intOf]; omega
    ·have q3 : (c.toNat : Int) < 97 := by omega
     have q4 : (c.toNat : Int) < 48 := by omega
     have q5 : ((c.toNat : Int) != 45) = false := by rw [q1]; rfl
     have q6 : ((c.toNat : Int) == 45) = true := by rw [q1]; rfl
     clear hcl q1
     go_wp2_with fail
     go_round
     case rel => exact ⟨k + 1, by omega, by go_num, HD⟩
     case measure => simp [intOf]; omega
   | false =>
    rw [hcl, Bool.false_and] at hd2
    subst hd2
    have hno := letter_not hcl
    have q5 : ((c.toNat : Int) != 45) = true := by simp; omega
    have q6 : ((c.toNat : Int) == 45) = false := by simp; omega
    clear hcl
    rcases (by omega : (c.toNat : Int) < 48 ∨ (57 < (c.toNat : Int) ∧ (c.toNat : Int) < 97) ∨ (57 < (c.toNat : Int) ∧ 97 ≤ (c.toNat : Int) ∧ 122 < (c.toNat : Int))) with r | ⟨r, r2⟩ | ⟨r, r2, r3⟩
    ·have r4 : (c.toNat : Int) < 97 := by omega
     clear hno
     go_wp2_with fail
     go_ret
     exact ⟨rfl, hbel.out⟩
    ·have r4 : 48 ≤ (c.toNat : Int) := by omega
     clear hno
     go_wp2_with fail
     go_ret
     exact ⟨rfl, hbel.out⟩
    ·have r4 : 48 ≤ (c.toNat : Int) := by omega
     clear hno
     go_wp2_with fail
     go_ret
     exact ⟨rfl, hbel.out⟩
  ·have hk2 : k = s.size := by omega
   have hd2 := hd.out
   rw [List.drop_of_length_le (by rw [HL.out]; omega)] at hd2
   obtain rfl : true = bb := hd2
   clear hd
   have HBL := Aside0.mk hbel.out
   have HG2 := Aside0.mk (HG.out.below hbel.out)
   have HAL := Aside0.mk (show s.data.toList.all letter = true by rw [HLS.out]; exact HBB.out)
   have HLS2 := HLS
   go_wp2_with fail
   refine (contains_is _ s rfl HAL.out HG2.out).mono ?_
   rintro e w1 ⟨rfl, rfl⟩
   go_wp2_with fail
   go_ret
   exact ⟨by rw [HLS2.out]; simp, HBL.out⟩
theorem toList_head (s : ByteArray) (h0 : 0 < s.size) : ∃ l, s.data.toList = s[0] :: l := by
 obtain ⟨⟨l⟩⟩ := s
 match l, h0 with
 | c :: l, _ => exact ⟨l, rfl⟩
theorem small_letter {c : UInt8} (h : small c = true) : letter c = true := by unfold letter; rw [h]; rfl
theorem name_any (s : ByteArray) (w : World) (hg : GV w) : Calls Try.prog 82 #[.string s] w fun e w' => e = .returned (.bool (nameOk s.data.toList)) ∧ Below w.heap.size w w' := by
 have hsz : s.data.toList.length = s.size := rfl
 by_cases h0 : s.size = 0
 ·refine (name_empty s w h0).mono ?_
  rintro e w1 ⟨rfl, rfl⟩
  refine ⟨?_, Below.refl _ _⟩
  rw [show nameOk s.data.toList = false by unfold nameOk; rw [hsz, h0]; simp]
 ·by_cases h20 : 20 < s.size
  ·refine (name_long s w h20).mono ?_
   rintro e w1 ⟨rfl, rfl⟩
   refine ⟨?_, Below.refl _ _⟩
   rw [show nameOk s.data.toList = false by unfold nameOk; rw [hsz, decide_eq_false (show ¬ s.size ≤ 20 by omega)]; simp]
  ·have hp : 0 < s.size := by omega
   obtain ⟨l, hl⟩ := toList_head s hp
   have e1 : decide (1 ≤ s.data.toList.length) = true := decide_eq_true (by omega)
   have e2 : decide (s.data.toList.length ≤ 20) = true := decide_eq_true (by omega)
   cases hc : small s[0] with
   | true =>
    have hb : 97 ≤ (s[0].toNat : Int) ∧ (s[0].toNat : Int) ≤ 122 := by simpa [small] using hc
    refine (name_tail s w hg hp (by omega) hb.1 hb.2).mono ?_
    rintro e w1 ⟨rfl, hbl⟩
    refine ⟨?_, hbl⟩
    have : nameOk s.data.toList = (s.data.toList.all letter && !isWord s.data.toList) := by
     unfold nameOk
     rw [e1, e2, Bool.and_true, Bool.and_true]
     congr 1
     rw [hl]
     simp only [chars, List.all_cons, hc, small_letter hc]
    rw [this]
   | false =>
    have hb : (s[0].toNat : Int) < 97 ∨ 122 < (s[0].toNat : Int) := by
     have : ¬ (97 ≤ (s[0].toNat : Int) ∧ (s[0].toNat : Int) ≤ 122) := by
      intro h
      have : small s[0] = true := by simpa [small] using h
      rw [hc] at this; cases this
     omega
    refine (name_head s w hp (by omega) hb).mono ?_
    rintro e w1 ⟨rfl, rfl⟩
    refine ⟨?_, Below.refl _ _⟩
    rw [show nameOk s.data.toList = false by unfold nameOk; rw [show chars s.data.toList = false by rw [hl]; simp [chars, hc]]; simp]
end Go.Proofs.Ytcfpkkgdofblfaa.Pd
/- Contracts by hand: a product's shape is looked at. -/
namespace Go.Proofs.Ytcfpkkgdofblfaa.Pd
open Go.RowKit Go.Proofs.YtcfpkkgdofblfaaW.PrintWords Go.Proofs.YtcfpkkgdofblfaaW.PrintLast Go.Proofs.YtcfpkkgdofblfaaW.PrintMore Go.Proofs.Ytcfpkkgdofblfaa.HW
open Pm
set_option linter.unusedVariables false
set_option linter.unusedSimpArgs false
set_option maxRecDepth 100000 in
set_option maxHeartbeats 1000000 in
theorem shape_0 (p : Prod) (A1 : Option Addr) (c1 : Nat) (A2 : Option Addr) (c2 : Nat) (A3 : Option Addr) (c3 : Nat) (w : World) (hg : GV w) (hn : nameOk p.name.data.toList = false) :
  Calls Try.prog 59 #[pv p A1 c1 A2 c2 A3 c3] w fun e w' => e = refusedE ∧ Below w.heap.size w w' := by
 have HG := Aside0.mk hg
 have HN := Aside0.mk hn
 clear hg hn
 go_enter Try.func59, Try.ntmps59
 go_wp2_with (first
  | ((with_reducible refine gate_dst (N := 1) rfl ?_); refine box_event ?hg (N := 1) ?hd (cs := pcs p A1 c1 A2 c2 A3 c3) (t := 88) ?hr ?_; (case hd => rfl); (case hg => rfl); (case hr => first | (go_simp; done) | (go_simp; rfl)); intro g1 hg w1 hb1 hbl1; clear hg)
  | ((with_reducible refine gate_dst (N := 4) rfl ?_); refine wpList_load_row rfl 27 (.tmp 3) rfl g1 rfl 88 _ (0, 0) _ hb1 Try.underlying27 rfl info_prod ?_)
  | ((with_reducible refine gate_dst (N := 2) rfl ?_); refine copy_event rfl (N := 2) rfl rfl rfl (t := 27) (v := .tmp 4) rfl (cs := pcs p A1 c1 A2 c2 A3 c3) (zs := pzs) ?hr rfl rfl info_prod ?hz (pcs_one _ _ _ _ _ _ _) ?_; (case hr => first | (go_simp; done) | (go_simp; rfl)); (case hz => rfl); intro g2 hg w2 hb2 hbl2; clear hg; have HB2 := Aside0.mk hb2; have BL2 := Aside0.mk (below_step hbl1 hbl2); clear hb1 hbl1 hbl2; have q0 := (pc_cells hb2).1; clear hb2))
 refine (name_any p.name _ (HG.out.below BL2.out)).mono ?_
 rw [HN.out]
 rintro e w3 ⟨rfl, hb⟩
 have BL := Aside0.mk (below_step BL2.out hb)
 obtain ⟨_, q1, q2, q3, q4, q5, q6, _⟩ := pc_cells (blk_below HB2.out hb)
 clear hb HB2 BL2 q0 HG
 go_wp2_with fail
 refine (must_no _).mono ?_
 rintro e w' ⟨rfl, rfl⟩
 exact ⟨rfl, rfl, BL.out⟩
set_option maxRecDepth 100000 in
set_option maxHeartbeats 1000000 in
theorem shape_1 (p : Prod) (A1 : Option Addr) (c1 : Nat) (A2 : Option Addr) (c2 : Nat) (A3 : Option Addr) (c3 : Nat) (w : World) (hg : GV w) (hn : nameOk p.name.data.toList = true) (ha : decide (1 ≤ p.count ∧ p.count ≤ 3) = false) :
  Calls Try.prog 59 #[pv p A1 c1 A2 c2 A3 c3] w fun e w' => e = refusedE ∧ Below w.heap.size w w' := by
 have HG := Aside0.mk hg
 have HN := Aside0.mk hn
 have HA := Aside0.mk ha
 clear hg hn ha
 go_enter Try.func59, Try.ntmps59
 go_wp2_with (first
  | ((with_reducible refine gate_dst (N := 1) rfl ?_); refine box_event ?hg (N := 1) ?hd (cs := pcs p A1 c1 A2 c2 A3 c3) (t := 88) ?hr ?_; (case hd => rfl); (case hg => rfl); (case hr => first | (go_simp; done) | (go_simp; rfl)); intro g1 hg w1 hb1 hbl1; clear hg)
  | ((with_reducible refine gate_dst (N := 4) rfl ?_); refine wpList_load_row rfl 27 (.tmp 3) rfl g1 rfl 88 _ (0, 0) _ hb1 Try.underlying27 rfl info_prod ?_)
  | ((with_reducible refine gate_dst (N := 2) rfl ?_); refine copy_event rfl (N := 2) rfl rfl rfl (t := 27) (v := .tmp 4) rfl (cs := pcs p A1 c1 A2 c2 A3 c3) (zs := pzs) ?hr rfl rfl info_prod ?hz (pcs_one _ _ _ _ _ _ _) ?_; (case hr => first | (go_simp; done) | (go_simp; rfl)); (case hz => rfl); intro g2 hg w2 hb2 hbl2; clear hg; have HB2 := Aside0.mk hb2; have BL2 := Aside0.mk (below_step hbl1 hbl2); clear hb1 hbl1 hbl2; have q0 := (pc_cells hb2).1; clear hb2))
 refine (name_any p.name _ (HG.out.below BL2.out)).mono ?_
 rw [HN.out]
 rintro e w3 ⟨rfl, hb⟩
 have BL := Aside0.mk (below_step BL2.out hb)
 obtain ⟨_, q1, q2, q3, q4, q5, q6, _⟩ := pc_cells (blk_below HB2.out hb)
 clear hb HB2 BL2 q0 HG
 go_wp2_with fail
 refine (within_i_is HA.out _).mono ?_
 rintro e w' ⟨rfl, rfl⟩
 go_wp2_with fail
 refine (must_no _).mono ?_
 rintro e w' ⟨rfl, rfl⟩
 exact ⟨rfl, rfl, BL.out⟩
set_option maxRecDepth 100000 in
set_option maxHeartbeats 1000000 in
theorem shape_2 (p : Prod) (A1 : Option Addr) (c1 : Nat) (A2 : Option Addr) (c2 : Nat) (A3 : Option Addr) (c3 : Nat) (w : World) (hg : GV w) (hn : nameOk p.name.data.toList = true) (ha : decide (1 ≤ p.count ∧ p.count ≤ 3) = true) (r1 : (p.round == 1) = false) (r3 : (p.round == 3) = false) :
  Calls Try.prog 59 #[pv p A1 c1 A2 c2 A3 c3] w fun e w' => e = refusedE ∧ Below w.heap.size w w' := by
 have HG := Aside0.mk hg
 have HN := Aside0.mk hn
 have HA := Aside0.mk ha
 clear hg hn ha
 go_enter Try.func59, Try.ntmps59
 go_wp2_with (first
  | ((with_reducible refine gate_dst (N := 1) rfl ?_); refine box_event ?hg (N := 1) ?hd (cs := pcs p A1 c1 A2 c2 A3 c3) (t := 88) ?hr ?_; (case hd => rfl); (case hg => rfl); (case hr => first | (go_simp; done) | (go_simp; rfl)); intro g1 hg w1 hb1 hbl1; clear hg)
  | ((with_reducible refine gate_dst (N := 4) rfl ?_); refine wpList_load_row rfl 27 (.tmp 3) rfl g1 rfl 88 _ (0, 0) _ hb1 Try.underlying27 rfl info_prod ?_)
  | ((with_reducible refine gate_dst (N := 2) rfl ?_); refine copy_event rfl (N := 2) rfl rfl rfl (t := 27) (v := .tmp 4) rfl (cs := pcs p A1 c1 A2 c2 A3 c3) (zs := pzs) ?hr rfl rfl info_prod ?hz (pcs_one _ _ _ _ _ _ _) ?_; (case hr => first | (go_simp; done) | (go_simp; rfl)); (case hz => rfl); intro g2 hg w2 hb2 hbl2; clear hg; have HB2 := Aside0.mk hb2; have BL2 := Aside0.mk (below_step hbl1 hbl2); clear hb1 hbl1 hbl2; have q0 := (pc_cells hb2).1; clear hb2))
 refine (name_any p.name _ (HG.out.below BL2.out)).mono ?_
 rw [HN.out]
 rintro e w3 ⟨rfl, hb⟩
 have BL := Aside0.mk (below_step BL2.out hb)
 obtain ⟨_, q1, q2, q3, q4, q5, q6, _⟩ := pc_cells (blk_below HB2.out hb)
 clear hb HB2 BL2 q0 HG
 go_wp2_with fail
 refine (within_i_is HA.out _).mono ?_
 rintro e w' ⟨rfl, rfl⟩
 go_wp2_with fail
 refine (must_no _).mono ?_
 rintro e w' ⟨rfl, rfl⟩
 exact ⟨rfl, rfl, BL.out⟩
set_option maxRecDepth 100000 in
set_option maxHeartbeats 1000000 in
theorem shape_3 (p : Prod) (A1 : Option Addr) (c1 : Nat) (A2 : Option Addr) (c2 : Nat) (A3 : Option Addr) (c3 : Nat) (w : World) (hg : GV w) (hn : nameOk p.name.data.toList = true) (ha : decide (1 ≤ p.count ∧ p.count ≤ 3) = true) (hr : ((p.round == 1) = true) ∨ ((p.round == 1) = false ∧ (p.round == 3) = true)) (hb : decide (1 ≤ p.kind ∧ p.kind ≤ 3) = false) :
  Calls Try.prog 59 #[pv p A1 c1 A2 c2 A3 c3] w fun e w' => e = refusedE ∧ Below w.heap.size w w' := by
 have HG := Aside0.mk hg
 have HN := Aside0.mk hn
 have HA := Aside0.mk ha
 have HB := Aside0.mk hb
 clear hg hn ha hb
 go_enter Try.func59, Try.ntmps59
 go_wp2_with (first
  | ((with_reducible refine gate_dst (N := 1) rfl ?_); refine box_event ?hg (N := 1) ?hd (cs := pcs p A1 c1 A2 c2 A3 c3) (t := 88) ?hr ?_; (case hd => rfl); (case hg => rfl); (case hr => first | (go_simp; done) | (go_simp; rfl)); intro g1 hg w1 hb1 hbl1; clear hg)
  | ((with_reducible refine gate_dst (N := 4) rfl ?_); refine wpList_load_row rfl 27 (.tmp 3) rfl g1 rfl 88 _ (0, 0) _ hb1 Try.underlying27 rfl info_prod ?_)
  | ((with_reducible refine gate_dst (N := 2) rfl ?_); refine copy_event rfl (N := 2) rfl rfl rfl (t := 27) (v := .tmp 4) rfl (cs := pcs p A1 c1 A2 c2 A3 c3) (zs := pzs) ?hr rfl rfl info_prod ?hz (pcs_one _ _ _ _ _ _ _) ?_; (case hr => first | (go_simp; done) | (go_simp; rfl)); (case hz => rfl); intro g2 hg w2 hb2 hbl2; clear hg; have HB2 := Aside0.mk hb2; have BL2 := Aside0.mk (below_step hbl1 hbl2); clear hb1 hbl1 hbl2; have q0 := (pc_cells hb2).1; clear hb2))
 refine (name_any p.name _ (HG.out.below BL2.out)).mono ?_
 rw [HN.out]
 rintro e w3 ⟨rfl, hb⟩
 have BL := Aside0.mk (below_step BL2.out hb)
 obtain ⟨_, q1, q2, q3, q4, q5, q6, _⟩ := pc_cells (blk_below HB2.out hb)
 clear hb HB2 BL2 q0 HG
 go_wp2_with fail
 refine (within_i_is HA.out _).mono ?_
 rintro e w' ⟨rfl, rfl⟩
 rcases hr with r1 | ⟨r1, r3⟩
 all_goals
  go_wp2_with fail
  refine (within_i_is HB.out _).mono ?_
  rintro e w' ⟨rfl, rfl⟩
  go_wp2_with fail
  refine (must_no _).mono ?_
  rintro e w' ⟨rfl, rfl⟩
  exact ⟨rfl, rfl, BL.out⟩
set_option maxRecDepth 100000 in
set_option maxHeartbeats 1000000 in
theorem shape_4 (p : Prod) (A1 : Option Addr) (c1 : Nat) (A2 : Option Addr) (c2 : Nat) (A3 : Option Addr) (c3 : Nat) (w : World) (hg : GV w) (hn : nameOk p.name.data.toList = true) (ha : decide (1 ≤ p.count ∧ p.count ≤ 3) = true) (hr : ((p.round == 1) = true) ∨ ((p.round == 1) = false ∧ (p.round == 3) = true)) (hb : decide (1 ≤ p.kind ∧ p.kind ≤ 3) = true) (e1 : (p.every == 1) = false) (e2 : (p.every == 2) = false) (e3 : (p.every == 3) = false) (e4 : (p.every == 4) = false) (e6 : (p.every == 6) = false) (e12 : (p.every == 12) = false) :
  Calls Try.prog 59 #[pv p A1 c1 A2 c2 A3 c3] w fun e w' => e = refusedE ∧ Below w.heap.size w w' := by
 have HG := Aside0.mk hg
 have HN := Aside0.mk hn
 have HA := Aside0.mk ha
 have HB := Aside0.mk hb
 clear hg hn ha hb
 go_enter Try.func59, Try.ntmps59
 go_wp2_with (first
  | ((with_reducible refine gate_dst (N := 1) rfl ?_); refine box_event ?hg (N := 1) ?hd (cs := pcs p A1 c1 A2 c2 A3 c3) (t := 88) ?hr ?_; (case hd => rfl); (case hg => rfl); (case hr => first | (go_simp; done) | (go_simp; rfl)); intro g1 hg w1 hb1 hbl1; clear hg)
  | ((with_reducible refine gate_dst (N := 4) rfl ?_); refine wpList_load_row rfl 27 (.tmp 3) rfl g1 rfl 88 _ (0, 0) _ hb1 Try.underlying27 rfl info_prod ?_)
  | ((with_reducible refine gate_dst (N := 2) rfl ?_); refine copy_event rfl (N := 2) rfl rfl rfl (t := 27) (v := .tmp 4) rfl (cs := pcs p A1 c1 A2 c2 A3 c3) (zs := pzs) ?hr rfl rfl info_prod ?hz (pcs_one _ _ _ _ _ _ _) ?_; (case hr => first | (go_simp; done) | (go_simp; rfl)); (case hz => rfl); intro g2 hg w2 hb2 hbl2; clear hg; have HB2 := Aside0.mk hb2; have BL2 := Aside0.mk (below_step hbl1 hbl2); clear hb1 hbl1 hbl2; have q0 := (pc_cells hb2).1; clear hb2))
 refine (name_any p.name _ (HG.out.below BL2.out)).mono ?_
 rw [HN.out]
 rintro e w3 ⟨rfl, hb⟩
 have BL := Aside0.mk (below_step BL2.out hb)
 obtain ⟨_, q1, q2, q3, q4, q5, q6, _⟩ := pc_cells (blk_below HB2.out hb)
 clear hb HB2 BL2 q0 HG
 go_wp2_with fail
 refine (within_i_is HA.out _).mono ?_
 rintro e w' ⟨rfl, rfl⟩
 rcases hr with r1 | ⟨r1, r3⟩
 all_goals
  go_wp2_with fail
  refine (within_i_is HB.out _).mono ?_
  rintro e w' ⟨rfl, rfl⟩
  go_wp2_with fail
  refine (must_yes _).mono ?_
  rintro e w' ⟨rfl, rfl⟩
  go_wp2_with fail
  refine (must_no _).mono ?_
  rintro e w' ⟨rfl, rfl⟩
  exact ⟨rfl, rfl, BL.out⟩
def Ev (x : Int) : Prop := (x == 1) = true ∨ ((x == 1) = false ∧ (x == 2) = true) ∨ ((x == 1) = false ∧ (x == 2) = false ∧ (x == 3) = true) ∨ ((x == 1) = false ∧ (x == 2) = false ∧ (x == 3) = false ∧ (x == 4) = true) ∨ ((x == 1) = false ∧ (x == 2) = false ∧ (x == 3) = false ∧ (x == 4) = false ∧ (x == 6) = true) ∨ ((x == 1) = false ∧ (x == 2) = false ∧ (x == 3) = false ∧ (x == 4) = false ∧ (x == 6) = false ∧ (x == 12) = true)
theorem ev_of {x : Int} (h : x = 1 ∨ x = 2 ∨ x = 3 ∨ x = 4 ∨ x = 6 ∨ x = 12) : Ev x := by
 unfold Ev
 rcases h with rfl | rfl | rfl | rfl | rfl | rfl <;> decide
set_option maxRecDepth 100000 in
set_option maxHeartbeats 1000000 in
theorem shape_5 (p : Prod) (A1 : Option Addr) (c1 : Nat) (A2 : Option Addr) (c2 : Nat) (A3 : Option Addr) (c3 : Nat) (w : World) (hg : GV w) (hn : nameOk p.name.data.toList = true) (ha : decide (1 ≤ p.count ∧ p.count ≤ 3) = true) (hr : ((p.round == 1) = true) ∨ ((p.round == 1) = false ∧ (p.round == 3) = true)) (hb : decide (1 ≤ p.kind ∧ p.kind ≤ 3) = true) (he : Ev p.every) (hc : decide (1 ≤ p.times ∧ p.times ≤ 600) = false) :
  Calls Try.prog 59 #[pv p A1 c1 A2 c2 A3 c3] w fun e w' => e = refusedE ∧ Below w.heap.size w w' := by
 have HG := Aside0.mk hg
 have HN := Aside0.mk hn
 have HA := Aside0.mk ha
 have HB := Aside0.mk hb
 have HC := Aside0.mk hc
 clear hg hn ha hb hc
 go_enter Try.func59, Try.ntmps59
 go_wp2_with (first
  | ((with_reducible refine gate_dst (N := 1) rfl ?_); refine box_event ?hg (N := 1) ?hd (cs := pcs p A1 c1 A2 c2 A3 c3) (t := 88) ?hr ?_; (case hd => rfl); (case hg => rfl); (case hr => first | (go_simp; done) | (go_simp; rfl)); intro g1 hg w1 hb1 hbl1; clear hg)
  | ((with_reducible refine gate_dst (N := 4) rfl ?_); refine wpList_load_row rfl 27 (.tmp 3) rfl g1 rfl 88 _ (0, 0) _ hb1 Try.underlying27 rfl info_prod ?_)
  | ((with_reducible refine gate_dst (N := 2) rfl ?_); refine copy_event rfl (N := 2) rfl rfl rfl (t := 27) (v := .tmp 4) rfl (cs := pcs p A1 c1 A2 c2 A3 c3) (zs := pzs) ?hr rfl rfl info_prod ?hz (pcs_one _ _ _ _ _ _ _) ?_; (case hr => first | (go_simp; done) | (go_simp; rfl)); (case hz => rfl); intro g2 hg w2 hb2 hbl2; clear hg; have HB2 := Aside0.mk hb2; have BL2 := Aside0.mk (below_step hbl1 hbl2); clear hb1 hbl1 hbl2; have q0 := (pc_cells hb2).1; clear hb2))
 refine (name_any p.name _ (HG.out.below BL2.out)).mono ?_
 rw [HN.out]
 rintro e w3 ⟨rfl, hb⟩
 have BL := Aside0.mk (below_step BL2.out hb)
 obtain ⟨_, q1, q2, q3, q4, q5, q6, _⟩ := pc_cells (blk_below HB2.out hb)
 clear hb HB2 BL2 q0 HG
 go_wp2_with fail
 refine (within_i_is HA.out _).mono ?_
 rintro e w' ⟨rfl, rfl⟩
 rcases hr with r1 | ⟨r1, r3⟩
 all_goals
  go_wp2_with fail
  refine (within_i_is HB.out _).mono ?_
  rintro e w' ⟨rfl, rfl⟩
  go_wp2_with fail
  refine (must_yes _).mono ?_
  rintro e w' ⟨rfl, rfl⟩
  rcases he with e1 | ⟨e1, e2⟩ | ⟨e1, e2, e3⟩ | ⟨e1, e2, e3, e4⟩ | ⟨e1, e2, e3, e4, e6⟩ | ⟨e1, e2, e3, e4, e6, e12⟩
  all_goals
   go_wp2_with fail
   refine (must_yes _).mono ?_
   rintro e w' ⟨rfl, rfl⟩
   go_wp2_with fail
   refine (within_i_is HC.out _).mono ?_
   rintro e w' ⟨rfl, rfl⟩
   go_wp2_with fail
   refine (must_no _).mono ?_
   rintro e w' ⟨rfl, rfl⟩
   exact ⟨rfl, rfl, BL.out⟩
set_option maxRecDepth 100000 in
set_option maxHeartbeats 1000000 in
theorem shape_6 (p : Prod) (A1 : Option Addr) (c1 : Nat) (A2 : Option Addr) (c2 : Nat) (A3 : Option Addr) (c3 : Nat) (w : World) (hg : GV w) (hn : nameOk p.name.data.toList = true) (ha : decide (1 ≤ p.count ∧ p.count ≤ 3) = true) (hr : ((p.round == 1) = true) ∨ ((p.round == 1) = false ∧ (p.round == 3) = true)) (hb : decide (1 ≤ p.kind ∧ p.kind ≤ 3) = true) (he : Ev p.every) (hc : decide (1 ≤ p.times ∧ p.times ≤ 600) = true) (t1 : 1 ≤ p.times) (t2 : p.times ≤ 600) (hd : decide (0 ≤ p.grace ∧ p.grace ≤ p.times - 1) = false) :
  Calls Try.prog 59 #[pv p A1 c1 A2 c2 A3 c3] w fun e w' => e = refusedE ∧ Below w.heap.size w w' := by
 have HG := Aside0.mk hg
 have HN := Aside0.mk hn
 have HA := Aside0.mk ha
 have HB := Aside0.mk hb
 have HC := Aside0.mk hc
 have HD := Aside0.mk hd
 clear hg hn ha hb hc hd
 go_enter Try.func59, Try.ntmps59
 go_wp2_with (first
  | ((with_reducible refine gate_dst (N := 1) rfl ?_); refine box_event ?hg (N := 1) ?hd (cs := pcs p A1 c1 A2 c2 A3 c3) (t := 88) ?hr ?_; (case hd => rfl); (case hg => rfl); (case hr => first | (go_simp; done) | (go_simp; rfl)); intro g1 hg w1 hb1 hbl1; clear hg)
  | ((with_reducible refine gate_dst (N := 4) rfl ?_); refine wpList_load_row rfl 27 (.tmp 3) rfl g1 rfl 88 _ (0, 0) _ hb1 Try.underlying27 rfl info_prod ?_)
  | ((with_reducible refine gate_dst (N := 2) rfl ?_); refine copy_event rfl (N := 2) rfl rfl rfl (t := 27) (v := .tmp 4) rfl (cs := pcs p A1 c1 A2 c2 A3 c3) (zs := pzs) ?hr rfl rfl info_prod ?hz (pcs_one _ _ _ _ _ _ _) ?_; (case hr => first | (go_simp; done) | (go_simp; rfl)); (case hz => rfl); intro g2 hg w2 hb2 hbl2; clear hg; have HB2 := Aside0.mk hb2; have BL2 := Aside0.mk (below_step hbl1 hbl2); clear hb1 hbl1 hbl2; have q0 := (pc_cells hb2).1; clear hb2))
 refine (name_any p.name _ (HG.out.below BL2.out)).mono ?_
 rw [HN.out]
 rintro e w3 ⟨rfl, hb⟩
 have BL := Aside0.mk (below_step BL2.out hb)
 obtain ⟨_, q1, q2, q3, q4, q5, q6, _⟩ := pc_cells (blk_below HB2.out hb)
 clear hb HB2 BL2 q0 HG
 go_wp2_with fail
 refine (within_i_is HA.out _).mono ?_
 rintro e w' ⟨rfl, rfl⟩
 rcases hr with r1 | ⟨r1, r3⟩
 all_goals
  go_wp2_with fail
  refine (within_i_is HB.out _).mono ?_
  rintro e w' ⟨rfl, rfl⟩
  go_wp2_with fail
  refine (must_yes _).mono ?_
  rintro e w' ⟨rfl, rfl⟩
  rcases he with e1 | ⟨e1, e2⟩ | ⟨e1, e2, e3⟩ | ⟨e1, e2, e3, e4⟩ | ⟨e1, e2, e3, e4, e6⟩ | ⟨e1, e2, e3, e4, e6, e12⟩
  all_goals
   go_wp2_with fail
   refine (must_yes _).mono ?_
   rintro e w' ⟨rfl, rfl⟩
   go_wp2_with fail
   refine (within_i_is HC.out _).mono ?_
   rintro e w' ⟨rfl, rfl⟩
   go_wp2_with fail
   refine (within_i_is HD.out _).mono ?_
   rintro e w' ⟨rfl, rfl⟩
   go_wp2_with fail
   refine (must_no _).mono ?_
   rintro e w' ⟨rfl, rfl⟩
   exact ⟨rfl, rfl, BL.out⟩
set_option maxRecDepth 100000 in
set_option maxHeartbeats 1000000 in
theorem shape_7 (p : Prod) (A1 : Option Addr) (c1 : Nat) (A2 : Option Addr) (c2 : Nat) (A3 : Option Addr) (c3 : Nat) (w : World) (hg : GV w) (hn : nameOk p.name.data.toList = true) (ha : decide (1 ≤ p.count ∧ p.count ≤ 3) = true) (hr : ((p.round == 1) = true) ∨ ((p.round == 1) = false ∧ (p.round == 3) = true)) (hb : decide (1 ≤ p.kind ∧ p.kind ≤ 3) = true) (he : Ev p.every) (hc : decide (1 ≤ p.times ∧ p.times ≤ 600) = true) (t1 : 1 ≤ p.times) (t2 : p.times ≤ 600) (hd : decide (0 ≤ p.grace ∧ p.grace ≤ p.times - 1) = true) (k1 : (p.kind != 3) = false) (g0 : (p.grace == 0) = false) :
  Calls Try.prog 59 #[pv p A1 c1 A2 c2 A3 c3] w fun e w' => e = refusedE ∧ Below w.heap.size w w' := by
 have HG := Aside0.mk hg
 have HN := Aside0.mk hn
 have HA := Aside0.mk ha
 have HB := Aside0.mk hb
 have HC := Aside0.mk hc
 have HD := Aside0.mk hd
 clear hg hn ha hb hc hd
 go_enter Try.func59, Try.ntmps59
 go_wp2_with (first
  | ((with_reducible refine gate_dst (N := 1) rfl ?_); refine box_event ?hg (N := 1) ?hd (cs := pcs p A1 c1 A2 c2 A3 c3) (t := 88) ?hr ?_; (case hd => rfl); (case hg => rfl); (case hr => first | (go_simp; done) | (go_simp; rfl)); intro g1 hg w1 hb1 hbl1; clear hg)
  | ((with_reducible refine gate_dst (N := 4) rfl ?_); refine wpList_load_row rfl 27 (.tmp 3) rfl g1 rfl 88 _ (0, 0) _ hb1 Try.underlying27 rfl info_prod ?_)
  | ((with_reducible refine gate_dst (N := 2) rfl ?_); refine copy_event rfl (N := 2) rfl rfl rfl (t := 27) (v := .tmp 4) rfl (cs := pcs p A1 c1 A2 c2 A3 c3) (zs := pzs) ?hr rfl rfl info_prod ?hz (pcs_one _ _ _ _ _ _ _) ?_; (case hr => first | (go_simp; done) | (go_simp; rfl)); (case hz => rfl); intro g2 hg w2 hb2 hbl2; clear hg; have HB2 := Aside0.mk hb2; have BL2 := Aside0.mk (below_step hbl1 hbl2); clear hb1 hbl1 hbl2; have q0 := (pc_cells hb2).1; clear hb2))
 refine (name_any p.name _ (HG.out.below BL2.out)).mono ?_
 rw [HN.out]
 rintro e w3 ⟨rfl, hb⟩
 have BL := Aside0.mk (below_step BL2.out hb)
 obtain ⟨_, q1, q2, q3, q4, q5, q6, _⟩ := pc_cells (blk_below HB2.out hb)
 clear hb HB2 BL2 q0 HG
 go_wp2_with fail
 refine (within_i_is HA.out _).mono ?_
 rintro e w' ⟨rfl, rfl⟩
 rcases hr with r1 | ⟨r1, r3⟩
 all_goals
  go_wp2_with fail
  refine (within_i_is HB.out _).mono ?_
  rintro e w' ⟨rfl, rfl⟩
  go_wp2_with fail
  refine (must_yes _).mono ?_
  rintro e w' ⟨rfl, rfl⟩
  rcases he with e1 | ⟨e1, e2⟩ | ⟨e1, e2, e3⟩ | ⟨e1, e2, e3, e4⟩ | ⟨e1, e2, e3, e4, e6⟩ | ⟨e1, e2, e3, e4, e6, e12⟩
  all_goals
   go_wp2_with fail
   refine (must_yes _).mono ?_
   rintro e w' ⟨rfl, rfl⟩
   go_wp2_with fail
   refine (within_i_is HC.out _).mono ?_
   rintro e w' ⟨rfl, rfl⟩
   go_wp2_with fail
   refine (within_i_is HD.out _).mono ?_
   rintro e w' ⟨rfl, rfl⟩
   go_wp2_with fail
   refine (must_no _).mono ?_
   rintro e w' ⟨rfl, rfl⟩
   exact ⟨rfl, rfl, BL.out⟩
set_option maxRecDepth 100000 in
set_option maxHeartbeats 1000000 in
theorem shape_8 (p : Prod) (A1 : Option Addr) (c1 : Nat) (A2 : Option Addr) (c2 : Nat) (A3 : Option Addr) (c3 : Nat) (w : World) (hg : GV w) (hn : nameOk p.name.data.toList = true) (ha : decide (1 ≤ p.count ∧ p.count ≤ 3) = true) (hr : ((p.round == 1) = true) ∨ ((p.round == 1) = false ∧ (p.round == 3) = true)) (hb : decide (1 ≤ p.kind ∧ p.kind ≤ 3) = true) (he : Ev p.every) (hc : decide (1 ≤ p.times ∧ p.times ≤ 600) = true) (t1 : 1 ≤ p.times) (t2 : p.times ≤ 600) (hd : decide (0 ≤ p.grace ∧ p.grace ≤ p.times - 1) = true) (hk : (p.kind != 3) = true ∨ ((p.kind != 3) = false ∧ (p.grace == 0) = true)) :
  Calls Try.prog 59 #[pv p A1 c1 A2 c2 A3 c3] w fun e w' => e = .returned (.tuple #[]) ∧ Below w.heap.size w w' := by
 have HG := Aside0.mk hg
 have HN := Aside0.mk hn
 have HA := Aside0.mk ha
 have HB := Aside0.mk hb
 have HC := Aside0.mk hc
 have HD := Aside0.mk hd
 clear hg hn ha hb hc hd
 go_enter Try.func59, Try.ntmps59
 go_wp2_with (first
  | ((with_reducible refine gate_dst (N := 1) rfl ?_); refine box_event ?hg (N := 1) ?hd (cs := pcs p A1 c1 A2 c2 A3 c3) (t := 88) ?hr ?_; (case hd => rfl); (case hg => rfl); (case hr => first | (go_simp; done) | (go_simp; rfl)); intro g1 hg w1 hb1 hbl1; clear hg)
  | ((with_reducible refine gate_dst (N := 4) rfl ?_); refine wpList_load_row rfl 27 (.tmp 3) rfl g1 rfl 88 _ (0, 0) _ hb1 Try.underlying27 rfl info_prod ?_)
  | ((with_reducible refine gate_dst (N := 2) rfl ?_); refine copy_event rfl (N := 2) rfl rfl rfl (t := 27) (v := .tmp 4) rfl (cs := pcs p A1 c1 A2 c2 A3 c3) (zs := pzs) ?hr rfl rfl info_prod ?hz (pcs_one _ _ _ _ _ _ _) ?_; (case hr => first | (go_simp; done) | (go_simp; rfl)); (case hz => rfl); intro g2 hg w2 hb2 hbl2; clear hg; have HB2 := Aside0.mk hb2; have BL2 := Aside0.mk (below_step hbl1 hbl2); clear hb1 hbl1 hbl2; have q0 := (pc_cells hb2).1; clear hb2))
 refine (name_any p.name _ (HG.out.below BL2.out)).mono ?_
 rw [HN.out]
 rintro e w3 ⟨rfl, hb⟩
 have BL := Aside0.mk (below_step BL2.out hb)
 obtain ⟨_, q1, q2, q3, q4, q5, q6, _⟩ := pc_cells (blk_below HB2.out hb)
 clear hb HB2 BL2 q0 HG
 go_wp2_with fail
 refine (within_i_is HA.out _).mono ?_
 rintro e w' ⟨rfl, rfl⟩
 rcases hr with r1 | ⟨r1, r3⟩
 all_goals
  go_wp2_with fail
  refine (within_i_is HB.out _).mono ?_
  rintro e w' ⟨rfl, rfl⟩
  go_wp2_with fail
  refine (must_yes _).mono ?_
  rintro e w' ⟨rfl, rfl⟩
  rcases he with e1 | ⟨e1, e2⟩ | ⟨e1, e2, e3⟩ | ⟨e1, e2, e3, e4⟩ | ⟨e1, e2, e3, e4, e6⟩ | ⟨e1, e2, e3, e4, e6, e12⟩
  all_goals
   go_wp2_with fail
   refine (must_yes _).mono ?_
   rintro e w' ⟨rfl, rfl⟩
   go_wp2_with fail
   refine (within_i_is HC.out _).mono ?_
   rintro e w' ⟨rfl, rfl⟩
   go_wp2_with fail
   refine (within_i_is HD.out _).mono ?_
   rintro e w' ⟨rfl, rfl⟩
   rcases hk with k1 | ⟨k1, g0⟩
   all_goals
    go_wp2_with fail
    refine (must_yes _).mono ?_
    rintro e w' ⟨rfl, rfl⟩
    go_wp2_with fail
    go_end0
    exact ⟨rfl, BL.out⟩
def LookE (b : Bool) (w : World) (e : Ending) (w' : World) : Prop := (b = true → e = .returned (.tuple #[])) ∧ (b = false → e = refusedE) ∧ Below w.heap.size w w'
theorem LookE.no {w : World} {e : Ending} {w' : World} (h : e = refusedE ∧ Below w.heap.size w w') : LookE false w e w' := ⟨fun h => by (cases h), fun _ => h.1, h.2⟩
theorem LookE.yes {w : World} {e : Ending} {w' : World} (h : e = .returned (.tuple #[]) ∧ Below w.heap.size w w') : LookE true w e w' := ⟨fun _ => h.1, fun h => by (cases h), h.2⟩
theorem beqf {x y : Int} (h : ¬ x = y) : (x == y) = false := by rw [beq_eq_false_iff_ne]; exact h
theorem beqt {x y : Int} (h : x = y) : (x == y) = true := by rw [beq_iff_eq]; exact h
theorem shape_any (p : Prod) (A1 : Option Addr) (c1 : Nat) (A2 : Option Addr) (c2 : Nat) (A3 : Option Addr) (c3 : Nat) (w : World) (hg : GV w) : Calls Try.prog 59 #[pv p A1 c1 A2 c2 A3 c3] w (LookE (shapeOk p) w) := by
 cases hn : nameOk p.name.data.toList with
 | false =>
  rw [show shapeOk p = false by unfold shapeOk; rw [hn]; rfl]
  exact (shape_0 p A1 c1 A2 c2 A3 c3 w hg hn).mono fun e w' h => LookE.no h
 | true =>
  unfold shapeOk
  rw [hn, Bool.true_and]
  by_cases ha : 1 ≤ p.count ∧ p.count ≤ 3
  case neg =>
   rw [decide_eq_false (fun h => ha h.1)]
   exact (shape_1 p A1 c1 A2 c2 A3 c3 w hg hn (decide_eq_false ha)).mono fun e w' h => LookE.no h
  by_cases hr : p.round = 1 ∨ p.round = 3
  case neg =>
   rw [decide_eq_false (fun h => hr h.2.1)]
   exact (shape_2 p A1 c1 A2 c2 A3 c3 w hg hn (decide_eq_true ha) (beqf (fun h => hr (Or.inl h))) (beqf (fun h => hr (Or.inr h)))).mono fun e w' h => LookE.no h
  have hr' : ((p.round == 1) = true) ∨ ((p.round == 1) = false ∧ (p.round == 3) = true) := by
   rcases hr with h | h
   ·exact Or.inl (beqt h)
   ·exact Or.inr ⟨beqf (by omega), beqt h⟩
  by_cases hb : 1 ≤ p.kind ∧ p.kind ≤ 3
  case neg =>
   rw [decide_eq_false (fun h => hb h.2.2.1)]
   exact (shape_3 p A1 c1 A2 c2 A3 c3 w hg hn (decide_eq_true ha) hr' (decide_eq_false hb)).mono fun e w' h => LookE.no h
  by_cases he : p.every = 1 ∨ p.every = 2 ∨ p.every = 3 ∨ p.every = 4 ∨ p.every = 6 ∨ p.every = 12
  case neg =>
   rw [decide_eq_false (fun h => he h.2.2.2.1)]
   exact (shape_4 p A1 c1 A2 c2 A3 c3 w hg hn (decide_eq_true ha) hr' (decide_eq_true hb) (beqf (by omega)) (beqf (by omega)) (beqf (by omega)) (beqf (by omega)) (beqf (by omega)) (beqf (by omega))).mono fun e w' h => LookE.no h
  by_cases hc : 1 ≤ p.times ∧ p.times ≤ 600
  case neg =>
   rw [decide_eq_false (fun h => hc h.2.2.2.2.1)]
   exact (shape_5 p A1 c1 A2 c2 A3 c3 w hg hn (decide_eq_true ha) hr' (decide_eq_true hb) (ev_of he) (decide_eq_false hc)).mono fun e w' h => LookE.no h
  by_cases hd : 0 ≤ p.grace ∧ p.grace ≤ p.times - 1
  case neg =>
   rw [decide_eq_false (fun h => hd h.2.2.2.2.2.1)]
   exact (shape_6 p A1 c1 A2 c2 A3 c3 w hg hn (decide_eq_true ha) hr' (decide_eq_true hb) (ev_of he) (decide_eq_true hc) hc.1 hc.2 (decide_eq_false hd)).mono fun e w' h => LookE.no h
  by_cases hk : p.kind = 3 → p.grace = 0
  case neg =>
   rw [decide_eq_false (fun h => hk h.2.2.2.2.2.2)]
   exact (shape_7 p A1 c1 A2 c2 A3 c3 w hg hn (decide_eq_true ha) hr' (decide_eq_true hb) (ev_of he) (decide_eq_true hc) hc.1 hc.2 (decide_eq_true hd) (by simp; omega) (beqf (by omega))).mono fun e w' h => LookE.no h
  rw [decide_eq_true (show _ from ⟨ha, hr, hb, he, hc, hd, hk⟩)]
  refine (shape_8 p A1 c1 A2 c2 A3 c3 w hg hn (decide_eq_true ha) hr' (decide_eq_true hb) (ev_of he) (decide_eq_true hc) hc.1 hc.2 (decide_eq_true hd) ?_).mono fun e w' h => LookE.yes h
  by_cases h3 : p.kind = 3
  ·exact Or.inr ⟨by simp [h3], beqt (hk h3)⟩
  ·exact Or.inl (by simpa using h3)
end Go.Proofs.Ytcfpkkgdofblfaa.Pd
/- Words by hand: rows of two numbers; a new variable for each round. -/
namespace Go.Proofs.Ytcfpkkgdofblfaa.Pd
open Go.RowKit Go.Proofs.YtcfpkkgdofblfaaW.PrintWords Go.Proofs.YtcfpkkgdofblfaaW.PrintLast Go.Proofs.YtcfpkkgdofblfaaW.PrintMore Go.Proofs.Ytcfpkkgdofblfaa.HW
open Pm
set_option linter.unusedVariables false
set_option linter.unusedSimpArgs false
theorem cell_ltR {w : World} {ad : Addr} {v : Value} (h : w.cell? ad = some v) : ad.block < w.heap.size := by
 rcases Nat.lt_or_ge ad.block w.heap.size with h1 | h1
 ·exact h1
 ·exfalso
  have e : w.heap[ad.block]? = none := Array.getElem?_eq_none h1
  simp [World.cell?, e] at h
theorem add_fieldR (ad : Addr) (n j : Nat) (hj : 0 < j) : ad.add (n + j) = ⟨(ad.add n).block, (ad.add n).off + j, none⟩ := by
 simp only [Addr.add]
 rw [if_neg (by omega)]
 split
 ·rename_i h; subst h; simp
 ·simp; omega
theorem two_at {w : World} {A : Option Addr} {rows : List (List Int)} (h : Op.IntRows w A 2 rows) (k : Nat) (hk : k < rows.length) : ∃ ad x y, A = some ad ∧ rows[k]? = some [x, y] ∧ w.cell? (ad.add (k * 2)) = some (.int .i64 x) ∧ w.cell? ⟨(ad.add (k * 2)).block, (ad.add (k * 2)).off + 1, none⟩ = some (.int .i64 y) ∧ (Lit.int .i64 x).wf = true ∧ (Lit.int .i64 y).wf = true := by
 obtain ⟨h1, h2⟩ := h.1 _ (List.getElem_mem hk)
 obtain ⟨ad, e, hc⟩ := h.2 k _ (List.getElem?_eq_getElem hk)
 rw [List.getElem?_eq_getElem hk]
 generalize rows[k] = r at *
 match r, h1 with
 | [x, y], _ => exact ⟨ad, x, y, e, rfl, hc 0 x rfl, by rw [← add_fieldR _ _ _ (by decide)]; exact hc 1 y rfl, h2 x (by simp), h2 y (by simp)⟩
theorem drop_row {rows : List (List Int)} {k : Nat} {r : List Int} (h : rows[k]? = some r) : rows.drop k = r :: rows.drop (k + 1) := by
 obtain ⟨hk, rfl⟩ := List.getElem?_eq_some_iff.1 h
 exact List.drop_eq_getElem_cons hk
section
variable {P : Program} {ops : Array Oper} {rest : List Oper} {a : Act} {Q : Exit → Act → World → Prop}
theorem copy_event3 {W : World} {o1 om o2 : Oper} (hg1 : o1.guard = none) {N : Tmp} (hd1 : o1.dst = some N) (hgm : om.guard = none) (hg2 : o2.guard = none) (hd2 : o2.dst = none) {t : TypeId} {v : Operand} (ho2 : o2.op = .store t (.tmp N) v) {cs zs : Array Value} {vm : Value}
  (hrun : (execOp a.eval o1).run P W = .ok (.value (.pointer (some ⟨W.heap.size, 0, none⟩))) (W.alloc (.cells zs t (0, 0))))
  (hrm : ∀ W', (execOp (a.put o1.dst (.pointer (some ⟨W.heap.size, 0, none⟩))).eval om).run P W' = .ok (.value vm) W')
  (hp : ((a.put o1.dst (.pointer (some ⟨W.heap.size, 0, none⟩))).put om.dst vm).eval (.tmp N) = .pointer (some ⟨W.heap.size, 0, none⟩))
  (hv : ((a.put o1.dst (.pointer (some ⟨W.heap.size, 0, none⟩))).put om.dst vm).eval v = .agg cs)
  (hi : (P.info? t).map (·.size) = some cs.size) (hz : zs.size = cs.size) (h1 : cs.all (·.oneCell') = true)
  (h : ∀ g, g = W.heap.size → ∀ w1, w1.heap[g]? = some (.cells cs t (0, 0)) → Below W.heap.size W w1 → wpList P ops Q rest ((a.put o1.dst (.pointer (some ⟨g, 0, none⟩))).put om.dst vm) w1) : wpList P ops Q (o1 :: om :: o2 :: rest) a W := by
 refine Kd.event_run hg1 hrun ?_
 refine Kd.event_run hgm (hrm _) ?_
 refine wpList_store_row hg2 t (.tmp N) v ho2 W.heap.size cs hp hv t zs (heap_alloc_new W _) hi hz h1 ?_
 rw [hd2, World.setRow_alloc_new]
 exact h _ rfl _ (blk_new W _) (below_alloc (Below.refl _ _) _)
end
theorem within_i0 {v a b : Int} {r : Bool} (h : decide (a ≤ v ∧ v ≤ b) = r) (w : World) : Calls Try.prog 83 #[.int .i64 v, .int .i64 a, .int .i64 b] w fun e w' => e = .returned (.bool r) ∧ w' = w := (within_i_is h w).mono fun _ _ h => ⟨h.1, h.2.symm⟩
theorem within_l0 {v a b : Int} {r : Bool} (h : decide (a ≤ v ∧ v ≤ b) = r) (w : World) : Calls Try.prog 84 #[.int .i64 v, .int .i64 a, .int .i64 b] w fun e w' => e = .returned (.bool r) ∧ w' = w := (within_l_is h w).mono fun _ _ h => ⟨h.1, h.2.symm⟩
theorem info_reset : (Try.prog.info? 116).map (·.size) = some 2 := by kernel_rfl
theorem info_tier : (Try.prog.info? 118).map (·.size) = some 2 := by kernel_rfl
theorem two_one (x y : Int) : (#[Value.int .i64 x, Value.int .i64 y]).all (·.oneCell') = true := by simp [Value.oneCell']
theorem wf_bd {x : Int} (h : (Lit.int .i64 x).wf = true) : -9223372036854775808 ≤ x ∧ x ≤ 9223372036854775807 := by
 have h := (Bool.and_eq_true _ _).mp h
 exact ⟨of_decide_eq_true h.1, of_decide_eq_true h.2⟩
def prevOf (d : Int) (j : Nat) (rows : List (List Int)) (k : Nat) : Int := if k = 0 then d else (rows.getD (k - 1) []).getD j 0
theorem prevOf_succ {d : Int} {j : Nat} {rows : List (List Int)} {k : Nat} {r : List Int} (h : rows[k]? = some r) : prevOf d j rows (k + 1) = r.getD j 0 := by
 unfold prevOf
 rw [if_neg (by omega)]
 have e : rows.getD k [] = r := by rw [List.getD_eq_getElem?_getD, h]; rfl
 show (rows.getD k []).getD j 0 = _
 rw [e]
theorem prevOf_pos {d : Int} {j : Nat} {rows : List (List Int)} {k : Nat} (h0 : 0 < k) {r : List Int} (h : rows[k - 1]? = some r) : prevOf d j rows k = r.getD j 0 := by
 unfold prevOf
 have e : rows.getD (k - 1) [] = r := by rw [List.getD_eq_getElem?_getD, h]; rfl
 rw [if_neg (by omega), e]
end Go.Proofs.Ytcfpkkgdofblfaa.Pd
/- Contracts by hand: a product's rates are looked at. -/
namespace Go.Proofs.Ytcfpkkgdofblfaa.Pd
open Go.RowKit Go.Proofs.YtcfpkkgdofblfaaW.PrintWords Go.Proofs.YtcfpkkgdofblfaaW.PrintLast Go.Proofs.YtcfpkkgdofblfaaW.PrintMore Go.Proofs.Ytcfpkkgdofblfaa.HW
open Pm
set_option linter.unusedVariables false
set_option linter.unusedSimpArgs false
set_option maxRecDepth 100000 in
set_option maxHeartbeats 2000000 in
theorem rates_1 (p : Prod) (A1 : Option Addr) (c1 : Nat) (A2 : Option Addr) (c2 : Nat) (A3 : Option Addr) (c3 : Nat) (w : World) (ha : decide (0 ≤ p.rate ∧ p.rate ≤ 1000000000) = false) :
  Calls Try.prog 60 #[pv p A1 c1 A2 c2 A3 c3] w (fun e w' => e = refusedE ∧ Below w.heap.size w w') := by
 have HA := Aside0.mk ha
 clear ha
 go_enter Try.func60, Try.ntmps60
 go_wp2_with (first
  | ((with_reducible refine gate_dst (N := 1) rfl ?_); refine box_event ?hg (N := 1) ?hd (cs := pcs p A1 c1 A2 c2 A3 c3) (t := 88) ?hr ?_; (case hd => rfl); (case hg => rfl); (case hr => first | (go_simp; done) | (go_simp; rfl)); intro g1 hg w1 hb1 hbl1; clear hg)
  | ((with_reducible refine gate_dst (N := 6) rfl ?_); refine wpList_load_row rfl 27 (.tmp 5) rfl g1 rfl 88 _ (0, 0) _ hb1 Try.underlying27 rfl info_prod ?_)
  | ((with_reducible refine gate_dst (N := 2) rfl ?_); refine copy_event rfl (N := 2) rfl rfl rfl (t := 27) (v := .tmp 6) rfl (cs := pcs p A1 c1 A2 c2 A3 c3) (zs := pzs) ?hr rfl rfl info_prod ?hz (pcs_one _ _ _ _ _ _ _) ?_; (case hr => first | (go_simp; done) | (go_simp; rfl)); (case hz => rfl); intro g2 hg w2 hb2 hbl2; have g2lt := blk_lt hb2; have g2ge := (show w.heap.size ≤ g2 by rw [hg]; exact hbl1.size); clear hg; have HB2 := Aside0.mk hb2; have BL2 := Aside0.mk (below_step hbl1 hbl2); clear hb1 hbl1 hbl2; have QQ := Aside0.mk (pc_cells hb2); clear hb2; obtain ⟨-, -, -, -, -, q5, -, q7, q8, q9, -⟩ := QQ.out))
 go_wp2_with fail
 refine (within_l_is HA.out _).mono ?_
 rintro e w' ⟨rfl, rfl⟩
 go_wp2_with fail
 refine (must_no _).mono ?_
 rintro e w' ⟨rfl, rfl⟩
 exact ⟨rfl, rfl, BL2.out⟩
set_option maxRecDepth 100000 in
set_option maxHeartbeats 2000000 in
theorem rates_2 (p : Prod) (A1 : Option Addr) (c1 : Nat) (A2 : Option Addr) (c2 : Nat) (A3 : Option Addr) (c3 : Nat) (w : World) (ha : decide (0 ≤ p.rate ∧ p.rate ≤ 1000000000) = true) (hb : decide (0 ≤ p.penalty ∧ p.penalty ≤ 1000000000) = false) :
  Calls Try.prog 60 #[pv p A1 c1 A2 c2 A3 c3] w (fun e w' => e = refusedE ∧ Below w.heap.size w w') := by
 have HA := Aside0.mk ha
 have HB := Aside0.mk hb
 clear ha hb
 go_enter Try.func60, Try.ntmps60
 go_wp2_with (first
  | ((with_reducible refine gate_dst (N := 1) rfl ?_); refine box_event ?hg (N := 1) ?hd (cs := pcs p A1 c1 A2 c2 A3 c3) (t := 88) ?hr ?_; (case hd => rfl); (case hg => rfl); (case hr => first | (go_simp; done) | (go_simp; rfl)); intro g1 hg w1 hb1 hbl1; clear hg)
  | ((with_reducible refine gate_dst (N := 6) rfl ?_); refine wpList_load_row rfl 27 (.tmp 5) rfl g1 rfl 88 _ (0, 0) _ hb1 Try.underlying27 rfl info_prod ?_)
  | ((with_reducible refine gate_dst (N := 2) rfl ?_); refine copy_event rfl (N := 2) rfl rfl rfl (t := 27) (v := .tmp 6) rfl (cs := pcs p A1 c1 A2 c2 A3 c3) (zs := pzs) ?hr rfl rfl info_prod ?hz (pcs_one _ _ _ _ _ _ _) ?_; (case hr => first | (go_simp; done) | (go_simp; rfl)); (case hz => rfl); intro g2 hg w2 hb2 hbl2; have g2lt := blk_lt hb2; have g2ge := (show w.heap.size ≤ g2 by rw [hg]; exact hbl1.size); clear hg; have HB2 := Aside0.mk hb2; have BL2 := Aside0.mk (below_step hbl1 hbl2); clear hb1 hbl1 hbl2; have QQ := Aside0.mk (pc_cells hb2); clear hb2; obtain ⟨-, -, -, -, -, q5, -, q7, q8, q9, -⟩ := QQ.out))
 go_wp2_with fail
 refine (within_l_is HA.out _).mono ?_
 rintro e w' ⟨rfl, rfl⟩
 go_wp2_with fail
 refine (within_l_is HB.out _).mono ?_
 rintro e w' ⟨rfl, rfl⟩
 go_wp2_with fail
 refine (must_no _).mono ?_
 rintro e w' ⟨rfl, rfl⟩
 exact ⟨rfl, rfl, BL2.out⟩
set_option maxRecDepth 100000 in
set_option maxHeartbeats 2000000 in
theorem rates_3 (p : Prod) (A1 : Option Addr) (c1 : Nat) (A2 : Option Addr) (c2 : Nat) (A3 : Option Addr) (c3 : Nat) (w : World) (ha : decide (0 ≤ p.rate ∧ p.rate ≤ 1000000000) = true) (hb : decide (0 ≤ p.penalty ∧ p.penalty ≤ 1000000000) = true) (hn : 20 < p.resets.length) (hm : p.resets.length ≤ 1000000) :
  Calls Try.prog 60 #[pv p A1 c1 A2 c2 A3 c3] w (fun e w' => e = refusedE ∧ Below w.heap.size w w') := by
 have HA := Aside0.mk ha
 have HB := Aside0.mk hb
 clear ha hb
 go_enter Try.func60, Try.ntmps60
 go_wp2_with (first
  | ((with_reducible refine gate_dst (N := 1) rfl ?_); refine box_event ?hg (N := 1) ?hd (cs := pcs p A1 c1 A2 c2 A3 c3) (t := 88) ?hr ?_; (case hd => rfl); (case hg => rfl); (case hr => first | (go_simp; done) | (go_simp; rfl)); intro g1 hg w1 hb1 hbl1; clear hg)
  | ((with_reducible refine gate_dst (N := 6) rfl ?_); refine wpList_load_row rfl 27 (.tmp 5) rfl g1 rfl 88 _ (0, 0) _ hb1 Try.underlying27 rfl info_prod ?_)
  | ((with_reducible refine gate_dst (N := 2) rfl ?_); refine copy_event rfl (N := 2) rfl rfl rfl (t := 27) (v := .tmp 6) rfl (cs := pcs p A1 c1 A2 c2 A3 c3) (zs := pzs) ?hr rfl rfl info_prod ?hz (pcs_one _ _ _ _ _ _ _) ?_; (case hr => first | (go_simp; done) | (go_simp; rfl)); (case hz => rfl); intro g2 hg w2 hb2 hbl2; have g2lt := blk_lt hb2; have g2ge := (show w.heap.size ≤ g2 by rw [hg]; exact hbl1.size); clear hg; have HB2 := Aside0.mk hb2; have BL2 := Aside0.mk (below_step hbl1 hbl2); clear hb1 hbl1 hbl2; have QQ := Aside0.mk (pc_cells hb2); clear hb2; obtain ⟨-, -, -, -, -, q5, -, q7, q8, q9, -⟩ := QQ.out))
 go_wp2_with fail
 refine (within_l_is HA.out _).mono ?_
 rintro e w' ⟨rfl, rfl⟩
 go_wp2_with fail
 refine (within_l_is HB.out _).mono ?_
 rintro e w' ⟨rfl, rfl⟩
 go_wp2_with fail
 refine (must_no_of (decide_eq_false (by omega)) _).mono ?_
 rintro e w' ⟨rfl, rfl⟩
 exact ⟨rfl, rfl, BL2.out⟩
set_option maxRecDepth 100000 in
set_option maxHeartbeats 2000000 in
theorem rates_4 (p : Prod) (A1 : Option Addr) (c1 : Nat) (A2 : Option Addr) (c2 : Nat) (A3 : Option Addr) (c3 : Nat) (w : World) (ha : decide (0 ≤ p.rate ∧ p.rate ≤ 1000000000) = true) (hb : decide (0 ≤ p.penalty ∧ p.penalty ≤ 1000000000) = true) (hn : p.resets.length ≤ 20) (t1 : 1 ≤ p.times) (t2 : p.times ≤ 600) (hr : Op.IntRows w A1 2 p.resets) (bb : Bool) (hbb : resetsOk p.times 0 p.resets = bb) :
  Calls Try.prog 60 #[pv p A1 c1 A2 c2 A3 c3] w (LookE bb w) := by
 have HA := Aside0.mk ha
 have HB := Aside0.mk hb
 have HR := Aside0.mk hr
 have HBB := Aside0.mk hbb
 clear ha hb hr hbb
 go_enter Try.func60, Try.ntmps60
 go_wp2_with (first
  | ((with_reducible refine gate_dst (N := 1) rfl ?_); refine box_event ?hg (N := 1) ?hd (cs := pcs p A1 c1 A2 c2 A3 c3) (t := 88) ?hr ?_; (case hd => rfl); (case hg => rfl); (case hr => first | (go_simp; done) | (go_simp; rfl)); intro g1 hg w1 hb1 hbl1; clear hg)
  | ((with_reducible refine gate_dst (N := 6) rfl ?_); refine wpList_load_row rfl 27 (.tmp 5) rfl g1 rfl 88 _ (0, 0) _ hb1 Try.underlying27 rfl info_prod ?_)
  | ((with_reducible refine gate_dst (N := 2) rfl ?_); refine copy_event rfl (N := 2) rfl rfl rfl (t := 27) (v := .tmp 6) rfl (cs := pcs p A1 c1 A2 c2 A3 c3) (zs := pzs) ?hr rfl rfl info_prod ?hz (pcs_one _ _ _ _ _ _ _) ?_; (case hr => first | (go_simp; done) | (go_simp; rfl)); (case hz => rfl); intro g2 hg w2 hb2 hbl2; have g2lt := blk_lt hb2; have g2ge := (show w.heap.size ≤ g2 by rw [hg]; exact hbl1.size); clear hg; have HB2 := Aside0.mk hb2; have BL2 := Aside0.mk (below_step hbl1 hbl2); clear hb1 hbl1 hbl2; have QQ := Aside0.mk (pc_cells hb2); clear hb2; obtain ⟨-, -, -, -, -, q5, -, q7, q8, q9, -⟩ := QQ.out))
 go_wp2_with fail
 refine (within_l_is HA.out _).mono ?_
 rintro e w' ⟨rfl, rfl⟩
 go_wp2_with fail
 refine (within_l_is HB.out _).mono ?_
 rintro e w' ⟨rfl, rfl⟩
 go_wp2_with fail
 refine (must_yes_of (decide_eq_true (by omega)) _).mono ?_
 rintro e w' ⟨rfl, rfl⟩
 go_wp2_with fail
 go_loopg [25] (p.resets.length + 1) (fun gq i w' => ∃ (k : Nat), k ≤ p.resets.length ∧ i = .int .i64 k ∧ Aside0 (gq = p.resets.length + 1 - k) ∧ Aside0 (resetsOk p.times (prevOf 0 0 p.resets k) (p.resets.drop k) = bb) ∧ Aside0 (Below w.heap.size w w' ∧ Below w2.heap.size w2 w'))
 case atStart => exact ⟨0, Nat.zero_le _, rfl, ⟨rfl⟩, ⟨by rw [← HBB.out]; rfl⟩, ⟨BL2.out, Below.refl _ _⟩⟩
 case round =>
  obtain ⟨k, hk, rfl, hgq, hq, hbl⟩ := hrel
  by_cases hlt : k < p.resets.length
  ·obtain ⟨ad, x, y, e0, hrow, q0', q1', wx, wy⟩ := two_at (HR.out.below hbl.out.1) k hlt
   subst e0
   have hcs := hq.out
   rw [drop_row hrow] at hcs
   simp only [resetsOk] at hcs
   simp only [List.getD_cons_zero, List.getD_cons_succ] at hcs
   have hprev := prevOf_succ (d := 0) (j := 0) hrow
   simp only [List.getD_cons_zero] at hprev
   have HPREV := Aside0.mk hprev
   have adlt := cell_ltR q0'
   obtain ⟨bx0, bx1⟩ := wf_bd wx
   obtain ⟨by0, by1⟩ := wf_bd wy
   have HB3 := Aside0.mk (blk_below HB2.out hbl.out.2)
   have g2l := blk_lt HB3.out
   have kk0 : (0 : Int) ≤ (k : Int) := by omega
   have kk1 : (k : Int) < (p.resets.length : Int) := by omega
   have QP : Aside0 (0 < k → ∃ x' y', p.resets[k - 1]? = some [x', y'] ∧ wr.cell? (ad.add ((k - 1) * 2)) = some (.int .i64 x')) := ⟨fun h0 => by
    obtain ⟨ad', x', y', e', hrow', c', _⟩ := two_at (HR.out.below hbl.out.1) (k - 1) (by omega)
    obtain rfl : ad = ad' := Option.some.inj e'
    exact ⟨x', y', hrow', c'⟩⟩
   clear hq hrow hprev wx wy q5 q7 q8 q9
   go_wp2_with ((with_reducible refine gate_dst (N := 4) rfl ?_); refine copy_event3 rfl (N := 4) rfl rfl rfl rfl (t := 116) (v := .tmp 29) rfl (cs := #[.int .i64 x, .int .i64 y]) (zs := #[.int .i64 0, .int .i64 0]) (vm := .int .i64 k) ?hr ?hrm rfl rfl info_reset ?hz (two_one _ _) ?_; (case hr => first | (go_simp; done) | (go_simp; rfl)); (case hrm => intro W'; first | (go_simp; done) | (go_simp; rfl)); (case hz => rfl); intro g4 hg w4 hb4 hbl4; have g4lt := blk_lt hb4; clear hg)
   go_frame
   have z0 : w4.cell? ⟨g4, 0, none⟩ = some (.int .i64 x) := (blk_cell hb4 0).trans rfl
   have z1 : w4.cell? ⟨g4, 1, none⟩ = some (.int .i64 y) := (blk_cell hb4 1).trans rfl
   have HB5 := Aside0.mk (blk_below HB3.out hbl4)
   obtain ⟨-, -, -, -, -, q5, -, -, q8, -⟩ := pc_cells HB5.out
   have QP4 : Aside0 (0 < k → ∃ x' y', p.resets[k - 1]? = some [x', y'] ∧ w4.cell? (ad.add ((k - 1) * 2)) = some (.int .i64 x')) := ⟨fun h0 => by
    obtain ⟨x', y', h1, h2⟩ := QP.out h0
    exact ⟨x', y', h1, by rw [hbl4.cell (cell_ltR h2)]; exact h2⟩⟩
   have BL4 := Aside0.mk (And.intro (below_step hbl.out.1 hbl4) (below_step hbl.out.2 hbl4))
   clear hb4 hbl4 hbl HB3 QP q0' q1'
   have ew1 : IntKind.i64.wrap (p.times - 1) = p.times - 1 := IntWalk.i64_in _ (by omega)
   by_cases h1 : 1 ≤ x ∧ x ≤ p.times - 1
   ·have H1 := Aside0.mk (decide_eq_true h1)
    by_cases h2 : 0 ≤ y ∧ y ≤ 1000000000
    ·have H2 := Aside0.mk (decide_eq_true h2)
     by_cases h0 : k = 0
     ·have hb2 : resetsOk p.times x (p.resets.drop (k + 1)) = bb := by
       rw [← hcs, decide_eq_true (show 1 ≤ x ∧ x ≤ p.times - 1 ∧ 0 ≤ y ∧ y ≤ 1000000000 ∧ prevOf 0 0 p.resets k < x from ⟨h1.1, h1.2, h2.1, h2.2, by have := h1.1; unfold prevOf; rw [if_pos h0]; omega⟩), Bool.true_and]
      have HB2' := Aside0.mk hb2
      have kz : ((k : Int) == 0) = true := by rw [h0]; rfl
      clear hcs hb2 h1 h2 h0
      go_quiet ((first
       | (go_at_call 83; refine (within_i_is H1.out _).mono ?_; rintro e w' ⟨rfl, rfl⟩; exact ⟨rfl, _, rfl⟩)
       | (go_at_call 84; refine (within_l_is H2.out _).mono ?_; rintro e w' ⟨rfl, rfl⟩; exact ⟨rfl, _, rfl⟩)
       | (go_at_call 81; refine (must_yes _).mono ?_; rintro e w' ⟨rfl, rfl⟩; exact ⟨rfl, _, rfl⟩)))
      go_wp2_with fail
      go_roundg (p.resets.length + 1 - (k + 1))
      case measure => have := hgq.out; omega
      case rel => exact ⟨k + 1, by omega, by simp, ⟨rfl⟩, ⟨by rw [HPREV.out]; exact HB2'.out⟩, ⟨pw_below_drewN BL4.out.1 _, pw_below_drewN BL4.out.2 _⟩⟩
     ·obtain ⟨x', y', hrow', c'⟩ := QP4.out (by omega)
      have hpv := prevOf_pos (d := 0) (j := 0) (Nat.pos_of_ne_zero h0) hrow'
      simp only [List.getD_cons_zero] at hpv
      have kz : ((k : Int) == 0) = false := by rw [beq_eq_false_iff_ne]; omega
      have ew2 : IntKind.i64.wrap ((k : Int) - 1) = (k : Int) - 1 := IntWalk.i64_in _ (by omega)
      have kk2 : (0 : Int) ≤ (k : Int) - 1 := by omega
      have kk3 : (k : Int) - 1 < (p.resets.length : Int) := by omega
      have kk4 : (1 : Int) ≤ (k : Int) := by omega
      have ek : ((k : Int) - 1).toNat = k - 1 := by omega
      by_cases h3 : x' < x
      ·have hb2 : resetsOk p.times x (p.resets.drop (k + 1)) = bb := by
        rw [← hcs, decide_eq_true (show 1 ≤ x ∧ x ≤ p.times - 1 ∧ 0 ≤ y ∧ y ≤ 1000000000 ∧ prevOf 0 0 p.resets k < x from ⟨h1.1, h1.2, h2.1, h2.2, by rw [hpv]; exact h3⟩), Bool.true_and]
       have HB2' := Aside0.mk hb2
       clear hcs hb2 h1 h2 h0 hpv hrow'
       go_quiet ((first
        | (go_at_call 83; refine (within_i_is H1.out _).mono ?_; rintro e w' ⟨rfl, rfl⟩; exact ⟨rfl, _, rfl⟩)
        | (go_at_call 84; refine (within_l_is H2.out _).mono ?_; rintro e w' ⟨rfl, rfl⟩; exact ⟨rfl, _, rfl⟩)
        | (go_at_call 81; refine (must_yes _).mono ?_; rintro e w' ⟨rfl, rfl⟩; exact ⟨rfl, _, rfl⟩)))
       clear ew1 ew2 ek
       go_wp2_with fail
       go_roundg (p.resets.length + 1 - (k + 1))
       case measure => have := hgq.out; omega
       case rel => exact ⟨k + 1, by omega, by simp, ⟨rfl⟩, ⟨by rw [HPREV.out]; exact HB2'.out⟩, ⟨pw_below_drewN BL4.out.1 _, pw_below_drewN BL4.out.2 _⟩⟩
      ·have hbf : bb = false := by
        rw [← hcs, decide_eq_false (fun h => h3 (by have := h.2.2.2.2; rw [hpv] at this; exact this)), Bool.false_and]
       subst hbf
       have h4 : x ≤ x' := by omega
       have h5 : decide (x' < x) = false := decide_eq_false h3
       clear hcs h1 h2 h0 hpv hrow' h3
       refine wp_region_still_tail 27 (by kernel_rfl) (by kernel_rfl) ?_
       simp only [List.take_succ_cons, List.take_zero, List.drop_succ_cons, List.drop_zero]
       iterate 5 ((with_reducible refine wpStill_step (fun K hK => ?_)); go_simp; (try simp only [undef, reduceCtorEq, if_false]); (with_reducible refine hK _ ?_); clear hK K)
       still_call (within_i0 H1.out _)
       iterate 3 ((with_reducible refine wpStill_step (fun K hK => ?_)); go_simp; (try simp only [undef, reduceCtorEq, if_false]); (with_reducible refine hK _ ?_); clear hK K)
       still_call (within_l0 H2.out _)
       iterate 17 ((with_reducible refine wpStill_step (fun K hK => ?_)); go_simp; (try simp only [undef, reduceCtorEq, if_false]); (with_reducible refine hK _ ?_); clear hK K)
       (with_reducible refine wpStill_nil ?_)
       go_wp2_with ((go_at_call 81; refine (must_no _).mono ?_; rintro e w' ⟨rfl, rfl⟩))
       exact ⟨rfl, LookE.no ⟨rfl, BL4.out.1.drew⟩⟩
    ·have hbf : bb = false := by
      rw [← hcs, decide_eq_false (fun h => h2 ⟨h.2.2.1, h.2.2.2.1⟩), Bool.false_and]
     subst hbf
     have H2 := Aside0.mk (decide_eq_false h2)
     clear hcs h1 h2
     refine wp_region_still_tail 27 (by kernel_rfl) (by kernel_rfl) ?_
     simp only [List.take_succ_cons, List.take_zero, List.drop_succ_cons, List.drop_zero]
     iterate 5 ((with_reducible refine wpStill_step (fun K hK => ?_)); go_simp; (try simp only [undef, reduceCtorEq, if_false]); (with_reducible refine hK _ ?_); clear hK K)
     still_call (within_i0 H1.out _)
     iterate 3 ((with_reducible refine wpStill_step (fun K hK => ?_)); go_simp; (try simp only [undef, reduceCtorEq, if_false]); (with_reducible refine hK _ ?_); clear hK K)
     still_call (within_l0 H2.out _)
     iterate 17 ((with_reducible refine wpStill_step (fun K hK => ?_)); go_simp; (try simp only [undef, reduceCtorEq, if_false]); (with_reducible refine hK _ ?_); clear hK K)
     (with_reducible refine wpStill_nil ?_)
     go_wp2_with ((go_at_call 81; refine (must_no _).mono ?_; rintro e w' ⟨rfl, rfl⟩))
     exact ⟨rfl, LookE.no ⟨rfl, BL4.out.1.drew⟩⟩
   ·have hbf : bb = false := by
     rw [← hcs, decide_eq_false (fun h => h1 ⟨h.1, h.2.1⟩), Bool.false_and]
    subst hbf
    have H1 := Aside0.mk (decide_eq_false h1)
    clear hcs h1
    refine wp_region_still_tail 27 (by kernel_rfl) (by kernel_rfl) ?_
    simp only [List.take_succ_cons, List.take_zero, List.drop_succ_cons, List.drop_zero]
    iterate 5 ((with_reducible refine wpStill_step (fun K hK => ?_)); go_simp; (try simp only [undef, reduceCtorEq, if_false]); (with_reducible refine hK _ ?_); clear hK K)
    still_call (within_i0 H1.out _)
    iterate 21 ((with_reducible refine wpStill_step (fun K hK => ?_)); go_simp; (try simp only [undef, reduceCtorEq, if_false]); (with_reducible refine hK _ ?_); clear hK K)
    (with_reducible refine wpStill_nil ?_)
    go_wp2_with ((go_at_call 81; refine (must_no _).mono ?_; rintro e w' ⟨rfl, rfl⟩))
    exact ⟨rfl, LookE.no ⟨rfl, BL4.out.1.drew⟩⟩
  ·have hk2 : k = p.resets.length := by omega
   subst hk2
   have hcs := hq.out
   rw [List.drop_length] at hcs
   obtain rfl : true = bb := hcs
   clear hq
   go_wp2_with fail
   go_end0
   exact LookE.yes ⟨rfl, hbl.out.1⟩
theorem rates_any (p : Prod) (A1 : Option Addr) (c1 : Nat) (A2 : Option Addr) (c2 : Nat) (A3 : Option Addr) (c3 : Nat) (w : World) (t1 : 1 ≤ p.times) (t2 : p.times ≤ 600) (hr : Op.IntRows w A1 2 p.resets) (hm : p.resets.length ≤ 1000000) :
  Calls Try.prog 60 #[pv p A1 c1 A2 c2 A3 c3] w (LookE (ratesOk p) w) := by
 unfold ratesOk
 by_cases ha : 0 ≤ p.rate ∧ p.rate ≤ 1000000000
 case neg =>
  rw [decide_eq_false (fun h => ha h.1), Bool.false_and]
  exact (rates_1 p A1 c1 A2 c2 A3 c3 w (decide_eq_false ha)).mono fun e w' h => LookE.no h
 by_cases hb : 0 ≤ p.penalty ∧ p.penalty ≤ 1000000000
 case neg =>
  rw [decide_eq_false (fun h => hb h.2.1), Bool.false_and]
  exact (rates_2 p A1 c1 A2 c2 A3 c3 w (decide_eq_true ha) (decide_eq_false hb)).mono fun e w' h => LookE.no h
 by_cases hn : p.resets.length ≤ 20
 case neg =>
  rw [decide_eq_false (fun h => hn h.2.2), Bool.false_and]
  exact (rates_3 p A1 c1 A2 c2 A3 c3 w (decide_eq_true ha) (decide_eq_true hb) (by omega) hm).mono fun e w' h => LookE.no h
 rw [decide_eq_true (show _ from ⟨ha, hb, hn⟩), Bool.true_and]
 exact rates_4 p A1 c1 A2 c2 A3 c3 w (decide_eq_true ha) (decide_eq_true hb) hn t1 t2 hr _ rfl
end Go.Proofs.Ytcfpkkgdofblfaa.Pd
