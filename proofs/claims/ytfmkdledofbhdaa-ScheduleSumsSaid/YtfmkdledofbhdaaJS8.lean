/- Texts of this claim, joined in build order. -/
import Derived.Below
import Derived.Deep.Draws
import Derived.Deep.AppendLies
import Derived.Maps.AppendAt
import Derived.OwnWalk
import Derived.Laws.BytesArg
import Derived.Laws.MakeOwn
import Derived.Laws.OwnMore
import Derived.Tactics
import Derived.Lib.ConvBytes
import Derived.Laws.Slices
import Derived.WalkKit
import Derived.KernelRfl
import Derived.RowKit3
import Derived.Deep.LoopGhost
import Derived.Deep.QuietTactic
import Derived.BigQuiet
import Derived.WideLaws
import Derived.Deep.DeepCutAuto
import Derived.Deep.CutBlock
import Derived.Deep.RegionHeld3
import Derived.Lib.AppendStr
import Derived.ArgAppend
import Derived.Laws.IdiomCopy
import Derived.RowKit
import Derived.OrdersHeld
import Derived.Laws.BitsLemmas
import Derived.Test.YtfmkdledofbhdaaProg
import Derived.Laws.StructEq
import Derived.WalkLawsBesides
import Derived.WalkSpells
import Derived.IntWalk
import Derived.Lib.IndexMore
import Derived.Deep.Slices
import Derived.Deep.Fields
import Derived.ChangeSame
import Derived.Lib.SmallJoins
import Derived.ProofKit
import Derived.Defers
import Derived.Laws.Tables
import Derived.Deep.WholeRow
import Derived.Recover
import Derived.StillTailTactics
import Derived.Shelf.Small.Bits
import Derived.Shelf.Strconv.Itoa0
import Derived.Shelf.Strings.Search1
import Derived.Shelf.Strings.Search2
import Derived.Shelf.Strings.Search3
import Derived.Shelf.LaysM
import Derived.Shelf.Strings.Shaped
import Derived.Shelf.Bits.Mul64
import Derived.Lib.SlBytesConst
import Derived.Deep.RegionWith
import Derived.Lib.Hide
import Derived.BigFrame
import Derived.Lib.BitFns
import Derived.Laws.BitsAllLaws
import Derived.Laws.Externs
import Derived.RegionTactic
import Derived.Deep.MidRow
import Derived.OpenShut
import Derived.ShutString
import Derived.ChangeOld
import Derived.Laws.IdiomArrays
import Derived.SizedLaws
import Derived.HandedShaped
import Derived.Shelf.Vars
import Derived.Test.YtfmkdledofbhdaaJS1
import Derived.Test.YtfmkdledofbhdaaJS2
import Derived.Test.YtfmkdledofbhdaaJS3
import Derived.Test.YtfmkdledofbhdaaJS4
import Derived.Test.YtfmkdledofbhdaaJS5
import Derived.Test.YtfmkdledofbhdaaJS6
import Derived.Test.YtfmkdledofbhdaaJS7
set_option linter.unusedVariables false
set_option linter.unusedSimpArgs false
/- Plain laws of schedule: what of a near product may be wrong; lines, one by one; equal parts. -/
namespace Go.Proofs.Ytfmkdledofbhdaa.Sc
open Go.RowKit Go.Proofs.YtfmkdledofbhdaaW.PrintWords Go.Proofs.YtfmkdledofbhdaaW.PrintLast Go.Proofs.YtfmkdledofbhdaaW.PrintMore Go.Proofs.Ytfmkdledofbhdaa.HW
open Go.Proofs.Ytfmkdledofbhdaa.Math Go.Proofs.Ytfmkdledofbhdaa.H Go.Proofs.Ytfmkdledofbhdaa.Pd Go.Proofs.Ytfmkdledofbhdaa.Du Go.Proofs.Ytfmkdledofbhdaa.Lv Pm
set_option linter.unusedVariables false
set_option linter.unusedSimpArgs false
theorem none_up (l : List Int) : ∀ (k : Nat) (day : Int), (seekS l 1 k day).2 ≠ 0 → 84371 - day < (k : Int) → -25567 ≤ day → ∀ y, day ≤ y → y < 84371 → shutD l y
 | 0, day, h, hk, h0, y, y0, y1 => by omega
 | k + 1, day, h, hk, h0, y, y0, y1 => by
  rw [seekS_succ] at h
  split at h
  ·rename_i hd
   split at h
   ·exact absurd rfl h
   ·rename_i ho
    rcases (by omega : y = day ∨ day + 1 ≤ y) with rfl | h4
    ·exact ⟨hd, by simpa using ho⟩
    ·exact none_up l k (day + 1) h (by omega) (by omega) y h4 y1
  ·rename_i hd
   exact absurd ⟨h0, by omega⟩ hd
theorem none_down (l : List Int) : ∀ (k : Nat) (day : Int), (seekS l (-1) k day).2 ≠ 0 → day + 25568 < (k : Int) → day ≤ 84370 → ∀ y, -25567 ≤ y → y < day + 1 → shutD l y
 | 0, day, h, hk, h0, y, y0, y1 => by omega
 | k + 1, day, h, hk, h0, y, y0, y1 => by
  rw [seekS_succ] at h
  split at h
  ·rename_i hd
   split at h
   ·exact absurd rfl h
   ·rename_i ho
    rcases (by omega : y = day ∨ y < day + -1 + 1) with rfl | h4
    ·exact ⟨hd, by simpa using ho⟩
    ·exact none_down l k (day + -1) h (by omega) (by omega) y y0 h4
  ·rename_i hd
   exact absurd ⟨by omega, h0⟩ hd
theorem seek_there {l : List Int} (hl : l.length ≤ 200) {day : Int} (h0 : 0 ≤ day) (h1 : day ≤ 60000) : (seekS l 1 200000 day).2 = 0 ∧ (seekS l (-1) 200000 day).2 = 0 := by
 constructor
 ·rcases Decidable.em ((seekS l 1 200000 day).2 = 0) with h | h
  ·exact h
  ·have := shut_run hl (none_up l 200000 day h (by omega) (by omega))
   omega
 ·rcases Decidable.em ((seekS l (-1) 200000 day).2 = 0) with h | h
  ·exact h
  ·have := shut_run hl (none_down l 200000 day h (by omega) (by omega))
   omega
theorem roll_there {l : List Int} (hl : l.length ≤ 200) {day how : Int} (h0 : 0 ≤ day) (h1 : day ≤ 60000) (r1 : 1 ≤ how) (r2 : how ≤ 4) : (rollS l day how).2 = 0 := by
 obtain ⟨a, b⟩ := seek_there hl h0 h1
 unfold rollS
 rw [if_neg (fun g => g ⟨by omega, by omega⟩), if_neg (by omega)]
 split
 ·rfl
 ·split
  ·exact b
  ·split
   ·exact b
   ·exact a
theorem rolled_there {n e how : Int} {hol : List Int} (hd : isDay n) (hl : hol.length ≤ 200) (h1 : 0 ≤ n) (h2 : n < 20000) (e1 : 1 ≤ e) (e2 : e ≤ 12) (r1 : 1 ≤ how) (r2 : how ≤ 4) : ∀ (m : Nat) (i : Int), 0 ≤ i → i + m ≤ 40 → (rollAll hol how (drow n e m i)).2 = 0
 | 0, i, i0, h => rfl
 | m + 1, i, i0, h => by
  obtain ⟨p1, p2⟩ := mul_low (i := i + 1) (by omega) (by omega) e1 e2
  obtain ⟨u1, u2⟩ := A_up hd h2 p1 p2
  rw [drow, rollAll, if_pos (roll_there hl (by omega) u2 r1 r2)]
  unfold after
  rw [if_pos (rolled_there hd hl h1 h2 e1 e2 r1 r2 m (i + 1) (by omega) (by omega))]
theorem near_code {q : Prod} {start : Int} (hq : ok q = true) (ht : q.times ≤ 40) (h1 : 0 ≤ start) (h2 : start < 20000) : (daysP q start).2 = 0 ∨ (daysP q start).2 = 11 := by
 have hd : isDay start := ⟨by omega, by omega⟩
 obtain ⟨⟨⟨⟨⟨a1, a2, a3, a4, a5, a6, a7, a8⟩, _⟩, _⟩, _⟩, ⟨hl, ⟨ro1, ro2⟩, _⟩, _⟩ := (ok_iff q).1 hq
 have e1 : 1 ≤ q.every := by omega
 have e2 : q.every ≤ 12 := by omega
 have hdt : datesP start q.every q.times = (drow start q.every q.times.toNat 0, 0) := by
  unfold datesP
  rw [if_pos (by omega), dates_are hd h2 e1 e2 _ 0 [] (by omega) (by omega)]
  rfl
 have hr := rolled_there (hol := q.hol) (how := q.roll) hd hl h1 h2 e1 e2 ro1 ro2 q.times.toNat 0 (by omega) (by omega)
 unfold daysP
 rw [if_pos hq, hdt, if_pos rfl, if_pos hr]
 split
 ·exact .inl rfl
 ·exact .inr rfl
theorem lines_code {p : Prod} {m inst W h : Int} (m0 : 0 ≤ m) (g0 : 0 ≤ p.grace) (gt : p.grace < p.times) :
  ∀ (l : List (Int × Int)) (k left rest : Int), H.Good W h rest → Mid p m k left → 0 ≤ k → k + l.length = p.times → (lines p W h m inst k l left rest).2 = 0 ∨ (lines p W h m inst k l left rest).2 = 3 ∨ (lines p W h m inst k l left rest).2 = 10 ∧ p.kind = 1
 | [], k, left, rest, G, M, k0, kl => .inl rfl
 | (d, n) :: r, k, left, rest, G, M, k0, kl => by
  simp only [List.length_cons] at kl
  obtain ⟨p1, p2, p3⟩ := prin_bd (inst := inst) (v := (Gm.bear W h rest left p.rate n).1) M m0 g0 gt k0 (by omega)
  rw [lines]
  split
  ·rename_i h1
   show lerr p m inst k left (Gm.bear W h rest left p.rate n) = 0 ∨ lerr p m inst k left (Gm.bear W h rest left p.rate n) = 3 ∨ lerr p m inst k left (Gm.bear W h rest left p.rate n) = 10 ∧ p.kind = 1
   unfold lerr
   split
   ·exact .inr (.inl rfl)
   ·split
    ·rename_i h2
     refine .inr (.inr ⟨rfl, ?_⟩)
     rcases Decidable.em (p.kind = 1) with h3 | h3
     ·exact h3
     ·have := p2 h3
      omega
    ·split
     ·rename_i h2
      exact .inr (.inr ⟨rfl, h2.1⟩)
     ·exact .inl rfl
  ·rename_i h1
   split
   ·exact .inl rfl
   ·have e0 : lerr p m inst k left (Gm.bear W h rest left p.rate n) = 0 := by simpa using h1
    exact lines_code m0 g0 gt r (k + 1) _ _ (good_bear G) (p3 (lerr_zero e0).2.1) (by omega) (by omega)
theorem mid_start {p : Prod} {m : Int} (m0 : 0 ≤ m) (g0 : 0 ≤ p.grace) : Mid p m 0 m := ⟨m0, Int.le_refl m, fun _ _ => by rw [show max 0 (0 - p.grace) = 0 by omega]; omega⟩
theorem ok_grace {p : Prod} (h : ok p = true) : 0 ≤ p.grace ∧ p.grace < p.times ∧ (p.kind = 1 ∨ p.kind = 2 ∨ p.kind = 3) ∧ 0 ≤ p.rate ∧ p.rate ≤ 1000000000 := by
 obtain ⟨⟨⟨⟨⟨_, a2, a3, a4, a5, a6, a7, a8⟩, ⟨b1, b2, b3⟩, b4⟩, c⟩, d_⟩, e_⟩ := (ok_iff p).1 h
 omega
theorem zip_len {xs ys : List Int} {n : Int} (h1 : (xs.length : Int) = n) (h2 : ys.length = xs.length) : (0 : Int) + (xs.zip ys).length = n := by
 rw [List.length_zip]
 omega
theorem parts_known {p : Prod} {start : Int} {xs : List Int} (h : daysP p start = (xs, 0)) : ∃ ys, partsP p start = (ys, 0) ∧ ys.length = xs.length ∧ ∀ n ∈ ys, 0 ≤ n ∧ n ≤ 53436000 := by
 obtain ⟨ho, hs0, hds, hl, t1, t2, hr, -⟩ := days_known h
 refine ⟨rpartsL p.count start xs, ?_, rparts_len _ _ _, parts_may (count_known ho) _ _ hs0 hds hr⟩
 unfold partsP
 rw [h, if_pos rfl]
theorem sched_code {q : Prod} {start m : Int} (hq : ok q = true) (ht : q.times ≤ 40) (h1 : 0 ≤ start) (h2 : start < 20000) (m0 : 1 ≤ m) (m1 : m ≤ 10000000000000) :
  (schedP q start m).2 = 0 ∨ (schedP q start m).1 = [] ∧ ((schedP q start m).2 = 11 ∨ (schedP q start m).2 = 3 ∨ (schedP q start m).2 = 10 ∧ q.kind = 1) := by
 obtain ⟨g0, gt, -⟩ := ok_grace hq
 unfold schedP
 rcases near_code hq ht h1 h2 with hd | hd
 ·rw [if_neg (fun g => g hd), if_neg (fun g => g ⟨m0, m1⟩)]
  have hx : daysP q start = ((daysP q start).1, 0) := by rw [← hd]
  obtain ⟨ys, hy, hyl, hyb⟩ := parts_known hx
  have hl := (days_known hx).2.2.2.1
  have hlin : ∀ inst, (linesP q start m inst).2 = 0 ∨ (linesP q start m inst).1 = [] ∧ ((linesP q start m inst).2 = 11 ∨ (linesP q start m inst).2 = 3 ∨ (linesP q start m inst).2 = 10 ∧ q.kind = 1) := by
   intro inst
   unfold linesP
   rw [hy]
   rcases lines_code (inst := inst) (by omega) g0 gt ((daysP q start).1.zip ys) 0 m 0 (good_new q.count q.round) (mid_start (by omega) g0) (by omega) (zip_len hl hyl) with e | e | ⟨e, ek⟩
   ·exact .inl e
   ·exact .inr ⟨lines_err _ _ _ _ _ _ _ _ _ (by rw [e]; decide), .inr (.inl e)⟩
   ·exact .inr ⟨lines_err _ _ _ _ _ _ _ _ _ (by rw [e]; decide), .inr (.inr ⟨e, ek⟩)⟩
  split
  ·rename_i hk
   have ha : askE q (partsP q start).1 m = 0 := by rw [hy]; exact ask_parts hy ht h2 m0 m1
   split
   ·rename_i he
    refine .inr ⟨rfl, .inr (.inr ⟨?_, hk⟩)⟩
    revert he
    unfold ofE
    rw [if_neg (fun g => g ha)]
    split
    ·intro _; rfl
    ·intro g; exact absurd rfl g
   ·exact hlin _
  ·exact hlin _
 ·rw [if_pos (by rw [hd]; decide)]
  exact .inr ⟨rfl, .inl hd⟩
theorem sched_chain {p : Prod} {start m : Int} {ls : List Ln} (h : schedP p start m = (ls, 0)) :
  ∃ xs ys inst, daysP p start = (xs, 0) ∧ partsP p start = (ys, 0) ∧ ys.length = xs.length ∧ (∀ n ∈ ys, 0 ≤ n ∧ n ≤ 53436000) ∧ 1 ≤ m ∧ m ≤ 10000000000000 ∧ Chain p (Gm.whole p.count) (Gm.half p.count p.round) m inst 0 m 0 (xs.zip ys) ls := by
 unfold schedP at h
 split at h
 ·rename_i h1
  exact absurd (congrArg Prod.snd h) h1
 ·rename_i h1
  have hd : (daysP p start).2 = 0 := by simpa using h1
  have hx : daysP p start = ((daysP p start).1, 0) := by rw [← hd]
  obtain ⟨ys, hy, hyl, hyb⟩ := parts_known hx
  split at h
  ·exact absurd (show (16 : Int) = 0 from congrArg Prod.snd h) (by decide)
  ·rename_i hm
   have hm : 1 ≤ m ∧ m ≤ 10000000000000 := by omega
   have hlin : ∀ inst, linesP p start m inst = (ls, 0) → ∃ xs ys inst, daysP p start = (xs, 0) ∧ partsP p start = (ys, 0) ∧ ys.length = xs.length ∧ (∀ n ∈ ys, 0 ≤ n ∧ n ≤ 53436000) ∧ 1 ≤ m ∧ m ≤ 10000000000000 ∧ Chain p (Gm.whole p.count) (Gm.half p.count p.round) m inst 0 m 0 (xs.zip ys) ls := by
    intro inst hi
    unfold linesP at hi
    rw [hy] at hi
    exact ⟨(daysP p start).1, ys, inst, hx, hy, hyl, hyb, hm.1, hm.2, lines_chain _ _ _ _ _ hi⟩
   split at h
   ·split at h
    ·rename_i he
     exact absurd (congrArg Prod.snd h) he
    ·exact hlin _ h
   ·exact hlin _ h
def pl (x0 : Ln) (ls : List Ln) : Nat → Ln
 | 0 => x0
 | k + 1 => ls.getD k x0
theorem pl_succ (x0 : Ln) (ls : List Ln) (k : Nat) : pl x0 ls (k + 1) = ls.getD k x0 := rfl
theorem pl_tail (x0 x : Ln) (t : List Ln) (i : Nat) (h : i ≤ t.length) : (pl x0 (x :: t) (i + 1)).1 = (pl (x.1, 0, 0, x.2.2.2) t i).1 ∧ (pl x0 (x :: t) (i + 1)).2.2.2 = (pl (x.1, 0, 0, x.2.2.2) t i).2.2.2 := by
 cases i with
 | zero => exact ⟨rfl, rfl⟩
 | succ j =>
  have hj : j < t.length := by omega
  have e1 : (x :: t).getD (j + 1) x0 = t[j] := by rw [List.getD_eq_getElem?_getD, List.getElem?_cons_succ, List.getElem?_eq_getElem hj]; rfl
  have e2 : t.getD j (x.1, 0, 0, x.2.2.2) = t[j] := by rw [List.getD_eq_getElem?_getD, List.getElem?_eq_getElem hj]; rfl
  show ((x :: t).getD (j + 1) x0).1 = (t.getD j (x.1, 0, 0, x.2.2.2)).1 ∧ ((x :: t).getD (j + 1) x0).2.2.2 = (t.getD j (x.1, 0, 0, x.2.2.2)).2.2.2
  rw [e1, e2]
  exact ⟨rfl, rfl⟩
theorem looks_at {p : Prod} : ∀ (ls : List Ln) (k left day : Int), looks p k left day ls → ∀ (i : Nat) (x : Ln), ls[i]? = some x →
  x.2.2.2 = (pl (day, 0, 0, left) ls i).2.2.2 - x.2.1 ∧ 0 ≤ x.2.1 ∧ 0 ≤ x.2.2.1 ∧ 0 ≤ x.2.2.2 ∧ x.2.2.2 ≤ left ∧ (k + i < p.grace → x.2.1 = 0) ∧ (pl (day, 0, 0, left) ls i).1 < x.1
 | [], k, left, day, h, i, x, hx => by simp at hx
 | y :: t, k, left, day, h, 0, x, hx => by
  obtain ⟨h1, h2, h3, h4, h5, h6, h7⟩ := h
  obtain rfl : y = x := by simpa using hx
  exact ⟨h1, h2, h3, h4, by omega, fun g => h5 (by omega), h6⟩
 | y :: t, k, left, day, h, i + 1, x, hx => by
  obtain ⟨h1, h2, h3, h4, h5, h6, h7⟩ := h
  have hx' : t[i]? = some x := by simpa using hx
  have hi : i < t.length := (List.getElem?_eq_some_iff.1 hx').1
  obtain ⟨q1, q2, q3, q4, q5, q6, q7⟩ := looks_at t (k + 1) y.2.2.2 y.1 h7 i x hx'
  obtain ⟨e1, e2⟩ := pl_tail (day, 0, 0, left) y t i (by omega)
  rw [e1, e2]
  exact ⟨q1, q2, q3, q4, by omega, fun g => q6 (by omega), q7⟩
theorem looks_end {p : Prod} : ∀ (ls : List Ln) (k left day : Int), looks p k left day ls → (pl (day, 0, 0, left) ls ls.length).2.2.2 = 0
 | [], k, left, day, h => h
 | y :: t, k, left, day, h => by
  obtain ⟨h1, h2, h3, h4, h5, h6, h7⟩ := h
  have := looks_end t (k + 1) y.2.2.2 y.1 h7
  obtain ⟨e1, e2⟩ := pl_tail (day, 0, 0, left) y t t.length (Nat.le_refl _)
  rw [List.length_cons, e2]
  exact this
theorem chain_int {p : Prod} {m inst W h : Int} : ∀ (l : List (Int × Int)) (k left rest : Int) (ls : List Ln), Chain p W h m inst k left rest l ls → ∀ x ∈ ls, x.2.2.1 ≤ 1000000000000000
 | [], k, left, rest, [], c, x, hx => by simp at hx
 | [], k, left, rest, y :: t, c, x, hx => by simp [Chain] at c
 | y :: r, k, left, rest, [], c, x, hx => by simp [Chain] at c
 | (d, n) :: r, k, left, rest, y :: t, c, x, hx => by
  obtain ⟨c1, c2, c3, c4, c5, c6, c7, c8⟩ := c
  rcases List.mem_cons.1 hx with rfl | hx
  ·obtain ⟨hm, hq, he⟩ := bear_ok c1
   rw [c5, he]
   exact hq
  ·exact chain_int r _ _ _ t c8 x hx
theorem sched_looks {p : Prod} {start m : Int} {ls : List Ln} (h : schedP p start m = (ls, 0)) : (ls.length : Int) = p.times ∧ looks p 0 m start ls ∧ (∀ x ∈ ls, x.2.2.1 ≤ 1000000000000000) := by
 obtain ⟨xs, ys, inst, hx, hy, hyl, hyb, m0, m1, c⟩ := sched_chain h
 obtain ⟨ho, hs0, hds, hl, t1, t2, hr, -⟩ := days_known hx
 obtain ⟨g0, gt, -⟩ := ok_grace ho
 have hz := zip_len hl hyl
 refine ⟨?_, ?_, chain_int _ _ _ _ _ c⟩
 ·rw [chain_len _ _ _ _ _ c]; omega
 ·refine chain_looks (by omega) m1 g0 gt _ 0 m 0 start ls (good_new _ _) c (mid_start (by omega) g0) (by omega) hz (.inl (by omega)) ?_
  rw [List.map_fst_zip (by omega)]
  exact hr
theorem sched_last2 {p : Prod} {start m : Int} {ls : List Ln} (h : schedP p start m = (ls, 0)) (hk : p.kind = 1) (hg : p.grace < p.times - 1) {k : Nat} (hkl : (k : Int) = p.times - 2) {x y : Ln} (h1 : ls[k]? = some x) (h2 : ls[k + 1]? = some y) :
  y.2.1 + y.2.2.1 - (x.2.1 + x.2.2.1) ≤ p.times ∧ (0 < x.2.2.2 → -p.times ≤ y.2.1 + y.2.2.1 - (x.2.1 + x.2.2.1)) := by
 obtain ⟨xs, ys, inst, hx, hy, hyl, hyb, m0, m1, c⟩ := sched_chain h
 obtain ⟨ho, hs0, hds, hl, t1, t2, hr, -⟩ := days_known hx
 obtain ⟨g0, gt, -, r0, r1⟩ := ok_grace ho
 have hz := zip_len hl hyl
 have hll := chain_len _ _ _ _ _ c
 have hzl : (xs.zip ys).length = k + 2 := by omega
 obtain ⟨left2, rest2, G2, c2, M2⟩ := chain_drop (by omega) g0 gt k (xs.zip ys) 0 m 0 ls (good_new _ _) c (mid_start (by omega) g0) (by omega) hz (by omega)
 have e1 : ls.drop k = [x, y] := by
  have a := (List.getElem?_eq_some_iff.1 h1)
  have b := (List.getElem?_eq_some_iff.1 h2)
  obtain ⟨a1, a2⟩ := a
  obtain ⟨b1, b2⟩ := b
  rw [List.drop_eq_getElem_cons a1, List.drop_eq_getElem_cons b1, a2, b2, List.drop_eq_nil_of_le (by omega)]
 have hk1 : k < (xs.zip ys).length := by omega
 have hk2 : k + 1 < (xs.zip ys).length := by omega
 have e2 : (xs.zip ys).drop k = [(xs.zip ys)[k], (xs.zip ys)[k + 1]] := by
  rw [List.drop_eq_getElem_cons hk1, List.drop_eq_getElem_cons hk2, List.drop_eq_nil_of_le (by omega)]
 rw [e1, e2, show (0 : Int) + (k : Int) = p.times - 2 by omega] at c2
 have hn : 0 ≤ (xs.zip ys)[k + 1].2 ∧ (xs.zip ys)[k + 1].2 ≤ 53436000 := hyb _ (by rw [List.getElem_zip]; exact List.getElem_mem _)
 exact chain_two hk ⟨r0, r1⟩ hn (by omega) hg G2 M2.l0 c2
end Go.Proofs.Ytfmkdledofbhdaa.Sc
/- The law ScheduleEqual, walked. -/
namespace Go.Proofs.Ytfmkdledofbhdaa.Sc
open Go.RowKit Go.Proofs.YtfmkdledofbhdaaW.PrintWords Go.Proofs.YtfmkdledofbhdaaW.PrintLast Go.Proofs.YtfmkdledofbhdaaW.PrintMore Go.Proofs.Ytfmkdledofbhdaa.HW
open Go.Proofs.Ytfmkdledofbhdaa.Math Go.Proofs.Ytfmkdledofbhdaa.H Go.Proofs.Ytfmkdledofbhdaa.Pd Go.Proofs.Ytfmkdledofbhdaa.Du Go.Proofs.Ytfmkdledofbhdaa.Lv Pm
set_option linter.unusedVariables false
set_option linter.unusedSimpArgs false
attribute [local go_sem] max2_int min2_int max_two min_two
theorem U_isC (x : Int) {m : Int} (h : 0 < m) (h2 : m ≤ 9000000000000000000) : IntKind.i64.wrap (Int.tmod (IntKind.u64.wrap x) m) = U x m := by
 have e : IntKind.u64.wrap x = x % 18446744073709551616 := rfl
 have hn := Int.emod_nonneg x (show (18446744073709551616 : Int) ≠ 0 by omega)
 have hb := U_bd x h
 rw [e, Int.tmod_eq_emod_of_nonneg hn]
 show IntKind.i64.wrap (U x m) = U x m
 exact IntWalk.i64_in _ (by omega)
theorem Sched.one {ls : List Ln} {w w' : World} {e : Ending} (h : Sched (ls, 0) w e w') (hl : 0 < ls.length) : ∃ gn c, e = .returned (.tuple #[.slice (some ⟨gn, 0, none⟩) ls.length c, .int .i64 0]) ∧ ls.length ≤ c ∧ (Kd.pair (Kd.int .i64) (Kd.pair (Kd.int .i64) (Kd.pair (Kd.int .i64) (Kd.int .i64)))).C w' (some ⟨gn, 0, none⟩) ls.length ls ∧ Below w.heap.size w w' := by
 obtain ⟨A, c, he, hR, hb⟩ := h
 obtain ⟨gn, cn, e1, _⟩ := Kd.R_form hR hl
 injection e1 with e1 _ e3
 subst e1 e3
 obtain ⟨_, hc2, hC⟩ := Kd.R_reads' hR
 exact ⟨gn, _, he, hc2, hC, hb⟩
end Go.Proofs.Ytfmkdledofbhdaa.Sc
/- The law ScheduleSums, walked. -/
namespace Go.Proofs.Ytfmkdledofbhdaa.Sc
open Go.RowKit Go.Proofs.YtfmkdledofbhdaaW.PrintWords Go.Proofs.YtfmkdledofbhdaaW.PrintLast Go.Proofs.YtfmkdledofbhdaaW.PrintMore Go.Proofs.Ytfmkdledofbhdaa.HW
open Go.Proofs.Ytfmkdledofbhdaa.Math Go.Proofs.Ytfmkdledofbhdaa.H Go.Proofs.Ytfmkdledofbhdaa.Pd Go.Proofs.Ytfmkdledofbhdaa.Du Go.Proofs.Ytfmkdledofbhdaa.Lv Pm
set_option linter.unusedVariables false
set_option linter.unusedSimpArgs false
attribute [local go_sem] max2_int min2_int max_two min_two
theorem ok_small {q : Prod} (h : ok q = true) : Small q := by
  obtain ⟨⟨⟨⟨⟨a1, _⟩, ⟨_, _, b3⟩, _⟩, _⟩, ⟨d1, _⟩, _⟩, ⟨e1, _⟩, _⟩ := (ok_iff q).1 h
  simp only [nameOk, Bool.and_eq_true, decide_eq_true_eq] at a1
  have hn : q.name.data.toList.length = q.name.size := rfl
  exact ⟨by omega, by omega, by omega, by omega⟩
theorem lines_range {w : World} {g n : Nat} {ls : List Ln} (h : (Kd.pair (Kd.int .i64) (Kd.pair (Kd.int .i64) (Kd.pair (Kd.int .i64) (Kd.int .i64)))).C w (some ⟨g, 0, none⟩) n ls) (hn : n = ls.length) {i : Nat} {a b c d : Int} (hi : ls[i]? = some (a, b, c, d)) :
    w.rangeAt g (i * 4) [.int .i64 a, .int .i64 b, .int .i64 c, .int .i64 d] := by
  obtain ⟨h0, h1, h2, h3⟩ := lines_cells h hn hi
  intro j v hv
  match j, hv with
  | 0, hv => obtain rfl : Value.int .i64 a = v := by simpa using hv
             exact h0
  | 1, hv => obtain rfl : Value.int .i64 b = v := by simpa using hv
             exact h1
  | 2, hv => obtain rfl : Value.int .i64 c = v := by simpa using hv
             exact h2
  | 3, hv => obtain rfl : Value.int .i64 d = v := by simpa using hv
             exact h3
  | j + 4, hv => simp at hv
set_option maxRecDepth 100000 in
set_option maxHeartbeats 20000000 in
theorem sums_11 (p : Prod) (A1 : Option Addr) (c1 : Nat) (A2 : Option Addr) (c2 : Nat) (A3 : Option Addr) (c3 : Nat) (a1 M : Int) (q0 : Prod) (w : World) (hgv : GV w) (hp : ProdAt w p A1 c1 A2 c2 A3 c3) (m0 : IntKind.i64.wrap (Int.tmod (IntKind.u64.wrap a1) 10000000000000) = U a1 10000000000000) (s0 : IntKind.i64.wrap (1 + U a1 10000000000000) = M) (hM0 : 1 ≤ M) (hM1 : M ≤ 10000000000000) (hne : ∀ W, Below w.heap.size w W → Calls Try.prog 10 #[pv p A1 c1 A2 c2 A3 c3, .int .i64 40] W (NearE p A1 c1 A2 c2 A3 c3 q0 W)) (oq : ok q0 = true) (nt : q0.times ≤ 40) (hs : schedP q0 19723 M = ([], 11)) :
    Calls Try.prog 3 #[pv p A1 c1 A2 c2 A3 c3, .int .i64 a1] w fun e w' => e = .returned (.bool true) ∧ Below w.heap.size w w' := by
  have HG := Aside0.mk hgv
  have HP := Aside0.mk hp
  have NE := Aside0.mk hne
  have AK := Aside0.mk (fun (W : World) (hb : Below w.heap.size w W) => sched_awake W (hgv.below hb))
  have sq := ok_small oq
  have OF := Aside0.mk (fun (B1 : Option Addr) (d1 : Nat) (B2 : Option Addr) (d2 : Nat) (B3 : Option Addr) (d3 : Nat) (hq : ∀ w0, ProdAt w0 p A1 c1 A2 c2 A3 c3 → ProdAt w0 q0 B1 d1 B2 d2 B3 d3) (W : World) (hb : Below w.heap.size w W) => show Calls Try.prog 11 #[pv q0 B1 d1 B2 d2 B3 d3, .int .i64 19723, .int .i64 M] W (Sched ([], 11) W) from by have h := sched_any q0 B1 d1 B2 d2 B3 d3 19723 M W (HG.out.below hb) (hq W (HP.out.below hb)) sq; rw [hs] at h; exact h)
  skip
  clear hgv hp hne oq nt sq hs
  go_enter Try.func3, Try.ntmps3
  go_wp2_with ((with_reducible refine gate_dst (N := 2) rfl ?_); refine box_event ?hg (N := 2) ?hd (cs := pcs p A1 c1 A2 c2 A3 c3) (t := 27) ?hr ?_; (case hd => rfl); (case hg => rfl); (case hr => first | (go_simp; done) | (go_simp; rfl)); intro g2 hg v0 hb1 hbl1; have ge2 := (show w.heap.size ≤ g2 by rw [hg]; exact Nat.le_refl _); clear hg; have G2 := Aside0.mk hb1; have HB := Aside0.mk hbl1; clear hb1 hbl1; refine Hid.out ?_)
  refine Lib.hid ?_
  go_wp2_with (first
    | ((with_reducible refine gate_dst (N := 12) rfl ?_); refine wpList_load_row rfl 27 (.tmp 2) rfl g2 rfl 27 _ (0, 0) _ G2.out Try.underlying27 rfl info_prod ?_)
    | (go_at_call 10; (with_reducible refine (NE.out _ HB.out).mono ?_); rintro e y47 ⟨B1, d1, B2, d2, B3, d3, rfl, hq, hb⟩; have HQ := Aside0.mk hq; have HB := Aside0.mk (below_step HB.out hb); have G2 := Aside0.mk (Pd.blk_below G2.out hb); clear hb; clear hq)
    | ((with_reducible refine gate_store (t := 27) (p := 2) rfl ?_); refine row_event rfl (t := 27) (p := 2) (v := .tmp 13) rfl rfl (g := g2) (cs := pcs q0 B1 d1 B2 d2 B3 d3) (zs := pcs p A1 c1 A2 c2 A3 c3) rfl rfl G2.out info_prod rfl (pcs_one _ _ _ _ _ _ _) ?_; intro x1 hb8 hbut; have G2 := Aside0.mk hb8; have HB := Aside0.mk (But.below HB.out HB.out.size ge2 hbut); clear hb8 hbut)
    | ((with_reducible refine gate_dst (N := 20) rfl ?_); refine wpList_load_row rfl 27 (.tmp 2) rfl g2 rfl 27 _ (0, 0) _ G2.out Try.underlying27 rfl info_prod ?_)
    | (go_at_call 11; (with_reducible refine (OF.out _ _ _ _ _ _ HQ.out _ HB.out).mono ?_); rintro e y1 ⟨A, c, rfl, -, hb⟩; have HB := Aside0.mk (below_step HB.out hb); have G2 := Aside0.mk (Pd.blk_below G2.out hb); clear hb)
    | (go_at_call 12; (with_reducible refine (AK.out _ HB.out).mono ?_); rintro e y5 ⟨rfl, hb⟩; have HB := Aside0.mk (below_step HB.out hb); have G2 := Aside0.mk (Pd.blk_below G2.out hb); clear hb; skip))
  go_ret
  exact ⟨rfl, by first | exact HB.out | exact Below.drew HB.out | exact pw_below_drewN HB.out _⟩
set_option maxRecDepth 100000 in
set_option maxHeartbeats 20000000 in
theorem sums_3 (p : Prod) (A1 : Option Addr) (c1 : Nat) (A2 : Option Addr) (c2 : Nat) (A3 : Option Addr) (c3 : Nat) (a1 M : Int) (q0 : Prod) (w : World) (hgv : GV w) (hp : ProdAt w p A1 c1 A2 c2 A3 c3) (m0 : IntKind.i64.wrap (Int.tmod (IntKind.u64.wrap a1) 10000000000000) = U a1 10000000000000) (s0 : IntKind.i64.wrap (1 + U a1 10000000000000) = M) (hM0 : 1 ≤ M) (hM1 : M ≤ 10000000000000) (hne : ∀ W, Below w.heap.size w W → Calls Try.prog 10 #[pv p A1 c1 A2 c2 A3 c3, .int .i64 40] W (NearE p A1 c1 A2 c2 A3 c3 q0 W)) (oq : ok q0 = true) (nt : q0.times ≤ 40) (hs : schedP q0 19723 M = ([], 3)) :
    Calls Try.prog 3 #[pv p A1 c1 A2 c2 A3 c3, .int .i64 a1] w fun e w' => e = .returned (.bool true) ∧ Below w.heap.size w w' := by
  have HG := Aside0.mk hgv
  have HP := Aside0.mk hp
  have NE := Aside0.mk hne
  have AK := Aside0.mk (fun (W : World) (hb : Below w.heap.size w W) => sched_awake W (hgv.below hb))
  have sq := ok_small oq
  have OF := Aside0.mk (fun (B1 : Option Addr) (d1 : Nat) (B2 : Option Addr) (d2 : Nat) (B3 : Option Addr) (d3 : Nat) (hq : ∀ w0, ProdAt w0 p A1 c1 A2 c2 A3 c3 → ProdAt w0 q0 B1 d1 B2 d2 B3 d3) (W : World) (hb : Below w.heap.size w W) => show Calls Try.prog 11 #[pv q0 B1 d1 B2 d2 B3 d3, .int .i64 19723, .int .i64 M] W (Sched ([], 3) W) from by have h := sched_any q0 B1 d1 B2 d2 B3 d3 19723 M W (HG.out.below hb) (hq W (HP.out.below hb)) sq; rw [hs] at h; exact h)
  skip
  clear hgv hp hne oq nt sq hs
  go_enter Try.func3, Try.ntmps3
  go_wp2_with ((with_reducible refine gate_dst (N := 2) rfl ?_); refine box_event ?hg (N := 2) ?hd (cs := pcs p A1 c1 A2 c2 A3 c3) (t := 27) ?hr ?_; (case hd => rfl); (case hg => rfl); (case hr => first | (go_simp; done) | (go_simp; rfl)); intro g2 hg v0 hb1 hbl1; have ge2 := (show w.heap.size ≤ g2 by rw [hg]; exact Nat.le_refl _); clear hg; have G2 := Aside0.mk hb1; have HB := Aside0.mk hbl1; clear hb1 hbl1; refine Hid.out ?_)
  refine Lib.hid ?_
  go_wp2_with (first
    | ((with_reducible refine gate_dst (N := 12) rfl ?_); refine wpList_load_row rfl 27 (.tmp 2) rfl g2 rfl 27 _ (0, 0) _ G2.out Try.underlying27 rfl info_prod ?_)
    | (go_at_call 10; (with_reducible refine (NE.out _ HB.out).mono ?_); rintro e y47 ⟨B1, d1, B2, d2, B3, d3, rfl, hq, hb⟩; have HQ := Aside0.mk hq; have HB := Aside0.mk (below_step HB.out hb); have G2 := Aside0.mk (Pd.blk_below G2.out hb); clear hb; clear hq)
    | ((with_reducible refine gate_store (t := 27) (p := 2) rfl ?_); refine row_event rfl (t := 27) (p := 2) (v := .tmp 13) rfl rfl (g := g2) (cs := pcs q0 B1 d1 B2 d2 B3 d3) (zs := pcs p A1 c1 A2 c2 A3 c3) rfl rfl G2.out info_prod rfl (pcs_one _ _ _ _ _ _ _) ?_; intro x1 hb8 hbut; have G2 := Aside0.mk hb8; have HB := Aside0.mk (But.below HB.out HB.out.size ge2 hbut); clear hb8 hbut)
    | ((with_reducible refine gate_dst (N := 20) rfl ?_); refine wpList_load_row rfl 27 (.tmp 2) rfl g2 rfl 27 _ (0, 0) _ G2.out Try.underlying27 rfl info_prod ?_)
    | (go_at_call 11; (with_reducible refine (OF.out _ _ _ _ _ _ HQ.out _ HB.out).mono ?_); rintro e y1 ⟨A, c, rfl, -, hb⟩; have HB := Aside0.mk (below_step HB.out hb); have G2 := Aside0.mk (Pd.blk_below G2.out hb); clear hb)
    | (go_at_call 12; (with_reducible refine (AK.out _ HB.out).mono ?_); rintro e y5 ⟨rfl, hb⟩; have HB := Aside0.mk (below_step HB.out hb); have G2 := Aside0.mk (Pd.blk_below G2.out hb); clear hb; skip))
  go_ret
  exact ⟨rfl, by first | exact HB.out | exact Below.drew HB.out | exact pw_below_drewN HB.out _⟩
set_option maxRecDepth 100000 in
set_option maxHeartbeats 20000000 in
theorem sums_10 (p : Prod) (A1 : Option Addr) (c1 : Nat) (A2 : Option Addr) (c2 : Nat) (A3 : Option Addr) (c3 : Nat) (a1 M : Int) (q0 : Prod) (w : World) (hgv : GV w) (hp : ProdAt w p A1 c1 A2 c2 A3 c3) (m0 : IntKind.i64.wrap (Int.tmod (IntKind.u64.wrap a1) 10000000000000) = U a1 10000000000000) (s0 : IntKind.i64.wrap (1 + U a1 10000000000000) = M) (hM0 : 1 ≤ M) (hM1 : M ≤ 10000000000000) (hne : ∀ W, Below w.heap.size w W → Calls Try.prog 10 #[pv p A1 c1 A2 c2 A3 c3, .int .i64 40] W (NearE p A1 c1 A2 c2 A3 c3 q0 W)) (oq : ok q0 = true) (nt : q0.times ≤ 40) (hk : q0.kind = 1) (hs : schedP q0 19723 M = ([], 10)) :
    Calls Try.prog 3 #[pv p A1 c1 A2 c2 A3 c3, .int .i64 a1] w fun e w' => e = .returned (.bool true) ∧ Below w.heap.size w w' := by
  have HG := Aside0.mk hgv
  have HP := Aside0.mk hp
  have NE := Aside0.mk hne
  have AK := Aside0.mk (fun (W : World) (hb : Below w.heap.size w W) => sched_awake W (hgv.below hb))
  have sq := ok_small oq
  have OF := Aside0.mk (fun (B1 : Option Addr) (d1 : Nat) (B2 : Option Addr) (d2 : Nat) (B3 : Option Addr) (d3 : Nat) (hq : ∀ w0, ProdAt w0 p A1 c1 A2 c2 A3 c3 → ProdAt w0 q0 B1 d1 B2 d2 B3 d3) (W : World) (hb : Below w.heap.size w W) => show Calls Try.prog 11 #[pv q0 B1 d1 B2 d2 B3 d3, .int .i64 19723, .int .i64 M] W (Sched ([], 10) W) from by have h := sched_any q0 B1 d1 B2 d2 B3 d3 19723 M W (HG.out.below hb) (hq W (HP.out.below hb)) sq; rw [hs] at h; exact h)
  have HK := Aside0.mk (show (pcs q0 none 0 none 0 none 0)[3]? = some (.int .i64 1) from by rw [← hk]; rfl)
  clear hgv hp hne oq nt sq hs hk
  go_enter Try.func3, Try.ntmps3
  go_wp2_with ((with_reducible refine gate_dst (N := 2) rfl ?_); refine box_event ?hg (N := 2) ?hd (cs := pcs p A1 c1 A2 c2 A3 c3) (t := 27) ?hr ?_; (case hd => rfl); (case hg => rfl); (case hr => first | (go_simp; done) | (go_simp; rfl)); intro g2 hg v0 hb1 hbl1; have ge2 := (show w.heap.size ≤ g2 by rw [hg]; exact Nat.le_refl _); clear hg; have G2 := Aside0.mk hb1; have HB := Aside0.mk hbl1; clear hb1 hbl1; refine Hid.out ?_)
  refine Lib.hid ?_
  go_wp2_with (first
    | ((with_reducible refine gate_dst (N := 12) rfl ?_); refine wpList_load_row rfl 27 (.tmp 2) rfl g2 rfl 27 _ (0, 0) _ G2.out Try.underlying27 rfl info_prod ?_)
    | (go_at_call 10; (with_reducible refine (NE.out _ HB.out).mono ?_); rintro e y47 ⟨B1, d1, B2, d2, B3, d3, rfl, hq, hb⟩; have HQ := Aside0.mk hq; have HB := Aside0.mk (below_step HB.out hb); have G2 := Aside0.mk (Pd.blk_below G2.out hb); clear hb; clear hq)
    | ((with_reducible refine gate_store (t := 27) (p := 2) rfl ?_); refine row_event rfl (t := 27) (p := 2) (v := .tmp 13) rfl rfl (g := g2) (cs := pcs q0 B1 d1 B2 d2 B3 d3) (zs := pcs p A1 c1 A2 c2 A3 c3) rfl rfl G2.out info_prod rfl (pcs_one _ _ _ _ _ _ _) ?_; intro x1 hb8 hbut; have G2 := Aside0.mk hb8; have HB := Aside0.mk (But.below HB.out HB.out.size ge2 hbut); clear hb8 hbut)
    | ((with_reducible refine gate_dst (N := 20) rfl ?_); refine wpList_load_row rfl 27 (.tmp 2) rfl g2 rfl 27 _ (0, 0) _ G2.out Try.underlying27 rfl info_prod ?_)
    | (go_at_call 11; (with_reducible refine (OF.out _ _ _ _ _ _ HQ.out _ HB.out).mono ?_); rintro e y1 ⟨A, c, rfl, -, hb⟩; have HB := Aside0.mk (below_step HB.out hb); have G2 := Aside0.mk (Pd.blk_below G2.out hb); clear hb)
    | (go_at_call 12; (with_reducible refine (AK.out _ HB.out).mono ?_); rintro e y5 ⟨rfl, hb⟩; have HB := Aside0.mk (below_step HB.out hb); have G2 := Aside0.mk (Pd.blk_below G2.out hb); clear hb; have u3 : y5.cell? ⟨g2, 3, none⟩ = some (.int .i64 1) := (blk_cell G2.out 3).trans HK.out))
  go_ret
  exact ⟨rfl, by first | exact HB.out | exact Below.drew HB.out | exact pw_below_drewN HB.out _⟩
set_option maxRecDepth 100000 in
set_option maxHeartbeats 20000000 in
theorem sums_there (p : Prod) (A1 : Option Addr) (c1 : Nat) (A2 : Option Addr) (c2 : Nat) (A3 : Option Addr) (c3 : Nat) (a1 M : Int) (q0 : Prod) (w : World) (hgv : GV w) (hp : ProdAt w p A1 c1 A2 c2 A3 c3) (m0 : IntKind.i64.wrap (Int.tmod (IntKind.u64.wrap a1) 10000000000000) = U a1 10000000000000) (s0 : IntKind.i64.wrap (1 + U a1 10000000000000) = M) (hM0 : 1 ≤ M) (hM1 : M ≤ 10000000000000) (hne : ∀ W, Below w.heap.size w W → Calls Try.prog 10 #[pv p A1 c1 A2 c2 A3 c3, .int .i64 40] W (NearE p A1 c1 A2 c2 A3 c3 q0 W)) (oq : ok q0 = true) (nt : q0.times ≤ 40) (ls : List Ln) (hs : schedP q0 19723 M = (ls, 0)) :
    Calls Try.prog 3 #[pv p A1 c1 A2 c2 A3 c3, .int .i64 a1] w fun e w' => e = .returned (.bool true) ∧ Below w.heap.size w w' := by
  have HG := Aside0.mk hgv
  have HP := Aside0.mk hp
  have NE := Aside0.mk hne
  have AK := Aside0.mk (fun (W : World) (hb : Below w.heap.size w W) => sched_awake W (hgv.below hb))
  have sq := ok_small oq
  obtain ⟨hl, hlk, hint⟩ := sched_looks hs
  obtain ⟨g0, gtm, k123, -⟩ := ok_grace oq
  obtain ⟨tn, htn⟩ : ∃ tn : Nat, q0.times = (tn : Int) := ⟨q0.times.toNat, by omega⟩
  obtain ⟨tm, htm⟩ : ∃ tm : Nat, (tn : Int) - 1 = (tm : Int) := ⟨tn - 1, by omega⟩
  obtain ⟨gr, hgr⟩ : ∃ gr, q0.grace = gr := ⟨_, rfl⟩
  obtain ⟨kd, hkd⟩ : ∃ kd, q0.kind = kd := ⟨_, rfl⟩
  have LLt : ls.length = tn := by omega
  have OF := Aside0.mk (fun (B1 : Option Addr) (d1 : Nat) (B2 : Option Addr) (d2 : Nat) (B3 : Option Addr) (d3 : Nat) (hq : ∀ w0, ProdAt w0 p A1 c1 A2 c2 A3 c3 → ProdAt w0 q0 B1 d1 B2 d2 B3 d3) (W : World) (hb : Below w.heap.size w W) => show Calls Try.prog 11 #[pv q0 B1 d1 B2 d2 B3 d3, .int .i64 19723, .int .i64 M] W (fun e w' => ∃ gn c, e = .returned (.tuple #[.slice (some ⟨gn, 0, none⟩) tn c, .int .i64 0]) ∧ tn ≤ c ∧ (Kd.pair (Kd.int .i64) (Kd.pair (Kd.int .i64) (Kd.pair (Kd.int .i64) (Kd.int .i64)))).C w' (some ⟨gn, 0, none⟩) tn ls ∧ Below W.heap.size W w') from by
    have h := sched_any q0 B1 d1 B2 d2 B3 d3 19723 M W (HG.out.below hb) (hq W (HP.out.below hb)) sq
    rw [hs] at h
    refine h.mono ?_
    rintro e w' h
    have h := Sched.one h (by omega)
    rw [LLt] at h
    exact h)
  have HT := Aside0.mk (show (pcs q0 none 0 none 0 none 0)[5]? = some (.int .i64 (tn : Int)) from by rw [← htn]; rfl)
  have HGR := Aside0.mk (show (pcs q0 none 0 none 0 none 0)[6]? = some (.int .i64 gr) from by rw [← hgr]; rfl)
  have HKD := Aside0.mk (show (pcs q0 none 0 none 0 none 0)[3]? = some (.int .i64 kd) from by rw [← hkd]; rfl)
  have AT := Aside0.mk (looks_at ls 0 M 19723 hlk)
  have AE := Aside0.mk (looks_end ls 0 M 19723 hlk)
  have AI := Aside0.mk hint
  have TW := Aside0.mk (fun (h : kd = 1) (h2 : gr < (tm : Int)) (k : Nat) (hk : (k : Int) = (tn : Int) - 2) (x y : Ln) (h3 : ls[k]? = some x) (h4 : ls[k + 1]? = some y) => sched_last2 hs (by omega) (by omega) (k := k) (by omega) h3 h4)
  have LL := Aside0.mk LLt
  have HTM := Aside0.mk (And.intro htm (And.intro g0 htn))
  have HG2 := Aside0.mk hgr
  have sT : IntKind.i64.wrap ((tn : Int) - 1) = (tm : Int) := by rw [htm]; exact IntWalk.i64_in _ (by omega)
  have tn40 := Aside0.mk (show tn ≤ 40 by omega)
  have hmt : (tm : Int) < (tn : Int) := by omega
  clear hgv hp hne oq nt sq hs hl hlk hint htn htm hgr hkd g0 gtm k123 LLt
  go_enter Try.func3, Try.ntmps3
  go_wp2_with ((with_reducible refine gate_dst (N := 2) rfl ?_); refine box_event ?hg (N := 2) ?hd (cs := pcs p A1 c1 A2 c2 A3 c3) (t := 27) ?hr ?_; (case hd => rfl); (case hg => rfl); (case hr => first | (go_simp; done) | (go_simp; rfl)); intro g2 hg v0 hb1 hbl1; have ge2 := (show w.heap.size ≤ g2 by rw [hg]; exact Nat.le_refl _); clear hg; have G2 := Aside0.mk hb1; have HB := Aside0.mk hbl1; clear hb1 hbl1; refine Hid.out ?_)
  refine Lib.hid ?_
  go_wp2_with (first
    | ((with_reducible refine gate_dst (N := 12) rfl ?_); refine wpList_load_row rfl 27 (.tmp 2) rfl g2 rfl 27 _ (0, 0) _ G2.out Try.underlying27 rfl info_prod ?_)
    | (go_at_call 10; (with_reducible refine (NE.out _ HB.out).mono ?_); rintro e y47 ⟨B1, d1, B2, d2, B3, d3, rfl, hq, hb⟩; have HQ := Aside0.mk hq; have HB := Aside0.mk (below_step HB.out hb); have G2 := Aside0.mk (Pd.blk_below G2.out hb); clear hb; clear hq)
    | ((with_reducible refine gate_store (t := 27) (p := 2) rfl ?_); refine row_event rfl (t := 27) (p := 2) (v := .tmp 13) rfl rfl (g := g2) (cs := pcs q0 B1 d1 B2 d2 B3 d3) (zs := pcs p A1 c1 A2 c2 A3 c3) rfl rfl G2.out info_prod rfl (pcs_one _ _ _ _ _ _ _) ?_; intro x1 hb8 hbut; have G2 := Aside0.mk hb8; have HB := Aside0.mk (But.below HB.out HB.out.size ge2 hbut); clear hb8 hbut)
    | ((with_reducible refine gate_dst (N := 20) rfl ?_); refine wpList_load_row rfl 27 (.tmp 2) rfl g2 rfl 27 _ (0, 0) _ G2.out Try.underlying27 rfl info_prod ?_)
    | (go_at_call 11; (with_reducible refine (OF.out _ _ _ _ _ _ HQ.out _ HB.out).mono ?_); rintro e y1 ⟨gn, c, rfl, hle, hC, hb⟩; have HB := Aside0.mk (below_step HB.out hb); have G2 := Aside0.mk (Pd.blk_below G2.out hb); have HC := Aside0.mk hC; clear hb hC)
    | (go_at_call 12; (with_reducible refine (AK.out _ HB.out).mono ?_); rintro e y5 ⟨rfl, hb⟩; have HB := Aside0.mk (below_step HB.out hb); have G2 := Aside0.mk (Pd.blk_below G2.out hb); have HC := Aside0.mk (Kd.C_below HC.out hb); clear hb; have u5 : y5.cell? ⟨g2, 5, none⟩ = some (.int .i64 (tn : Int)) := (blk_cell G2.out 5).trans HT.out))
  go_loopg [7, 8] (tn + 1) (fun gq sv iv w' => ∃ (k : Nat), k ≤ tn ∧ sv = .int .i64 (pl (19723, 0, 0, M) ls k).2.2.2 ∧ iv = .int .i64 (k : Int) ∧ Aside0 (gq = tn + 1 - k) ∧ Aside0 ((Kd.pair (Kd.int .i64) (Kd.pair (Kd.int .i64) (Kd.pair (Kd.int .i64) (Kd.int .i64)))).C w' (some ⟨gn, 0, none⟩) tn ls) ∧ Aside0 (w'.heap[g2]? = some (.cells (pcs q0 B1 d1 B2 d2 B3 d3) 27 (0, 0))) ∧ Aside0 (Below w.heap.size w w'))
  case atStart => exact ⟨0, by omega, rfl, rfl, ⟨rfl⟩, HC, G2, HB⟩
  case round =>
    obtain ⟨k, kn, rfl, rfl, hgq, HC, G2, HB⟩ := hrel
    have tnb : tn ≤ 40 := tn40.out
    have u5 : wr.cell? ⟨g2, 5, none⟩ = some (.int .i64 (tn : Int)) := (blk_cell G2.out 5).trans HT.out
    obtain ⟨lf, hlf⟩ : ∃ lf, (pl (19723, 0, 0, M) ls k).2.2.2 = lf := ⟨_, rfl⟩
    rw [hlf]
    by_cases hlt : (k : Int) < (tn : Int)
    · have hkl : k < ls.length := by have := LL.out; omega
      obtain ⟨⟨dx, px, ix, lx⟩, hx⟩ : ∃ x, ls[k]? = some x := ⟨_, List.getElem?_eq_getElem hkl⟩
      have HX := Aside0.mk (show ls.getD k (19723, 0, 0, M) = (dx, px, ix, lx) by rw [List.getD_eq_getElem?_getD, hx]; rfl)
      have HR := Aside0.mk (lines_range HC.out LL.out.symm hx)
      obtain ⟨r1, r2, r3, r4, r5, r6, r7⟩ := AT.out k _ hx
      obtain ⟨pd, hpd⟩ : ∃ x, (pl (19723, 0, 0, M) ls k).1 = x := ⟨_, rfl⟩
      rw [hpd] at r7
      rw [hlf] at r1
      have q1 : lx = lf - px := r1
      have q2 : 0 ≤ px := r2
      have q3 : 0 ≤ ix := r3
      have q4 : 0 ≤ lx := r4
      have q5 : lx ≤ M := r5
      have q6 : (0 : Int) + k < q0.grace → px = 0 := r6
      have q7 : pd < dx := r7
      have hsub : IntKind.i64.wrap (lf - px) = lx := by rw [← q1]; exact IntWalk.i64_in _ (by omega)
      have t1 : decide (px < 0) = false := decide_eq_false (by omega)
      have t2 : decide (ix < 0) = false := decide_eq_false (by omega)
      have t3 : decide (lx < 0) = false := decide_eq_false (by omega)
      have t4 : decide (dx ≤ pd) = false := decide_eq_false (by omega)
      have hpj : ∀ j, k = j + 1 → ∀ W : World, (Kd.pair (Kd.int .i64) (Kd.pair (Kd.int .i64) (Kd.pair (Kd.int .i64) (Kd.int .i64)))).C W (some ⟨gn, 0, none⟩) tn ls → W.cell? ⟨gn, j * 4, none⟩ = some (.int .i64 pd) := fun j e W hc => by
        subst e
        have hj : j < ls.length := by omega
        have hxj : ls[j]? = some ls[j] := List.getElem?_eq_getElem hj
        have := (lines_cells hc LL.out.symm hxj).1
        rw [pl_succ, List.getD_eq_getElem?_getD, hxj] at hpd
        rw [this, ← hpd]
        rfl
      have HPJ := Aside0.mk hpj
      have hgrk : (k : Int) < gr → px = 0 := fun h => q6 (by have := HG2.out; omega)
      have hlk2 : (k : Int) < (tn : Int) := hlt
      clear q1 q2 q3 q4 q5 q6 q7 r1 r2 r3 r4 r5 r6 r7 hx hkl hpd hpj hlf
      by_cases hgk : (k : Int) < gr
      · obtain rfl := hgrk hgk
        have hsub : IntKind.i64.wrap lf = lx := by simpa using hsub
        clear hgrk
        rcases (show k = 0 ∨ ∃ j, k = j + 1 by cases k with | zero => exact .inl rfl | succ j => exact .inr ⟨j, rfl⟩) with hk0 | ⟨j, hkj⟩
        · have hj0 : decide ((0 : Int) < (k : Int)) = false := decide_eq_false (by omega)
          have hj0' : decide (0 < k) = false := decide_eq_false (by omega)
          clear hk0
          go_wp2_with (first
            | ((with_reducible refine gate_dst (N := 69) rfl ?_); refine wpList_load_mid rfl 36 (.tmp 68) rfl gn (k * 4) ?hx [.int .i64 dx, .int .i64 0, .int .i64 ix, .int .i64 lx] _ HR.out Try.underlying36 rfl info_line ?_; (case hx => first | rfl | (go_simp; done) | (go_simp; rfl)))
            | ((with_reducible refine gate_dst (N := 9) rfl ?_); refine copy_event rfl (N := 9) rfl rfl rfl (t := 36) (v := .tmp 69) rfl (cs := #[.int .i64 dx, .int .i64 0, .int .i64 ix, .int .i64 lx]) (zs := #[.int .i64 0, .int .i64 0, .int .i64 0, .int .i64 0]) ?hr rfl rfl info_line ?hz (line_one _ _ _ _) ?_; (case hr => first | (go_simp; done) | (go_simp; rfl)); (case hz => rfl); intro gt hgt w11 hb1 hb; have GT := Aside0.mk hb1; have HB := Aside0.mk (below_step HB.out hb); have G2 := Aside0.mk (Pd.blk_below G2.out hb); have HC := Aside0.mk (Kd.C_below HC.out hb); have v0 := (show w11.cell? ⟨gt, 0, none⟩ = some (.int .i64 dx) from (blk_cell GT.out 0).trans rfl); have v1 := (show w11.cell? ⟨gt, 1, none⟩ = some (.int .i64 0) from (blk_cell GT.out 1).trans rfl); have v2 := (show w11.cell? ⟨gt, 2, none⟩ = some (.int .i64 ix) from (blk_cell GT.out 2).trans rfl); have v3 := (show w11.cell? ⟨gt, 3, none⟩ = some (.int .i64 lx) from (blk_cell GT.out 3).trans rfl); have u6 : w11.cell? ⟨g2, 6, none⟩ = some (.int .i64 gr) := (blk_cell G2.out 6).trans HGR.out; skip; clear hgt hb1 hb u5))
          go_quiet (fail)
          go_wp2_with fail
          go_roundg (tn + 1 - (k + 1))
          case measure => have := hgq.out; omega
          case rel => exact ⟨k + 1, by omega, by rw [pl_succ, HX.out], by simp, ⟨rfl⟩, ⟨HC.out⟩, ⟨G2.out⟩, ⟨by first | exact HB.out | exact Below.drew HB.out | exact pw_below_drewN HB.out _⟩⟩
        · have hj1 : decide ((0 : Int) < (k : Int)) = true := decide_eq_true (by omega)
          have hj1' : decide (0 < k) = true := decide_eq_true (by omega)
          have hjz : (j : Int) < (tn : Int) := by omega
          have hjs : IntKind.i64.wrap ((k : Int) - 1) = (j : Int) := by rw [IntWalk.i64_in _ (by have := tn40.out; omega)]; omega
          have HPJ := Aside0.mk (HPJ.out j hkj)
          clear hkj
          go_wp2_with (first
            | ((with_reducible refine gate_dst (N := 69) rfl ?_); refine wpList_load_mid rfl 36 (.tmp 68) rfl gn (k * 4) ?hx [.int .i64 dx, .int .i64 0, .int .i64 ix, .int .i64 lx] _ HR.out Try.underlying36 rfl info_line ?_; (case hx => first | rfl | (go_simp; done) | (go_simp; rfl)))
            | ((with_reducible refine gate_dst (N := 9) rfl ?_); refine copy_event rfl (N := 9) rfl rfl rfl (t := 36) (v := .tmp 69) rfl (cs := #[.int .i64 dx, .int .i64 0, .int .i64 ix, .int .i64 lx]) (zs := #[.int .i64 0, .int .i64 0, .int .i64 0, .int .i64 0]) ?hr rfl rfl info_line ?hz (line_one _ _ _ _) ?_; (case hr => first | (go_simp; done) | (go_simp; rfl)); (case hz => rfl); intro gt hgt w11 hb1 hb; have GT := Aside0.mk hb1; have HB := Aside0.mk (below_step HB.out hb); have G2 := Aside0.mk (Pd.blk_below G2.out hb); have HC := Aside0.mk (Kd.C_below HC.out hb); have v0 := (show w11.cell? ⟨gt, 0, none⟩ = some (.int .i64 dx) from (blk_cell GT.out 0).trans rfl); have v1 := (show w11.cell? ⟨gt, 1, none⟩ = some (.int .i64 0) from (blk_cell GT.out 1).trans rfl); have v2 := (show w11.cell? ⟨gt, 2, none⟩ = some (.int .i64 ix) from (blk_cell GT.out 2).trans rfl); have v3 := (show w11.cell? ⟨gt, 3, none⟩ = some (.int .i64 lx) from (blk_cell GT.out 3).trans rfl); have u6 : w11.cell? ⟨g2, 6, none⟩ = some (.int .i64 gr) := (blk_cell G2.out 6).trans HGR.out; have cj := HPJ.out _ HC.out; clear hgt hb1 hb u5))
          go_quiet (fail)
          go_wp2_with fail
          go_roundg (tn + 1 - (k + 1))
          case measure => have := hgq.out; omega
          case rel => exact ⟨k + 1, by omega, by rw [pl_succ, HX.out], by simp, ⟨rfl⟩, ⟨HC.out⟩, ⟨G2.out⟩, ⟨by first | exact HB.out | exact Below.drew HB.out | exact pw_below_drewN HB.out _⟩⟩
      · clear hgrk
        have hgf : decide ((k : Int) < gr) = false := decide_eq_false hgk
        rcases (show k = 0 ∨ ∃ j, k = j + 1 by cases k with | zero => exact .inl rfl | succ j => exact .inr ⟨j, rfl⟩) with hk0 | ⟨j, hkj⟩
        · have hj0 : decide ((0 : Int) < (k : Int)) = false := decide_eq_false (by omega)
          have hj0' : decide (0 < k) = false := decide_eq_false (by omega)
          clear hk0
          go_wp2_with (first
            | ((with_reducible refine gate_dst (N := 69) rfl ?_); refine wpList_load_mid rfl 36 (.tmp 68) rfl gn (k * 4) ?hx [.int .i64 dx, .int .i64 px, .int .i64 ix, .int .i64 lx] _ HR.out Try.underlying36 rfl info_line ?_; (case hx => first | rfl | (go_simp; done) | (go_simp; rfl)))
            | ((with_reducible refine gate_dst (N := 9) rfl ?_); refine copy_event rfl (N := 9) rfl rfl rfl (t := 36) (v := .tmp 69) rfl (cs := #[.int .i64 dx, .int .i64 px, .int .i64 ix, .int .i64 lx]) (zs := #[.int .i64 0, .int .i64 0, .int .i64 0, .int .i64 0]) ?hr rfl rfl info_line ?hz (line_one _ _ _ _) ?_; (case hr => first | (go_simp; done) | (go_simp; rfl)); (case hz => rfl); intro gt hgt w11 hb1 hb; have GT := Aside0.mk hb1; have HB := Aside0.mk (below_step HB.out hb); have G2 := Aside0.mk (Pd.blk_below G2.out hb); have HC := Aside0.mk (Kd.C_below HC.out hb); have v0 := (show w11.cell? ⟨gt, 0, none⟩ = some (.int .i64 dx) from (blk_cell GT.out 0).trans rfl); have v1 := (show w11.cell? ⟨gt, 1, none⟩ = some (.int .i64 px) from (blk_cell GT.out 1).trans rfl); have v2 := (show w11.cell? ⟨gt, 2, none⟩ = some (.int .i64 ix) from (blk_cell GT.out 2).trans rfl); have v3 := (show w11.cell? ⟨gt, 3, none⟩ = some (.int .i64 lx) from (blk_cell GT.out 3).trans rfl); have u6 : w11.cell? ⟨g2, 6, none⟩ = some (.int .i64 gr) := (blk_cell G2.out 6).trans HGR.out; skip; clear hgt hb1 hb u5))
          go_quiet (fail)
          go_wp2_with fail
          go_roundg (tn + 1 - (k + 1))
          case measure => have := hgq.out; omega
          case rel => exact ⟨k + 1, by omega, by rw [pl_succ, HX.out], by simp, ⟨rfl⟩, ⟨HC.out⟩, ⟨G2.out⟩, ⟨by first | exact HB.out | exact Below.drew HB.out | exact pw_below_drewN HB.out _⟩⟩
        · have hj1 : decide ((0 : Int) < (k : Int)) = true := decide_eq_true (by omega)
          have hj1' : decide (0 < k) = true := decide_eq_true (by omega)
          have hjz : (j : Int) < (tn : Int) := by omega
          have hjs : IntKind.i64.wrap ((k : Int) - 1) = (j : Int) := by rw [IntWalk.i64_in _ (by have := tn40.out; omega)]; omega
          have HPJ := Aside0.mk (HPJ.out j hkj)
          clear hkj
          go_wp2_with (first
            | ((with_reducible refine gate_dst (N := 69) rfl ?_); refine wpList_load_mid rfl 36 (.tmp 68) rfl gn (k * 4) ?hx [.int .i64 dx, .int .i64 px, .int .i64 ix, .int .i64 lx] _ HR.out Try.underlying36 rfl info_line ?_; (case hx => first | rfl | (go_simp; done) | (go_simp; rfl)))
            | ((with_reducible refine gate_dst (N := 9) rfl ?_); refine copy_event rfl (N := 9) rfl rfl rfl (t := 36) (v := .tmp 69) rfl (cs := #[.int .i64 dx, .int .i64 px, .int .i64 ix, .int .i64 lx]) (zs := #[.int .i64 0, .int .i64 0, .int .i64 0, .int .i64 0]) ?hr rfl rfl info_line ?hz (line_one _ _ _ _) ?_; (case hr => first | (go_simp; done) | (go_simp; rfl)); (case hz => rfl); intro gt hgt w11 hb1 hb; have GT := Aside0.mk hb1; have HB := Aside0.mk (below_step HB.out hb); have G2 := Aside0.mk (Pd.blk_below G2.out hb); have HC := Aside0.mk (Kd.C_below HC.out hb); have v0 := (show w11.cell? ⟨gt, 0, none⟩ = some (.int .i64 dx) from (blk_cell GT.out 0).trans rfl); have v1 := (show w11.cell? ⟨gt, 1, none⟩ = some (.int .i64 px) from (blk_cell GT.out 1).trans rfl); have v2 := (show w11.cell? ⟨gt, 2, none⟩ = some (.int .i64 ix) from (blk_cell GT.out 2).trans rfl); have v3 := (show w11.cell? ⟨gt, 3, none⟩ = some (.int .i64 lx) from (blk_cell GT.out 3).trans rfl); have u6 : w11.cell? ⟨g2, 6, none⟩ = some (.int .i64 gr) := (blk_cell G2.out 6).trans HGR.out; have cj := HPJ.out _ HC.out; clear hgt hb1 hb u5))
          go_quiet (fail)
          go_wp2_with fail
          go_roundg (tn + 1 - (k + 1))
          case measure => have := hgq.out; omega
          case rel => exact ⟨k + 1, by omega, by rw [pl_succ, HX.out], by simp, ⟨rfl⟩, ⟨HC.out⟩, ⟨G2.out⟩, ⟨by first | exact HB.out | exact Below.drew HB.out | exact pw_below_drewN HB.out _⟩⟩
    · obtain rfl : k = tn := by omega
      have hend : lf = 0 := by rw [← hlf]; have := AE.out; rw [LL.out] at this; exact this
      subst hend
      clear hlf
      have u3 : wr.cell? ⟨g2, 3, none⟩ = some (.int .i64 kd) := (blk_cell G2.out 3).trans HKD.out
      have u6 : wr.cell? ⟨g2, 6, none⟩ = some (.int .i64 gr) := (blk_cell G2.out 6).trans HGR.out
      by_cases hk1 : kd = 1
      · subst hk1
        by_cases hgm : gr < (tm : Int)
        · obtain ⟨m2, hm2⟩ : ∃ m2 : Nat, (tm : Int) - 1 = (m2 : Int) := ⟨tm - 1, by have := HTM.out; have := HG2.out; omega⟩
          obtain ⟨⟨d1_, p1_, i1_, l1_⟩, hx1⟩ : ∃ x, ls[m2]? = some x := ⟨_, List.getElem?_eq_getElem (by have := LL.out; have := HTM.out; omega)⟩
          have etm : tm = m2 + 1 := by omega
          obtain ⟨⟨d2_, p2_, i2_, l2_⟩, hx2⟩ : ∃ x, ls[tm]? = some x := ⟨_, List.getElem?_eq_getElem (by have := LL.out; have := HTM.out; omega)⟩
          obtain ⟨b1_, b2_⟩ := TW.out rfl hgm m2 (by have := HTM.out; omega) _ _ hx1 (by rw [← etm]; exact hx2)
          have ht := HTM.out.2.2
          rw [ht] at b1_ b2_
          have b1 : p2_ + i2_ - (p1_ + i1_) ≤ (k : Int) := b1_
          have b2 : 0 < l1_ → -(k : Int) ≤ p2_ + i2_ - (p1_ + i1_) := b2_
          obtain ⟨-, g1_, g2_, g3_, g4_, -, -⟩ := AT.out m2 _ hx1
          obtain ⟨h0_, h1_, h2_, h3_, -, -, -⟩ := AT.out tm _ hx2
          have e1 : 0 ≤ p1_ := g1_
          have e2 : 0 ≤ i1_ := g2_
          have f1 : 0 ≤ p2_ := h1_
          have f2 : 0 ≤ i2_ := h2_
          have e5 : i1_ ≤ 1000000000000000 := AI.out _ (List.mem_of_getElem? hx1)
          have f5 : i2_ ≤ 1000000000000000 := AI.out _ (List.mem_of_getElem? hx2)
          have f6 : p2_ ≤ M := by
            rw [etm, pl_succ, List.getD_eq_getElem?_getD, hx1] at h0_
            have f0 : l2_ = l1_ - p2_ := h0_
            have f3 : 0 ≤ l2_ := h3_
            have e4 : l1_ ≤ M := g4_
            omega
          have e6 : p1_ ≤ 10000000000000 := by
            have h := (AT.out m2 _ hx1)
            have h1 : l1_ = (pl (19723, 0, 0, M) ls m2).2.2.2 - p1_ := h.1
            have e3 : 0 ≤ l1_ := g3_
            rcases (show m2 = 0 ∨ ∃ j, m2 = j + 1 by cases m2 with | zero => exact .inl rfl | succ j => exact .inr ⟨j, rfl⟩) with hz | ⟨j, hj⟩
            · rw [hz] at h1
              have h1 : l1_ = M - p1_ := h1
              omega
            · obtain ⟨z, hz⟩ : ∃ z, ls[j]? = some z := ⟨_, List.getElem?_eq_getElem (by have := LL.out; have := HTM.out; omega)⟩
              have h2 := (AT.out j _ hz).2.2.2.2.1
              rw [hj, pl_succ, List.getD_eq_getElem?_getD, hz] at h1
              have h1 : l1_ = z.2.2.2 - p1_ := h1
              omega
          obtain ⟨-, c1a, c1b, c1c⟩ := lines_cells HC.out LL.out.symm hx1
          obtain ⟨-, c2a, c2b, c2c⟩ := lines_cells HC.out LL.out.symm hx2
          have sM : IntKind.i64.wrap ((tm : Int) - 1) = (m2 : Int) := by rw [hm2]; exact IntWalk.i64_in _ (by omega)
          have hm2k : (m2 : Int) < (k : Int) := by omega
          have sN : IntKind.i64.wrap (-(k : Int)) = -(k : Int) := IntWalk.i64_in _ (by have := tn40.out; omega)
          have w1 : IntKind.i64.wrap (p2_ + i2_) = p2_ + i2_ := IntWalk.i64_in _ (by omega)
          have w2 : IntKind.i64.wrap (p2_ + i2_ - p1_) = p2_ + i2_ - p1_ := IntWalk.i64_in _ (by omega)
          obtain ⟨off, hoff⟩ : ∃ x, p2_ + i2_ - p1_ - i1_ = x := ⟨_, rfl⟩
          have w3 : IntKind.i64.wrap (p2_ + i2_ - p1_ - i1_) = off := by rw [hoff]; exact IntWalk.i64_in _ (by omega)
          have o1 : decide ((k : Int) < off) = false := decide_eq_false (by omega)
          have o2 : 0 < l1_ → decide (off < -(k : Int)) = false := fun h => decide_eq_false (by have := b2 h; omega)
          clear hx1 hx2 b1 b2 b1_ b2_ e1 e2 f1 f2 e5 f5 f6 e6 hm2 etm ht hoff g1_ g2_ g3_ g4_ h0_ h1_ h2_ h3_
          by_cases hl1 : 0 < l1_
          · have o2 := o2 hl1
            go_wp2_with fail
            go_quiet (fail)
            go_wp2_with fail
            go_ret
            exact ⟨rfl, by first | exact HB.out | exact Below.drew HB.out | exact pw_below_drewN HB.out _⟩
          · clear o2
            go_wp2_with fail
            go_quiet (fail)
            go_wp2_with fail
            go_ret
            exact ⟨rfl, by first | exact HB.out | exact Below.drew HB.out | exact pw_below_drewN HB.out _⟩
        · go_wp2_with fail
          go_ret
          exact ⟨rfl, by first | exact HB.out | exact Below.drew HB.out | exact pw_below_drewN HB.out _⟩
      · have hkf : (kd == 1) = false := by simpa using hk1
        go_wp2_with fail
        go_ret
        exact ⟨rfl, by first | exact HB.out | exact Below.drew HB.out | exact pw_below_drewN HB.out _⟩
theorem scheduleSums_walk (p : Prod) (A1 : Option Addr) (c1 : Nat) (A2 : Option Addr) (c2 : Nat) (A3 : Option Addr) (c3 : Nat) (a1 : Int) (w : World) (hp : ProdAt w p A1 c1 A2 c2 A3 c3) (hz0 : p.name.size ≤ maxLen) (hz1 : c1 ≤ maxLen) (hz2 : c2 ≤ maxLen) (hz3 : c3 ≤ maxLen) (ws : (Lit.int .i64 a1).wf = true) (hgv : GV w) (hd : Held p) :
    Calls Try.prog 3 #[pv p A1 c1 A2 c2 A3 c3, .int .i64 a1] w fun e w' => e = .returned (.bool true) ∧ Below w.heap.size w w' := by
  have hne : ∀ W, Below w.heap.size w W → Calls Try.prog 10 #[pv p A1 c1 A2 c2 A3 c3, .int .i64 40] W (NearE p A1 c1 A2 c2 A3 c3 (nearP p 40) W) := fun W hb => near_any p A1 c1 A2 c2 A3 c3 40 W (hp.below hb) hd (by omega) (by omega)
  obtain ⟨oq, nt⟩ := near_valid p (n := 40) (by omega) (by omega)
  generalize nearP p 40 = q0 at hne oq nt
  have m0 := U_isC a1 (m := 10000000000000) (by omega) (by omega)
  obtain ⟨m0a, m0b⟩ := U_bd a1 (m := 10000000000000) (by omega)
  obtain ⟨M, hM⟩ : ∃ M, 1 + U a1 10000000000000 = M := ⟨_, rfl⟩
  have s0 : IntKind.i64.wrap (1 + U a1 10000000000000) = M := by rw [hM]; exact IntWalk.i64_in _ (by omega)
  rcases sched_code (start := 19723) (m := M) oq nt (by omega) (by omega) (by omega) (by omega) with h | ⟨h0, h | h | ⟨h, hk⟩⟩
  · exact sums_there p A1 c1 A2 c2 A3 c3 a1 M q0 w hgv hp m0 s0 (by omega) (by omega) hne oq nt (schedP q0 19723 M).1 (Prod.ext rfl h)
  · exact sums_11 p A1 c1 A2 c2 A3 c3 a1 M q0 w hgv hp m0 s0 (by omega) (by omega) hne oq nt (Prod.ext h0 h)
  · exact sums_3 p A1 c1 A2 c2 A3 c3 a1 M q0 w hgv hp m0 s0 (by omega) (by omega) hne oq nt (Prod.ext h0 h)
  · exact sums_10 p A1 c1 A2 c2 A3 c3 a1 M q0 w hgv hp m0 s0 (by omega) (by omega) hne oq nt hk (Prod.ext h0 h)
end Go.Proofs.Ytfmkdledofbhdaa.Sc
