/- Texts of this claim, joined in build order. -/
import Derived.Test.YtfmkdledofbhdaaGreatProg
import Derived.Below
import Derived.Deep.Draws
import Derived.Deep.AppendLies
import Derived.Maps.AppendAt
import Derived.OwnWalk
import Derived.Laws.BytesArg
import Derived.Laws.MakeOwn
import Derived.Laws.OwnMore
import Derived.Tactics
import Derived.Lib.ConvBytes
import Derived.Laws.Slices
import Derived.WalkKit
import Derived.KernelRfl
import Derived.RowKit3
import Derived.Deep.LoopGhost
import Derived.Deep.QuietTactic
import Derived.BigQuiet
import Derived.WideLaws
import Derived.Deep.DeepCutAuto
import Derived.Deep.CutBlock
import Derived.Deep.RegionHeld3
import Derived.Lib.AppendStr
import Derived.ArgAppend
import Derived.Laws.IdiomCopy
import Derived.OrdersHeld
import Derived.Laws.BitsLemmas
import Derived.RowKit
import Derived.Laws.StructEq
import Derived.WalkLawsBesides
import Derived.WalkSpells
import Derived.Lib.IndexMore
import Derived.Deep.Slices
import Derived.Deep.Fields
import Derived.ChangeSame
import Derived.Lib.SmallJoins
import Derived.ProofKit
import Derived.Defers
import Derived.Laws.Tables
import Derived.Deep.WholeRow
import Derived.Recover
import Derived.StillTailTactics
import Derived.IntWalk
import Derived.Shelf.Small.Bits
import Derived.Shelf.Strconv.Itoa0
import Derived.Shelf.Strings.Search1
import Derived.Shelf.Strings.Search2
import Derived.Shelf.Strings.Search3
import Derived.Shelf.LaysM
import Derived.Shelf.Strings.Shaped
import Derived.Shelf.Bits.Mul64
import Derived.Lib.SlBytesConst
import Derived.Deep.RegionWith
import Derived.Lib.Hide
import Derived.BigFrame
import Derived.Lib.BitFns
import Derived.Laws.BitsAllLaws
import Derived.Laws.Externs
import Derived.RegionTactic
import Derived.Deep.MidRow
import Derived.OpenShut
import Derived.ShutString
import Derived.ChangeOld
import Derived.Laws.IdiomArrays
import Derived.SizedLaws
import Derived.HandedShaped
import Derived.Shelf.Vars
import Derived.Test.YtfmkdledofbhdaaGreatJI1
import Derived.Test.YtfmkdledofbhdaaGreatJI2
import Derived.Test.YtfmkdledofbhdaaGreatJI3
import Derived.Test.YtfmkdledofbhdaaGreatJI4
import Derived.Test.YtfmkdledofbhdaaGreatJI5
import Derived.Test.YtfmkdledofbhdaaGreatJI6
import Derived.Test.YtfmkdledofbhdaaGreatJI7
set_option linter.unusedVariables false
set_option linter.unusedSimpArgs false
/- Plain law of schedule: the last line of an annuity; interest as1 one bearer bears it. -/
namespace Go.Proofs.YtfmkdledofbhdaaGreat.Sc
open Go.RowKit Go.Proofs.YtfmkdledofbhdaaGreatW.PrintWords Go.Proofs.YtfmkdledofbhdaaGreatW.PrintLast Go.Proofs.YtfmkdledofbhdaaGreatW.PrintMore Go.Proofs.YtfmkdledofbhdaaGreat.HW
open Go.Proofs.YtfmkdledofbhdaaGreat.Math Go.Proofs.YtfmkdledofbhdaaGreat.H Go.Proofs.YtfmkdledofbhdaaGreat.Pd Go.Proofs.YtfmkdledofbhdaaGreat.Du Go.Proofs.YtfmkdledofbhdaaGreat.Lv Pm
set_option linter.unusedVariables false
set_option linter.unusedSimpArgs false
def borne (W h rate : Int) : Int → Int → List Int → List Ln → Prop
 | left, rest, [], [] => True
 | left, rest, n :: r, x :: t => (Gm.bear W h rest left rate n).2.1 = 0 ∧ (Gm.bear W h rest left rate n).1 = x.2.2.1 ∧ borne W h rate x.2.2.2 (Gm.bear W h rest left rate n).2.2 r t
 | _, _, _, _ => False
theorem chain_borne {p : Prod} {m inst W h : Int} : ∀ (l : List (Int × Int)) (k left rest : Int) (ls : List Ln), Chain p W h m inst k left rest l ls → borne W h p.rate left rest (l.map (·.2)) ls
 | [], k, left, rest, [], c => trivial
 | [], k, left, rest, x :: t, c => by simp [Chain] at c
 | y :: r, k, left, rest, [], c => by simp [Chain] at c
 | (d, n) :: r, k, left, rest, x :: t, c => by
  obtain ⟨c1, c2, c3, c4, c5, c6, c7, c8⟩ := c
  exact ⟨c1, c5.symm, chain_borne r _ _ _ t c8⟩
end Go.Proofs.YtfmkdledofbhdaaGreat.Sc
/- Plain laws of schedule: what of a near product may be wrong; lines, one by one; equal parts. -/
namespace Go.Proofs.YtfmkdledofbhdaaGreat.Sc
open Go.RowKit Go.Proofs.YtfmkdledofbhdaaGreatW.PrintWords Go.Proofs.YtfmkdledofbhdaaGreatW.PrintLast Go.Proofs.YtfmkdledofbhdaaGreatW.PrintMore Go.Proofs.YtfmkdledofbhdaaGreat.HW
open Go.Proofs.YtfmkdledofbhdaaGreat.Math Go.Proofs.YtfmkdledofbhdaaGreat.H Go.Proofs.YtfmkdledofbhdaaGreat.Pd Go.Proofs.YtfmkdledofbhdaaGreat.Du Go.Proofs.YtfmkdledofbhdaaGreat.Lv Pm
set_option linter.unusedVariables false
set_option linter.unusedSimpArgs false
theorem none_up (l : List Int) : ∀ (k : Nat) (day : Int), (seekS l 1 k day).2 ≠ 0 → 84371 - day < (k : Int) → -25567 ≤ day → ∀ y, day ≤ y → y < 84371 → shutD l y
 | 0, day, h, hk, h0, y, y0, y1 => by omega
 | k + 1, day, h, hk, h0, y, y0, y1 => by
  rw [seekS_succ] at h
  split at h
  ·rename_i hd
   split at h
   ·exact absurd rfl h
   ·rename_i ho
    rcases (by omega : y = day ∨ day + 1 ≤ y) with rfl | h4
    ·exact ⟨hd, by simpa using ho⟩
    ·exact none_up l k (day + 1) h (by omega) (by omega) y h4 y1
  ·rename_i hd
   exact absurd ⟨h0, by omega⟩ hd
theorem none_down (l : List Int) : ∀ (k : Nat) (day : Int), (seekS l (-1) k day).2 ≠ 0 → day + 25568 < (k : Int) → day ≤ 84370 → ∀ y, -25567 ≤ y → y < day + 1 → shutD l y
 | 0, day, h, hk, h0, y, y0, y1 => by omega
 | k + 1, day, h, hk, h0, y, y0, y1 => by
  rw [seekS_succ] at h
  split at h
  ·rename_i hd
   split at h
   ·exact absurd rfl h
   ·rename_i ho
    rcases (by omega : y = day ∨ y < day + -1 + 1) with rfl | h4
    ·exact ⟨hd, by simpa using ho⟩
    ·exact none_down l k (day + -1) h (by omega) (by omega) y y0 h4
  ·rename_i hd
   exact absurd ⟨by omega, h0⟩ hd
theorem seek_there {l : List Int} (hl : l.length ≤ 200) {day : Int} (h0 : 0 ≤ day) (h1 : day ≤ 60000) : (seekS l 1 200000 day).2 = 0 ∧ (seekS l (-1) 200000 day).2 = 0 := by
 constructor
 ·rcases Decidable.em ((seekS l 1 200000 day).2 = 0) with h | h
  ·exact h
  ·have := shut_run hl (none_up l 200000 day h (by omega) (by omega))
   omega
 ·rcases Decidable.em ((seekS l (-1) 200000 day).2 = 0) with h | h
  ·exact h
  ·have := shut_run hl (none_down l 200000 day h (by omega) (by omega))
   omega
theorem roll_there {l : List Int} (hl : l.length ≤ 200) {day how : Int} (h0 : 0 ≤ day) (h1 : day ≤ 60000) (r1 : 1 ≤ how) (r2 : how ≤ 4) : (rollS l day how).2 = 0 := by
 obtain ⟨a, b⟩ := seek_there hl h0 h1
 unfold rollS
 rw [if_neg (fun g => g ⟨by omega, by omega⟩), if_neg (by omega)]
 split
 ·rfl
 ·split
  ·exact b
  ·split
   ·exact b
   ·exact a
theorem rolled_there {n e how : Int} {hol : List Int} (hd : isDay n) (hl : hol.length ≤ 200) (h1 : 0 ≤ n) (h2 : n < 20000) (e1 : 1 ≤ e) (e2 : e ≤ 12) (r1 : 1 ≤ how) (r2 : how ≤ 4) : ∀ (m : Nat) (i : Int), 0 ≤ i → i + m ≤ 40 → (rollAll hol how (drow n e m i)).2 = 0
 | 0, i, i0, h => rfl
 | m + 1, i, i0, h => by
  obtain ⟨p1, p2⟩ := mul_low (i := i + 1) (by omega) (by omega) e1 e2
  obtain ⟨u1, u2⟩ := A_up hd h2 p1 p2
  rw [drow, rollAll, if_pos (roll_there hl (by omega) u2 r1 r2)]
  unfold after
  rw [if_pos (rolled_there hd hl h1 h2 e1 e2 r1 r2 m (i + 1) (by omega) (by omega))]
theorem near_code {q : Prod} {start : Int} (hq : ok q = true) (ht : q.times ≤ 40) (h1 : 0 ≤ start) (h2 : start < 20000) : (daysP q start).2 = 0 ∨ (daysP q start).2 = 11 := by
 have hd : isDay start := ⟨by omega, by omega⟩
 obtain ⟨⟨⟨⟨⟨a1, a2, a3, a4, a5, a6, a7, a8⟩, _⟩, _⟩, _⟩, ⟨hl, ⟨ro1, ro2⟩, _⟩, _⟩ := (ok_iff q).1 hq
 have e1 : 1 ≤ q.every := by omega
 have e2 : q.every ≤ 12 := by omega
 have hdt : datesP start q.every q.times = (drow start q.every q.times.toNat 0, 0) := by
  unfold datesP
  rw [if_pos (by omega), dates_are hd h2 e1 e2 _ 0 [] (by omega) (by omega)]
  rfl
 have hr := rolled_there (hol := q.hol) (how := q.roll) hd hl h1 h2 e1 e2 ro1 ro2 q.times.toNat 0 (by omega) (by omega)
 unfold daysP
 rw [if_pos hq, hdt, if_pos rfl, if_pos hr]
 split
 ·exact .inl rfl
 ·exact .inr rfl
theorem lines_code {p : Prod} {m inst W h : Int} (m0 : 0 ≤ m) (g0 : 0 ≤ p.grace) (gt : p.grace < p.times) :
  ∀ (l : List (Int × Int)) (k left rest : Int), H.Good W h rest → Mid p m k left → 0 ≤ k → k + l.length = p.times → (lines p W h m inst k l left rest).2 = 0 ∨ (lines p W h m inst k l left rest).2 = 3 ∨ (lines p W h m inst k l left rest).2 = 10 ∧ p.kind = 1
 | [], k, left, rest, G, M, k0, kl => .inl rfl
 | (d, n) :: r, k, left, rest, G, M, k0, kl => by
  simp only [List.length_cons] at kl
  obtain ⟨p1, p2, p3⟩ := prin_bd (inst := inst) (v := (Gm.bear W h rest left p.rate n).1) M m0 g0 gt k0 (by omega)
  rw [lines]
  split
  ·rename_i h1
   show lerr p m inst k left (Gm.bear W h rest left p.rate n) = 0 ∨ lerr p m inst k left (Gm.bear W h rest left p.rate n) = 3 ∨ lerr p m inst k left (Gm.bear W h rest left p.rate n) = 10 ∧ p.kind = 1
   unfold lerr
   split
   ·exact .inr (.inl rfl)
   ·split
    ·rename_i h2
     refine .inr (.inr ⟨rfl, ?_⟩)
     rcases Decidable.em (p.kind = 1) with h3 | h3
     ·exact h3
     ·have := p2 h3
      omega
    ·split
     ·rename_i h2
      exact .inr (.inr ⟨rfl, h2.1⟩)
     ·exact .inl rfl
  ·rename_i h1
   split
   ·exact .inl rfl
   ·have e0 : lerr p m inst k left (Gm.bear W h rest left p.rate n) = 0 := by simpa using h1
    exact lines_code m0 g0 gt r (k + 1) _ _ (good_bear G) (p3 (lerr_zero e0).2.1) (by omega) (by omega)
theorem mid_start {p : Prod} {m : Int} (m0 : 0 ≤ m) (g0 : 0 ≤ p.grace) : Mid p m 0 m := ⟨m0, Int.le_refl m, fun _ _ => by rw [show max 0 (0 - p.grace) = 0 by omega]; omega⟩
theorem ok_grace {p : Prod} (h : ok p = true) : 0 ≤ p.grace ∧ p.grace < p.times ∧ (p.kind = 1 ∨ p.kind = 2 ∨ p.kind = 3) ∧ 0 ≤ p.rate ∧ p.rate ≤ 1000000000 := by
 obtain ⟨⟨⟨⟨⟨_, a2, a3, a4, a5, a6, a7, a8⟩, ⟨b1, b2, b3⟩, b4⟩, c⟩, d_⟩, e_⟩ := (ok_iff p).1 h
 omega
theorem zip_len {xs ys : List Int} {n : Int} (h1 : (xs.length : Int) = n) (h2 : ys.length = xs.length) : (0 : Int) + (xs.zip ys).length = n := by
 rw [List.length_zip]
 omega
theorem parts_known {p : Prod} {start : Int} {xs : List Int} (h : daysP p start = (xs, 0)) : ∃ ys, partsP p start = (ys, 0) ∧ ys.length = xs.length ∧ ∀ n ∈ ys, 0 ≤ n ∧ n ≤ 53436000 := by
 obtain ⟨ho, hs0, hds, hl, t1, t2, hr, -⟩ := days_known h
 refine ⟨rpartsL p.count start xs, ?_, rparts_len _ _ _, parts_may (count_known ho) _ _ hs0 hds hr⟩
 unfold partsP
 rw [h, if_pos rfl]
theorem sched_code {q : Prod} {start m : Int} (hq : ok q = true) (ht : q.times ≤ 40) (h1 : 0 ≤ start) (h2 : start < 20000) (m0 : 1 ≤ m) (m1 : m ≤ 10000000000000) :
  (schedP q start m).2 = 0 ∨ (schedP q start m).1 = [] ∧ ((schedP q start m).2 = 11 ∨ (schedP q start m).2 = 3 ∨ (schedP q start m).2 = 10 ∧ q.kind = 1) := by
 obtain ⟨g0, gt, -⟩ := ok_grace hq
 unfold schedP
 rcases near_code hq ht h1 h2 with hd | hd
 ·rw [if_neg (fun g => g hd), if_neg (fun g => g ⟨m0, m1⟩)]
  have hx : daysP q start = ((daysP q start).1, 0) := by rw [← hd]
  obtain ⟨ys, hy, hyl, hyb⟩ := parts_known hx
  have hl := (days_known hx).2.2.2.1
  have hlin : ∀ inst, (linesP q start m inst).2 = 0 ∨ (linesP q start m inst).1 = [] ∧ ((linesP q start m inst).2 = 11 ∨ (linesP q start m inst).2 = 3 ∨ (linesP q start m inst).2 = 10 ∧ q.kind = 1) := by
   intro inst
   unfold linesP
   rw [hy]
   rcases lines_code (inst := inst) (by omega) g0 gt ((daysP q start).1.zip ys) 0 m 0 (good_new q.count q.round) (mid_start (by omega) g0) (by omega) (zip_len hl hyl) with e | e | ⟨e, ek⟩
   ·exact .inl e
   ·exact .inr ⟨lines_err _ _ _ _ _ _ _ _ _ (by rw [e]; decide), .inr (.inl e)⟩
   ·exact .inr ⟨lines_err _ _ _ _ _ _ _ _ _ (by rw [e]; decide), .inr (.inr ⟨e, ek⟩)⟩
  split
  ·rename_i hk
   have ha : askE q (partsP q start).1 m = 0 := by rw [hy]; exact ask_parts hy ht h2 m0 m1
   split
   ·rename_i he
    refine .inr ⟨rfl, .inr (.inr ⟨?_, hk⟩)⟩
    revert he
    unfold ofE
    rw [if_neg (fun g => g ha)]
    split
    ·intro _; rfl
    ·intro g; exact absurd rfl g
   ·exact hlin _
  ·exact hlin _
 ·rw [if_pos (by rw [hd]; decide)]
  exact .inr ⟨rfl, .inl hd⟩
theorem sched_chain {p : Prod} {start m : Int} {ls : List Ln} (h : schedP p start m = (ls, 0)) :
  ∃ xs ys inst, daysP p start = (xs, 0) ∧ partsP p start = (ys, 0) ∧ ys.length = xs.length ∧ (∀ n ∈ ys, 0 ≤ n ∧ n ≤ 53436000) ∧ 1 ≤ m ∧ m ≤ 10000000000000 ∧ Chain p (Gm.whole p.count) (Gm.half p.count p.round) m inst 0 m 0 (xs.zip ys) ls := by
 unfold schedP at h
 split at h
 ·rename_i h1
  exact absurd (congrArg Prod.snd h) h1
 ·rename_i h1
  have hd : (daysP p start).2 = 0 := by simpa using h1
  have hx : daysP p start = ((daysP p start).1, 0) := by rw [← hd]
  obtain ⟨ys, hy, hyl, hyb⟩ := parts_known hx
  split at h
  ·exact absurd (show (16 : Int) = 0 from congrArg Prod.snd h) (by decide)
  ·rename_i hm
   have hm : 1 ≤ m ∧ m ≤ 10000000000000 := by omega
   have hlin : ∀ inst, linesP p start m inst = (ls, 0) → ∃ xs ys inst, daysP p start = (xs, 0) ∧ partsP p start = (ys, 0) ∧ ys.length = xs.length ∧ (∀ n ∈ ys, 0 ≤ n ∧ n ≤ 53436000) ∧ 1 ≤ m ∧ m ≤ 10000000000000 ∧ Chain p (Gm.whole p.count) (Gm.half p.count p.round) m inst 0 m 0 (xs.zip ys) ls := by
    intro inst hi
    unfold linesP at hi
    rw [hy] at hi
    exact ⟨(daysP p start).1, ys, inst, hx, hy, hyl, hyb, hm.1, hm.2, lines_chain _ _ _ _ _ hi⟩
   split at h
   ·split at h
    ·rename_i he
     exact absurd (congrArg Prod.snd h) he
    ·exact hlin _ h
   ·exact hlin _ h
def pl (x0 : Ln) (ls : List Ln) : Nat → Ln
 | 0 => x0
 | k + 1 => ls.getD k x0
theorem chain_int {p : Prod} {m inst W h : Int} : ∀ (l : List (Int × Int)) (k left rest : Int) (ls : List Ln), Chain p W h m inst k left rest l ls → ∀ x ∈ ls, x.2.2.1 ≤ 1000000000000000
 | [], k, left, rest, [], c, x, hx => by simp at hx
 | [], k, left, rest, y :: t, c, x, hx => by simp [Chain] at c
 | y :: r, k, left, rest, [], c, x, hx => by simp [Chain] at c
 | (d, n) :: r, k, left, rest, y :: t, c, x, hx => by
  obtain ⟨c1, c2, c3, c4, c5, c6, c7, c8⟩ := c
  rcases List.mem_cons.1 hx with rfl | hx
  ·obtain ⟨hm, hq, he⟩ := bear_ok c1
   rw [c5, he]
   exact hq
  ·exact chain_int r _ _ _ t c8 x hx
theorem sched_looks {p : Prod} {start m : Int} {ls : List Ln} (h : schedP p start m = (ls, 0)) : (ls.length : Int) = p.times ∧ looks p 0 m start ls ∧ (∀ x ∈ ls, x.2.2.1 ≤ 1000000000000000) := by
 obtain ⟨xs, ys, inst, hx, hy, hyl, hyb, m0, m1, c⟩ := sched_chain h
 obtain ⟨ho, hs0, hds, hl, t1, t2, hr, -⟩ := days_known hx
 obtain ⟨g0, gt, -⟩ := ok_grace ho
 have hz := zip_len hl hyl
 refine ⟨?_, ?_, chain_int _ _ _ _ _ c⟩
 ·rw [chain_len _ _ _ _ _ c]; omega
 ·refine chain_looks (by omega) m1 g0 gt _ 0 m 0 start ls (good_new _ _) c (mid_start (by omega) g0) (by omega) hz (.inl (by omega)) ?_
  rw [List.map_fst_zip (by omega)]
  exact hr
end Go.Proofs.YtfmkdledofbhdaaGreat.Sc
/- The law ScheduleInterest, walked. -/
namespace Go.Proofs.YtfmkdledofbhdaaGreat.Sc
open Go.RowKit Go.Proofs.YtfmkdledofbhdaaGreatW.PrintWords Go.Proofs.YtfmkdledofbhdaaGreatW.PrintLast Go.Proofs.YtfmkdledofbhdaaGreatW.PrintMore Go.Proofs.YtfmkdledofbhdaaGreat.HW
open Go.Proofs.YtfmkdledofbhdaaGreat.Math Go.Proofs.YtfmkdledofbhdaaGreat.H Go.Proofs.YtfmkdledofbhdaaGreat.Pd Go.Proofs.YtfmkdledofbhdaaGreat.Du Go.Proofs.YtfmkdledofbhdaaGreat.Lv Pm
set_option linter.unusedVariables false
set_option linter.unusedSimpArgs false
attribute [local go_sem] max2_int min2_int max_two min_two
theorem U_isC (x : Int) {m : Int} (h : 0 < m) (h2 : m ≤ 9000000000000000000) : IntKind.i64.wrap (Int.tmod (IntKind.u64.wrap x) m) = U x m := by
 have e : IntKind.u64.wrap x = x % 18446744073709551616 := rfl
 have hn := Int.emod_nonneg x (show (18446744073709551616 : Int) ≠ 0 by omega)
 have hb := U_bd x h
 rw [e, Int.tmod_eq_emod_of_nonneg hn]
 show IntKind.i64.wrap (U x m) = U x m
 exact IntWalk.i64_in _ (by omega)
theorem ok_small {q : Prod} (h : ok q = true) : Small q := by
 obtain ⟨⟨⟨⟨⟨a1, _⟩, ⟨_, _, b3⟩, _⟩, _⟩, ⟨d1, _⟩, _⟩, ⟨e1, _⟩, _⟩ := (ok_iff q).1 h
 simp only [nameOk, Bool.and_eq_true, decide_eq_true_eq] at a1
 have hn : q.name.data.toList.length = q.name.size := rfl
 exact ⟨by omega, by omega, by omega, by omega⟩
def LinesAt (w : World) (g : Nat) (ls : List Ln) : Prop := g < w.heap.size ∧ ∀ (i : Nat) (x : Ln), ls[i]? = some x →
  w.cell? ⟨g, i * 4, none⟩ = some (.int .i64 x.1) ∧ w.cell? ⟨g, i * 4 + 1, none⟩ = some (.int .i64 x.2.1) ∧ w.cell? ⟨g, i * 4 + 2, none⟩ = some (.int .i64 x.2.2.1) ∧ w.cell? ⟨g, i * 4 + 3, none⟩ = some (.int .i64 x.2.2.2)
theorem LinesAt.same {w w1 : World} {g : Nat} {ls : List Ln} (h : LinesAt w g ls) (hb : w1.heap[g]? = w.heap[g]?) (hs : w.heap.size ≤ w1.heap.size) : LinesAt w1 g ls :=
 ⟨Nat.lt_of_lt_of_le h.1 hs, fun i x hx => ⟨(World.cell?_of_block (a := ⟨g, i * 4, none⟩) hb).trans (h.2 i x hx).1, (World.cell?_of_block (a := ⟨g, i * 4 + 1, none⟩) hb).trans (h.2 i x hx).2.1, (World.cell?_of_block (a := ⟨g, i * 4 + 2, none⟩) hb).trans (h.2 i x hx).2.2.1, (World.cell?_of_block (a := ⟨g, i * 4 + 3, none⟩) hb).trans (h.2 i x hx).2.2.2⟩⟩
theorem LinesAt.below {w w1 : World} {g : Nat} {ls : List Ln} (h : LinesAt w g ls) (hb : Below w.heap.size w w1) : LinesAt w1 g ls := h.same (hb.block g h.1) hb.size
theorem Sched.at {ls : List Ln} {w w' : World} {e : Ending} (h : Sched (ls, 0) w e w') (hl : 0 < ls.length) : ∃ gn c, e = .returned (.tuple #[.slice (some ⟨gn, 0, none⟩) ls.length c, .int .i64 0]) ∧ ls.length ≤ c ∧ w.heap.size ≤ gn ∧ LinesAt w' gn ls ∧ Below w.heap.size w w' := by
 obtain ⟨A, c, he, hR, hb⟩ := h
 obtain ⟨gn, cn, e1, hge, hlt, _⟩ := Kd.R_form hR hl
 injection e1 with e1 _ e3
 subst e1 e3
 obtain ⟨_, hc2, hC⟩ := Kd.R_reads' hR
 exact ⟨gn, _, he, hc2, hge, ⟨hlt, fun i x hx => lines_cells hC rfl hx⟩, hb⟩
set_option maxRecDepth 100000 in
set_option maxHeartbeats 20000000 in
theorem interest_none (p : Prod) (A1 : Option Addr) (c1 : Nat) (A2 : Option Addr) (c2 : Nat) (A3 : Option Addr) (c3 : Nat) (a1 M : Int) (q0 : Prod) (w : World) (hgv : GV w) (hp : ProdAt w p A1 c1 A2 c2 A3 c3) (m0 : IntKind.i64.wrap (Int.tmod (IntKind.u64.wrap a1) 1000000000) = U a1 1000000000) (s0 : IntKind.i64.wrap (1 + U a1 1000000000) = M) (hM0 : 1 ≤ M) (hM1 : M ≤ 1000000000) (hne : ∀ W, Below w.heap.size w W → Calls Tryz.prog 6 #[pv p A1 c1 A2 c2 A3 c3, .int .i64 30] W (NearE p A1 c1 A2 c2 A3 c3 q0 W)) (oq : ok q0 = true) (nt : q0.times ≤ 30) (code : Int) (hc : code ≠ 0) (hs : schedP q0 19723 M = ([], code)) :
  Calls Tryz.prog 4 #[pv p A1 c1 A2 c2 A3 c3, .int .i64 a1] w fun e w' => e = .returned (.bool true) ∧ Below w.heap.size w w' := by
 have HG := Aside0.mk hgv
 have HP := Aside0.mk hp
 have NE := Aside0.mk hne
 have AK := Aside0.mk (fun (W : World) (hb : Below w.heap.size w W) => sched_awake W (hgv.below hb))
 have sq := ok_small oq
 have OF := Aside0.mk (fun (B1 : Option Addr) (d1 : Nat) (B2 : Option Addr) (d2 : Nat) (B3 : Option Addr) (d3 : Nat) (hq : ∀ w0, ProdAt w0 p A1 c1 A2 c2 A3 c3 → ProdAt w0 q0 B1 d1 B2 d2 B3 d3) (W : World) (hb : Below w.heap.size w W) => show Calls Tryz.prog 7 #[pv q0 B1 d1 B2 d2 B3 d3, .int .i64 19723, .int .i64 M] W (Sched ([], code) W) from by have h := sched_any q0 B1 d1 B2 d2 B3 d3 19723 M W (HG.out.below hb) (hq W (HP.out.below hb)) sq; rw [hs] at h; exact h)
 have PA := Aside0.mk (fun (B1 : Option Addr) (d1 : Nat) (B2 : Option Addr) (d2 : Nat) (B3 : Option Addr) (d3 : Nat) (hq : ∀ w0, ProdAt w0 p A1 c1 A2 c2 A3 c3 → ProdAt w0 q0 B1 d1 B2 d2 B3 d3) (W : World) (hb : Below w.heap.size w W) => show Calls Tryz.prog 10 #[pv q0 B1 d1 B2 d2 B3 d3, .int .i64 19723] W (ListedL (partsP q0 19723) W) from Du.rparts_any q0 B1 d1 B2 d2 B3 d3 19723 W (hq W (HP.out.below hb)) sq.held sq.s3)
 have c1_ : (code == 0) = false := by simpa using hc
 have c2_ : (code != 0) = true := by simpa using hc
 clear hgv hp hne oq nt sq hs hc
 go_enter Tryz.func4, Tryz.ntmps4
 go_wp2_with ((with_reducible refine gate_dst (N := 2) rfl ?_); refine box_event ?hg (N := 2) ?hd (cs := pcs p A1 c1 A2 c2 A3 c3) (t := 27) ?hr ?_; (case hd => rfl); (case hg => rfl); (case hr => first | (go_simp; done) | (go_simp; rfl)); intro g2 hg v0 hb1 hbl1; have ge2 := (show w.heap.size ≤ g2 by rw [hg]; exact Nat.le_refl _); clear hg; have G2 := Aside0.mk hb1; have HB := Aside0.mk hbl1; clear hb1 hbl1; refine Hid.out ?_)
 refine Lib.hid ?_
 go_wp2_with (first
  | ((with_reducible refine gate_dst (N := 15) rfl ?_); refine wpList_load_row rfl 27 (.tmp 2) rfl g2 rfl 27 _ (0, 0) _ G2.out Tryz.underlying27 rfl info_prod ?_)
  | (go_at_call 6; (with_reducible refine (NE.out _ HB.out).mono ?_); rintro e y47 ⟨B1, d1, B2, d2, B3, d3, rfl, hq, hb⟩; have HQ := Aside0.mk hq; have HB := Aside0.mk (below_step HB.out hb); have G2 := Aside0.mk (Pd.blk_below G2.out hb); clear hb; clear hq)
  | ((with_reducible refine gate_store (t := 27) (p := 2) rfl ?_); refine row_event rfl (t := 27) (p := 2) (v := .tmp 16) rfl rfl (g := g2) (cs := pcs q0 B1 d1 B2 d2 B3 d3) (zs := pcs p A1 c1 A2 c2 A3 c3) rfl rfl G2.out info_prod rfl (pcs_one _ _ _ _ _ _ _) ?_; intro x1 hb8 hbut; have G2 := Aside0.mk hb8; have HB := Aside0.mk (But.below HB.out HB.out.size ge2 hbut); clear hb8 hbut)
  | ((with_reducible refine gate_dst (N := 23) rfl ?_); refine wpList_load_row rfl 27 (.tmp 2) rfl g2 rfl 27 _ (0, 0) _ G2.out Tryz.underlying27 rfl info_prod ?_)
  | (go_at_call 7; (with_reducible refine (OF.out _ _ _ _ _ _ HQ.out _ HB.out).mono ?_); rintro e y1 ⟨A, c, rfl, -, hb⟩; have HB := Aside0.mk (below_step HB.out hb); have G2 := Aside0.mk (Pd.blk_below G2.out hb); clear hb)
  | ((with_reducible refine gate_dst (N := 29) rfl ?_); refine wpList_load_row rfl 27 (.tmp 2) rfl g2 rfl 27 _ (0, 0) _ G2.out Tryz.underlying27 rfl info_prod ?_)
  | (go_at_call 10; (with_reducible refine (PA.out _ _ _ _ _ _ HQ.out _ HB.out).mono ?_); rintro e y2 ⟨vv, rfl, -, hb⟩; have HB := Aside0.mk (below_step HB.out hb); have G2 := Aside0.mk (Pd.blk_below G2.out hb); clear hb)
  | (go_at_call 5; (with_reducible refine (AK.out _ HB.out).mono ?_); rintro e y5 ⟨rfl, hb⟩; have HB := Aside0.mk (below_step HB.out hb); clear hb))
 go_ret
 exact ⟨rfl, by first | exact HB.out | exact Below.drew HB.out | exact pw_below_drewN HB.out _⟩
set_option maxRecDepth 100000 in
set_option maxHeartbeats 20000000 in
theorem interest_there (p : Prod) (A1 : Option Addr) (c1 : Nat) (A2 : Option Addr) (c2 : Nat) (A3 : Option Addr) (c3 : Nat) (a1 M : Int) (q0 : Prod) (w : World) (hgv : GV w) (hp : ProdAt w p A1 c1 A2 c2 A3 c3) (m0 : IntKind.i64.wrap (Int.tmod (IntKind.u64.wrap a1) 1000000000) = U a1 1000000000) (s0 : IntKind.i64.wrap (1 + U a1 1000000000) = M) (hM0 : 1 ≤ M) (hM1 : M ≤ 1000000000) (hne : ∀ W, Below w.heap.size w W → Calls Tryz.prog 6 #[pv p A1 c1 A2 c2 A3 c3, .int .i64 30] W (NearE p A1 c1 A2 c2 A3 c3 q0 W)) (oq : ok q0 = true) (nt : q0.times ≤ 30) (ls : List Ln) (hs : schedP q0 19723 M = (ls, 0)) :
  Calls Tryz.prog 4 #[pv p A1 c1 A2 c2 A3 c3, .int .i64 a1] w fun e w' => e = .returned (.bool true) ∧ Below w.heap.size w w' := by
 have HG := Aside0.mk hgv
 have HP := Aside0.mk hp
 have NE := Aside0.mk hne
 have AK := Aside0.mk (fun (W : World) (hb : Below w.heap.size w W) => sched_awake W (hgv.below hb))
 have sq := ok_small oq
 obtain ⟨hl, -, -⟩ := sched_looks hs
 obtain ⟨xs, ys, inst, hx, hy, hyl, hyb, -, -, c⟩ := sched_chain hs
 have hxl := (days_known hx).2.2.2.1
 have t1 := (days_known hx).2.2.2.2.1
 obtain ⟨tn, htn⟩ : ∃ tn : Nat, q0.times = (tn : Int) := ⟨q0.times.toNat, by omega⟩
 have LLt : ls.length = tn := by omega
 have YLt : ys.length = tn := by omega
 have ne2 : ys ≠ [] := fun e => by rw [e] at YLt; simp at YLt; omega
 have bo := chain_borne _ _ _ _ _ c
 rw [List.map_snd_zip (by omega)] at bo
 obtain ⟨⟨⟨⟨⟨_, a2, a3, a4, a5, a6, a7, a8⟩, ⟨b1, b2, b3⟩, b4⟩, cc_⟩, d_⟩, e_⟩ := (ok_iff q0).1 oq
 obtain ⟨up, hup⟩ : ∃ up : Bool, q0.round = 1 ∧ up = true ∨ q0.round = 3 ∧ up = false := by
  rcases (show q0.round = 1 ∨ q0.round = 3 by omega) with h | h
  ·exact ⟨true, .inl ⟨h, rfl⟩⟩
  ·exact ⟨false, .inr ⟨h, rfl⟩⟩
 have NW := Aside0.mk (fun W => H.rnew_any (c := q0.count) (r := q0.round) (up := up) (by omega) hup W)
 have GN := good_new q0.count q0.round
 have HH := Aside0.mk (show up = true ∧ Gm.whole q0.count = 2 * Gm.half q0.count q0.round ∨ up = false ∧ Gm.half q0.count q0.round = 0 by
  rcases hup with ⟨h, h2⟩ | ⟨h, h2⟩
  ·rw [h]; exact .inl ⟨h2, (Gm.half_one q0.count).symm⟩
  ·exact .inr ⟨h2, Gm.half_no (by omega)⟩)
 have HPW := Aside0.mk (show Gm.whole q0.count = 1000000000 * Gm.gp q0.count from rfl)
 have GPB := Aside0.mk (gp_bd q0.count)
 have OF := Aside0.mk (fun (B1 : Option Addr) (d1 : Nat) (B2 : Option Addr) (d2 : Nat) (B3 : Option Addr) (d3 : Nat) (hq : ∀ w0, ProdAt w0 p A1 c1 A2 c2 A3 c3 → ProdAt w0 q0 B1 d1 B2 d2 B3 d3) (W : World) (hb : Below w.heap.size w W) => show Calls Tryz.prog 7 #[pv q0 B1 d1 B2 d2 B3 d3, .int .i64 19723, .int .i64 M] W (fun e w' => ∃ gn c, e = .returned (.tuple #[.slice (some ⟨gn, 0, none⟩) tn c, .int .i64 0]) ∧ tn ≤ c ∧ W.heap.size ≤ gn ∧ LinesAt w' gn ls ∧ Below W.heap.size W w') from by
  have h := sched_any q0 B1 d1 B2 d2 B3 d3 19723 M W (HG.out.below hb) (hq W (HP.out.below hb)) sq
  rw [hs] at h
  refine h.mono ?_
  rintro e w' h
  have h := Sched.at h (by omega)
  rw [LLt] at h
  exact h)
 have PA := Aside0.mk (fun (B1 : Option Addr) (d1 : Nat) (B2 : Option Addr) (d2 : Nat) (B3 : Option Addr) (d3 : Nat) (hq : ∀ w0, ProdAt w0 p A1 c1 A2 c2 A3 c3 → ProdAt w0 q0 B1 d1 B2 d2 B3 d3) (W : World) (hb : Below w.heap.size w W) => show Calls Tryz.prog 10 #[pv q0 B1 d1 B2 d2 B3 d3, .int .i64 19723] W (fun e w' => ∃ gx cx tx, e = .returned (.tuple #[.slice (some ⟨gx, 0, none⟩) tn cx, .int .i64 0]) ∧ W.heap.size ≤ gx ∧ tn ≤ cx ∧ H.Blk w' gx 2 (nums .i64 ys ++ tx) ∧ Below W.heap.size W w') from by
  have h := Du.rparts_any q0 B1 d1 B2 d2 B3 d3 19723 W (hq W (HP.out.below hb)) sq.held sq.s3
  rw [hy] at h
  refine h.mono ?_
  rintro e w' h
  have h := listed_one h ne2
  unfold ListedL1 at h
  rw [YLt] at h
  exact h)
 obtain ⟨Wh, hWh⟩ : ∃ y, Gm.whole q0.count = y := ⟨_, rfl⟩
 obtain ⟨Hf, hHf⟩ : ∃ y, Gm.half q0.count q0.round = y := ⟨_, rfl⟩
 obtain ⟨Pp, hPp⟩ : ∃ y, Gm.gp q0.count = y := ⟨_, rfl⟩
 rw [hWh, hHf] at GN bo HH
 rw [hWh, hPp] at HPW
 rw [hPp] at GPB
 have HPp := Aside0.mk hPp
 obtain ⟨rt, hrt⟩ : ∃ y, q0.rate = y := ⟨_, rfl⟩
 rw [hrt] at bo
 have HRT := Aside0.mk (show (pcs q0 none 0 none 0 none 0)[7]? = some (.int .i64 rt) from by rw [← hrt]; rfl)
 have RB := Aside0.mk (fun (W : World) (gb : Nat) (bal rest n : Int) (G : H.Good Wh Hf rest) (RA : RefAt W gb Pp up rest) => rbear_any (bal := bal) (rate := rt) (n := n) RA GPB.out.1 GPB.out.2 HPW.out HH.out G)
 have GN := Aside0.mk GN
 have BO := Aside0.mk bo
 have LL := Aside0.mk LLt
 have YL := Aside0.mk YLt
 have tnb : tn ≤ 30 := by omega
 clear hgv hp hne oq nt sq hs hl hx hy hyl hyb c hxl t1 htn LLt YLt ne2 bo a2 a3 a4 a5 a6 a7 a8 b1 b2 b3 b4 cc_ d_ e_ hup HH HPW hWh hHf hPp hrt
 go_enter Tryz.func4, Tryz.ntmps4
 go_wp2_with ((with_reducible refine gate_dst (N := 2) rfl ?_); refine box_event ?hg (N := 2) ?hd (cs := pcs p A1 c1 A2 c2 A3 c3) (t := 27) ?hr ?_; (case hd => rfl); (case hg => rfl); (case hr => first | (go_simp; done) | (go_simp; rfl)); intro g2 hg v0 hb1 hbl1; have ge2 := (show w.heap.size ≤ g2 by rw [hg]; exact Nat.le_refl _); clear hg; have G2 := Aside0.mk hb1; have HB := Aside0.mk hbl1; clear hb1 hbl1; refine Hid.out ?_)
 refine Lib.hid ?_
 go_wp2_with (first
  | ((with_reducible refine gate_dst (N := 15) rfl ?_); refine wpList_load_row rfl 27 (.tmp 2) rfl g2 rfl 27 _ (0, 0) _ G2.out Tryz.underlying27 rfl info_prod ?_)
  | (go_at_call 6; (with_reducible refine (NE.out _ HB.out).mono ?_); rintro e y47 ⟨B1, d1, B2, d2, B3, d3, rfl, hq, hb⟩; have HQ := Aside0.mk hq; have HB := Aside0.mk (below_step HB.out hb); have G2 := Aside0.mk (Pd.blk_below G2.out hb); clear hb; clear hq)
  | ((with_reducible refine gate_store (t := 27) (p := 2) rfl ?_); refine row_event rfl (t := 27) (p := 2) (v := .tmp 16) rfl rfl (g := g2) (cs := pcs q0 B1 d1 B2 d2 B3 d3) (zs := pcs p A1 c1 A2 c2 A3 c3) rfl rfl G2.out info_prod rfl (pcs_one _ _ _ _ _ _ _) ?_; intro x1 hb8 hbut; have G2 := Aside0.mk hb8; have HB := Aside0.mk (But.below HB.out HB.out.size ge2 hbut); clear hb8 hbut)
  | ((with_reducible refine gate_dst (N := 23) rfl ?_); refine wpList_load_row rfl 27 (.tmp 2) rfl g2 rfl 27 _ (0, 0) _ G2.out Tryz.underlying27 rfl info_prod ?_)
  | (go_at_call 7; (with_reducible refine (OF.out _ _ _ _ _ _ HQ.out _ HB.out).mono ?_); rintro e y1 ⟨gn, c, rfl, hle, hge, hC, hb⟩; have HB := Aside0.mk (below_step HB.out hb); have G2 := Aside0.mk (Pd.blk_below G2.out hb); have HA := Aside0.mk hC; clear hb hC hge)
  | ((with_reducible refine gate_dst (N := 29) rfl ?_); refine wpList_load_row rfl 27 (.tmp 2) rfl g2 rfl 27 _ (0, 0) _ G2.out Tryz.underlying27 rfl info_prod ?_)
  | (go_at_call 10; (with_reducible refine (PA.out _ _ _ _ _ _ HQ.out _ HB.out).mono ?_); rintro e y2 ⟨gx, cx, tx, rfl, gxe, xc, hbk, hb⟩; have BX := Aside0.mk hbk; have gxge := Nat.le_trans HB.out.size gxe; have HB := Aside0.mk (below_step HB.out hb); have G2 := Aside0.mk (Pd.blk_below G2.out hb); have HA := Aside0.mk (HA.out.below hb); clear hb hbk gxe; have u1 : y2.cell? ⟨g2, 1, none⟩ = some (.int .i64 q0.count) := (blk_cell G2.out 1).trans rfl; have u2 : y2.cell? ⟨g2, 2, none⟩ = some (.int .i64 q0.round) := (blk_cell G2.out 2).trans rfl)
  | (go_at_call 11; (with_reducible refine (NW.out _).mono ?_); rintro e y4 ⟨hb, gb, hgb, rfl, hba⟩; rw [HPp.out] at hba; have gbge := Nat.le_trans HB.out.size hgb; have gbn := (show gn ≠ gb by have := HA.out.1; omega); have gbx := (show gx ≠ gb by have := Blk.lt BX.out; omega); have gbg := (show g2 ≠ gb by have := blk_lt G2.out; omega); have BA := Aside0.mk hba; have BX := Aside0.mk (Blk.below BX.out hb); have HA := Aside0.mk (HA.out.below hb); have HB := Aside0.mk (below_step HB.out hb); have G2 := Aside0.mk (Pd.blk_below G2.out hb); clear hb hba hgb u1 u2))
 go_loopg [11, 12] (tn + 1) (fun gq lv iv w' => ∃ (k : Nat) (left rest : Int), k ≤ tn ∧ lv = .int .i64 left ∧ iv = .int .i64 (k : Int) ∧ Aside0 (gq = tn + 1 - k) ∧ Aside0 (borne Wh Hf rt left rest (ys.drop k) (ls.drop k)) ∧ Aside0 (H.Good Wh Hf rest) ∧ Aside0 (RefAt w' gb Pp up rest) ∧ Aside0 (LinesAt w' gn ls) ∧ Aside0 (H.Blk w' gx 2 (nums .i64 ys ++ tx)) ∧ Aside0 (w'.heap[g2]? = some (.cells (pcs q0 B1 d1 B2 d2 B3 d3) 27 (0, 0))) ∧ Aside0 (Below w.heap.size w w'))
 case atStart => exact ⟨0, M, 0, by omega, rfl, rfl, ⟨rfl⟩, ⟨by rw [List.drop_zero, List.drop_zero]; exact BO.out⟩, GN, BA, HA, BX, G2, HB⟩
 case round =>
  obtain ⟨k, left, rest, kn, rfl, rfl, hgq, BO, GN, BA, HA, BX, G2, HB⟩ := hrel
  by_cases hlt : (k : Int) < (tn : Int)
  ·have hkl : k < ls.length := by have := LL.out; omega
   have hky : k < ys.length := by have := YL.out; omega
   have u7 : wr.cell? ⟨g2, 7, none⟩ = some (.int .i64 rt) := (blk_cell G2.out 7).trans HRT.out
   obtain ⟨n, hn⟩ : ∃ n, ys[k] = n := ⟨_, rfl⟩
   obtain ⟨x, hx⟩ : ∃ x, ls[k] = x := ⟨_, rfl⟩
   have hcx : wr.cell? ⟨gx, k, none⟩ = some (.int .i64 n) := (BX.out.cell k).trans (by rw [List.getElem?_append_left (by simp [nums]; omega), ← hn]; simp [nums, hky])
   have bo := BO.out
   rw [List.drop_eq_getElem_cons hky, List.drop_eq_getElem_cons hkl, hn, hx] at bo
   obtain ⟨bo1, bo2, bo3⟩ := bo
   obtain ⟨⟨v, z2, r2⟩, hz⟩ : ∃ z, Gm.bear Wh Hf rest left rt n = z := ⟨_, rfl⟩
   have G2_ := good_bear (bal := left) (rate := rt) (n := n) GN.out
   rw [hz] at bo1 bo2 bo3 G2_
   have bo1 : z2 = 0 := bo1
   have bo2 : v = x.2.2.1 := bo2
   subst bo1
   have RR := Aside0.mk (fun W RA => RB.out W gb left rest n GN.out RA)
   rw [hz] at RR
   have BO2 := Aside0.mk bo3
   have GN2 := Aside0.mk G2_
   have HX := Aside0.mk (show ls[k]? = some x by rw [List.getElem?_eq_getElem hkl, hx])
   have HV := Aside0.mk bo2
   obtain ⟨lx, hlx⟩ : ∃ y, x.2.2.2 = y := ⟨_, rfl⟩
   have HLX := Aside0.mk hlx
   have RA := Aside0.mk (BA.out.below (w1 := wr.drew) (Below.drew (Below.refl _ _)))
   have HADL := Aside0.mk (Blk.lt BX.out)
   have HADN := Aside0.mk gbx
   have HLG := Aside0.mk (blk_lt G2.out)
   have HNE := Aside0.mk gbg
   have HLA := Aside0.mk (HA.out.below (w1 := wr.drew) (Below.drew (Below.refl _ _)))
   clear hn hx hz bo1 bo2 bo3 G2_ hlx BO hkl hky
   go_wp2_with fail
   go_region_held3 (fun W => W.cell? ⟨g2, 7, none⟩ = some (.int .i64 rt) ∧ W.cell? ⟨gx, k, none⟩ = some (.int .i64 n)) (first | exact ⟨u7, hcx⟩ | go_keep) ((go_at_call 12; (with_reducible refine (RR.out _ RA.out).mono ?_); rintro e yy ⟨rfl, hba, hbut⟩; have u7 := (hbut.cell (p := ⟨g2, 7, none⟩) HLG.out HNE.out).trans u7; have hcx := (hbut.cell (p := ⟨gx, k, none⟩) HADL.out HADN.out).trans hcx))
   have BA := Aside0.mk hba
   have HBn := Aside0.mk (But.below (Below.drew HB.out) (by first | exact HB.out.size | (simp; exact HB.out.size)) gbge hbut)
   have BX := Aside0.mk (BX.out.same (hbut.block gx (Blk.lt BX.out) gbx))
   have G2 := Aside0.mk (show yy.heap[g2]? = some (.cells (pcs q0 B1 d1 B2 d2 B3 d3) 27 (0, 0)) from (hbut.block g2 HLG.out HNE.out).trans G2.out)
   have HA := Aside0.mk (HLA.out.same (hbut.block gn HLA.out.1 gbn) hbut.size)
   have hc := HA.out.2 k x HX.out
   have x2 : yy.cell? ⟨gn, k * 4 + 2, none⟩ = some (.int .i64 v) := by rw [HV.out]; exact hc.2.2.1
   have x3 : yy.cell? ⟨gn, k * 4 + 3, none⟩ = some (.int .i64 lx) := by rw [← HLX.out]; exact hc.2.2.2
   clear hc hba hbut HB RR RA u7 hcx HADL HADN HLG HNE HLA
   have HB := HBn
   clear HBn
   go_wp2_with fail
   go_roundg (tn + 1 - (k + 1))
   case measure => have := hgq.out; omega
   case rel => exact ⟨k + 1, lx, r2, by omega, rfl, by simp, ⟨rfl⟩, ⟨by rw [← HLX.out]; exact BO2.out⟩, ⟨GN2.out⟩, ⟨BA.out⟩, ⟨HA.out⟩, ⟨BX.out⟩, ⟨G2.out⟩, ⟨by first | exact HB.out | exact Below.drew HB.out | exact pw_below_drewN HB.out _⟩⟩
  ·obtain rfl : k = tn := by omega
   clear BO
   go_wp2_with (go_at_call 5; (with_reducible refine (AK.out _ HB.out).mono ?_); rintro e y5 ⟨rfl, hb⟩; have HB := Aside0.mk (below_step HB.out hb); clear hb)
   go_ret
   exact ⟨rfl, by first | exact HB.out | exact Below.drew HB.out | exact pw_below_drewN HB.out _⟩
theorem scheduleInterest_walk (p : Prod) (A1 : Option Addr) (c1 : Nat) (A2 : Option Addr) (c2 : Nat) (A3 : Option Addr) (c3 : Nat) (a1 : Int) (w : World) (hp : ProdAt w p A1 c1 A2 c2 A3 c3) (hz0 : p.name.size ≤ maxLen) (hz1 : c1 ≤ maxLen) (hz2 : c2 ≤ maxLen) (hz3 : c3 ≤ maxLen) (ws : (Lit.int .i64 a1).wf = true) (hgv : GV w) (hd : Held p) :
  Calls Tryz.prog 4 #[pv p A1 c1 A2 c2 A3 c3, .int .i64 a1] w fun e w' => e = .returned (.bool true) ∧ Below w.heap.size w w' := by
 have hne : ∀ W, Below w.heap.size w W → Calls Tryz.prog 6 #[pv p A1 c1 A2 c2 A3 c3, .int .i64 30] W (NearE p A1 c1 A2 c2 A3 c3 (nearP p 30) W) := fun W hb => near_any p A1 c1 A2 c2 A3 c3 30 W (hp.below hb) hd (by omega) (by omega)
 obtain ⟨oq, nt⟩ := near_valid p (n := 30) (by omega) (by omega)
 generalize nearP p 30 = q0 at hne oq nt
 have m0 := U_isC a1 (m := 1000000000) (by omega) (by omega)
 obtain ⟨m0a, m0b⟩ := U_bd a1 (m := 1000000000) (by omega)
 obtain ⟨M, hM⟩ : ∃ M, 1 + U a1 1000000000 = M := ⟨_, rfl⟩
 have s0 : IntKind.i64.wrap (1 + U a1 1000000000) = M := by rw [hM]; exact IntWalk.i64_in _ (by omega)
 rcases sched_code (start := 19723) (m := M) oq (by omega) (by omega) (by omega) (by omega) (by omega) with h | ⟨h0, h⟩
 ·exact interest_there p A1 c1 A2 c2 A3 c3 a1 M q0 w hgv hp m0 s0 (by omega) (by omega) hne oq nt (schedP q0 19723 M).1 (Prod.ext rfl h)
 ·exact interest_none p A1 c1 A2 c2 A3 c3 a1 M q0 w hgv hp m0 s0 (by omega) (by omega) hne oq nt (schedP q0 19723 M).2 (by omega) (Prod.ext h0 rfl)
end Go.Proofs.YtfmkdledofbhdaaGreat.Sc
