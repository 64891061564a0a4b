/- Texts of this claim, joined in build order. -/
import Derived.Test.YtfmkdledofbhdaaGreatProg
import Derived.Below
import Derived.Deep.Draws
import Derived.Deep.AppendLies
import Derived.Maps.AppendAt
import Derived.OwnWalk
import Derived.Laws.BytesArg
import Derived.Laws.MakeOwn
import Derived.Laws.OwnMore
import Derived.Tactics
import Derived.Lib.ConvBytes
import Derived.Laws.Slices
import Derived.WalkKit
import Derived.KernelRfl
import Derived.RowKit3
import Derived.Deep.LoopGhost
import Derived.Deep.QuietTactic
import Derived.BigQuiet
import Derived.WideLaws
import Derived.Deep.DeepCutAuto
import Derived.Deep.CutBlock
import Derived.Deep.RegionHeld3
import Derived.Lib.AppendStr
import Derived.ArgAppend
import Derived.Laws.IdiomCopy
import Derived.OrdersHeld
import Derived.Laws.BitsLemmas
import Derived.RowKit
import Derived.Laws.StructEq
import Derived.WalkLawsBesides
import Derived.WalkSpells
import Derived.Lib.IndexMore
import Derived.Deep.Slices
import Derived.Deep.Fields
import Derived.ChangeSame
import Derived.Lib.SmallJoins
import Derived.ProofKit
import Derived.Defers
import Derived.Laws.Tables
import Derived.Deep.WholeRow
import Derived.Recover
import Derived.StillTailTactics
import Derived.IntWalk
import Derived.Shelf.Small.Bits
import Derived.Shelf.Strconv.Itoa0
import Derived.Shelf.Strings.Search1
import Derived.Shelf.Strings.Search2
import Derived.Shelf.Strings.Search3
import Derived.Shelf.LaysM
import Derived.Shelf.Strings.Shaped
import Derived.Shelf.Bits.Mul64
import Derived.Lib.SlBytesConst
import Derived.Deep.RegionWith
import Derived.Lib.Hide
import Derived.BigFrame
import Derived.Lib.BitFns
import Derived.Laws.BitsAllLaws
import Derived.Laws.Externs
import Derived.RegionTactic
import Derived.Deep.MidRow
import Derived.OpenShut
import Derived.ShutString
import Derived.ChangeOld
import Derived.Laws.IdiomArrays
import Derived.SizedLaws
import Derived.HandedShaped
import Derived.Shelf.Vars
import Derived.Test.YtfmkdledofbhdaaGreatJI1
import Derived.Test.YtfmkdledofbhdaaGreatJI2
import Derived.Test.YtfmkdledofbhdaaGreatJI3
import Derived.Test.YtfmkdledofbhdaaGreatJI4
import Derived.Test.YtfmkdledofbhdaaGreatJI5
import Derived.Test.YtfmkdledofbhdaaGreatJI6
set_option linter.unusedVariables false
set_option linter.unusedSimpArgs false
/- Contracts by hand: the document's digits: so many times, so many more. -/
namespace Go.Proofs.YtfmkdledofbhdaaGreat.H
open Go.RowKit Go.Proofs.YtfmkdledofbhdaaGreatW.PrintWords Go.Proofs.YtfmkdledofbhdaaGreatW.PrintLast Go.Proofs.YtfmkdledofbhdaaGreatW.PrintMore Go.Proofs.YtfmkdledofbhdaaGreat.HW
set_option linter.unusedVariables false
set_option linter.unusedSimpArgs false
theorem w64' {x : Int} (h1 : -9223372036854775808 ≤ x) (h2 : x ≤ 9223372036854775807) : wrap64 x = x := by unfold wrap64; omega
theorem rd_nat' (l : List Int) (k : Nat) (h : k < l.length) : rd l (k : Int) = l[k] := by simp [rd, h]
def Digits (w : World) (r : List Int) (e : Ending) (w' : World) : Prop := ∃ A c, e = .returned (.slice A r.length c) ∧ Kd.C (Kd.int .i64) w' A r.length r ∧ r.length ≤ c ∧ (A = none → c = 0) ∧ Below w.heap.size w w'
theorem digits_of_own {w w1 : World} {v : Value} {r : List Int} (h : w1.ownsRow w.heap.size 2 1 v r.length (nums .i64 r)) (hb : Below w.heap.size w w1) : ∃ A c, v = .slice A r.length c ∧ Kd.C (Kd.int .i64) w1 A r.length r ∧ r.length ≤ c ∧ (A = none → c = 0) := by
 have h' : w1.ownsRow w.heap.size 2 1 v r.length (encs (Value.int .i64) r) := h
 obtain ⟨A, c, rfl, hle, hr⟩ := own_reads_of_le (d := (0 : Int)) h'
 refine ⟨A, c, rfl, Kd.C_of_reads hr, hle, fun hA => ?_⟩
 subst hA
 rcases h.2 with ⟨e, _⟩ | ⟨g, cap, cur, e, _⟩
 ·injection e
 ·injection e with e1 e2
  cases e1
theorem times_l1 (k : Nat) (acc : List Int) (c : Int) (c0 : 0 ≤ c) (c1 : c < 1000000000) (ha : acc.length ≤ 1000000) : PRB.quittanceref12_times.l1 (k + 2) acc c = some (acc ++ (if 0 < c then [c] else [])) := by
 simp only [PRB.quittanceref12_times.l1]
 by_cases h : 0 < c
 ·rw [if_pos h, if_pos (by omega), if_pos h, Int.tmod_eq_emod_of_nonneg c0, Int.emod_eq_of_lt c0 c1, Int.tdiv_eq_ediv_of_nonneg c0, Int.ediv_eq_zero_of_lt c0 c1, w64' (by omega) (by omega), if_neg (by decide)]
 ·rw [if_neg h, if_neg h, List.append_nil]
theorem times_l0 (l : List Int) (hd : Dg.Dig l) (hl : l.length ≤ 100000) (n : Int) (n0 : 0 ≤ n) (n1 : n ≤ 1000000000) (d : Nat) : ∀ (k i : Nat) (acc : List Int) (c : Int), l.length - i = d → i ≤ l.length → d + 2 < k → acc.length ≤ 100000 + i → 0 ≤ c → c < 1000000000 →
  PRB.quittanceref12_times.l0 k l n acc c (i : Int) = some (acc ++ Dg.tms n c (l.drop i)) := by
 induction d with
 | zero =>
  intro k i acc c h1 h2 h3 h4 c0 c1
  obtain ⟨k, rfl⟩ : ∃ m, k = m + 1 := ⟨k - 1, by omega⟩
  simp only [PRB.quittanceref12_times.l0]
  rw [if_neg (by omega), List.drop_eq_nil_of_le (by omega)]
  obtain ⟨k, rfl⟩ : ∃ m, k = m + 2 := ⟨k - 2, by omega⟩
  exact times_l1 k acc c c0 c1 (by omega)
 | succ d ih =>
  intro k i acc c h1 h2 h3 h4 c0 c1
  obtain ⟨k, rfl⟩ : ∃ m, k = m + 1 := ⟨k - 1, by omega⟩
  have hi : i < l.length := by omega
  have hx := hd _ (List.getElem_mem hi)
  simp only [PRB.quittanceref12_times.l0]
  rw [if_pos (by omega), if_pos (by omega), if_pos (by omega), rd_nat' l i hi]
  obtain ⟨s1, s2, s3, s4, s5⟩ := Dg.step_bd hx.1 hx.2 n0 n1 c0 c1
  rw [w64' (x := l[i] * n) (by omega) (by omega), w64' (x := l[i] * n + c) (by omega) (by omega), Int.tmod_eq_emod_of_nonneg s3, Int.tdiv_eq_ediv_of_nonneg s3, w64' (x := (l[i] * n + c) / 1000000000) (by omega) (by omega), w64' (x := (i : Int) + 1) (by omega) (by omega), show (i : Int) + 1 = ((i + 1 : Nat) : Int) by omega]
  rw [ih k (i + 1) _ _ (by omega) (by omega) (by omega) (by simp; omega) (by omega) s5, List.drop_eq_getElem_cons hi]
  simp only [Dg.tms, List.append_assoc, List.cons_append, List.nil_append]
theorem times_any {A0 : Option Addr} {c0 : Nat} {l : List Int} {n : Int} {w : World} (hr0 : Kd.C (Kd.int .i64) w A0 l.length l) (hc0 : l.length ≤ c0) (hd : Dg.Dig l) (hl : l.length ≤ 1000) (n0 : 0 ≤ n) (n1 : n ≤ 1000000000) :
  Calls Tryz.prog 27 #[.slice A0 l.length c0, .int .i64 n] w (Digits w (Dg.tms n 0 l)) := by
 refine (PRB.quittanceref12_times.calls 2000 A0 c0 l n (Dg.tms n 0 l) w hr0 hc0 ?_).mono ?_
 ·have := times_l0 l hd (by omega) n n0 n1 l.length 2000 0 [] 0 (by omega) (by omega) (by omega) (by simp) (by omega) (by omega)
  simpa [PRB.quittanceref12_times.f] using this
 ·rintro e w' ⟨v, rfl, hR, hb⟩
  have ho : w'.ownsRow w.heap.size 2 1 v (Dg.tms n 0 l).length (nums .i64 (Dg.tms n 0 l)) := Kd.own_of_R hR
  obtain ⟨A, c, rfl, h1, h2, h3⟩ := digits_of_own ho hb
  exact ⟨A, c, rfl, h1, h2, h3, hb⟩
theorem info_i64 : (Tryz.prog.info? 2).map (fun i => (i.zero, i.size, i.bytes)) = some (some (.int .i64 0), 1, 8) := by kernel_rfl
theorem nums_get' (l : List Int) (j : Nat) (u : Value) (h : (nums .i64 l)[j]? = some u) : j < l.length ∧ u = .int .i64 (rd l (j : Int)) := by
 have hj : j < l.length := by
  rcases Nat.lt_or_ge j l.length with h' | h'
  ·exact h'
  ·rw [List.getElem?_eq_none (by rw [nums_length]; exact h')] at h; cases h
 refine ⟨hj, ?_⟩
 rw [rd_nat' l j hj]
 simp [nums, hj] at h
 exact h.symm
theorem news_of' {w w1 : World} {ad : Addr} {l : List Int} (hr : Kd.C (Kd.int .i64) w (some ad) l.length l) (hb : Below w.heap.size w w1) : ∀ j u, (nums .i64 l)[j]? = some u → w1.cell? (ad.add j) = some u := by
 intro j u hu
 obtain ⟨hj, rfl⟩ := nums_get' l j u hu
 obtain ⟨ad', e', hc⟩ := Kd.at_int (Kd.C_below hr hb) (j : Int) (by omega) (by omega)
 obtain rfl := Option.some.inj e'
 rw [Int.toNat_natCast] at hc
 exact hc
theorem all_one (l : List Int) : ∀ u ∈ nums .i64 l, u.oneCell' = true := by
 intro u hu
 simp [nums] at hu
 obtain ⟨a, _, rfl⟩ := hu
 rfl
theorem new_one' (w : World) (x : Int) (e : TypeId) : ∀ j u, [Value.int .i64 x][j]? = some u → (w.alloc (.cells #[.int .i64 x] e)).cell? ((⟨w.heap.size, 0, none⟩ : Addr).add j) = some u := by
 intro j u hu
 have hj : j < 1 := by
  rcases Nat.lt_or_ge j 1 with h | h
  ·exact h
  ·rw [List.getElem?_eq_none (by simpa using h)] at hu; cases hu
 obtain rfl : j = 0 := by omega
 simp at hu
 subst hu
 simp [go_sem, Addr.add]
theorem own_form' {w : World} {base n : Nat} {e : TypeId} {v : Value} {xs : List Value} (h : w.ownsRow base e 1 v n xs) (hn : 0 < n) : ∃ g cap, v = .slice (some ⟨g, 0, none⟩) n cap ∧ base ≤ g ∧ n ≤ cap := by
 rcases h.2 with ⟨_, e0⟩ | ⟨g, cap, cur, e', hb, _, h1, _⟩
 ·omega
 ·exact ⟨g, cap, e', hb, h1⟩
structure Mid (w W : World) (v : Value) (done todo : List Int) (k : Nat) : Prop where
 len : done.length = k
 own : W.ownsRow w.heap.size 2 1 v (done ++ todo).length (nums .i64 (done ++ todo))
 below : Below w.heap.size w W
theorem Mid.slice {w W : World} {v : Value} {done todo : List Int} {k : Nat} (h : Mid w W v done todo k) : ∃ A c, v = .slice A (done ++ todo).length c ∧ (done ++ todo).length ≤ c ∧ (A = none → c = 0) := by
 obtain ⟨A, c, h1, _, h3, h4⟩ := digits_of_own h.own h.below
 exact ⟨A, c, h1, h3, h4⟩
theorem Mid.set {w W : World} {g cap : Nat} {done todo : List Int} {d x : Int} {k : Nat} (h : Mid w W (.slice (some ⟨g, 0, none⟩) (done ++ d :: todo).length cap) done (d :: todo) k) (hg : w.heap.size ≤ g) : Mid w (W.setCell ⟨g, k, none⟩ (.int .i64 x)) (.slice (some ⟨g, 0, none⟩) (done ++ d :: todo).length cap) (done ++ [x]) todo (k + 1) := by
 have hl := h.len
 refine ⟨by simp [hl], ?_, h.below.setCell (by exact hg) _⟩
 have h1 := (World.ownsRow.stored h.own k (.int .i64 x)).1
 have e : (nums .i64 (done ++ d :: todo)).set k (.int .i64 x) = nums .i64 ((done ++ [x]) ++ todo) := by
  simp only [nums, List.map_append, List.map_cons, List.append_assoc, List.cons_append, List.nil_append]
  rw [List.set_append_right _ _ (by simp [hl])]
  simp [hl]
 rw [e] at h1
 have e2 : ((done ++ [x]) ++ todo).length = (done ++ d :: todo).length := by simp
 rw [e2]
 exact h1
theorem Mid.cell {w W : World} {g cap : Nat} {done todo : List Int} {d : Int} {k : Nat} (h : Mid w W (.slice (some ⟨g, 0, none⟩) (done ++ d :: todo).length cap) done (d :: todo) k) : W.cell? ⟨g, k, none⟩ = some (.int .i64 d) ∧ W.frozen? ⟨g, k, none⟩ = false := by
 refine ⟨?_, World.ownsRow.frozenAt h.own k⟩
 rw [World.ownsRow.cellAt h.own k (by have := h.len; simp; omega)]
 simp [nums, List.getElem?_append_right, h.len]
theorem Mid.more {w W w1 : World} {v v' : Value} {done : List Int} {k : Nat} (h : Mid w W v done [] k) (hown : w1.ownsRow w.heap.size 2 1 v' ((done ++ []).length + 1) (nums .i64 (done ++ []) ++ [.int .i64 0])) (hg : (W.alloc (.cells #[.int .i64 0] 2)).grownBy w1 v.ownBlock) : Mid w w1 v' done [0] k :=
 ⟨h.len, by simpa [nums] using hown, (h.below.alloc h.below.size _).grown hg (by have := h.below.size; simp; omega) (own_base h.own)⟩
def dgs (x : Int) : Nat := if x ≤ 0 then 0 else if x < 1000000000 then 1 else 2
theorem pls_nil {x : Int} (h : 0 < x) (h1 : x ≤ 1000000000000000) : Dg.pls x [] = x % 1000000000 :: Dg.pls (x / 1000000000) [] ∧ dgs (x / 1000000000) + 1 ≤ dgs x := by
 refine ⟨?_, ?_⟩
 ·simp only [Dg.pls]
  rw [if_pos h]
  by_cases h2 : 0 < x / 1000000000
  ·rw [if_pos h2, if_pos h2, if_neg (show ¬ 0 < x / 1000000000 / 1000000000 by omega), Int.emod_eq_of_lt (a := x / 1000000000) (b := 1000000000) (by omega) (by omega)]
  ·rw [if_neg h2, if_neg h2]
 ·unfold dgs
  rw [if_neg (show ¬ x ≤ 0 by omega)]
  by_cases h2 : x < 1000000000
  ·rw [if_pos h2, if_pos (show x / 1000000000 ≤ 0 by omega)]; decide
  ·rw [if_neg h2, if_neg (show ¬ x / 1000000000 ≤ 0 by omega), if_pos (by omega)]; decide
theorem dgs_cons {x d : Int} (h : 0 < x) (h1 : x ≤ 1000000000000000) (d0 : 0 ≤ d) (d1 : d < 1000000000) : dgs ((x + d) / 1000000000) ≤ dgs x ∧ 1 ≤ dgs x := by
 unfold dgs
 rw [if_neg (show ¬ x ≤ 0 by omega)]
 by_cases h2 : x < 1000000000
 ·rw [if_pos h2]
  by_cases h3 : (x + d) / 1000000000 ≤ 0
  ·rw [if_pos h3]; decide
  ·rw [if_neg h3, if_pos (by omega)]; decide
 ·rw [if_neg h2]
  by_cases h3 : (x + d) / 1000000000 ≤ 0
  ·rw [if_pos h3]; decide
  ·rw [if_neg h3]; split <;> decide
set_option maxHeartbeats 2000000 in
set_option maxRecDepth 100000 in
theorem plus_any {A0 : Option Addr} {c0 : Nat} {l : List Int} {v : Int} {w : World} (hr0 : Kd.C (Kd.int .i64) w A0 l.length l) (hc0 : l.length ≤ c0) (hn0 : A0 = none → c0 = 0) (hd : Dg.Dig l) (hl : l.length ≤ 1000) (v0 : 0 ≤ v) (v1 : v ≤ 1000000000000000) :
  Calls Tryz.prog 28 #[.slice A0 l.length c0, .int .i64 v] w (Digits w (Dg.pls v l)) := by
 have HD := Aside0.mk hd
 obtain ⟨i0, hi, hz0, hz1, hz2⟩ := info_parts info_i64
 obtain ⟨r, hr⟩ : ∃ r, Dg.pls v l = r := ⟨_, rfl⟩
 have HR := Aside0.mk hr
 rw [hr]
 clear hr hd
 cases A0 with
 | none =>
  obtain rfl := hn0 rfl
  obtain rfl : l = [] := List.eq_nil_of_length_eq_zero (by omega)
  have M0 := Aside0.mk (show Mid w w (.slice none 0 0) [] [] 0 from ⟨rfl, ⟨rfl, Or.inl ⟨rfl, rfl⟩⟩, Below.refl _ _⟩)
  clear hr0 hn0
  go_enter Tryz.func28, Tryz.ntmps28
  go_wp2_with fail
  go_loopg [1, 5, 6] 3 (fun gq vv sv iv w' => ∃ (done todo : List Int) (x : Int) (k : Nat), vv = .int .i64 x ∧ iv = .int .i64 (k : Int) ∧ 0 ≤ x ∧ x ≤ 1000000000000000 ∧ k + gq ≤ 1010 ∧ Aside0 (todo.length + dgs x ≤ gq) ∧ Aside0 (Dg.Dig todo) ∧ Aside0 (Mid w w' sv done todo k) ∧ Aside0 (done ++ Dg.pls x todo = r))
  case atStart => exact ⟨[], [], v, 0, rfl, rfl, v0, v1, by omega, ⟨by have : dgs v ≤ 2 := (by unfold dgs; split; decide; split <;> decide); simp; omega⟩, HD, M0, ⟨HR.out⟩⟩
  case round =>
   obtain ⟨done, todo, x, k, rfl, rfl, x0, x1, hk, hg, hD, hM, hq⟩ := hrel
   obtain ⟨A, c, rfl, hle, hA⟩ := hM.out.slice
   have HA := Aside0.mk hA
   clear hA
   by_cases hx : 0 < x
   ·cases todo with
    | nil =>
     obtain ⟨p1, p2⟩ := pls_nil hx x1
     have HQ := Aside0.mk (show (done ++ [x % 1000000000]) ++ Dg.pls (x / 1000000000) [] = r by rw [← hq.out, p1]; simp)
     have HG := Aside0.mk p2
     clear p1 p2 hq
     have hlen : (done ++ []).length = k := by have := hM.out.len; simp; exact this
     rw [hlen] at hle ⊢
     have M1 := Aside0.mk (show Mid w wr (.slice A k c) done [] k by have := hM.out; rw [hlen] at this; exact this)
     have HO := Aside0.mk (show wr.ownsRow w.heap.size 2 1 (.slice A k c) k (nums .i64 (done ++ [])) by have := M1.out.own; rw [hlen] at this; exact this)
     have HLEN := Aside0.mk hlen
     clear hM hlen
     go_wp2_with ((at_builtin; refine wpList_append_own _ rfl _ _ 40 rfl w.heap.size 2 i0 (.int .i64 0) 1 8 Tryz.underlying40 hi hz0 hz1 hz2 rfl (by decide) _ _ _ rfl (HO.out.alloc _) ⟨wr.heap.size, 0, none⟩ 1 1 [.int .i64 0] rfl rfl (new_one' wr 0 2) (all_one [0]) (by unfold maxLen; omega) (by omega) (by have := M1.out.below.size; simp; omega) ?_); intro v' w1 hown1 hgrow _; have M2 := Mid.more (v := .slice A k c) M1.out (by rw [HLEN.out]; exact hown1) hgrow; obtain ⟨g, cap, rfl, hgb, hcap⟩ := own_form' M2.own (by simp); have hN : (done ++ [(0 : Int)]).length = k + 1 := (by have := M1.out.len; simp; exact this); obtain ⟨hc1, hc2⟩ := M2.cell; have M3 := Aside0.mk (M2.set (x := x % 1000000000) hgb); clear hown1 hgrow M2 M1 HO; rw [hN]; obtain ⟨N, hN1⟩ : ∃ N, k + 1 = N := ⟨_, rfl⟩; rw [hN1]; have hkN : k < N := (by omega); have HN2 := Aside0.mk (hN.trans hN1); clear hN hN1)
     go_roundg (gk - 1)
     case measure => have := hg.out; have := HG.out; omega
     case rel => exact ⟨done ++ [x % 1000000000], [], x / 1000000000, k + 1, rfl, by simp, by omega, by omega, by have := hg.out; have := HG.out; omega, ⟨by have := hg.out; have := HG.out; simp at *; omega⟩, ⟨Dg.Dig.nil⟩, ⟨by have := M3.out; rw [HN2.out] at this; exact this⟩, HQ⟩
    | cons d ds =>
     obtain ⟨d0, d1⟩ := hD.out.head
     obtain ⟨p1, p2⟩ := dgs_cons hx x1 d0 d1
     have HQ := Aside0.mk (show (done ++ [(x + d) % 1000000000]) ++ Dg.pls ((x + d) / 1000000000) ds = r by rw [← hq.out]; simp only [Dg.pls]; rw [if_pos hx]; simp)
     have HG := Aside0.mk (And.intro p1 p2)
     clear p1 p2 hq
     obtain ⟨g, cap, e, hgb, hcap⟩ := own_form' hM.out.own (by simp; omega)
     injection e with e1 e2 e3
     subst e1 e3
     obtain ⟨hc1, hc2⟩ := hM.out.cell
     have M3 := Aside0.mk (hM.out.set (x := (x + d) % 1000000000) hgb)
     obtain ⟨N, hN⟩ : ∃ N, (done ++ d :: ds).length = N := ⟨_, rfl⟩
     have hkN : k < N := by rw [← hN]; have := hM.out.len; simp; omega
     rw [hN]
     have HN2 := Aside0.mk hN
     have hkne : ¬ k = N := by omega
     clear hN hM
     go_wp2_with fail
     go_roundg (gk - 1)
     case measure => have := hg.out; simp at this; omega
     case rel => exact ⟨done ++ [(x + d) % 1000000000], ds, (x + d) / 1000000000, k + 1, rfl, by simp, by omega, by omega, by have := hg.out; simp at this; omega, ⟨by have := hg.out; have := HG.out; simp at *; omega⟩, ⟨hD.out.tail⟩, ⟨by have := M3.out; rw [HN2.out] at this; exact this⟩, HQ⟩
   ·obtain rfl : x = 0 := by omega
    have HQ := Aside0.mk (show done ++ todo = r by rw [← hq.out, Dg.pls_zero])
    have HF := Aside0.mk (digits_of_own hM.out.own hM.out.below)
    have HBB := Aside0.mk hM.out.below
    obtain rfl := HQ.out
    obtain ⟨N, hN⟩ : ∃ N, (done ++ todo).length = N := ⟨_, rfl⟩
    rw [hN]
    have HN2 := Aside0.mk hN
    clear hq HQ hM hN
    go_wp2_with fail
    go_ret
    obtain ⟨A', c', e, h1, h2, h3⟩ := HF.out
    injection e with e1 e2 e3
    subst e1 e3
    exact ⟨_, _, by rw [HN2.out]; rfl, h1, h2, h3, HBB.out⟩
 | some ad =>
  have HN := Aside0.mk (news_of' hr0 (Below.refl w.heap.size w))
  have hnil : w.ownsRow w.heap.size 2 1 (.slice none 0 0) 0 [] := ⟨rfl, Or.inl ⟨rfl, rfl⟩⟩
  have HNL := Aside0.mk hnil
  clear hr0 hn0 hnil
  go_enter Tryz.func28, Tryz.ntmps28
  go_wp2_with ((at_builtin; refine wpList_append_own _ rfl _ _ 40 rfl w.heap.size 2 i0 (.int .i64 0) 1 8 Tryz.underlying40 hi hz0 hz1 hz2 rfl (by decide) _ 0 [] rfl HNL.out ad l.length c0 (nums .i64 l) rfl (by simp [nums]) HN.out (all_one l) (by unfold maxLen; omega) (by omega) (Nat.le_refl _) ?_); intro v' w1 hown1 hgrow _)
  have M0 := Aside0.mk (show Mid w w1 v' [] l 0 from ⟨rfl, by simpa [nums] using hown1, (Below.refl _ _).grown hgrow (Nat.le_refl _) (fun k hk => by cases hk)⟩)
  clear hown1 hgrow
  go_wp2_with fail
  go_loopg [1, 5, 6] (l.length + 3) (fun gq vv sv iv w' => ∃ (done todo : List Int) (x : Int) (k : Nat), vv = .int .i64 x ∧ iv = .int .i64 (k : Int) ∧ 0 ≤ x ∧ x ≤ 1000000000000000 ∧ k + gq ≤ 1010 ∧ Aside0 (todo.length + dgs x ≤ gq) ∧ Aside0 (Dg.Dig todo) ∧ Aside0 (Mid w w' sv done todo k) ∧ Aside0 (done ++ Dg.pls x todo = r))
  case atStart => exact ⟨[], l, v, 0, rfl, rfl, v0, v1, by omega, ⟨by have : dgs v ≤ 2 := (by unfold dgs; split; decide; split <;> decide); simp; omega⟩, HD, M0, ⟨HR.out⟩⟩
  case round =>
   obtain ⟨done, todo, x, k, rfl, rfl, x0, x1, hk, hg, hD, hM, hq⟩ := hrel
   obtain ⟨A, c, rfl, hle, hA⟩ := hM.out.slice
   have HA := Aside0.mk hA
   clear hA
   by_cases hx : 0 < x
   ·cases todo with
    | nil =>
     obtain ⟨p1, p2⟩ := pls_nil hx x1
     have HQ := Aside0.mk (show (done ++ [x % 1000000000]) ++ Dg.pls (x / 1000000000) [] = r by rw [← hq.out, p1]; simp)
     have HG := Aside0.mk p2
     clear p1 p2 hq
     have hlen : (done ++ []).length = k := by have := hM.out.len; simp; exact this
     rw [hlen] at hle ⊢
     have M1 := Aside0.mk (show Mid w wr (.slice A k c) done [] k by have := hM.out; rw [hlen] at this; exact this)
     have HO := Aside0.mk (show wr.ownsRow w.heap.size 2 1 (.slice A k c) k (nums .i64 (done ++ [])) by have := M1.out.own; rw [hlen] at this; exact this)
     have HLEN := Aside0.mk hlen
     clear hM hlen
     go_wp2_with ((at_builtin; refine wpList_append_own _ rfl _ _ 40 rfl w.heap.size 2 i0 (.int .i64 0) 1 8 Tryz.underlying40 hi hz0 hz1 hz2 rfl (by decide) _ _ _ rfl (HO.out.alloc _) ⟨wr.heap.size, 0, none⟩ 1 1 [.int .i64 0] rfl rfl (new_one' wr 0 2) (all_one [0]) (by unfold maxLen; omega) (by omega) (by have := M1.out.below.size; simp; omega) ?_); intro v' w1 hown1 hgrow _; have M2 := Mid.more (v := .slice A k c) M1.out (by rw [HLEN.out]; exact hown1) hgrow; obtain ⟨g, cap, rfl, hgb, hcap⟩ := own_form' M2.own (by simp); have hN : (done ++ [(0 : Int)]).length = k + 1 := (by have := M1.out.len; simp; exact this); obtain ⟨hc1, hc2⟩ := M2.cell; have M3 := Aside0.mk (M2.set (x := x % 1000000000) hgb); clear hown1 hgrow M2 M1 HO; rw [hN]; obtain ⟨N, hN1⟩ : ∃ N, k + 1 = N := ⟨_, rfl⟩; rw [hN1]; have hkN : k < N := (by omega); have HN2 := Aside0.mk (hN.trans hN1); clear hN hN1)
     go_roundg (gk - 1)
     case measure => have := hg.out; have := HG.out; omega
     case rel => exact ⟨done ++ [x % 1000000000], [], x / 1000000000, k + 1, rfl, by simp, by omega, by omega, by have := hg.out; have := HG.out; omega, ⟨by have := hg.out; have := HG.out; simp at *; omega⟩, ⟨Dg.Dig.nil⟩, ⟨by have := M3.out; rw [HN2.out] at this; exact this⟩, HQ⟩
    | cons d ds =>
     obtain ⟨d0, d1⟩ := hD.out.head
     obtain ⟨p1, p2⟩ := dgs_cons hx x1 d0 d1
     have HQ := Aside0.mk (show (done ++ [(x + d) % 1000000000]) ++ Dg.pls ((x + d) / 1000000000) ds = r by rw [← hq.out]; simp only [Dg.pls]; rw [if_pos hx]; simp)
     have HG := Aside0.mk (And.intro p1 p2)
     clear p1 p2 hq
     obtain ⟨g, cap, e, hgb, hcap⟩ := own_form' hM.out.own (by simp; omega)
     injection e with e1 e2 e3
     subst e1 e3
     obtain ⟨hc1, hc2⟩ := hM.out.cell
     have M3 := Aside0.mk (hM.out.set (x := (x + d) % 1000000000) hgb)
     obtain ⟨N, hN⟩ : ∃ N, (done ++ d :: ds).length = N := ⟨_, rfl⟩
     have hkN : k < N := by rw [← hN]; have := hM.out.len; simp; omega
     rw [hN]
     have HN2 := Aside0.mk hN
     have hkne : ¬ k = N := by omega
     clear hN hM
     go_wp2_with fail
     go_roundg (gk - 1)
     case measure => have := hg.out; simp at this; omega
     case rel => exact ⟨done ++ [(x + d) % 1000000000], ds, (x + d) / 1000000000, k + 1, rfl, by simp, by omega, by omega, by have := hg.out; simp at this; omega, ⟨by have := hg.out; have := HG.out; simp at *; omega⟩, ⟨hD.out.tail⟩, ⟨by have := M3.out; rw [HN2.out] at this; exact this⟩, HQ⟩
   ·obtain rfl : x = 0 := by omega
    have HQ := Aside0.mk (show done ++ todo = r by rw [← hq.out, Dg.pls_zero])
    have HF := Aside0.mk (digits_of_own hM.out.own hM.out.below)
    have HBB := Aside0.mk hM.out.below
    obtain rfl := HQ.out
    obtain ⟨N, hN⟩ : ∃ N, (done ++ todo).length = N := ⟨_, rfl⟩
    rw [hN]
    have HN2 := Aside0.mk hN
    clear hq HQ hM hN
    go_wp2_with fail
    go_ret
    obtain ⟨A', c', e, h1, h2, h3⟩ := HF.out
    injection e with e1 e2 e3
    subst e1 e3
    exact ⟨_, _, by rw [HN2.out]; rfl, h1, h2, h3, HBB.out⟩
end Go.Proofs.YtfmkdledofbhdaaGreat.H
/- Contracts by hand: the document's bearer, made. -/
namespace Go.Proofs.YtfmkdledofbhdaaGreat.H
open Go.RowKit Go.Proofs.YtfmkdledofbhdaaGreatW.PrintWords Go.Proofs.YtfmkdledofbhdaaGreatW.PrintLast Go.Proofs.YtfmkdledofbhdaaGreatW.PrintMore Go.Proofs.YtfmkdledofbhdaaGreat.HW
set_option linter.unusedVariables false
set_option linter.unusedSimpArgs false
structure RefAt (w : World) (gb : Nat) (P : Int) (up : Bool) (rest : Int) : Prop where
 c0 : w.cell? ⟨gb, 0, none⟩ = some (.int .i64 P)
 c1 : w.cell? ⟨gb, 1, none⟩ = some (.bool up)
 c2 : w.cell? ⟨gb, 2, none⟩ = some (.int .i64 rest)
 f2 : w.frozen? ⟨gb, 2, none⟩ = false
 lt : gb < w.heap.size
theorem RefAt.below {w w1 : World} {gb : Nat} {P rest : Int} {up : Bool} (H : RefAt w gb P up rest) (hb : Below w.heap.size w w1) : RefAt w1 gb P up rest :=
 ⟨by rw [hb.cell (by exact H.lt)]; exact H.c0, by rw [hb.cell (by exact H.lt)]; exact H.c1, by rw [hb.cell (by exact H.lt)]; exact H.c2, by rw [hb.frozen (by exact H.lt)]; exact H.f2, Nat.lt_of_lt_of_le H.lt hb.size⟩
theorem RefAt.but {w w1 : World} {gb g2 : Nat} {P rest : Int} {up : Bool} (H : RefAt w g2 P up rest) (hb : But gb w w1) (hn : g2 ≠ gb) : RefAt w1 g2 P up rest :=
 ⟨by rw [hb.cell (by exact H.lt) (by exact hn)]; exact H.c0, by rw [hb.cell (by exact H.lt) (by exact hn)]; exact H.c1, by rw [hb.cell (by exact H.lt) (by exact hn)]; exact H.c2, by rw [hb.frozen (by exact H.lt) (by exact hn)]; exact H.f2, Nat.lt_of_lt_of_le H.lt hb.size⟩
theorem rparts_any (c : Int) (w : World) : Calls Tryz.prog 26 #[.int .i64 c] w fun e w' => e = .returned (.tuple #[.int .i64 (Fr.parts c).1, .int .i64 (Fr.parts c).2]) ∧ Drawn0 w w' := by
 have hcs : c = 1 ∨ c = 2 ∨ c = 3 ∨ (Fr.parts c = (0, 1) ∧ (c == 1) = false ∧ (c == 2) = false ∧ (c == 3) = false) := by
  rcases Fr.parts_cases c with ⟨v, _, rfl | rfl | rfl⟩ | h
  ·exact Or.inl rfl
  ·exact Or.inr (Or.inl rfl)
  ·exact Or.inr (Or.inr (Or.inl rfl))
  ·exact Or.inr (Or.inr (Or.inr h))
 rcases hcs with rfl | rfl | rfl | ⟨hp, h1, h2, h3⟩
 ·go_enter Tryz.func26, Tryz.ntmps26
  go_wp2
  go_ret2
  exact ⟨rfl, Drawn0.refl _⟩
 ·go_enter Tryz.func26, Tryz.ntmps26
  go_wp2
  go_ret2
  exact ⟨rfl, Drawn0.refl _⟩
 ·go_enter Tryz.func26, Tryz.ntmps26
  go_wp2
  go_ret2
  exact ⟨rfl, Drawn0.refl _⟩
 ·rw [hp]
  clear hp
  go_enter Tryz.func26, Tryz.ntmps26
  go_wp2
  go_ret2
  exact ⟨rfl, Drawn0.refl _⟩
def RNewly (c : Int) (up : Bool) (w : World) (e : Ending) (w' : World) : Prop := Below w.heap.size w w' ∧ ∃ gb, w.heap.size ≤ gb ∧ e = .returned (.tuple #[.pointer (some ⟨gb, 0, none⟩), .int .i64 0]) ∧ RefAt w' gb (Gm.gp c) up 0
theorem rnew_any {c r : Int} {up : Bool} (hc : c = 1 ∨ c = 2 ∨ c = 3) (hr : r = 1 ∧ up = true ∨ r = 3 ∧ up = false) (w : World) : Calls Tryz.prog 11 #[.int .i64 c, .int .i64 r] w (RNewly c up w) := by
 have hp : Fr.parts c = (Gm.gp c, 0) := by rcases hc with rfl | rfl | rfl <;> rfl
 have HP := Aside0.mk (fun w => by have := rparts_any c w; rw [hp] at this; exact this)
 clear hp hc
 generalize hv : Gm.gp c = v at *
 have HV := Aside0.mk hv
 clear hv
 rcases hr with ⟨rfl, rfl⟩ | ⟨rfl, rfl⟩
 all_goals
  go_enter Tryz.func11, Tryz.ntmps11
  go_wp2_with fail
  refine (HP.out _).mono ?_
  rintro e w1 ⟨rfl, ⟨m1, rfl⟩⟩
  go_wp2_with fail
  go_ret2
  refine ⟨(pw_below_drewN (Below.refl w.heap.size w) m1).alloc (by simp) _, w.heap.size, Nat.le_refl _, rfl, ?_⟩
  rw [HV.out]
  have e : w.heap.size = (w.drewN m1).heap.size := by simp
  rw [e]
  generalize w.drewN m1 = w1
  constructor <;> simp [go_sem]
theorem rwhole_any {gb : Nat} {P rest : Int} {up : Bool} {w : World} (A : RefAt w gb P up rest) (p0 : 0 ≤ P) (p1 : P ≤ 133590) : Calls Tryz.prog 29 #[.pointer (some ⟨gb, 0, none⟩)] w fun e w' => e = .returned (.int .i64 (1000000000 * P)) ∧ w' = w := by
 obtain ⟨c0, c1, c2, f2, lt⟩ := A
 go_enter Tryz.func29, Tryz.ntmps29
 go_wp2
 go_ret
 exact ⟨rfl, rfl⟩
theorem gp_bd (c : Int) : 360 ≤ Gm.gp c ∧ Gm.gp c ≤ 133590 := by
 unfold Gm.gp
 split
 ·decide
 ·split <;> decide
end Go.Proofs.YtfmkdledofbhdaaGreat.H
/- Contracts by hand: what the document's bearer bears. -/
namespace Go.Proofs.YtfmkdledofbhdaaGreat.H
open Go.RowKit Go.Proofs.YtfmkdledofbhdaaGreatW.PrintWords Go.Proofs.YtfmkdledofbhdaaGreatW.PrintLast Go.Proofs.YtfmkdledofbhdaaGreatW.PrintMore Go.Proofs.YtfmkdledofbhdaaGreat.HW
set_option linter.unusedVariables false
set_option linter.unusedSimpArgs false
def RBore (gb : Nat) (P : Int) (up : Bool) (x : Int × Int × Int) (w : World) (e : Ending) (w' : World) : Prop :=
 e = .returned (.tuple #[.int .i64 x.1, .int .i64 x.2.1]) ∧ RefAt w' gb P up x.2.2 ∧ But gb w w'
theorem rbear_arg {gb : Nat} {bal rate n : Int} (hm : ¬ Gm.may bal rate n) (w : World) : Calls Tryz.prog 12 #[.pointer (some ⟨gb, 0, none⟩), .int .i64 bal, .int .i64 rate, .int .i64 n] w fun e w' => e = .returned (.tuple #[.int .i64 0, .int .i64 1]) ∧ w' = w := by
 have hno : bal < 0 ∨ (0 ≤ bal ∧ 1000000000000000 < bal) ∨ (0 ≤ bal ∧ bal ≤ 1000000000000000 ∧ rate < 0) ∨ (0 ≤ bal ∧ bal ≤ 1000000000000000 ∧ 0 ≤ rate ∧ 1000000000 < rate) ∨ (0 ≤ bal ∧ bal ≤ 1000000000000000 ∧ 0 ≤ rate ∧ rate ≤ 1000000000 ∧ n < 0) ∨ (0 ≤ bal ∧ bal ≤ 1000000000000000 ∧ 0 ≤ rate ∧ rate ≤ 1000000000 ∧ 0 ≤ n ∧ 53436000 < n) := by
  unfold Gm.may at hm
  omega
 clear hm
 rcases hno with h1 | ⟨h1, h2⟩ | ⟨h1, h2, h3⟩ | ⟨h1, h2, h3, h4⟩ | ⟨h1, h2, h3, h4, h5⟩ | ⟨h1, h2, h3, h4, h5, h6⟩
 all_goals
  go_enter Tryz.func12, Tryz.ntmps12
  go_wp2_with fail
  go_ret2
  exact ⟨rfl, rfl⟩
theorem RefAt.put {w : World} {gb : Nat} {P rest : Int} {up : Bool} (A : RefAt w gb P up rest) (v : Int) : RefAt (w.setCell ⟨gb, 2, none⟩ (.int .i64 v)) gb P up v := by
 obtain ⟨c0, c1, c2, f2, lt⟩ := A
 refine ⟨?_, ?_, ?_, ?_, ?_⟩
 ·rw [World.cell?_setCell_other _ _ _ _ (by simp)]; exact c0
 ·rw [World.cell?_setCell_other _ _ _ _ (by simp)]; exact c1
 ·simp [World.cell?_setCell_same, c2]
 ·simp [go_sem, f2]
 ·simp [go_sem]; exact lt
theorem too_much {l : List Int} (hd : Dg.Dig l) {k : Nat} (hk : 1 ≤ k) (hkl : k < l.length) {P q r V h rest x : Int} (hP : 360 ≤ P) (hV : Dg.val l = x + rest + 1000000000 * P) (hy : Dg.val (l.drop (k + 1)) = q * P + r) (r0 : 0 ≤ r) (hq : 4000000 < q) (h0 : 0 ≤ h) : 1000000000000000 < Gm.q (1000000000 * P) h rest x := by
 have h1 := Dg.val_ge hd (k + 1) (by omega)
 rw [hy] at h1
 have h2 : (1000000000000000000 : Int) ≤ 1000000000 ^ (k + 1) := by
  obtain ⟨j, rfl⟩ : ∃ j, k = j + 1 := ⟨k - 1, by omega⟩
  rw [Int.pow_succ, Int.pow_succ]
  have : (0 : Int) < 1000000000 ^ j := Int.pow_pos (by decide)
  omega
 have h3 : 4000001 * P ≤ q * P + r := by
  have := Int.mul_le_mul_of_nonneg_right (show 4000001 ≤ q by omega) (show 0 ≤ P by omega)
  omega
 have h4 : 1000000000000000000 * (4000001 * P) ≤ 1000000000 ^ (k + 1) * (q * P + r) := Int.mul_le_mul h2 h3 (by omega) (by omega)
 unfold Gm.q
 have h5 : 1000000000000001 * (1000000000 * P) ≤ x + (rest + h) := by omega
 have := (Int.le_ediv_iff_mul_le (show 0 < 1000000000 * P by omega)).2 h5
 omega
set_option maxHeartbeats 4000000 in
set_option maxRecDepth 100000 in
theorem rbear_may {gb : Nat} {P W h rest bal rate n : Int} {up : Bool} {w : World} (A : RefAt w gb P up rest) (p0 : 360 ≤ P) (p1 : P ≤ 133590) (hW : W = 1000000000 * P) (hh : up = true ∧ W = 2 * h ∨ up = false ∧ h = 0) (G : Good W h rest) (hm : Gm.may bal rate n) (x : Int × Int × Int) (hx : Gm.bear W h rest bal rate n = x) :
  Calls Tryz.prog 12 #[.pointer (some ⟨gb, 0, none⟩), .int .i64 bal, .int .i64 rate, .int .i64 n] w (RBore gb P up x w) := by
 subst hW
 obtain ⟨a0, a1, b0, b1, n0, n1⟩ := hm
 have AA := Aside0.mk A
 have GG := Aside0.mk G
 have HH := Aside0.mk hh
 have HX := Aside0.mk hx
 have hrest := And.intro G.r0 G.r1
 obtain ⟨g1, g2, g3, g4, g5, g6⟩ := G
 have dg0 : Dg.Dig [bal % 1000000000, bal / 1000000000] := Dg.Dig.cons (by omega) (by omega) (Dg.Dig.cons (by omega) (by omega) Dg.Dig.nil)
 have v0 : Dg.val [bal % 1000000000, bal / 1000000000] = bal := by simp [Dg.val]; omega
 obtain ⟨d1, v1, l1⟩ := Dg.tms_spec b0 b1 [bal % 1000000000, bal / 1000000000] 0 (by omega) (by omega) dg0
 obtain ⟨d2, v2, l2⟩ := Dg.tms_spec n0 (by omega) (Dg.tms rate 0 [bal % 1000000000, bal / 1000000000]) 0 (by omega) (by omega) d1
 rw [v1, v0, Int.add_zero, Int.add_zero] at v2
 obtain ⟨d3, v3, l3⟩ := Dg.pls_spec (Dg.tms n 0 (Dg.tms rate 0 [bal % 1000000000, bal / 1000000000])) (rest + 1000000000 * P) (by omega) (by omega) d2
 rw [v2] at v3
 have HD0 := Aside0.mk dg0
 have HD1 := Aside0.mk d1
 have HD2 := Aside0.mk d2
 have L1 : (Dg.tms rate 0 [bal % 1000000000, bal / 1000000000]).length ≤ 3 := by simpa using l1
 have L2 : (Dg.tms n 0 (Dg.tms rate 0 [bal % 1000000000, bal / 1000000000])).length ≤ 4 := by omega
 have hread : Kd.C (Kd.int .i64) (w.alloc (.cells #[.int .i64 (bal % 1000000000), .int .i64 (bal / 1000000000)] 2)) (some ⟨w.heap.size, 0, none⟩) [bal % 1000000000, bal / 1000000000].length [bal % 1000000000, bal / 1000000000] := by
  refine Kd.C_of_reads (d := (0 : Int)) ⟨rfl, by simp, fun _ => ⟨_, rfl, fun j hj => ?_⟩⟩
  simp at hj
  rcases (by omega : j = 0 ∨ j = 1) with rfl | rfl <;> simp [go_sem, Addr.add]
 have HRD := Aside0.mk hread
 have hpos := Int.mul_nonneg (Int.mul_nonneg a0 b0) n0
 have V3 := Aside0.mk (show Dg.val (Dg.pls (rest + 1000000000 * P) (Dg.tms n 0 (Dg.tms rate 0 [bal % 1000000000, bal / 1000000000]))) = bal * rate * n + rest + 1000000000 * P by rw [v3]; omega)
 have HD3 := Aside0.mk d3
 have HPOS := Aside0.mk hpos
 clear dg0 d1 d2 d3 v0 v1 v2 v3 l1 l2 hread hh hx A hpos
 go_enter Tryz.func12, Tryz.ntmps12
 go_wp2_with fail
 refine (times_any (l := [bal % 1000000000, bal / 1000000000]) (c0 := 2) HRD.out (by simp) HD0.out (by simp) b0 b1).mono ?_
 rintro e w1 ⟨A1, c1, rfl, hc1, hle1, hA1, hb1⟩
 have HC1 := Aside0.mk hc1
 have HB1 := Aside0.mk (((Below.refl w.heap.size w).alloc (Nat.le_refl _) (.cells #[.int .i64 (bal % 1000000000), .int .i64 (bal / 1000000000)] 2)).trans (hb1.mono (by simp)))
 clear hc1 hb1 hA1 HRD
 generalize Dg.tms rate 0 [bal % 1000000000, bal / 1000000000] = t1 at *
 go_wp2_with fail
 refine (times_any HC1.out hle1 HD1.out (by omega) n0 (by omega)).mono ?_
 rintro e w2 ⟨A2, c2, rfl, hc2, hle2, hA2, hb2⟩
 have HC2 := Aside0.mk hc2
 have HA2 := Aside0.mk hA2
 have HB2 := Aside0.mk (below_step HB1.out hb2)
 clear hc2 hb2 hA2 HC1 HB1
 generalize Dg.tms n 0 t1 = t2 at *
 have R2 := Aside0.mk (AA.out.below HB2.out)
 go_wp2_with fail
 have k0 := R2.out.c0
 have k2 := R2.out.c2
 go_still_tail 8, (by kernel_rfl)
 have R2d := R2.out.below (Below.drew (Below.refl _ _))
 have HC2d := Aside0.mk (Kd.C_drew HC2.out)
 have HB2d := Aside0.mk HB2.out.drew
 have RD := Aside0.mk R2d
 still_call (rwhole_any R2d (by omega) p1)
 still_step
 refine wpStill_nil ?_
 clear R2d k0 k2 R2 HC2 HB2
 go_wp2_with fail
 refine (plus_any HC2d.out hle2 HA2.out HD2.out (by omega) (v := rest + 1000000000 * P) (by omega) (by omega)).mono ?_
 rintro e w4 ⟨A3, c3, rfl, hc3, hle3, hA3, hb3⟩
 have HC3 := Aside0.mk hc3
 have HB3 := Aside0.mk (below_step HB2d.out hb3)
 have R3 := Aside0.mk (RD.out.below hb3)
 clear hc3 hb3 hA3 HC2d HB2d RD
 generalize Dg.pls (rest + 1000000000 * P) t2 = l at *
 have k0 := R3.out.c0
 go_wp2_with fail
 have hl0 : 0 < l.length := by
  rcases Nat.eq_zero_or_pos l.length with h' | h'
  ·have hv := V3.out
   rw [List.eq_nil_of_length_eq_zero h'] at hv
   have := HPOS.out
   simp only [Dg.val] at hv
   omega
  ·exact h'
 have hl10 : l.length ≤ 10 := by omega
 have hp2 : (P == 0) = false := by simp; omega
 have hp3 : (P == -1) = false := by simp; omega
 clear k0 l3
 go_loopg [11, 12, 13] l.length (fun gq qv rv iv w' => ∃ (k : Nat) (q r : Int), k < l.length ∧ iv = .int .i64 (k : Int) ∧ qv = .int .i64 q ∧ rv = .int .i64 r ∧ 0 ≤ q ∧ q ≤ 4100000000000000 ∧ 0 ≤ r ∧ r < P ∧ Aside0 (gq = k + 1) ∧ Aside0 (Dg.val (l.drop (k + 1)) = q * P + r) ∧ Drawn0 w4 w')
 case atStart => exact ⟨l.length - 1, 0, 0, by omega, by congr 1; omega, rfl, rfl, by omega, by omega, by omega, by omega, ⟨by omega⟩, ⟨by rw [show l.length - 1 + 1 = l.length by omega, List.drop_length]; simp [Dg.val]⟩, Drawn0.refl _⟩
 case round =>
  obtain ⟨k, q, r, kl, rfl, rfl, rfl, q0, q1, r0, r1, hg, hy, ⟨m1, rfl⟩⟩ := hrel
  have RK := Aside0.mk (R3.out.below (w1 := w4.drewN m1) (Drawn0.below ⟨_, rfl⟩))
  have c0 := R3.out.c0
  obtain ⟨ad, e0, hx0⟩ := Kd.at_int HC3.out (k : Int) (by omega) (by omega)
  subst e0
  rw [Int.toNat_natCast] at hx0
  obtain ⟨hdv, hdd0, hdd1⟩ := Dg.val_drop HD3.out k kl
  have hrd : rd l (k : Int) = l.getD k 0 := by simp [rd]
  rw [hrd] at hx0
  generalize l.getD k 0 = d at *
  have HDV := Aside0.mk hdv
  clear hdv hrd
  by_cases hk : 1 ≤ k
  ·by_cases hq : 4000000 < q
   ·have hbig := too_much (V := 0) HD3.out hk kl p0 V3.out hy.out r0 hq g3
    have ex : x = (0, 3, rest) := by
     rw [← HX.out]
     unfold Gm.bear
     rw [if_pos ⟨a0, a1, b0, b1, n0, n1⟩, if_neg (by omega)]
    subst ex
    have BUT := Aside0.mk (But.of (gb := gb) (pw_below_drewN HB3.out m1))
    clear hx0 hbig c0
    go_wp2_with fail
    go_ret2
    exact ⟨rfl, RK.out, BUT.out⟩
   ·obtain ⟨s1, s2, s3, s4, s5⟩ := Dg.div_step (P := P) (by omega) hy.out r0 r1 hdd0 hdd1
    have HY := Aside0.mk (HDV.out.trans s1)
    obtain ⟨vv, hvv⟩ : ∃ vv, r * 1000000000 + d = vv := ⟨_, rfl⟩
    rw [hvv] at s1 s2 s3 s4 s5 HY
    have vv0 : 0 ≤ vv := by omega
    have vv1 : vv ≤ 140000000000000 := by omega
    obtain ⟨dq, hdq⟩ : ∃ dq, vv / P = dq := ⟨_, rfl⟩
    obtain ⟨dr, hdr⟩ : ∃ dr, vv % P = dr := ⟨_, rfl⟩
    have t1 : Int.tdiv vv P = dq := by rw [Int.tdiv_eq_ediv_of_nonneg vv0]; exact hdq
    have t2 : Int.tmod vv P = dr := by rw [Int.tmod_eq_emod_of_nonneg vv0]; exact hdr
    rw [hdq, hdr] at HY
    rw [hdq] at s2 s3
    rw [hdr] at s4 s5
    have w1 : IntKind.i64.wrap (q * 1000000000) = q * 1000000000 := IntWalk.i64_in _ (by omega)
    have w2 : IntKind.i64.wrap dq = dq := IntWalk.i64_in _ (by omega)
    have w3 : IntKind.i64.wrap dr = dr := IntWalk.i64_in _ (by omega)
    have w4 : IntKind.i64.wrap (q * 1000000000 + dq) = q * 1000000000 + dq := IntWalk.i64_in _ (by omega)
    have hvv2 : IntKind.i64.wrap (r * 1000000000 + d) = vv := by rw [hvv]; exact IntWalk.i64_in _ (by omega)
    have W1 := Aside0.mk w1
    have W2 := Aside0.mk w2
    have W3 := Aside0.mk w3
    have W4 := Aside0.mk w4
    clear s1 hdq hdr w1 w2 w3 w4
    go_wp2_with fail
    have w1 := W1.out
    have w2 := W2.out
    have w3 := W3.out
    have w4 := W4.out
    go_quiet (fail)
    clear w1 w2 w3 w4 t1 t2 hvv hvv2
    go_wp2_with fail
    go_roundg k
    case measure => have := hg.out; omega
    case rel => exact ⟨k - 1, q * 1000000000 + dq, dr, by omega, by congr 1; omega, rfl, rfl, by omega, by omega, by omega, by omega, ⟨by omega⟩, ⟨by rw [show k - 1 + 1 = k by omega]; exact HY.out⟩, ⟨_, by first | rfl | (simp only [World.drewN_drewN]; rfl)⟩⟩
  ·obtain rfl : k = 0 := by omega
   have hx1 : w4.cell? ad = some (.int .i64 d) := by simpa [Addr.add] using hx0
   have hV := V3.out
   have hdv := HDV.out
   have hyo := hy.out
   rw [List.drop_zero] at hdv
   have hvl : bal * rate * n + rest + 1000000000 * P = q * (1000000000 * P) + (r * 1000000000 + d) := by
    rw [← hV, hdv, hyo, Int.mul_add, show q * (1000000000 * P) = 1000000000 * (q * P) by rw [← Int.mul_assoc, Int.mul_comm q, Int.mul_assoc]]
    omega
   obtain ⟨en1, en2⟩ := Dg.ends (P := P) (W := 1000000000 * P) (h := h) (by omega) rfl hvl (by omega) (by omega) up HH.out
   have kc0 := RK.out.c0
   have kc1 := RK.out.c1
   clear hx0 c0 hV hdv hyo hvl
   cases up with
   | true =>
    by_cases hge : 1000000000 * P - (r * 1000000000 + d) ≤ r * 1000000000 + d
    ·obtain ⟨e1, e2⟩ := en1 ⟨rfl, hge⟩
     clear en1 en2
     by_cases hmost : q ≤ 1000000000000000
     ·have ex : x = (q, 0, r * 1000000000 + d - 1000000000 * P) := by
       rw [← HX.out]
       unfold Gm.bear
       rw [if_pos ⟨a0, a1, b0, b1, n0, n1⟩, e1, e2, if_pos hmost]
      subst ex
      have BUT := Aside0.mk ((But.of (gb := gb) (pw_below_drewN HB3.out m1)).setCell (p := ⟨gb, 2, none⟩) (Or.inl rfl) (.int .i64 (r * 1000000000 + d - 1000000000 * P)))
      have RKo := RK.out
      have k2 := RKo.c2
      have kf := RKo.f2
      have RN := Aside0.mk (RefAt.put RKo (r * 1000000000 + d - 1000000000 * P))
      clear e1 e2 RKo
      go_wp2_with fail
      refine (rwhole_any RK.out (by omega) p1).mono ?_
      rintro e _ ⟨rfl, rfl⟩
      go_wp2_with fail
      refine (rwhole_any RK.out (by omega) p1).mono ?_
      rintro e _ ⟨rfl, rfl⟩
      go_wp2_with fail
      go_ret2
      exact ⟨rfl, RN.out, BUT.out⟩
     ·have ex : x = (0, 3, rest) := by
       rw [← HX.out]
       unfold Gm.bear
       rw [if_pos ⟨a0, a1, b0, b1, n0, n1⟩, e1, if_neg hmost]
      subst ex
      have BUT := Aside0.mk (But.of (gb := gb) (pw_below_drewN HB3.out m1))
      clear e1 e2
      go_wp2_with fail
      refine (rwhole_any RK.out (by omega) p1).mono ?_
      rintro e _ ⟨rfl, rfl⟩
      go_wp2_with fail
      refine (rwhole_any RK.out (by omega) p1).mono ?_
      rintro e _ ⟨rfl, rfl⟩
      go_wp2_with fail
      go_ret2
      exact ⟨rfl, RK.out, BUT.out⟩
    ·obtain ⟨e1, e2⟩ := en2 (fun h' => hge h'.2)
     have hge2 : r * 1000000000 + d < 1000000000 * P - (r * 1000000000 + d) := by omega
     clear en1 en2 hge
     by_cases hmost : q - 1 ≤ 1000000000000000
     ·have ex : x = (q - 1, 0, r * 1000000000 + d) := by
       rw [← HX.out]
       unfold Gm.bear
       rw [if_pos ⟨a0, a1, b0, b1, n0, n1⟩, e1, e2, if_pos hmost]
      subst ex
      have BUT := Aside0.mk ((But.of (gb := gb) (pw_below_drewN HB3.out m1)).setCell (p := ⟨gb, 2, none⟩) (Or.inl rfl) (.int .i64 (r * 1000000000 + d)))
      have RKo := RK.out
      have k2 := RKo.c2
      have kf := RKo.f2
      have RN := Aside0.mk (RefAt.put RKo (r * 1000000000 + d))
      clear e1 e2 RKo
      go_wp2_with fail
      refine (rwhole_any RK.out (by omega) p1).mono ?_
      rintro e _ ⟨rfl, rfl⟩
      go_wp2_with fail
      go_ret2
      exact ⟨rfl, RN.out, BUT.out⟩
     ·have ex : x = (0, 3, rest) := by
       rw [← HX.out]
       unfold Gm.bear
       rw [if_pos ⟨a0, a1, b0, b1, n0, n1⟩, e1, if_neg hmost]
      subst ex
      have BUT := Aside0.mk (But.of (gb := gb) (pw_below_drewN HB3.out m1))
      clear e1 e2
      go_wp2_with fail
      refine (rwhole_any RK.out (by omega) p1).mono ?_
      rintro e _ ⟨rfl, rfl⟩
      go_wp2_with fail
      go_ret2
      exact ⟨rfl, RK.out, BUT.out⟩
   | false =>
    obtain ⟨e1, e2⟩ := en2 (fun h' => by cases h'.1)
    clear en1 en2
    by_cases hmost : q - 1 ≤ 1000000000000000
    ·have ex : x = (q - 1, 0, r * 1000000000 + d) := by
      rw [← HX.out]
      unfold Gm.bear
      rw [if_pos ⟨a0, a1, b0, b1, n0, n1⟩, e1, e2, if_pos hmost]
     subst ex
     have BUT := Aside0.mk ((But.of (gb := gb) (pw_below_drewN HB3.out m1)).setCell (p := ⟨gb, 2, none⟩) (Or.inl rfl) (.int .i64 (r * 1000000000 + d)))
     have RKo := RK.out
     have k2 := RKo.c2
     have kf := RKo.f2
     have RN := Aside0.mk (RefAt.put RKo (r * 1000000000 + d))
     clear e1 e2 RKo
     go_wp2_with fail
     go_ret2
     exact ⟨rfl, RN.out, BUT.out⟩
    ·have ex : x = (0, 3, rest) := by
      rw [← HX.out]
      unfold Gm.bear
      rw [if_pos ⟨a0, a1, b0, b1, n0, n1⟩, e1, if_neg hmost]
     subst ex
     have BUT := Aside0.mk (But.of (gb := gb) (pw_below_drewN HB3.out m1))
     clear e1 e2
     go_wp2_with fail
     go_ret2
     exact ⟨rfl, RK.out, BUT.out⟩
theorem rbear_any {gb : Nat} {P W h rest bal rate n : Int} {up : Bool} {w : World} (A : RefAt w gb P up rest) (p0 : 360 ≤ P) (p1 : P ≤ 133590) (hW : W = 1000000000 * P) (hh : up = true ∧ W = 2 * h ∨ up = false ∧ h = 0) (G : Good W h rest) :
  Calls Tryz.prog 12 #[.pointer (some ⟨gb, 0, none⟩), .int .i64 bal, .int .i64 rate, .int .i64 n] w (RBore gb P up (Gm.bear W h rest bal rate n) w) := by
 by_cases hm : Gm.may bal rate n
 ·exact rbear_may A p0 p1 hW hh G hm _ rfl
 ·unfold Gm.bear
  rw [if_neg hm]
  exact (rbear_arg hm w).mono fun e w' ⟨h1, h2⟩ => by subst h2; exact ⟨h1, A, But.of (Below.refl _ _)⟩
end Go.Proofs.YtfmkdledofbhdaaGreat.H
namespace Go.Proofs.YtfmkdledofbhdaaGreat.Lv
open Go.RowKit Go.Proofs.YtfmkdledofbhdaaGreatW.PrintWords Go.Proofs.YtfmkdledofbhdaaGreatW.PrintLast Go.Proofs.YtfmkdledofbhdaaGreatW.PrintMore Go.Proofs.YtfmkdledofbhdaaGreat.HW
open Pm Pd
set_option linter.unusedVariables false
set_option linter.unusedSimpArgs false
def fine (l : List Int) : Bool := l.all (fun n => decide (0 ≤ n ∧ n ≤ 267180))
def askE (p : Prod) (l : List Int) (m : Int) : Int := if err p ≠ 0 then 9 else if (l.length : Int) = p.times ∧ 1 ≤ m ∧ m ≤ 10000000000000 ∧ fine l = true then 0 else 1
theorem err_two (p : Prod) : err p = 0 ∨ err p = 9 := by unfold err; split <;> simp
abbrev wcs (p : Prod) (A1 : Option Addr) (c1 : Nat) (A2 : Option Addr) (c2 : Nat) (A3 : Option Addr) (c3 : Nat) (A : Option Addr) (l : List Int) (c : Nat) (m : Int) : Array Value :=
 #[.string p.name, .int .i64 p.count, .int .i64 p.round, .int .i64 p.kind, .int .i64 p.every, .int .i64 p.times, .int .i64 p.grace, .int .i64 p.rate, .slice A1 p.resets.length c1, .int .i64 p.penalty, .int .i64 p.o1, .int .i64 p.o2, .int .i64 p.o3, .int .i64 p.o4, .int .i64 p.over, .slice A2 p.late.length c2, .int .i64 p.cap, .int .i64 p.roll, .slice A3 p.hol.length c3, .slice A l.length c, .int .i64 m]
abbrev wv (p : Prod) (A1 : Option Addr) (c1 : Nat) (A2 : Option Addr) (c2 : Nat) (A3 : Option Addr) (c3 : Nat) (A : Option Addr) (l : List Int) (c : Nat) (m : Int) : Value := .agg (wcs p A1 c1 A2 c2 A3 c3 A l c m)
abbrev wzs : Array Value :=
 #[.string ⟨#[]⟩, .int .i64 0, .int .i64 0, .int .i64 0, .int .i64 0, .int .i64 0, .int .i64 0, .int .i64 0, .slice none 0 0, .int .i64 0, .int .i64 0, .int .i64 0, .int .i64 0, .int .i64 0, .int .i64 0, .slice none 0 0, .int .i64 0, .int .i64 0, .slice none 0 0, .slice none 0 0, .int .i64 0]
theorem info_walk : (Tryz.prog.info? 86).map (·.size) = some 21 := by kernel_rfl
theorem wcs_one (p : Prod) (A1 : Option Addr) (c1 : Nat) (A2 : Option Addr) (c2 : Nat) (A3 : Option Addr) (c3 : Nat) (A : Option Addr) (l : List Int) (c : Nat) (m : Int) : (wcs p A1 c1 A2 c2 A3 c3 A l c m).all (·.oneCell') = true := by simp [Value.oneCell']
theorem w_cells {p : Prod} {A1 : Option Addr} {c1 : Nat} {A2 : Option Addr} {c2 : Nat} {A3 : Option Addr} {c3 : Nat} {A : Option Addr} {l : List Int} {c : Nat} {m : Int} {w : World} {g : Nat} {t : TypeId} (h : w.heap[g]? = some (.cells (wcs p A1 c1 A2 c2 A3 c3 A l c m) t (0, 0))) :
  w.cell? ⟨g, 1, none⟩ = some (.int .i64 p.count) ∧ w.cell? ⟨g, 2, none⟩ = some (.int .i64 p.round) ∧ w.cell? ⟨g, 5, none⟩ = some (.int .i64 p.times) ∧ w.cell? ⟨g, 6, none⟩ = some (.int .i64 p.grace) ∧ w.cell? ⟨g, 7, none⟩ = some (.int .i64 p.rate) ∧ w.cell? ⟨g, 19, none⟩ = some (.slice A l.length c) ∧ w.cell? ⟨g, 20, none⟩ = some (.int .i64 m) :=
 ⟨(blk_cell h 1).trans rfl, (blk_cell h 2).trans rfl, (blk_cell h 5).trans rfl, (blk_cell h 6).trans rfl, (blk_cell h 7).trans rfl, (blk_cell h 19).trans rfl, (blk_cell h 20).trans rfl⟩
theorem w_range {p : Prod} {A1 : Option Addr} {c1 : Nat} {A2 : Option Addr} {c2 : Nat} {A3 : Option Addr} {c3 : Nat} {A : Option Addr} {l : List Int} {c : Nat} {m : Int} {w : World} {g : Nat} {t : TypeId} (h : w.heap[g]? = some (.cells (wcs p A1 c1 A2 c2 A3 c3 A l c m) t (0, 0))) :
  w.rangeAt g 0 (pcs p A1 c1 A2 c2 A3 c3).toList := by
 intro j v hj
 rw [Array.getElem?_toList] at hj
 have hlt : j < (pcs p A1 c1 A2 c2 A3 c3).size := by
  rcases Nat.lt_or_ge j (pcs p A1 c1 A2 c2 A3 c3).size with h1 | h1
  ·exact h1
  ·rw [Array.getElem?_eq_none h1] at hj; cases hj
 rw [Nat.zero_add, blk_cell h j, show wcs p A1 c1 A2 c2 A3 c3 A l c m = pcs p A1 c1 A2 c2 A3 c3 ++ #[.slice A l.length c, .int .i64 m] from rfl, Array.getElem?_append_left hlt]
 exact hj
section
variable {P : Program} {ops : Array Oper} {rest : List Oper} {op : Oper} {a : Act} {w : World} {Q : Exit → Act → World → Prop}
theorem load_part (hgd : op.guard = none) (ty : TypeId) (x : Operand) (ho : op.op = .load ty x) (b : Nat) (hx : a.eval x = .pointer (some ⟨b, 0, none⟩)) (cs : Array Value) (d : TypeDesc) (hc : w.rangeAt b 0 cs.toList)
  (hu : P.underlying ty = some d) (hd : d.isRow = true) (hi : (P.info? ty).map (·.size) = some cs.size) (h : wpList P ops Q rest (a.put op.dst (.agg cs)) w) : wpList P ops Q (op :: rest) a w :=
 wpList_load_mid hgd ty x ho b 0 hx cs.toList d hc hu hd (by simpa using hi) (by simpa using h)
end
theorem fine_drop {l : List Int} {k : Nat} (h : k < l.length) : fine (l.drop k) = (decide (0 ≤ rd l (k : Int) ∧ rd l (k : Int) ≤ 267180) && fine (l.drop (k + 1))) := by
 unfold fine
 have e : rd l (k : Int) = l[k] := by simp [rd, h]
 rw [List.drop_eq_getElem_cons h, List.all_cons, e]
def AskP (p : Prod) (l : List Int) (m : Int) (w : World) (e : Ending) (w' : World) : Prop := e = .returned (.int .i64 (askE p l m)) ∧ Below w.heap.size w w'
set_option maxRecDepth 100000 in
set_option maxHeartbeats 2000000 in
theorem may_bad (p : Prod) (A1 : Option Addr) (c1 : Nat) (A2 : Option Addr) (c2 : Nat) (A3 : Option Addr) (c3 : Nat) (A : Option Addr) (l : List Int) (c : Nat) (m : Int) (w : World) (hg : GV w) (hp : ProdAt w p A1 c1 A2 c2 A3 c3) (hs : Small p) (hr : Kd.C (Kd.int .i64) w A l.length l) (hl : l.length ≤ 1000000) (ha : err p = 9) :
  Calls Tryz.prog 42 #[wv p A1 c1 A2 c2 A3 c3 A l c m] w (AskP p l m w) := by
 have hx : askE p l m = 9 := by unfold askE; rw [ha, if_pos (by decide)]
 unfold AskP
 rw [hx]
 clear hx
 have HG := Aside0.mk hg
 have HP := Aside0.mk hp
 have HS := Aside0.mk hs
 have HR := Aside0.mk hr
 have HA := Aside0.mk ha
 clear hg hp hs hr ha
 go_enter Tryz.func42, Tryz.ntmps42
 go_wp2_with (first
  | ((with_reducible refine gate_dst (N := 1) rfl ?_); refine box_event ?hg (N := 1) ?hd (cs := wcs p A1 c1 A2 c2 A3 c3 A l c m) (t := 86) ?hr ?_; (case hd => rfl); (case hg => rfl); (case hr => first | (go_simp; done) | (go_simp; rfl)); intro g1 hg w1 hbg1 hblg1; have g1ge := (show w.heap.size ≤ g1 by rw [hg]; exact Nat.le_refl _); clear hg; have HBg1 := Aside0.mk hbg1; have BLg1 := Aside0.mk hblg1; clear hbg1 hblg1)
  | ((with_reducible refine gate_dst (N := 7) rfl ?_); refine load_part rfl 27 (.tmp 6) rfl g1 rfl (pcs p A1 c1 A2 c2 A3 c3) _ (w_range HBg1.out) Tryz.underlying27 rfl info_prod ?_))
 refine (check_any p A1 c1 A2 c2 A3 c3 _ (HG.out.below BLg1.out) (HP.out.below BLg1.out) HS.out).mono ?_
 rintro e w2 ⟨rfl, hb⟩
 have B2 := Aside0.mk (below_step BLg1.out hb)
 obtain ⟨-, -, q5, -, -, q19, q20⟩ := w_cells (Pd.blk_below HBg1.out hb)
 have HR2 := Aside0.mk (Kd.C_below (Kd.C_below HR.out BLg1.out) hb)
 clear hb HBg1 BLg1
 rw [HA.out]
 go_wp2_with fail
 go_ret
 exact ⟨rfl, B2.out⟩
set_option maxRecDepth 100000 in
set_option maxHeartbeats 2000000 in
theorem may_arg (p : Prod) (A1 : Option Addr) (c1 : Nat) (A2 : Option Addr) (c2 : Nat) (A3 : Option Addr) (c3 : Nat) (A : Option Addr) (l : List Int) (c : Nat) (m : Int) (w : World) (hg : GV w) (hp : ProdAt w p A1 c1 A2 c2 A3 c3) (hs : Small p) (hr : Kd.C (Kd.int .i64) w A l.length l) (hl : l.length ≤ 1000000) (ha : err p = 0) (hn : ¬ (l.length : Int) = p.times ∨ ((l.length : Int) = p.times ∧ m < 1) ∨ ((l.length : Int) = p.times ∧ 1 ≤ m ∧ 10000000000000 < m)) :
  Calls Tryz.prog 42 #[wv p A1 c1 A2 c2 A3 c3 A l c m] w (AskP p l m w) := by
 have hx : askE p l m = 1 := by unfold askE; rw [ha, if_neg (by decide), if_neg (by omega)]
 unfold AskP
 rw [hx]
 clear hx
 have HG := Aside0.mk hg
 have HP := Aside0.mk hp
 have HS := Aside0.mk hs
 have HR := Aside0.mk hr
 have HA := Aside0.mk ha
 clear hg hp hs hr ha
 go_enter Tryz.func42, Tryz.ntmps42
 go_wp2_with (first
  | ((with_reducible refine gate_dst (N := 1) rfl ?_); refine box_event ?hg (N := 1) ?hd (cs := wcs p A1 c1 A2 c2 A3 c3 A l c m) (t := 86) ?hr ?_; (case hd => rfl); (case hg => rfl); (case hr => first | (go_simp; done) | (go_simp; rfl)); intro g1 hg w1 hbg1 hblg1; have g1ge := (show w.heap.size ≤ g1 by rw [hg]; exact Nat.le_refl _); clear hg; have HBg1 := Aside0.mk hbg1; have BLg1 := Aside0.mk hblg1; clear hbg1 hblg1)
  | ((with_reducible refine gate_dst (N := 7) rfl ?_); refine load_part rfl 27 (.tmp 6) rfl g1 rfl (pcs p A1 c1 A2 c2 A3 c3) _ (w_range HBg1.out) Tryz.underlying27 rfl info_prod ?_))
 refine (check_any p A1 c1 A2 c2 A3 c3 _ (HG.out.below BLg1.out) (HP.out.below BLg1.out) HS.out).mono ?_
 rintro e w2 ⟨rfl, hb⟩
 have B2 := Aside0.mk (below_step BLg1.out hb)
 obtain ⟨-, -, q5, -, -, q19, q20⟩ := w_cells (Pd.blk_below HBg1.out hb)
 have HR2 := Aside0.mk (Kd.C_below (Kd.C_below HR.out BLg1.out) hb)
 clear hb HBg1 BLg1
 rw [HA.out]
 rcases hn with h | ⟨h, h2⟩ | ⟨h, h2, h3⟩
 ·have hb : ((l.length : Int) != p.times) = true := by simpa using h
  clear h
  go_wp2_with fail
  go_ret
  exact ⟨rfl, B2.out⟩
 all_goals
  have hb : ((l.length : Int) != p.times) = false := by simpa using h
  clear h
  go_wp2_with fail
  go_ret
  exact ⟨rfl, B2.out⟩
set_option maxRecDepth 100000 in
set_option maxHeartbeats 2000000 in
theorem may_loop (p : Prod) (A1 : Option Addr) (c1 : Nat) (A2 : Option Addr) (c2 : Nat) (A3 : Option Addr) (c3 : Nat) (A : Option Addr) (l : List Int) (c : Nat) (m : Int) (w : World) (hg : GV w) (hp : ProdAt w p A1 c1 A2 c2 A3 c3) (hs : Small p) (hr : Kd.C (Kd.int .i64) w A l.length l) (hl : l.length ≤ 1000000) (ha : err p = 0) (h1 : (l.length : Int) = p.times) (h2 : 1 ≤ m) (h3 : m ≤ 10000000000000) :
  Calls Tryz.prog 42 #[wv p A1 c1 A2 c2 A3 c3 A l c m] w (AskP p l m w) := by
 have hx : askE p l m = if fine l = true then 0 else 1 := by
  unfold askE
  rw [ha, if_neg (by decide)]
  by_cases hf : fine l = true
  ·rw [if_pos hf, if_pos ⟨h1, h2, h3, hf⟩]
  ·rw [if_neg hf, if_neg (fun h => hf h.2.2.2)]
 unfold AskP
 obtain ⟨v, hv⟩ : ∃ v, (if fine l = true then (0 : Int) else 1) = v := ⟨_, rfl⟩
 rw [hx, hv]
 have HV := Aside0.mk hv
 clear hx hv
 have hb : ((l.length : Int) != p.times) = false := by simpa using h1
 clear h1
 have HG := Aside0.mk hg
 have HP := Aside0.mk hp
 have HS := Aside0.mk hs
 have HR := Aside0.mk hr
 have HA := Aside0.mk ha
 clear hg hp hs hr ha
 go_enter Tryz.func42, Tryz.ntmps42
 go_wp2_with (first
  | ((with_reducible refine gate_dst (N := 1) rfl ?_); refine box_event ?hg (N := 1) ?hd (cs := wcs p A1 c1 A2 c2 A3 c3 A l c m) (t := 86) ?hr ?_; (case hd => rfl); (case hg => rfl); (case hr => first | (go_simp; done) | (go_simp; rfl)); intro g1 hg w1 hbg1 hblg1; have g1ge := (show w.heap.size ≤ g1 by rw [hg]; exact Nat.le_refl _); clear hg; have HBg1 := Aside0.mk hbg1; have BLg1 := Aside0.mk hblg1; clear hbg1 hblg1)
  | ((with_reducible refine gate_dst (N := 7) rfl ?_); refine load_part rfl 27 (.tmp 6) rfl g1 rfl (pcs p A1 c1 A2 c2 A3 c3) _ (w_range HBg1.out) Tryz.underlying27 rfl info_prod ?_))
 refine (check_any p A1 c1 A2 c2 A3 c3 _ (HG.out.below BLg1.out) (HP.out.below BLg1.out) HS.out).mono ?_
 rintro e w2 ⟨rfl, hb⟩
 have B2 := Aside0.mk (below_step BLg1.out hb)
 obtain ⟨-, -, q5, -, -, q19, q20⟩ := w_cells (Pd.blk_below HBg1.out hb)
 have HR2 := Aside0.mk (Kd.C_below (Kd.C_below HR.out BLg1.out) hb)
 clear hb HBg1 BLg1
 rw [HA.out]
 go_wp2_with fail
 go_loopg [32] (l.length + 1) (fun gq iv w' => ∃ (k : Nat), k ≤ l.length ∧ iv = .int .i64 (k : Int) ∧ Aside0 (gq = l.length + 1 - k) ∧ Aside0 ((if fine (l.drop k) = true then (0 : Int) else 1) = v) ∧ w' = w2)
 case atStart => exact ⟨0, by omega, rfl, ⟨rfl⟩, ⟨by rw [List.drop_zero]; exact HV.out⟩, rfl⟩
 case round =>
  obtain ⟨k, hk, rfl, hgq, hv, rfl⟩ := hrel
  by_cases hlt : k < l.length
  ·obtain ⟨ad0, e0, hx0⟩ := Kd.at_int HR2.out (k : Int) (by omega) (by omega)
   cases e0
   simp only [Int.toNat_natCast] at hx0
   have hf := fine_drop hlt
   obtain ⟨d, hd⟩ : ∃ d, rd l (k : Int) = d := ⟨_, rfl⟩
   rw [hd] at hx0 hf
   rcases (by omega : d < 0 ∨ (0 ≤ d ∧ 267180 < d) ∨ (0 ≤ d ∧ d ≤ 267180)) with c0 | ⟨c0, c1⟩ | ⟨c0, c1⟩
   ·have hv1 := hv.out
    rw [hf, decide_eq_false (by omega), Bool.false_and, if_neg (by decide)] at hv1
    have HV1 := Aside0.mk hv1
    clear hv1 hf hd hv
    go_wp2_with fail
    go_ret
    obtain rfl := HV1.out
    exact ⟨rfl, B2.out⟩
   ·have hv1 := hv.out
    rw [hf, decide_eq_false (by omega), Bool.false_and, if_neg (by decide)] at hv1
    have HV1 := Aside0.mk hv1
    clear hv1 hf hd hv
    go_wp2_with fail
    go_ret
    obtain rfl := HV1.out
    exact ⟨rfl, B2.out⟩
   ·have hv1 := hv.out
    rw [hf, decide_eq_true ⟨c0, c1⟩, Bool.true_and] at hv1
    have HV1 := Aside0.mk hv1
    clear hv1 hf hd hv
    go_wp2_with fail
    go_roundg (l.length + 1 - (k + 1))
    case measure => have := hgq.out; omega
    case rel => exact ⟨k + 1, by omega, by simp, ⟨rfl⟩, ⟨HV1.out⟩, rfl⟩
  ·have hv1 := hv.out
   rw [List.drop_of_length_le (by omega)] at hv1
   have HV1 := Aside0.mk (show (0 : Int) = v by simpa [fine] using hv1)
   clear hv1 hv
   go_wp2_with fail
   go_ret
   obtain rfl := HV1.out
   exact ⟨rfl, B2.out⟩
theorem may_any (p : Prod) (A1 : Option Addr) (c1 : Nat) (A2 : Option Addr) (c2 : Nat) (A3 : Option Addr) (c3 : Nat) (A : Option Addr) (l : List Int) (c : Nat) (m : Int) (w : World) (hg : GV w) (hp : ProdAt w p A1 c1 A2 c2 A3 c3) (hs : Small p) (hr : Kd.C (Kd.int .i64) w A l.length l) (hl : l.length ≤ 1000000) : Calls Tryz.prog 42 #[wv p A1 c1 A2 c2 A3 c3 A l c m] w (AskP p l m w) := by
 rcases err_two p with ha | ha
 ·by_cases h : (l.length : Int) = p.times ∧ 1 ≤ m ∧ m ≤ 10000000000000
  ·exact may_loop p A1 c1 A2 c2 A3 c3 A l c m w hg hp hs hr hl ha h.1 h.2.1 h.2.2
  ·exact may_arg p A1 c1 A2 c2 A3 c3 A l c m w hg hp hs hr hl ha (by omega)
 ·exact may_bad p A1 c1 A2 c2 A3 c3 A l c m w hg hp hs hr hl ha
end Go.Proofs.YtfmkdledofbhdaaGreat.Lv
/- Plain: days rolled lie near; parts between instalments are two years at most. -/
namespace Go.Proofs.YtfmkdledofbhdaaGreat.Lv
open Go.RowKit Go.Proofs.YtfmkdledofbhdaaGreatW.PrintWords Go.Proofs.YtfmkdledofbhdaaGreatW.PrintLast Go.Proofs.YtfmkdledofbhdaaGreatW.PrintMore Go.Proofs.YtfmkdledofbhdaaGreat.HW
open Go.Proofs.YtfmkdledofbhdaaGreat.Math Go.Proofs.YtfmkdledofbhdaaGreat.H Go.Proofs.YtfmkdledofbhdaaGreat.Pd Go.Proofs.YtfmkdledofbhdaaGreat.Du Pm
set_option linter.unusedVariables false
set_option linter.unusedSimpArgs false
def cnt (l : List Int) (lo hi : Int) : Nat := l.countP (fun x => decide (lo ≤ x ∧ x < hi))
theorem cnt_le (l : List Int) (lo hi : Int) : cnt l lo hi ≤ l.length := List.countP_le_length
theorem cnt_add {a b c : Int} (h1 : a ≤ b) (h2 : b ≤ c) : ∀ l : List Int, cnt l a b + cnt l b c = cnt l a c
 | [] => rfl
 | x :: l => by
  have ih := cnt_add h1 h2 l
  unfold cnt at ih ⊢
  simp only [List.countP_cons]
  by_cases p1 : a ≤ x ∧ x < b
  ·rw [decide_eq_true p1, decide_eq_false (show ¬ (b ≤ x ∧ x < c) by omega), decide_eq_true (show a ≤ x ∧ x < c by omega)]
   simp only [if_true, Bool.false_eq_true, if_false]
   omega
  ·by_cases p2 : b ≤ x ∧ x < c
   ·rw [decide_eq_false p1, decide_eq_true p2, decide_eq_true (show a ≤ x ∧ x < c by omega)]
    simp only [if_true, Bool.false_eq_true, if_false]
    omega
   ·rw [decide_eq_false p1, decide_eq_false p2, decide_eq_false (show ¬ (a ≤ x ∧ x < c) by omega)]
    simp only [Bool.false_eq_true, if_false]
    omega
theorem cnt_one {l : List Int} {x : Int} (h : x ∈ l) : 1 ≤ cnt l x (x + 1) := by
 unfold cnt
 exact List.countP_pos_iff.2 ⟨x, h, by simp; omega⟩
def shutD (l : List Int) (y : Int) : Prop := isDay y ∧ openB l y = false
theorem shut_in {l : List Int} {y : Int} (h : shutD l y) (hw : weekday y < 5) : 1 ≤ cnt l y (y + 1) := by
 obtain ⟨h1, h2⟩ := h
 unfold openB at h2
 rw [decide_eq_true h1, decide_eq_true hw] at h2
 simp at h2
 exact cnt_one h2
theorem shut_week {l : List Int} {a : Int} (h : ∀ y, a ≤ y → y < a + 7 → shutD l y) : 5 ≤ cnt l a (a + 7) := by
 have g : ∀ i : Int, 0 ≤ i → i < 7 → weekday (a + i) < 5 → 1 ≤ cnt l (a + i) (a + i + 1) := fun i h0 h1 hw => shut_in (h _ (by omega) (by omega)) hw
 have e1 := cnt_add (a := a) (b := a + 1) (c := a + 7) (by omega) (by omega) l
 have e2 := cnt_add (a := a + 1) (b := a + 2) (c := a + 7) (by omega) (by omega) l
 have e3 := cnt_add (a := a + 2) (b := a + 3) (c := a + 7) (by omega) (by omega) l
 have e4 := cnt_add (a := a + 3) (b := a + 4) (c := a + 7) (by omega) (by omega) l
 have e5 := cnt_add (a := a + 4) (b := a + 5) (c := a + 7) (by omega) (by omega) l
 have e6 := cnt_add (a := a + 5) (b := a + 6) (c := a + 7) (by omega) (by omega) l
 have g0 := g 0 (by omega) (by omega)
 have g1 := g 1 (by omega) (by omega)
 have g2 := g 2 (by omega) (by omega)
 have g3 := g 3 (by omega) (by omega)
 have g4 := g 4 (by omega) (by omega)
 have g5 := g 5 (by omega) (by omega)
 have g6 := g 6 (by omega) (by omega)
 simp only [Int.add_zero, Int.add_assoc, Int.reduceAdd] at g0 g1 g2 g3 g4 g5 g6
 have hw : weekday a = 0 ∨ weekday a = 1 ∨ weekday a = 2 ∨ weekday a = 3 ∨ weekday a = 4 ∨ weekday a = 5 ∨ weekday a = 6 := by unfold weekday; omega
 have w1 : weekday (a + 1) = (weekday a + 1) % 7 := by unfold weekday; omega
 have w2 : weekday (a + 2) = (weekday a + 2) % 7 := by unfold weekday; omega
 have w3 : weekday (a + 3) = (weekday a + 3) % 7 := by unfold weekday; omega
 have w4 : weekday (a + 4) = (weekday a + 4) % 7 := by unfold weekday; omega
 have w5 : weekday (a + 5) = (weekday a + 5) % 7 := by unfold weekday; omega
 have w6 : weekday (a + 6) = (weekday a + 6) % 7 := by unfold weekday; omega
 rw [w1] at g1; rw [w2] at g2; rw [w3] at g3; rw [w4] at g4; rw [w5] at g5; rw [w6] at g6
 clear w1 w2 w3 w4 w5 w6 g h
 rcases hw with e | e | e | e | e | e | e <;> rw [e] at g0 g1 g2 g3 g4 g5 g6 <;> simp only [Int.reduceAdd, Int.reduceMod, Int.reduceLT, forall_const] at g0 g1 g2 g3 g4 g5 g6 <;> omega
theorem shut_weeks {l : List Int} : ∀ (k : Nat) (a : Int), (∀ y, a ≤ y → y < a + 7 * k → shutD l y) → 5 * k ≤ cnt l a (a + 7 * k)
 | 0, a, h => by omega
 | k + 1, a, h => by
  have h1 := shut_week (l := l) (a := a) (fun y y0 y1 => h y y0 (by omega))
  have h2 := shut_weeks k (a + 7) (fun y y0 y1 => h y (by omega) (by omega))
  have e := cnt_add (a := a) (b := a + 7) (c := a + 7 * ((k + 1 : Nat) : Int)) (by omega) (by omega) l
  rw [show a + 7 + 7 * (k : Int) = a + 7 * ((k + 1 : Nat) : Int) by omega] at h2
  omega
theorem shut_run {l : List Int} (hl : l.length ≤ 200) {a b : Int} (h : ∀ y, a ≤ y → y < b → shutD l y) : b ≤ a + 290 := by
 rcases (by omega : b ≤ a + 290 ∨ a + 290 < b) with h1 | h1
 ·exact h1
 ·have := shut_weeks 41 a (fun y y0 y1 => h y y0 (by omega))
  have := cnt_le l a (a + 7 * ((41 : Nat) : Int))
  omega
theorem seek_shut_up (l : List Int) (x : Int) : ∀ (k : Nat) (day : Int), seekS l 1 k day = (x, 0) → day ≤ x ∧ isDay x ∧ ∀ y, day ≤ y → y < x → shutD l y
 | 0, day, h => by simp [seekS] at h
 | k + 1, day, h => by
  rw [seekS_succ] at h
  split at h
  ·rename_i hd
   split at h
   ·obtain ⟨rfl, -⟩ := Prod.mk.inj h
    exact ⟨Int.le_refl _, hd, fun y y0 y1 => by omega⟩
   ·rename_i ho
    obtain ⟨h1, h2, h3⟩ := seek_shut_up l x k (day + 1) h
    refine ⟨by omega, h2, fun y y0 y1 => ?_⟩
    rcases (by omega : y = day ∨ day + 1 ≤ y) with rfl | h4
    ·exact ⟨hd, by simpa using ho⟩
    ·exact h3 y h4 y1
  ·simp at h
theorem seek_shut_down (l : List Int) (x : Int) : ∀ (k : Nat) (day : Int), seekS l (-1) k day = (x, 0) → x ≤ day ∧ isDay x ∧ ∀ y, x < y → y ≤ day → shutD l y
 | 0, day, h => by simp [seekS] at h
 | k + 1, day, h => by
  rw [seekS_succ] at h
  split at h
  ·rename_i hd
   split at h
   ·obtain ⟨rfl, -⟩ := Prod.mk.inj h
    exact ⟨Int.le_refl _, hd, fun y y0 y1 => by omega⟩
   ·rename_i ho
    obtain ⟨h1, h2, h3⟩ := seek_shut_down l x k (day + -1) h
    refine ⟨by omega, h2, fun y y0 y1 => ?_⟩
    rcases (by omega : y = day ∨ y ≤ day + -1) with rfl | h4
    ·exact ⟨hd, by simpa using ho⟩
    ·exact h3 y y0 h4
  ·simp at h
def RB (how day x : Int) : Prop := how = 1 ∧ x = day ∨ how = 2 ∧ day ≤ x ∧ x ≤ day + 290 ∨ how = 4 ∧ day - 290 ≤ x ∧ x ≤ day ∨ how = 3 ∧ day - 290 ≤ x ∧ x ≤ day + 31
theorem up_bd {l : List Int} (hl : l.length ≤ 200) {k : Nat} {day x : Int} (h : seekS l 1 k day = (x, 0)) : day ≤ x ∧ x ≤ day + 290 ∧ isDay x := by
 obtain ⟨h1, h2, h3⟩ := seek_shut_up l x k day h
 exact ⟨h1, shut_run hl h3, h2⟩
theorem down_bd {l : List Int} (hl : l.length ≤ 200) {k : Nat} {day x : Int} (h : seekS l (-1) k day = (x, 0)) : day - 290 ≤ x ∧ x ≤ day := by
 obtain ⟨h1, h2, h3⟩ := seek_shut_down l x k day h
 have := shut_run hl (a := x + 1) (b := day + 1) (fun y y0 y1 => h3 y (by omega) (by omega))
 exact ⟨by omega, h1⟩
theorem same_month {a b : Int} (ha : isDay a) (hb : isDay b) (h : mon a = mon b) : b ≤ a + 31 := by
 obtain ⟨_, _, a1, a2, a3, _⟩ := idx_spec ha
 obtain ⟨_, _, b1, b2, b3, _⟩ := idx_spec hb
 have ea : mon a = idx a + 1 := by unfold mon date; rw [if_pos ha]; show 12 * yearOf a + monthOf a = idx a + 1; unfold idx; omega
 have eb : mon b = idx b + 1 := by unfold mon date; rw [if_pos hb]; show 12 * yearOf b + monthOf b = idx b + 1; unfold idx; omega
 have e : idx a = idx b := by omega
 have := dayAt_mono (t := idx b) (d := dayOf b) (d' := dayOf a)
 have m := ml_bd (idx b)
 rw [e] at a3
 omega
theorem roll_bd {l : List Int} (hl : l.length ≤ 200) {day how x : Int} (h : rollS l day how = (x, 0)) : RB how day x := by
 unfold rollS at h
 by_cases hd : isDay day
 ·rw [if_neg (fun g => g hd)] at h
  by_cases h1 : how < 1 ∨ 4 < how
  ·rw [if_pos h1] at h; simp at h
  ·rw [if_neg h1] at h
   by_cases e1 : how = 1
   ·rw [if_pos e1] at h
    obtain ⟨rfl, -⟩ := Prod.mk.inj h
    exact .inl ⟨e1, rfl⟩
   ·rw [if_neg e1] at h
    by_cases e4 : how = 4
    ·rw [if_pos e4] at h
     obtain ⟨p, q⟩ := down_bd hl h
     exact .inr (.inr (.inl ⟨e4, p, q⟩))
    ·rw [if_neg e4] at h
     split at h
     ·rename_i hc
      obtain ⟨p, q⟩ := down_bd hl h
      exact .inr (.inr (.inr ⟨hc.1, p, by omega⟩))
     ·rename_i hc
      obtain ⟨p, q, r⟩ := up_bd hl h
      by_cases e3 : how = 3
      ·have hm : mon x = mon day := by
        rcases Decidable.em (mon x = mon day) with g | g
        ·exact g
        ·exact absurd ⟨e3, .inr (by rw [h]; exact g)⟩ hc
       have := same_month hd r hm.symm
       exact .inr (.inr (.inr ⟨e3, by omega, this⟩))
      ·exact .inr (.inl ⟨by omega, p, q⟩)
 ·rw [if_pos hd] at h; simp at h
theorem dayAt_year (t d d' : Int) (h1 : 1 ≤ d) (h2 : d' ≤ 31) (h3 : d' ≤ d + 1) : dayAt (t + 12) d' ≤ dayAt t d + 369 := by
 unfold dayAt
 rw [show (t + 12) / 12 = t / 12 + 1 by omega, show (t + 12) % 12 = t % 12 by omega]
 have o := opens_succ (t / 12)
 have l1 := leap_01 (t / 12)
 have l2 := leap_01 (t / 12 + 1)
 have c : cum (t / 12 + 1) (t % 12 + 1) ≤ cum (t / 12) (t % 12 + 1) + 1 := by
  unfold cum
  repeat' split
  all_goals omega
 omega
theorem A_year {n k e : Int} (h : isDay n) (e1 : 1 ≤ e) (e2 : e ≤ 12) : A n (k + e) ≤ A n k + 369 := by
 have hy : A n (k + 12) ≤ A n k + 369 := by
  unfold A
  have d1 := (idx_spec h).2.2.1
  have m1 := ml_bd (idx n + k)
  have m2 := ml_bd (idx n + (k + 12))
  have hm : ml (idx n + (k + 12)) ≤ ml (idx n + k) + 1 := by
   unfold ml
   rw [show (idx n + (k + 12)) / 12 = (idx n + k) / 12 + 1 by omega, show (idx n + (k + 12)) % 12 = (idx n + k) % 12 by omega]
   have l1 := leap_01 ((idx n + k) / 12)
   have l2 := leap_01 ((idx n + k) / 12 + 1)
   unfold mlen
   repeat' split
   all_goals omega
  have := dayAt_year (idx n + k) (min (dayOf n) (ml (idx n + k))) (min (dayOf n) (ml (idx n + (k + 12)))) (by omega) (by omega) (by omega)
  rw [show idx n + k + 12 = idx n + (k + 12) by omega] at this
  exact this
 rcases (by omega : e = 12 ∨ e < 12) with rfl | h1
 ·exact hy
 ·have := A_far h (k := k + e) (k' := k + 12) (by omega)
  omega
def Near2 : Int → List Int → Prop
 | _, [] => True
 | p, d :: r => d ≤ p + 730 ∧ Near2 d r
theorem rolled_near {n e how : Int} {hol : List Int} (hd : isDay n) (hl : hol.length ≤ 200) (e1 : 1 ≤ e) (e2 : e ≤ 12) : ∀ (m : Nat) (i p : Int) (xs : List Int), RB how (A n (i * e)) p → rollAll hol how (drow n e m i) = (xs, 0) → Near2 p xs
 | 0, i, p, xs, hp, h => by
  obtain ⟨rfl, -⟩ := Prod.mk.inj h
  trivial
 | m + 1, i, p, xs, hp, h => by
  rw [drow, rollAll] at h
  split at h
  ·rename_i h0
   obtain ⟨x, hx⟩ : ∃ x, (rollS hol (A n ((i + 1) * e)) how).1 = x := ⟨_, rfl⟩
   have hr : rollS hol (A n ((i + 1) * e)) how = (x, 0) := by rw [← hx, ← h0]
   have hb := roll_bd hl hr
   rw [hx] at h
   unfold after at h
   split at h
   ·rename_i h1
    have hi := rolled_near hd hl e1 e2 m (i + 1) x (rollAll hol how (drow n e m (i + 1))).1 hb (by rw [← h1])
    obtain ⟨h2, -⟩ := Prod.mk.inj h
    rw [← h2]
    refine ⟨?_, hi⟩
    have ha := A_year (k := i * e) hd e1 e2
    rw [show i * e + e = (i + 1) * e by rw [Int.add_mul]; omega] at ha
    rcases hb with ⟨q, q1⟩ | ⟨q, q1, q2⟩ | ⟨q, q1, q2⟩ | ⟨q, q1, q2⟩ <;> rcases hp with ⟨s, s1⟩ | ⟨s, s1, s2⟩ | ⟨s, s1, s2⟩ | ⟨s, s1, s2⟩ <;> omega
   ·rename_i h1
    exact absurd (congrArg Prod.snd h) h1
  ·rename_i h0
   exact absurd (congrArg Prod.snd h) h0
theorem rb_self {how x : Int} (h1 : 1 ≤ how) (h2 : how ≤ 4) : RB how x x := by
 unfold RB
 omega
theorem days_near {q : Prod} {start : Int} {xs : List Int} (h : daysP q start = (xs, 0)) (ht : q.times ≤ 40) (h2 : start < 20000) : Near2 start xs := by
 obtain ⟨hq, hd, -, -, t1, -, -, hx, hx0, -⟩ := days_known h
 obtain ⟨⟨⟨⟨⟨a1, a2, a3, a4, a5, a6, a7, a8⟩, _⟩, _⟩, _⟩, ⟨hl, ⟨ro1, ro2⟩, _⟩, _⟩ := (ok_iff q).1 hq
 have e1 : 1 ≤ q.every := by omega
 have e2 : q.every ≤ 12 := by omega
 have hdt : datesP start q.every q.times = (drow start q.every q.times.toNat 0, 0) := by
  unfold datesP
  rw [if_pos (by omega), dates_are hd h2 e1 e2 _ 0 [] (by omega) (by omega)]
  rfl
 rw [hdt] at hx hx0
 refine rolled_near (hol := q.hol) (how := q.roll) hd hl e1 e2 q.times.toNat 0 start xs ?_ ?_
 ·rw [Int.zero_mul, A_zero hd]; exact rb_self ro1 ro2
 ·exact Prod.ext hx.symm hx0
theorem actual_most : ∀ (k : Nat) {a : Int}, isDay a → isDay (a + k) → actual (a + k) ≤ actual a + 366 * k
 | 0, a, _, _ => by simp
 | k + 1, a, ha, hb => by
  obtain ⟨a1, a2⟩ := id ha
  obtain ⟨b1, b2⟩ := id hb
  have hm : isDay (a + k) := ⟨by omega, by omega⟩
  have hb' : isDay (a + k + 1) := ⟨by omega, by omega⟩
  have ih := actual_most k ha hm
  have hs := actual_succ hm hb'
  have hl := leap_01 (yearOf (a + k))
  rw [show a + ((k + 1 : Nat) : Int) = a + k + 1 by omega]
  omega
theorem thirty_le {a b : Int} (ha : isDay a) (hb : isDay b) (h : a ≤ b) : thirty a ≤ thirty b := by
 obtain ⟨y1, y2, m1, m2, d1, d2⟩ := date_bd ha
 obtain ⟨y3, y4, m3, m4, d3, d4⟩ := date_bd hb
 obtain ⟨_, _, f1, f2, f3, _⟩ := idx_spec ha
 obtain ⟨_, _, g1, g2, g3, _⟩ := idx_spec hb
 have ei : idx a = 12 * yearOf a + monthOf a - 1 := rfl
 have ej : idx b = 12 * yearOf b + monthOf b - 1 := rfl
 unfold thirty
 rw [if_pos ha, if_pos hb]
 rcases (by omega : idx a < idx b ∨ idx a = idx b ∨ idx b < idx a) with h1 | h1 | h1
 ·omega
 ·have := dayAt_mono (t := idx b) (d := dayOf b) (d' := dayOf a)
  rw [h1] at f3
  omega
 ·have := dayAt_less h1 f1 g2
  omega
theorem place_two {c a b : Int} (hc : c = 1 ∨ c = 2 ∨ c = 3) (ha : isDay a) (hb : isDay b) (h : a ≤ b) (h2 : b ≤ a + 730) : 0 ≤ place c b - place c a ∧ place c b - place c a ≤ 267180 := by
 obtain ⟨p1, p2⟩ := id ha
 obtain ⟨q1, q2⟩ := id hb
 unfold place
 rcases hc with rfl | rfl | rfl
 ·simp only [if_true]
  have := thirty_le ha hb h
  obtain ⟨y1, y2, m1, m2, d1, d2⟩ := date_bd ha
  obtain ⟨y3, y4, m3, m4, d3, d4⟩ := date_bd hb
  unfold thirty at this ⊢
  rw [if_pos ha, if_pos hb] at this ⊢
  omega
 ·simp only [show ¬ ((2 : Int) = 1) by decide, if_false, if_true]; omega
 ·simp only [show ¬ ((3 : Int) = 1) by decide, show ¬ ((3 : Int) = 2) by decide, if_false]
  have hbb : isDay (a + ((b - a).toNat : Int)) := by rw [show a + ((b - a).toNat : Int) = b by omega]; exact hb
  have u := actual_most (b - a).toNat ha hbb
  have v := actual_up (b - a).toNat ha hbb
  rw [show a + ((b - a).toNat : Int) = b by omega] at u v
  omega
theorem fine_parts {c : Int} (hc : c = 1 ∨ c = 2 ∨ c = 3) : ∀ (l : List Int) (s : Int), isDay s → (∀ d ∈ l, isDay d) → rise s l = true → Near2 s l → fine (rpartsL c s l) = true
 | [], s, _, _, _, _ => rfl
 | d :: r, s, hs, hd, hr, hn => by
  obtain ⟨n1, n2⟩ := hn
  rw [rise, Bool.and_eq_true] at hr
  obtain ⟨r1, r2⟩ := hr
  have r1 := of_decide_eq_true r1
  have hdd := hd d (by simp)
  have := place_two hc hs hdd (by omega) n1
  rw [rpartsL, between_ok hc hs hdd]
  unfold fine
  rw [List.all_cons, Bool.and_eq_true]
  exact ⟨decide_eq_true this, fine_parts hc r d hdd (fun x hx => hd x (by simp [hx])) r2 n2⟩
theorem parts_fine {q : Prod} {start : Int} {ys : List Int} (h : partsP q start = (ys, 0)) (ht : q.times ≤ 40) (h2 : start < 20000) : ok q = true ∧ (ys.length : Int) = q.times ∧ fine ys = true := by
 unfold partsP at h
 split at h
 ·rename_i h0
  obtain ⟨rfl, -⟩ := Prod.mk.inj h
  have hd : daysP q start = ((daysP q start).1, 0) := by rw [← h0]
  obtain ⟨ho, hs0, hds, hl, t1, t2, hr, -⟩ := days_known hd
  have hc := count_known ho
  exact ⟨ho, by rw [rparts_len]; exact hl, fine_parts hc _ _ hs0 hds hr (days_near hd ht h2)⟩
 ·rename_i h0
  exact absurd (congrArg Prod.snd h) h0
theorem ask_parts {q : Prod} {start m : Int} {ys : List Int} (h : partsP q start = (ys, 0)) (ht : q.times ≤ 40) (h2 : start < 20000) (m0 : 1 ≤ m) (m1 : m ≤ 10000000000000) : askE q ys m = 0 := by
 obtain ⟨ho, hl, hf⟩ := parts_fine h ht h2
 have he : err q = 0 := by unfold err; rw [if_pos ho]
 unfold askE
 rw [he, if_neg (by decide), if_pos ⟨hl, m0, m1, hf⟩]
end Go.Proofs.YtfmkdledofbhdaaGreat.Lv
/- Contracts by hand: level: what an instalment leaves. -/
namespace Go.Proofs.YtfmkdledofbhdaaGreat.Lv
open Go.RowKit Go.Proofs.YtfmkdledofbhdaaGreatW.PrintWords Go.Proofs.YtfmkdledofbhdaaGreatW.PrintLast Go.Proofs.YtfmkdledofbhdaaGreatW.PrintMore Go.Proofs.YtfmkdledofbhdaaGreat.HW
open Pm Pd
set_option linter.unusedVariables false
set_option linter.unusedSimpArgs false
open Go.Proofs.YtfmkdledofbhdaaGreat.H
theorem good_in {W h rest bal : Int} (G : H.Good W h rest) (b0 : 0 < bal) (b1 : bal ≤ 1000000000000000) : In W h rest bal := ⟨by have := G.w0; omega, b0, b1, G.r0, G.r1⟩
theorem bear_bd {W h rest bal rate n : Int} (G : H.Good W h rest) (b0 : 0 < bal) (b1 : bal ≤ 1000000000000000) : 0 ≤ (Gm.bear W h rest bal rate n).1 ∧ (Gm.bear W h rest bal rate n).1 ≤ 1000000000000000 := by
 by_cases e : (Gm.bear W h rest bal rate n).2.1 = 0
 ·obtain ⟨_, hq, he⟩ := bear_ok e
  refine ⟨(bear_in (good_in G b0 b1) e).1, ?_⟩
  rw [he]; exact hq
 ·rw [bear_eq] at e ⊢
  split at e
  ·rename_i h
   rw [if_pos h]
   split at e
   ·simp at e
   ·rename_i h2
    rw [if_neg h2]; simp
  ·rename_i h
   rw [if_neg h]; simp
theorem wk_cons {W h rate gr x : Int} {i : Int} {n : Int} {l : List Int} {bal rest : Int} {z : Int × Int × Int} (hz : Gm.bear W h rest bal rate n = z) :
  wk W h rate gr x i (n :: l) bal rest = if z.2.1 ≠ 0 then 1000000000000001 else if i < gr then wk W h rate gr x (i + 1) l bal z.2.2 else if bal + (z.1 - x) ≤ 0 then bal + (z.1 - x) else if 1000000000000000 < bal + (z.1 - x) then 1000000000000001 else wk W h rate gr x (i + 1) l (bal + (z.1 - x)) z.2.2 := by
 rw [wk, hz]
set_option maxRecDepth 100000 in
set_option maxHeartbeats 4000000 in
theorem left_any (p : Prod) (A1 : Option Addr) (c1 : Nat) (A2 : Option Addr) (c2 : Nat) (A3 : Option Addr) (c3 : Nat) (A : Option Addr) (l : List Int) (c : Nat) (m : Int) (x : Int) (w : World) (hc : 1 ≤ p.count ∧ p.count ≤ 3) (hrd : p.round = 1 ∨ p.round = 3) (hra : 0 ≤ p.rate ∧ p.rate ≤ 1000000000) (hgr : 0 ≤ p.grace ∧ p.grace ≤ 600) (hr : Kd.C (Kd.int .i64) w A l.length l) (hl : l.length ≤ 1000000) (hm0 : 1 ≤ m) (hm1 : m ≤ 10000000000000) (x0 : 0 ≤ x) (x1 : x ≤ 1000000000000000) :
  Calls Tryz.prog 45 #[wv p A1 c1 A2 c2 A3 c3 A l c m, .int .i64 x] w fun e w' => e = .returned (.int .i64 (wk (Gm.whole p.count) (Gm.half p.count p.round) p.rate p.grace x 0 l m 0)) ∧ Below w.heap.size w w' := by
 have HR := Aside0.mk hr
 have HN := Aside0.mk (fun W => bnew_any (c := p.count) (r := p.round) (by omega) hrd W)
 have GN := good_new p.count p.round
 obtain ⟨v, hv⟩ : ∃ v, wk (Gm.whole p.count) (Gm.half p.count p.round) p.rate p.grace x 0 l m 0 = v := ⟨_, rfl⟩
 rw [hv]
 have HV := Aside0.mk hv
 clear hr hc hrd hv
 obtain ⟨Wh, hWh⟩ : ∃ y, Gm.whole p.count = y := ⟨_, rfl⟩
 obtain ⟨Hf, hHf⟩ : ∃ y, Gm.half p.count p.round = y := ⟨_, rfl⟩
 rw [hWh, hHf] at GN HV
 have HWh := Aside0.mk hWh
 have HHf := Aside0.mk hHf
 clear hWh hHf
 have GG := Aside0.mk GN
 clear GN
 go_enter Tryz.func45, Tryz.ntmps45
 go_wp2_with ((with_reducible refine gate_dst (N := 2) rfl ?_); refine box_event ?hg (N := 2) ?hd (cs := wcs p A1 c1 A2 c2 A3 c3 A l c m) (t := 86) ?hr ?_; (case hd => rfl); (case hg => rfl); (case hr => first | (go_simp; done) | (go_simp; rfl)); intro g1 hg w1 hbg1 hblg1; have g1ge := (show w.heap.size ≤ g1 by rw [hg]; exact Nat.le_refl _); clear hg; have HBg1 := Aside0.mk hbg1; have BLg1 := Aside0.mk hblg1; obtain ⟨u1, u2, -, -, -, -, -⟩ := w_cells hbg1; clear hbg1 hblg1)
 refine (HN.out _).mono ?_
 rintro e w2 ⟨hb, gb, hgb, rfl, hba⟩
 rw [HWh.out, HHf.out] at hba
 have B2 := Aside0.mk (below_step BLg1.out hb)
 have hne : g1 ≠ gb := by have := Pd.blk_below HBg1.out (Below.refl _ _); have := blk_lt HBg1.out; omega
 have HB2 := Aside0.mk (Pd.blk_below HBg1.out hb)
 have gbge : w.heap.size ≤ gb := Nat.le_trans BLg1.out.size hgb
 have BA := Aside0.mk hba
 obtain ⟨-, -, -, -, -, u19, u20⟩ := w_cells HB2.out
 clear hb hgb hba HBg1 BLg1 u1 u2 HN
 go_wp2_with fail
 clear u20
 go_loopg [7, 27] (l.length + 1) (fun gq bv iv w' => ∃ (k : Nat) (bal rest : Int), k ≤ l.length ∧ iv = .int .i64 (k : Int) ∧ bv = .int .i64 bal ∧ 0 < bal ∧ bal ≤ 1000000000000000 ∧ Aside0 (gq = l.length + 1 - k) ∧ Aside0 (wk Wh Hf p.rate p.grace x (k : Int) (l.drop k) bal rest = v) ∧ Aside0 (BearAt w' gb Wh Hf rest) ∧ Aside0 (H.Good Wh Hf rest) ∧ Aside0 (w'.heap[g1]? = some (.cells (wcs p A1 c1 A2 c2 A3 c3 A l c m) 86 (0, 0))) ∧ Aside0 (Below w.heap.size w w'))
 case atStart => exact ⟨0, m, 0, by omega, rfl, rfl, by omega, by omega, ⟨rfl⟩, ⟨by rw [List.drop_zero]; exact HV.out⟩, BA, GG, HB2, B2⟩
 case round =>
  obtain ⟨k, bal, rest, hk, rfl, rfl, b0, b1, hgq, HW, BA, GG, HB, BB⟩ := hrel
  clear HV B2 HB2 u19
  by_cases hlt : k < l.length
  ·obtain ⟨ad0, e0, hx0⟩ := Kd.at_int HR.out (k : Int) (by omega) (by omega)
   cases e0
   simp only [Int.toNat_natCast] at hx0
   have hx1 := (BB.out.cell (cell_ltR hx0)).trans hx0
   obtain ⟨-, -, -, u6, u7, -, -⟩ := w_cells HB.out
   have hd : l.drop k = rd l (k : Int) :: l.drop (k + 1) := by rw [List.drop_eq_getElem_cons hlt]; simp [rd, hlt]
   have hw := HW.out
   rw [hd] at hw
   obtain ⟨d, hdd⟩ : ∃ d, rd l (k : Int) = d := ⟨_, rfl⟩
   rw [hdd] at hw hx1
   obtain ⟨z, hz⟩ : ∃ z, Gm.bear Wh Hf rest bal p.rate d = z := ⟨_, rfl⟩
   rw [wk_cons hz] at hw
   have zb := bear_bd (rate := p.rate) (n := d) GG.out b0 b1
   have G2 := good_bear (bal := bal) (rate := p.rate) (n := d) GG.out
   have RB := Aside0.mk (bear_any (bal := bal) (rate := p.rate) (n := d) BA.out GG.out)
   rw [hz] at zb G2 RB
   have GG2 := Aside0.mk G2
   have HW2 := Aside0.mk hw
   clear hx0 hd hdd hz hw G2 HW
   obtain ⟨z1, z2, z3⟩ := z
   simp only [] at zb GG2 RB HW2
   go_wp2_with fail
   refine RB.out.mono ?_
   rintro e w3 ⟨rfl, hba, hbut⟩
   have BA3 := Aside0.mk hba
   have HB3 := Aside0.mk ((hbut.block g1 (blk_lt HB.out) hne).trans HB.out)
   have BB3 := Aside0.mk (But.below BB.out BB.out.size gbge hbut)
   obtain ⟨-, -, -, u6, -, -, -⟩ := w_cells HB3.out
   clear hba hbut BA HB BB RB u7 hx1
   by_cases hz2 : z2 = 0
   ·subst hz2
    have hw := HW2.out
    rw [if_neg (by simp)] at hw
    by_cases hi : (k : Int) < p.grace
    ·rw [if_pos hi] at hw
     have HW3 := Aside0.mk hw
     clear hw HW2
     go_wp2_with fail
     go_roundg (l.length + 1 - (k + 1))
     case measure => have := hgq.out; omega
     case rel => exact ⟨k + 1, bal, z3, by omega, by simp, rfl, b0, b1, ⟨rfl⟩, ⟨by exact HW3.out⟩, BA3, GG2, HB3, BB3⟩
    ·rw [if_neg hi] at hw
     obtain ⟨nb, hnb⟩ : ∃ nb, bal + (z1 - x) = nb := ⟨_, rfl⟩
     rw [hnb] at hw
     have s1 : IntKind.i64.wrap (z1 - x) = z1 - x := IntWalk.i64_in _ (by omega)
     have s2 : IntKind.i64.wrap (bal + (z1 - x)) = nb := by rw [hnb]; exact IntWalk.i64_in _ (by omega)
     have nb1 : nb ≤ 2000000000000000 := by omega
     clear hnb HW2
     rcases (by omega : nb ≤ 0 ∨ (0 < nb ∧ 1000000000000000 < nb) ∨ (0 < nb ∧ nb ≤ 1000000000000000)) with h1 | ⟨h1, h2⟩ | ⟨h1, h2⟩
     ·rw [if_pos h1] at hw
      have HW3 := Aside0.mk hw
      clear hw
      go_wp2_with fail
      go_ret
      obtain rfl := HW3.out
      exact ⟨rfl, BB3.out⟩
     ·rw [if_neg (by omega), if_pos h2] at hw
      have HW3 := Aside0.mk hw
      clear hw
      go_wp2_with fail
      go_ret
      obtain rfl := HW3.out
      exact ⟨rfl, BB3.out⟩
     ·rw [if_neg (by omega), if_neg (by omega)] at hw
      have HW3 := Aside0.mk hw
      clear hw
      go_wp2_with fail
      go_roundg (l.length + 1 - (k + 1))
      case measure => have := hgq.out; omega
      case rel => exact ⟨k + 1, nb, z3, by omega, by simp, rfl, h1, h2, ⟨rfl⟩, ⟨by exact HW3.out⟩, BA3, GG2, HB3, BB3⟩
   ·have hw := HW2.out
    rw [if_pos hz2] at hw
    have HW3 := Aside0.mk hw
    have hzb : (z2 != 0) = true := by simpa using hz2
    clear hw hz2 HW2
    go_wp2_with fail
    go_ret
    obtain rfl := HW3.out
    exact ⟨rfl, BB3.out⟩
  ·have hw := HW.out
   rw [List.drop_of_length_le (by omega)] at hw
   have HW3 := Aside0.mk (show bal = v from hw)
   clear hw HW
   go_wp2_with fail
   go_ret
   obtain rfl := HW3.out
   exact ⟨rfl, BB.out⟩
end Go.Proofs.YtfmkdledofbhdaaGreat.Lv
/- Contracts by hand: level: the least instalment that leaves nothing. -/
namespace Go.Proofs.YtfmkdledofbhdaaGreat.Lv
open Go.RowKit Go.Proofs.YtfmkdledofbhdaaGreatW.PrintWords Go.Proofs.YtfmkdledofbhdaaGreatW.PrintLast Go.Proofs.YtfmkdledofbhdaaGreatW.PrintMore Go.Proofs.YtfmkdledofbhdaaGreat.HW
open Pm Pd
set_option linter.unusedVariables false
set_option linter.unusedSimpArgs false
open Go.Proofs.YtfmkdledofbhdaaGreat.H
abbrev noneE : Ending := .panicked [{ v := .iface 89 (.agg #[]), recovered := false }]
set_option maxRecDepth 100000 in
set_option maxHeartbeats 2000000 in
theorem least_no (p : Prod) (A1 : Option Addr) (c1 : Nat) (A2 : Option Addr) (c2 : Nat) (A3 : Option Addr) (c3 : Nat) (A : Option Addr) (l : List Int) (c : Nat) (m : Int) (f : Int → Int) (w : World) (LEFT : ∀ (x : Int) (W : World), 0 ≤ x → x ≤ 1000000000000000 → Below w.heap.size w W → Calls Tryz.prog 45 #[wv p A1 c1 A2 c2 A3 c3 A l c m, .int .i64 x] W fun e w' => e = .returned (.int .i64 (f x)) ∧ Below W.heap.size W w') (hf : 0 < f 1000000000000000) :
  Calls Tryz.prog 44 #[.func (.func 45) #[wv p A1 c1 A2 c2 A3 c3 A l c m] #[]] w fun e w' => e = noneE ∧ Below w.heap.size w w' := by
 have HL := Aside0.mk (LEFT 1000000000000000 w (by decide) (by decide) (Below.refl _ _))
 clear LEFT
 obtain ⟨y, hy⟩ : ∃ y, f 1000000000000000 = y := ⟨_, rfl⟩
 rw [hy] at hf HL
 clear hy
 go_enter Tryz.func44, Tryz.ntmps44
 go_wp2_with fail
 refine HL.out.mono ?_
 rintro e w1 ⟨rfl, hb⟩
 have B1 := Aside0.mk hb
 clear hb HL
 go_wp2_with fail
 exact ⟨rfl, rfl, B1.out⟩
set_option maxRecDepth 100000 in
set_option maxHeartbeats 4000000 in
theorem least_yes (p : Prod) (A1 : Option Addr) (c1 : Nat) (A2 : Option Addr) (c2 : Nat) (A3 : Option Addr) (c3 : Nat) (A : Option Addr) (l : List Int) (c : Nat) (m : Int) (f : Int → Int) (w : World) (LEFT : ∀ (x : Int) (W : World), 0 ≤ x → x ≤ 1000000000000000 → Below w.heap.size w W → Calls Tryz.prog 45 #[wv p A1 c1 A2 c2 A3 c3 A l c m, .int .i64 x] W fun e w' => e = .returned (.int .i64 (f x)) ∧ Below W.heap.size W w') (hf : f 1000000000000000 ≤ 0) :
  Calls Tryz.prog 44 #[.func (.func 45) #[wv p A1 c1 A2 c2 A3 c3 A l c m] #[]] w fun e w' => e = .returned (.int .i64 (srch f 50 0 1000000000000000)) ∧ Below w.heap.size w w' := by
 have HL := Aside0.mk (LEFT 1000000000000000 w (by decide) (by decide) (Below.refl _ _))
 have LE := Aside0.mk LEFT
 obtain ⟨v, hv⟩ : ∃ v, srch f 50 0 1000000000000000 = v := ⟨_, rfl⟩
 rw [hv]
 have HV := Aside0.mk hv
 clear LEFT hv
 obtain ⟨y, hy⟩ : ∃ y, f 1000000000000000 = y := ⟨_, rfl⟩
 rw [hy] at hf HL
 clear hy
 go_enter Tryz.func44, Tryz.ntmps44
 go_wp2_with fail
 refine HL.out.mono ?_
 rintro e w1 ⟨rfl, hb⟩
 have B1 := Aside0.mk hb
 clear hb HL
 go_wp2_with fail
 clear hf
 go_loopg [3, 4] 50 (fun gq lv hv w' => ∃ (lo hi : Int), lv = .int .i64 lo ∧ hv = .int .i64 hi ∧ 0 ≤ lo ∧ lo < hi ∧ hi ≤ 1000000000000000 ∧ Aside0 (hi - lo ≤ 2 ^ gq) ∧ Aside0 (srch f gq lo hi = v) ∧ Aside0 (Below w.heap.size w w'))
 case atStart => exact ⟨0, 1000000000000000, rfl, rfl, by decide, by decide, by decide, ⟨by decide⟩, HV, B1⟩
 case round =>
  obtain ⟨lo, hi, rfl, rfl, l0, l1, h1, hp, hs, BB⟩ := hrel
  obtain ⟨dd, hdd⟩ : ∃ dd, hi - lo = dd := ⟨_, rfl⟩
  have s1 : IntKind.i64.wrap (hi - lo) = dd := by rw [← hdd]; exact IntWalk.i64_in _ (by omega)
  by_cases hc : 1 < dd
  ·obtain ⟨j, hj⟩ : ∃ j, gk = j + 1 := by
    cases gk with
    | zero => have := hp.out; simp at this; omega
    | succ j => exact ⟨j, rfl⟩
   have hs1 := hs.out
   have hp1 := hp.out
   rw [hj, srch, hdd, if_pos hc] at hs1
   rw [hj, Int.pow_succ] at hp1
   obtain ⟨q, hq⟩ : ∃ q, Int.tdiv dd 2 = q := ⟨_, rfl⟩
   have hqd : q = dd / 2 := by rw [← hq]; exact Int.tdiv_eq_ediv_of_nonneg (by omega)
   rw [hq] at hs1
   obtain ⟨mid, hm⟩ : ∃ mid, lo + q = mid := ⟨_, rfl⟩
   rw [hm] at hs1
   have s2 : IntKind.i64.wrap (Int.tdiv dd 2) = q := by rw [hq]; exact IntWalk.i64_in _ (by omega)
   have s3 : IntKind.i64.wrap (lo + q) = mid := by rw [hm]; exact IntWalk.i64_in _ (by omega)
   have m0 : 0 ≤ mid := by omega
   have m1 : lo < mid := by omega
   have m2 : mid < hi := by omega
   have p1 : mid - lo ≤ 2 ^ j := by omega
   have p2 : hi - mid ≤ 2 ^ j := by omega
   have P1 := Aside0.mk p1
   have P2 := Aside0.mk p2
   have HJ := Aside0.mk hj
   have HS := Aside0.mk hs1
   have HL := Aside0.mk (LE.out mid wr m0 (by omega) BB.out)
   obtain ⟨y, hy⟩ : ∃ y, f mid = y := ⟨_, rfl⟩
   rw [hy] at HL HS
   clear hs hp hs1 hp1 hq hqd hm hdd p1 p2 hj hy
   go_wp2_with fail
   refine HL.out.mono ?_
   rintro e w3 ⟨rfl, hb⟩
   have B3 := Aside0.mk (below_step BB.out hb)
   clear hb HL BB
   by_cases hc2 : 0 < y
   ·have hs2 := HS.out
    rw [if_pos hc2] at hs2
    have HS2 := Aside0.mk hs2
    clear hs2 HS
    go_wp2_with fail
    go_roundg j
    case measure => have := HJ.out; omega
    case rel => exact ⟨mid, hi, rfl, rfl, m0, m2, h1, P2, HS2, B3⟩
   ·have hs2 := HS.out
    rw [if_neg hc2] at hs2
    have HS2 := Aside0.mk hs2
    clear hs2 HS
    go_wp2_with fail
    go_roundg j
    case measure => have := HJ.out; omega
    case rel => exact ⟨lo, mid, rfl, rfl, l0, m1, by omega, P1, HS2, B3⟩
  ·have hs1 := hs.out
   have he : hi = v := by
    cases gk with
    | zero => exact hs1
    | succ j => rw [srch, hdd, if_neg hc] at hs1; exact hs1
   have HE := Aside0.mk he
   clear hs hs1 hp hdd he
   go_wp2_with fail
   go_ret
   obtain rfl := HE.out
   exact ⟨rfl, BB.out⟩
end Go.Proofs.YtfmkdledofbhdaaGreat.Lv
/- Contracts by hand: level.Left and level.Of. -/
namespace Go.Proofs.YtfmkdledofbhdaaGreat.Lv
open Go.RowKit Go.Proofs.YtfmkdledofbhdaaGreatW.PrintWords Go.Proofs.YtfmkdledofbhdaaGreatW.PrintLast Go.Proofs.YtfmkdledofbhdaaGreatW.PrintMore Go.Proofs.YtfmkdledofbhdaaGreat.HW
open Pm Pd
set_option linter.unusedVariables false
set_option linter.unusedSimpArgs false
open Go.Proofs.YtfmkdledofbhdaaGreat.H
theorem of_idle (pv_ pe : Addr) (w : World) :
  CallsD Tryz.prog 43 #[.pointer (some pv_), .pointer (some pe)] .returning w fun e u' w' => e = .returned (.tuple #[]) ∧ u' = .returning ∧ w' = w := by
 refine callsD_of_wpS Tryz.func43 rfl fun c₀ cs hu => ?_
 simp only [Tryz.ntmps43, List.size_toArray, List.length_cons, List.length_nil, Nat.reduceAdd, Nat.reduceSub, Array.replicate_succ, Array.replicate_zero, List.push_toArray, List.append_toArray, List.nil_append, List.cons_append]
 apply wpS_seq
 apply wpS_region
 simp [wpOpsS, go_sem, recoverD, hu, Exit.thenS]
 refine rest_plainP fun Q HQ => ?_
 go_wp2
 refine HQ.out _ _ _ ?_
 clear HQ
 simp [bodyPostS, results, Tryz.results43, hu]
 cases c₀
 simp_all
theorem of_thrown (pv_ pe : Addr) (x y : Int) (older : List PanicEntry) (w : World) (hne : pv_.block ≠ pe.block) (hx : w.cell? pv_ = some (.int .i64 x)) (hy : w.cell? pe = some (.int .i64 y)) (fx : w.frozen? pv_ = false) (fy : w.frozen? pe = false) :
  CallsD Tryz.prog 43 #[.pointer (some pv_), .pointer (some pe)] (.panicking ({ v := .iface 89 (.agg #[]), recovered := false } :: older)) w fun e u' w' =>
   e = .returned (.tuple #[]) ∧ u' = .panicking ({ v := .iface 89 (.agg #[]), recovered := true } :: older) ∧ w' = ((w.alloc (.cells #[] 89)).setCell pv_ (.int .i64 0)).setCell pe (.int .i64 10) := by
 refine callsD_of_wpS Tryz.func43 rfl fun c₀ cs hu => ?_
 simp only [Tryz.ntmps43, List.size_toArray, List.length_cons, List.length_nil, Nat.reduceAdd, Nat.reduceSub, Array.replicate_succ, Array.replicate_zero, List.push_toArray, List.append_toArray, List.nil_append, List.cons_append]
 apply wpS_seq
 apply wpS_region
 simp [wpOpsS, go_sem, recoverD, hu, Exit.thenS]
 refine rest_plainP fun Q HQ => ?_
 have hta : ∀ w, (Instr.typeAssert (.iface 89 (.agg #[])) 20 89 true).run Tryz.prog w = .ok (.tuple #[.agg #[], .bool true]) w := fun _ => by kernel_rfl
 have hltx := cell_ltR hx
 have hlty := cell_ltR hy
 have hb := (Below.refl w.heap.size w).alloc (Nat.le_refl _) (.cells #[] 89)
 have hx2 : (w.alloc (.cells #[] 89)).cell? pv_ = some (.int .i64 x) := by rw [hb.cell hltx]; exact hx
 have fx2 : (w.alloc (.cells #[] 89)).frozen? pv_ = false := by rw [hb.frozen hltx]; exact fx
 have hy1 : (w.alloc (.cells #[] 89)).cell? pe = some (.int .i64 y) := by rw [hb.cell hlty]; exact hy
 have hy2 : ((w.alloc (.cells #[] 89)).setCell pv_ (.int .i64 0)).cell? pe = some (.int .i64 y) := by rw [World.cell?_setCell_other]; exact hy1; exact fun e => hne (by rw [e])
 have fy2 : (w.alloc (.cells #[] 89)).frozen? pe = false := by rw [hb.frozen hlty]; exact fy
 clear hb hy1
 go_wp2
 refine HQ.out _ _ _ ?_
 clear HQ
 simp [bodyPostS, results, Tryz.results43, hu]
theorem built_walk (p : Prod) (A1 : Option Addr) (c1 : Nat) (A2 : Option Addr) (c2 : Nat) (A3 : Option Addr) (c3 : Nat) (A : Option Addr) (l : List Int) (c : Nat) (m : Int) :
  Tryz.prog.built 86 [(0, .agg (pcs p A1 c1 A2 c2 A3 c3)), (1, .slice A l.length c), (2, .int .i64 m)] = some (wcs p A1 c1 A2 c2 A3 c3 A l c m) := by kernel_rfl
theorem ask_known {p : Prod} {l : List Int} {m : Int} (h : askE p l m = 0) : (1 ≤ p.count ∧ p.count ≤ 3) ∧ (p.round = 1 ∨ p.round = 3) ∧ (0 ≤ p.rate ∧ p.rate ≤ 1000000000) ∧ (0 ≤ p.grace ∧ p.grace ≤ 600) ∧ 1 ≤ m ∧ m ≤ 10000000000000 := by
 unfold askE at h
 split at h
 ·simp at h
 ·rename_i h1
  split at h
  ·rename_i h2
   have hk : ok p = true := by
    rcases err_two p with e | e
    ·unfold err at e; split at e; assumption; simp at e
    ·exact absurd e (fun e => h1 (by rw [e]; decide))
   simp only [ok, shapeOk, ratesOk, ordOk, lateOk, daysOk, Bool.and_eq_true, decide_eq_true_eq] at hk
   obtain ⟨⟨⟨⟨⟨_, b1, b2, b3, b4, b5, b6, b7⟩, ⟨d1, _⟩, _⟩, _⟩, _⟩, _⟩ := hk
   exact ⟨b1, b2, d1, ⟨b6.1, by omega⟩, h2.2.1, h2.2.2.1⟩
  ·simp at h
def lf (p : Prod) (l : List Int) (m : Int) (x : Int) : Int := wk (Gm.whole p.count) (Gm.half p.count p.round) p.rate p.grace x 0 l m 0
def ofE (p : Prod) (l : List Int) (m : Int) : Int × Int := if askE p l m ≠ 0 then (0, askE p l m) else if 0 < lf p l m 1000000000000000 then (0, 10) else (srch (lf p l m) 50 0 1000000000000000, 0)
def Two (v : Int × Int) (w : World) (e : Ending) (w' : World) : Prop := e = .returned (.tuple #[.int .i64 v.1, .int .i64 v.2]) ∧ Below w.heap.size w w'
end Go.Proofs.YtfmkdledofbhdaaGreat.Lv
/- Contracts by hand: level.Of. -/
namespace Go.Proofs.YtfmkdledofbhdaaGreat.Lv
open Go.RowKit Go.Proofs.YtfmkdledofbhdaaGreatW.PrintWords Go.Proofs.YtfmkdledofbhdaaGreatW.PrintLast Go.Proofs.YtfmkdledofbhdaaGreatW.PrintMore Go.Proofs.YtfmkdledofbhdaaGreat.HW
open Pm Pd
set_option linter.unusedVariables false
set_option linter.unusedSimpArgs false
open Go.Proofs.YtfmkdledofbhdaaGreat.H
structure ResB (w W : World) (g h : Nat) (x y : Value) : Prop where
 below : Below w.heap.size w W
 gge : w.heap.size ≤ g
 hge : w.heap.size ≤ h
 ne : g ≠ h
 c0 : W.cell? ⟨g, 0, none⟩ = some x
 f0 : W.frozen? ⟨g, 0, none⟩ = false
 c1 : W.cell? ⟨h, 0, none⟩ = some y
 f1 : W.frozen? ⟨h, 0, none⟩ = false
theorem ResB.step {w W W' : World} {g h : Nat} {x y : Value} (r : ResB w W g h x y) (hb : Below W.heap.size W W') : ResB w W' g h x y :=
 ⟨below_step r.below hb, r.gge, r.hge, r.ne, by rw [hb.cell (by exact cell_ltR r.c0)]; exact r.c0, by rw [hb.frozen (by exact cell_ltR r.c0)]; exact r.f0, by rw [hb.cell (by exact cell_ltR r.c1)]; exact r.c1, by rw [hb.frozen (by exact cell_ltR r.c1)]; exact r.f1⟩
theorem ResB.of {w W : World} {g h : Nat} {x y : Value} {t u : TypeId} (hb : Below w.heap.size w W) (hg : w.heap.size ≤ g) (hh : w.heap.size ≤ h) (ne : g ≠ h) (b0 : W.heap[g]? = some (.cells #[x] t (0, 0))) (b1 : W.heap[h]? = some (.cells #[y] u (0, 0))) : ResB w W g h x y :=
 ⟨hb, hg, hh, ne, (blk_cell b0 0).trans rfl, frozen_of_row W g 0 _ _ b0, (blk_cell b1 0).trans rfl, frozen_of_row W h 0 _ _ b1⟩
theorem ResB.put {w W : World} {g h : Nat} {x y : Value} (r : ResB w W g h x y) (u v : Value) : ResB w ((W.setCell ⟨g, 0, none⟩ u).setCell ⟨h, 0, none⟩ v) g h u v := by
 have hn : (⟨h, 0, none⟩ : Addr) ≠ ⟨g, 0, none⟩ := fun e => r.ne (by injection e with e1; exact e1.symm)
 refine ⟨(r.below.setCell (by exact r.gge) _).setCell (by exact r.hge) _, r.gge, r.hge, r.ne, ?_, ?_, ?_, ?_⟩
 ·rw [World.cell?_setCell_other _ _ _ _ (by first | exact hn | exact hn.symm), World.cell?_setCell_same _ _ _ r.c0]
 ·simp [go_sem, r.f0]
 ·rw [World.cell?_setCell_same (v := v) (u := y) _ _ (by rw [World.cell?_setCell_other _ _ _ _ (by first | exact hn | exact hn.symm)]; exact r.c1)]
 ·simp [go_sem, r.f1]
set_option maxRecDepth 100000 in
set_option maxHeartbeats 4000000 in
theorem Of_any (p : Prod) (A1 : Option Addr) (c1 : Nat) (A2 : Option Addr) (c2 : Nat) (A3 : Option Addr) (c3 : Nat) (A : Option Addr) (l : List Int) (c : Nat) (m : Int) (w : World) (hg : GV w) (hp : ProdAt w p A1 c1 A2 c2 A3 c3) (hs : Small p) (hr : Kd.C (Kd.int .i64) w A l.length l) (hl : l.length ≤ 1000000) :
  Calls Tryz.prog 17 #[pv p A1 c1 A2 c2 A3 c3, .slice A l.length c, .int .i64 m] w (Two (ofE p l m) w) := by
 have MA := Aside0.mk (fun W (hb : Below w.heap.size w W) => may_any p A1 c1 A2 c2 A3 c3 A l c m W (hg.below hb) (hp.below hb) hs (Kd.C_below hr hb) hl)
 have LE := Aside0.mk (fun (h : askE p l m = 0) (x : Int) (x0 : 0 ≤ x) (x1 : x ≤ 1000000000000000) W (hb : Below w.heap.size w W) => show Calls Tryz.prog 45 #[wv p A1 c1 A2 c2 A3 c3 A l c m, .int .i64 x] W fun e w' => e = .returned (.int .i64 (lf p l m x)) ∧ Below W.heap.size W w' from left_any p A1 c1 A2 c2 A3 c3 A l c m x W (ask_known h).1 (ask_known h).2.1 (ask_known h).2.2.1 (ask_known h).2.2.2.1 (Kd.C_below hr hb) hl (ask_known h).2.2.2.2.1 (ask_known h).2.2.2.2.2 x0 x1)
 clear hg hp hs hr
 unfold Two
 obtain ⟨v, hv⟩ : ∃ v, ofE p l m = v := ⟨_, rfl⟩
 rw [hv]
 have HV := Aside0.mk hv
 clear hv
 go_enter_defers Tryz.func17, Tryz.ntmps17
 go_wp2_with (first
  | ((with_reducible refine gate_dst (N := 3) rfl ?_); refine box_event ?hg (N := 3) ?hd (cs := pcs p A1 c1 A2 c2 A3 c3) (t := 27) ?hr ?_; (case hd => rfl); (case hg => rfl); (case hr => first | (go_simp; done) | (go_simp; rfl)); intro g1 hg w1 hbg1 hblg1; have g1ge := (show w.heap.size ≤ g1 by rw [hg]; exact Nat.le_refl _); clear hg; have HBg1 := Aside0.mk hbg1; have BLg1 := Aside0.mk hblg1; clear hbg1 hblg1)
  | ((with_reducible refine gate_dst (N := 6) rfl ?_); refine box_event ?hg (N := 6) ?hd (cs := #[.int .i64 0]) (t := 2) ?hr ?_; (case hd => rfl); (case hg => rfl); (case hr => first | (go_simp; done) | (go_simp; rfl)); intro g6 hg w6 hbg6 hblg6; have g6ge := (show w.heap.size ≤ g6 by rw [hg]; exact BLg1.out.size); have HBg1 := Aside0.mk (Pd.blk_below HBg1.out hblg6); have HBg6 := Aside0.mk hbg6; have BLg6 := Aside0.mk (below_step BLg1.out hblg6); clear hg hbg6 hblg6)
  | ((with_reducible refine gate_dst (N := 7) rfl ?_); refine box_event ?hg (N := 7) ?hd (cs := #[.int .i64 0]) (t := 33) ?hr ?_; (case hd => rfl); (case hg => rfl); (case hr => first | (go_simp; done) | (go_simp; rfl)); intro g7 hg w7 hbg7 hblg7; have g7ge := (show w.heap.size ≤ g7 by rw [hg]; exact BLg6.out.size); have HBg1 := Aside0.mk (Pd.blk_below HBg1.out hblg7); have ne67 : g6 ≠ g7 := (by have := blk_lt HBg6.out; omega); have HBg6 := Aside0.mk (Pd.blk_below HBg6.out hblg7); have HBg7 := Aside0.mk hbg7; have BLg7 := Aside0.mk (below_step BLg6.out hblg7); have R7 := Aside0.mk (ResB.of BLg7.out g6ge g7ge ne67 HBg6.out HBg7.out); clear hg hbg7 hblg7)
  | ((with_reducible refine gate_dst (N := 10) rfl ?_); refine wpList_load_row rfl 27 (.tmp 3) rfl g1 rfl 27 _ (0, 0) _ HBg1.out Tryz.underlying27 rfl info_prod ?_)
  | ((with_reducible refine gate_dst (N := 13) rfl ?_); refine build_event rfl (t := 86) rfl (cs := wcs p A1 c1 A2 c2 A3 c3 A l c m) ?hb ?_; (case hb => simp only [List.map_toArray, List.map_cons, List.map_nil]; exact built_walk p A1 c1 A2 c2 A3 c3 A l c m))
  | ((with_reducible refine gate_dst (N := 8) rfl ?_); refine copy_event rfl (N := 8) rfl rfl rfl (t := 86) (v := .tmp 13) rfl (cs := wcs p A1 c1 A2 c2 A3 c3 A l c m) (zs := wzs) ?hr rfl rfl info_walk ?hz (wcs_one _ _ _ _ _ _ _ _ _ _ _) ?_; (case hr => first | (go_simp; done) | (go_simp; rfl)); (case hz => rfl); intro g4 hg4 w4 hb4 hbl4; have R4 := Aside0.mk (R7.out.step hbl4); have HB4 := Aside0.mk hb4; have BL4 := Aside0.mk (below_step BLg7.out hbl4); clear hg4 hb4 hbl4)
  | ((with_reducible refine gate_dst (N := 14) rfl ?_); refine wpList_load_row rfl 86 (.tmp 8) rfl g4 rfl 86 _ (0, 0) _ HB4.out Tryz.underlying86 rfl info_walk ?_)
  | fail)
 refine (MA.out _ BL4.out).mono ?_
 rintro e w5 ⟨rfl, hb⟩
 have HB5 := Aside0.mk (Pd.blk_below HB4.out hb)
 have R5 := Aside0.mk (R4.out.step hb)
 clear hb HB4 BL4 HBg1 BLg1 HBg6 BLg6 HBg7 BLg7 R4 R7
 by_cases ha : askE p l m = 0
 ·have hx := HV.out
  unfold ofE at hx
  rw [if_neg (by rw [ha]; decide)] at hx
  have LL := Aside0.mk (fun (x : Int) (W : World) (x0 : 0 ≤ x) (x1 : x ≤ 1000000000000000) (hb : Below w5.heap.size w5 W) => LE.out ha x x0 x1 W (below_step R5.out.below hb))
  rw [ha]
  clear ha LE
  by_cases hf : 0 < lf p l m 1000000000000000
  ·rw [if_pos hf] at hx
   have HX := Aside0.mk hx
   have LN := Aside0.mk (least_no p A1 c1 A2 c2 A3 c3 A l c m (lf p l m) w5 LL.out hf)
   clear hx HV LL hf
   go_wp2_with (first
  | ((with_reducible refine gate_dst (N := 20) rfl ?_); refine wpList_load_row rfl 86 (.tmp 8) rfl g4 rfl 86 _ (0, 0) _ HB5.out Tryz.underlying86 rfl info_walk ?_)
  | fail)
   refine LN.out.mono ?_
   rintro e w6 ⟨rfl, hb⟩
   have R6 := Aside0.mk (R5.out.step hb)
   clear hb R5 HB5 LN
   refine leaves_cons (f := 43) (args := #[.pointer (some ⟨g6, 0, none⟩), .pointer (some ⟨g7, 0, none⟩)]) (by simp) (by simp [go_sem]) ?_
   refine (of_thrown ⟨g6, 0, none⟩ ⟨g7, 0, none⟩ 0 0 [] _ (by exact R6.out.ne) R6.out.c0 R6.out.c1 R6.out.f0 R6.out.f1).mono ?_
   rintro e u' w'' ⟨rfl, rfl, rfl⟩
   have RA := (R6.out.step ((Below.refl w6.heap.size w6).alloc (Nat.le_refl _) (.cells #[] 89))).put (.int .i64 0) (.int .i64 10)
   have c0 := RA.c0
   have c1 := RA.c1
   obtain rfl := HX.out
   simp [Leaves, settle, results, Tryz.results17, go_sem, c0, c1]
   exact RA.below
  ·rw [if_neg hf] at hx
   have HX := Aside0.mk hx
   have LN := Aside0.mk (least_yes p A1 c1 A2 c2 A3 c3 A l c m (lf p l m) w5 LL.out (by omega))
   clear hx HV LL hf
   go_wp2_with (first
  | ((with_reducible refine gate_dst (N := 20) rfl ?_); refine wpList_load_row rfl 86 (.tmp 8) rfl g4 rfl 86 _ (0, 0) _ HB5.out Tryz.underlying86 rfl info_walk ?_)
  | fail)
   refine LN.out.mono ?_
   rintro e w6 ⟨rfl, hb⟩
   have R6 := Aside0.mk (R5.out.step hb)
   clear hb R5 HB5 LN
   have c0 := R6.out.c0
   have f0 := R6.out.f0
   have c1 := R6.out.c1
   have f1 := R6.out.f1
   have ne := R6.out.ne
   have RP := Aside0.mk (R6.out.put (.int .i64 (srch (lf p l m) 50 0 1000000000000000)) (.int .i64 0))
   have c1' : (w6.setCell ⟨g6, 0, none⟩ (.int .i64 (srch (lf p l m) 50 0 1000000000000000))).cell? ⟨g7, 0, none⟩ = some (.int .i64 0) := by rw [World.cell?_setCell_other _ _ _ _ (by first | (intro e; injection e with e1; exact ne e1.symm) | (intro e; injection e with e1; exact ne e1))]; exact c1
   go_wp2_with fail
   refine leaves_cons (f := 43) (args := #[.pointer (some ⟨g6, 0, none⟩), .pointer (some ⟨g7, 0, none⟩)]) (by simp) (by simp [go_sem]) ?_
   refine (of_idle ⟨g6, 0, none⟩ ⟨g7, 0, none⟩ _).mono ?_
   rintro e u' w'' ⟨rfl, rfl, rfl⟩
   have d0 := RP.out.c0
   have d1 := RP.out.c1
   obtain rfl := HX.out
   simp [Leaves, settle, results, Tryz.results17, go_sem, d0, d1]
   exact RP.out.below
 ·have hx := HV.out
  unfold ofE at hx
  rw [if_pos ha] at hx
  obtain ⟨ae, hae⟩ : ∃ ae, askE p l m = ae := ⟨_, rfl⟩
  rw [hae] at ha hx ⊢
  have hn : (ae != 0) = true := by simpa using ha
  have HX := Aside0.mk hx
  clear hx HV ha hae LE
  have c0 := R5.out.c0
  have f0 := R5.out.f0
  have c1 := R5.out.c1
  have f1 := R5.out.f1
  have ne := R5.out.ne
  have RP := Aside0.mk (R5.out.put (.int .i64 0) (.int .i64 ae))
  have c1' : (w5.setCell ⟨g6, 0, none⟩ (.int .i64 0)).cell? ⟨g7, 0, none⟩ = some (.int .i64 0) := by rw [World.cell?_setCell_other _ _ _ _ (by first | (intro e; injection e with e1; exact ne e1.symm) | (intro e; injection e with e1; exact ne e1))]; exact c1
  go_wp2_with fail
  have d0 := RP.out.c0
  have d1 := RP.out.c1
  obtain rfl := HX.out
  simp [bodyPostD, Leaves, settle, results, Tryz.results17, go_sem, d0, d1]
  exact RP.out.below
end Go.Proofs.YtfmkdledofbhdaaGreat.Lv
/- Contracts by hand: the document's level: Left and Of. -/
namespace Go.Proofs.YtfmkdledofbhdaaGreat.Lv
open Go.RowKit Go.Proofs.YtfmkdledofbhdaaGreatW.PrintWords Go.Proofs.YtfmkdledofbhdaaGreatW.PrintLast Go.Proofs.YtfmkdledofbhdaaGreatW.PrintMore Go.Proofs.YtfmkdledofbhdaaGreat.HW
open Pm Pd
set_option linter.unusedVariables false
set_option linter.unusedSimpArgs false
open Go.Proofs.YtfmkdledofbhdaaGreat.H
theorem lf_mono {p : Prod} {l : List Int} {m : Int} (h : askE p l m = 0) : (∀ x y, 0 ≤ x → x ≤ y → y ≤ 1000000000000000 → lf p l m x ≤ 0 → lf p l m y ≤ 0) ∧ 0 < lf p l m 0 := by
 obtain ⟨_, _, _, _, m0, m1⟩ := ask_known h
 have I : In (Gm.whole p.count) (Gm.half p.count p.round) 0 m := good_in (good_new p.count p.round) (by omega) (by omega)
 exact ⟨fun x y _ hxy _ h0 => wk_mono hxy l 0 m 0 m 0 I I (.inr ⟨rfl, Int.le_refl _⟩) (fun _ => .inr ⟨rfl, rfl⟩) h0, wk_zero l 0 m 0 I⟩
end Go.Proofs.YtfmkdledofbhdaaGreat.Lv
/- Plain law of schedule: the lines of a loan, or why there are none. -/
namespace Go.Proofs.YtfmkdledofbhdaaGreat.Sc
open Go.RowKit Go.Proofs.YtfmkdledofbhdaaGreatW.PrintWords Go.Proofs.YtfmkdledofbhdaaGreatW.PrintLast Go.Proofs.YtfmkdledofbhdaaGreatW.PrintMore Go.Proofs.YtfmkdledofbhdaaGreat.HW
open Go.Proofs.YtfmkdledofbhdaaGreat.Math Go.Proofs.YtfmkdledofbhdaaGreat.H Go.Proofs.YtfmkdledofbhdaaGreat.Pd Go.Proofs.YtfmkdledofbhdaaGreat.Du Go.Proofs.YtfmkdledofbhdaaGreat.Lv Pm
set_option linter.unusedVariables false
set_option linter.unusedSimpArgs false
abbrev Ln := Int × Int × Int × Int
def prin (p : Prod) (m inst k v left : Int) : Int :=
 if k < p.grace then 0 else if k = p.times - 1 then left else if p.kind = 1 then min (inst - v) left else if p.kind = 2 then m / (p.times - p.grace) else 0
def lerr (p : Prod) (m inst k left : Int) (z : Int × Int × Int) : Int :=
 if z.2.1 ≠ 0 then 3 else if prin p m inst k z.1 left < 0 then 10
 else if p.kind = 1 ∧ k = p.times - 1 ∧ (p.times < prin p m inst k z.1 left + z.1 - inst ∨ p.times < -(prin p m inst k z.1 left + z.1 - inst)) then 10 else 0
def lines (p : Prod) (W h m inst : Int) : Int → List (Int × Int) → Int → Int → List Ln × Int
 | _, [], _, _ => ([], 0)
 | k, (d, n) :: r, left, rest =>
  if lerr p m inst k left (Gm.bear W h rest left p.rate n) ≠ 0 then ([], lerr p m inst k left (Gm.bear W h rest left p.rate n))
  else if (lines p W h m inst (k + 1) r (left - prin p m inst k (Gm.bear W h rest left p.rate n).1 left) (Gm.bear W h rest left p.rate n).2.2).2 = 0 then
   ((d, prin p m inst k (Gm.bear W h rest left p.rate n).1 left, (Gm.bear W h rest left p.rate n).1, left - prin p m inst k (Gm.bear W h rest left p.rate n).1 left) :: (lines p W h m inst (k + 1) r (left - prin p m inst k (Gm.bear W h rest left p.rate n).1 left) (Gm.bear W h rest left p.rate n).2.2).1, 0)
  else ([], (lines p W h m inst (k + 1) r (left - prin p m inst k (Gm.bear W h rest left p.rate n).1 left) (Gm.bear W h rest left p.rate n).2.2).2)
def join (pre : List Ln) (r : List Ln × Int) : List Ln × Int := if r.2 = 0 then (pre ++ r.1, 0) else ([], r.2)
theorem join_nil (r : List Ln × Int) (h : r.2 ≠ 0 → r.1 = []) : join [] r = r := by
 unfold join
 by_cases e : r.2 = 0
 ·rw [if_pos e]; exact Prod.ext (List.nil_append _) e.symm
 ·rw [if_neg e]; exact Prod.ext (h e).symm rfl
theorem lines_err (p : Prod) (W h m inst : Int) : ∀ (l : List (Int × Int)) (k left rest : Int), (lines p W h m inst k l left rest).2 ≠ 0 → (lines p W h m inst k l left rest).1 = []
 | [], k, left, rest, e => by simp [lines] at e
 | (d, n) :: r, k, left, rest, e => by
  rw [lines] at e ⊢
  split
  ·rfl
  ·rename_i h1
   rw [if_neg h1] at e
   split
   ·rename_i h2; rw [if_pos h2] at e; exact absurd rfl e
   ·rfl
theorem lines_cons {p : Prod} {W h m inst k left rest d n : Int} {r : List (Int × Int)} {z : Int × Int × Int} (hz : Gm.bear W h rest left p.rate n = z) (pre : List Ln) :
  join pre (lines p W h m inst k ((d, n) :: r) left rest) = if lerr p m inst k left z ≠ 0 then ([], lerr p m inst k left z) else join (pre ++ [(d, prin p m inst k z.1 left, z.1, left - prin p m inst k z.1 left)]) (lines p W h m inst (k + 1) r (left - prin p m inst k z.1 left) z.2.2) := by
 subst hz
 rw [lines]
 by_cases e : lerr p m inst k left (Gm.bear W h rest left p.rate n) ≠ 0
 ·rw [if_pos e, if_pos e, join, if_neg e]
 ·rw [if_neg e, if_neg e]
  by_cases e2 : (lines p W h m inst (k + 1) r (left - prin p m inst k (Gm.bear W h rest left p.rate n).1 left) (Gm.bear W h rest left p.rate n).2.2).2 = 0
  ·rw [if_pos e2, join, join, if_pos rfl, if_pos e2, List.append_assoc]; rfl
  ·rw [if_neg e2, join, join, if_neg e2, if_neg e2]
structure Mid (p : Prod) (m k left : Int) : Prop where
 l0 : 0 ≤ left
 l1 : left ≤ m
 eq : p.kind = 2 → k < p.times → left = m - (max 0 (k - p.grace)) * (m / (p.times - p.grace))
theorem part_bd {m n j : Int} (m0 : 0 ≤ m) (n0 : 1 ≤ n) (j0 : 0 ≤ j) (j1 : j ≤ n) : 0 ≤ m / n ∧ j * (m / n) ≤ m := by
 have a : 0 ≤ m / n := Int.ediv_nonneg m0 (by omega)
 have b : j * (m / n) ≤ n * (m / n) := Int.mul_le_mul_of_nonneg_right j1 a
 have c := Int.mul_ediv_self_le (x := m) (k := n) (by omega)
 exact ⟨a, by omega⟩
theorem prin_bd {p : Prod} {m inst k v left : Int} (M : Mid p m k left) (m0 : 0 ≤ m) (g0 : 0 ≤ p.grace) (gt : p.grace < p.times) (k0 : 0 ≤ k) (k1 : k < p.times) :
  prin p m inst k v left ≤ left ∧ (p.kind ≠ 1 → 0 ≤ prin p m inst k v left) ∧ (0 ≤ prin p m inst k v left → Mid p m (k + 1) (left - prin p m inst k v left)) := by
 obtain ⟨l0, l1, eq⟩ := M
 unfold prin
 by_cases h1 : k < p.grace
 ·rw [if_pos h1]
  refine ⟨l0, fun _ => Int.le_refl _, fun _ => ⟨by omega, by omega, fun h hk => ?_⟩⟩
  have := eq h k1
  rw [show max 0 (k - p.grace) = 0 by omega] at this
  rw [show max 0 (k + 1 - p.grace) = 0 by omega]
  omega
 ·rw [if_neg h1]
  by_cases h2 : k = p.times - 1
  ·rw [if_pos h2]
   exact ⟨Int.le_refl _, fun _ => l0, fun _ => ⟨by omega, by omega, fun h hk => by omega⟩⟩
  ·rw [if_neg h2]
   by_cases h3 : p.kind = 1
   ·rw [if_pos h3]
    exact ⟨by omega, fun h => absurd h3 h, fun _ => ⟨by omega, by omega, fun h _ => by omega⟩⟩
   ·rw [if_neg h3]
    by_cases h4 : p.kind = 2
    ·rw [if_pos h4]
     have e := eq h4 k1
     rw [show max 0 (k - p.grace) = k - p.grace by omega] at e
     obtain ⟨b1, b2⟩ := part_bd (m := m) (n := p.times - p.grace) (j := k - p.grace + 1) m0 (by omega) (by omega) (by omega)
     rw [Int.add_mul, Int.one_mul] at b2
     refine ⟨by omega, fun _ => b1, fun _ => ⟨by omega, by omega, fun _ _ => ?_⟩⟩
     rw [show max 0 (k + 1 - p.grace) = k - p.grace + 1 by omega, Int.add_mul, Int.one_mul]
     omega
    ·rw [if_neg h4]
     exact ⟨l0, fun _ => Int.le_refl _, fun _ => ⟨by omega, by omega, fun h _ => absurd h h4⟩⟩
end Go.Proofs.YtfmkdledofbhdaaGreat.Sc
/- Plain law of schedule: which errors there are; the whole of it. -/
namespace Go.Proofs.YtfmkdledofbhdaaGreat.Sc
open Go.RowKit Go.Proofs.YtfmkdledofbhdaaGreatW.PrintWords Go.Proofs.YtfmkdledofbhdaaGreatW.PrintLast Go.Proofs.YtfmkdledofbhdaaGreatW.PrintMore Go.Proofs.YtfmkdledofbhdaaGreat.HW
open Go.Proofs.YtfmkdledofbhdaaGreat.Math Go.Proofs.YtfmkdledofbhdaaGreat.H Go.Proofs.YtfmkdledofbhdaaGreat.Pd Go.Proofs.YtfmkdledofbhdaaGreat.Du Go.Proofs.YtfmkdledofbhdaaGreat.Lv Pm
set_option linter.unusedVariables false
set_option linter.unusedSimpArgs false
theorem place_may {c a b : Int} (hc : c = 1 ∨ c = 2 ∨ c = 3) (ha : isDay a) (hb : isDay b) (h : a ≤ b) : 0 ≤ place c b - place c a ∧ place c b - place c a ≤ 53436000 := by
 obtain ⟨p1, p2⟩ := id ha
 obtain ⟨q1, q2⟩ := id hb
 obtain ⟨y1, y2, m1, m2, d1, d2⟩ := date_bd ha
 obtain ⟨y3, y4, m3, m4, d3, d4⟩ := date_bd hb
 unfold place
 rcases hc with rfl | rfl | rfl
 ·simp only [if_true]
  have := thirty_le ha hb h
  unfold thirty at this ⊢
  rw [if_pos ha, if_pos hb] at this ⊢
  omega
 ·simp only [show ¬ ((2 : Int) = 1) by decide, if_false, if_true]; omega
 ·simp only [show ¬ ((3 : Int) = 1) by decide, show ¬ ((3 : Int) = 2) by decide, if_false]
  have hbb : isDay (a + ((b - a).toNat : Int)) := by rw [show a + ((b - a).toNat : Int) = b by omega]; exact hb
  have u := actual_most (b - a).toNat ha hbb
  have v := actual_up (b - a).toNat ha hbb
  rw [show a + ((b - a).toNat : Int) = b by omega] at u v
  omega
theorem parts_may {c : Int} (hc : c = 1 ∨ c = 2 ∨ c = 3) : ∀ (l : List Int) (s : Int), isDay s → (∀ d ∈ l, isDay d) → rise s l = true → ∀ n ∈ rpartsL c s l, 0 ≤ n ∧ n ≤ 53436000
 | [], s, _, _, _, n, hn => by simp [rpartsL] at hn
 | d :: r, s, hs, hd, hr, n, hn => by
  rw [rise, Bool.and_eq_true] at hr
  obtain ⟨r1, r2⟩ := hr
  have r1 := of_decide_eq_true r1
  have hdd := hd d (by simp)
  rw [rpartsL, between_ok hc hs hdd] at hn
  rcases List.mem_cons.1 hn with rfl | hn
  ·exact place_may hc hs hdd (by omega)
  ·exact parts_may hc r d hdd (fun x hx => hd x (by simp [hx])) r2 n hn
def linesP (p : Prod) (start m inst : Int) : List Ln × Int := lines p (Gm.whole p.count) (Gm.half p.count p.round) m inst 0 ((daysP p start).1.zip (partsP p start).1) m 0
def schedP (p : Prod) (start m : Int) : List Ln × Int :=
 if (daysP p start).2 ≠ 0 then ([], (daysP p start).2)
 else if ¬ (1 ≤ m ∧ m ≤ 10000000000000) then ([], 16)
 else if p.kind = 1 then (if (ofE p (partsP p start).1 m).2 ≠ 0 then ([], (ofE p (partsP p start).1 m).2) else linesP p start m (ofE p (partsP p start).1 m).1)
 else linesP p start m 0
end Go.Proofs.YtfmkdledofbhdaaGreat.Sc
/- Contracts by hand: schedule: the principal part of an instalment. -/
namespace Go.Proofs.YtfmkdledofbhdaaGreat.Sc
open Go.RowKit Go.Proofs.YtfmkdledofbhdaaGreatW.PrintWords Go.Proofs.YtfmkdledofbhdaaGreatW.PrintLast Go.Proofs.YtfmkdledofbhdaaGreatW.PrintMore Go.Proofs.YtfmkdledofbhdaaGreat.HW
open Go.Proofs.YtfmkdledofbhdaaGreat.Math Go.Proofs.YtfmkdledofbhdaaGreat.H Go.Proofs.YtfmkdledofbhdaaGreat.Pd Go.Proofs.YtfmkdledofbhdaaGreat.Du Go.Proofs.YtfmkdledofbhdaaGreat.Lv Pm
set_option linter.unusedVariables false
set_option linter.unusedSimpArgs false
attribute [local go_sem] max2_int min2_int max_two min_two
abbrev mcs (p : Prod) (A1 : Option Addr) (c1 : Nat) (A2 : Option Addr) (c2 : Nat) (A3 : Option Addr) (c3 : Nat) (m inst left : Int) (b : Value) : Array Value := #[.string p.name, .int .i64 p.count, .int .i64 p.round, .int .i64 p.kind, .int .i64 p.every, .int .i64 p.times, .int .i64 p.grace, .int .i64 p.rate, .slice A1 p.resets.length c1, .int .i64 p.penalty, .int .i64 p.o1, .int .i64 p.o2, .int .i64 p.o3, .int .i64 p.o4, .int .i64 p.over, .slice A2 p.late.length c2, .int .i64 p.cap, .int .i64 p.roll, .slice A3 p.hol.length c3, .int .i64 m, .int .i64 inst, .int .i64 left, b]
theorem mk_cells {p : Prod} {A1 : Option Addr} {c1 : Nat} {A2 : Option Addr} {c2 : Nat} {A3 : Option Addr} {c3 : Nat} {m inst left : Int} {b : Value} {w : World} {g : Nat} {t : TypeId} (h : w.heap[g]? = some (.cells (mcs p A1 c1 A2 c2 A3 c3 m inst left b) t (0, 0))) :
  w.cell? ⟨g, 3, none⟩ = some (.int .i64 p.kind) ∧ w.cell? ⟨g, 5, none⟩ = some (.int .i64 p.times) ∧ w.cell? ⟨g, 6, none⟩ = some (.int .i64 p.grace) ∧ w.cell? ⟨g, 7, none⟩ = some (.int .i64 p.rate) ∧ w.cell? ⟨g, 19, none⟩ = some (.int .i64 m) ∧ w.cell? ⟨g, 20, none⟩ = some (.int .i64 inst) ∧ w.cell? ⟨g, 21, none⟩ = some (.int .i64 left) ∧ w.cell? ⟨g, 22, none⟩ = some b :=
 ⟨(blk_cell h 3).trans rfl, (blk_cell h 5).trans rfl, (blk_cell h 6).trans rfl, (blk_cell h 7).trans rfl, (blk_cell h 19).trans rfl, (blk_cell h 20).trans rfl, (blk_cell h 21).trans rfl, (blk_cell h 22).trans rfl⟩
set_option maxRecDepth 100000 in
set_option maxHeartbeats 4000000 in
theorem principal_any (p : Prod) (A1 : Option Addr) (c1 : Nat) (A2 : Option Addr) (c2 : Nat) (A3 : Option Addr) (c3 : Nat) (m inst left : Int) (b : Value) (k v : Int) (w : World) (g : Nat) (hb : w.heap[g]? = some (.cells (mcs p A1 c1 A2 c2 A3 c3 m inst left b) 56 (0, 0))) (g0 : 0 ≤ p.grace) (g1 : p.grace < p.times) (t1 : p.times ≤ 600) (k0 : 0 ≤ k) (k1 : k < p.times) (m0 : 0 ≤ m) (m1 : m ≤ 10000000000000) (i0 : 0 ≤ inst) (i1 : inst ≤ 1000000000000000) (v0 : 0 ≤ v) (v1 : v ≤ 1000000000000000) (l0 : 0 ≤ left) (l1 : left ≤ 10000000000000) :
  Calls Tryz.prog 48 #[.pointer (some ⟨g, 0, none⟩), .int .i64 k, .int .i64 v] w fun e w' => e = .returned (.int .i64 (prin p m inst k v left)) ∧ Drawn0 w w' := by
 obtain ⟨q3, q5, q6, -, q19, q20, q21, -⟩ := mk_cells hb
 have st : IntKind.i64.wrap (p.times - 1) = p.times - 1 := IntWalk.i64_in _ (by omega)
 obtain ⟨pr, hpr⟩ : ∃ x, prin p m inst k v left = x := ⟨_, rfl⟩
 rw [hpr]
 unfold prin at hpr
 clear hb
 by_cases h1 : k < p.grace
 ·rw [if_pos h1] at hpr
  have HP := Aside0.mk hpr
  clear hpr
  go_enter Tryz.func48, Tryz.ntmps48
  go_wp2_with fail
  go_ret
  obtain rfl := HP.out
  exact ⟨rfl, Drawn0.refl _⟩
 ·rw [if_neg h1] at hpr
  by_cases h2 : k = p.times - 1
  ·rw [if_pos h2] at hpr
   have hq : (k == p.times - 1) = true := by simpa using h2
   have HP := Aside0.mk hpr
   clear hpr h2
   go_enter Tryz.func48, Tryz.ntmps48
   go_wp2_with fail
   go_ret
   obtain rfl := HP.out
   exact ⟨rfl, Drawn0.refl _⟩
  ·rw [if_neg h2] at hpr
   have hq : (k == p.times - 1) = false := by simpa using h2
   clear h2
   by_cases h3 : p.kind = 1
   ·rw [if_pos h3] at hpr
    have hk : (p.kind == 1) = true := by simpa using h3
    have si : IntKind.i64.wrap (inst - v) = inst - v := IntWalk.i64_in _ (by omega)
    have hm : (if left < inst - v then left else inst - v) = pr := by rw [← hpr]; split <;> omega
    clear hpr h3
    go_enter Tryz.func48, Tryz.ntmps48
    go_wp2_with fail
    go_region_held3 (fun W => W.cell? ⟨g, 20, none⟩ = some (.int .i64 inst) ∧ W.cell? ⟨g, 21, none⟩ = some (.int .i64 left)) (first | exact ⟨q20, q21⟩ | go_keep) (fail)
    go_wp2_with fail
    go_ret
    exact ⟨by first | rfl | (rw [← hm]), ⟨_, rfl⟩⟩
   ·rw [if_neg h3] at hpr
    have hk : (p.kind == 1) = false := by simpa using h3
    clear h3
    by_cases h4 : p.kind = 2
    ·rw [if_pos h4] at hpr
     have hk2 : (p.kind == 2) = true := by simpa using h4
     obtain ⟨N, hN⟩ : ∃ N, p.times - p.grace = N := ⟨_, rfl⟩
     rw [hN] at hpr
     have sN : IntKind.i64.wrap (p.times - p.grace) = N := by rw [hN]; exact IntWalk.i64_in _ (by omega)
     have n1 : 1 ≤ N := by omega
     have nz : (N == 0) = false := by simp; omega
     have nz3 : ¬ N = 0 := by omega
     have nm : (N == -1) = false := by simp; omega
     have p0 : 0 ≤ pr := by rw [← hpr]; exact Int.ediv_nonneg m0 (by omega)
     have p1 : pr ≤ m := by rw [← hpr]; exact Int.ediv_le_self _ m0
     have sd : IntKind.i64.wrap (Int.tdiv m N) = pr := by rw [Int.tdiv_eq_ediv_of_nonneg m0, hpr]; exact IntWalk.i64_in _ (by omega)
     clear hpr h4 hN
     go_enter Tryz.func48, Tryz.ntmps48
     go_wp2_with fail
     go_region_held3 (fun W => W.cell? ⟨g, 19, none⟩ = some (.int .i64 m) ∧ W.cell? ⟨g, 5, none⟩ = some (.int .i64 p.times) ∧ W.cell? ⟨g, 6, none⟩ = some (.int .i64 p.grace)) (first | exact ⟨q19, q5, q6⟩ | go_keep) (fail)
     go_wp2_with fail
     go_ret
     exact ⟨rfl, ⟨_, rfl⟩⟩
    ·rw [if_neg h4] at hpr
     have hk2 : (p.kind == 2) = false := by simpa using h4
     have HP := Aside0.mk hpr
     clear hpr h4
     go_enter Tryz.func48, Tryz.ntmps48
     go_wp2_with fail
     go_ret
     obtain rfl := HP.out
     exact ⟨rfl, Drawn0.refl _⟩
end Go.Proofs.YtfmkdledofbhdaaGreat.Sc
/- Contracts by hand: schedule: one line. -/
namespace Go.Proofs.YtfmkdledofbhdaaGreat.Sc
open Go.RowKit Go.Proofs.YtfmkdledofbhdaaGreatW.PrintWords Go.Proofs.YtfmkdledofbhdaaGreatW.PrintLast Go.Proofs.YtfmkdledofbhdaaGreatW.PrintMore Go.Proofs.YtfmkdledofbhdaaGreat.HW
open Go.Proofs.YtfmkdledofbhdaaGreat.Math Go.Proofs.YtfmkdledofbhdaaGreat.H Go.Proofs.YtfmkdledofbhdaaGreat.Pd Go.Proofs.YtfmkdledofbhdaaGreat.Du Go.Proofs.YtfmkdledofbhdaaGreat.Lv Pm
set_option linter.unusedVariables false
set_option linter.unusedSimpArgs false
attribute [local go_sem] max2_int min2_int max_two min_two
theorem info_line : (Tryz.prog.info? 38).map (·.size) = some 4 := by kernel_rfl
theorem line_one (a b c d : Int) : (#[Value.int .i64 a, .int .i64 b, .int .i64 c, .int .i64 d]).all (·.oneCell') = true := by simp [Value.oneCell']
theorem built_line0 : Tryz.prog.built 38 [] = some #[.int .i64 0, .int .i64 0, .int .i64 0, .int .i64 0] := by kernel_rfl
theorem built_line (a b c d : Int) : Tryz.prog.built 38 [(0, .int .i64 a), (1, .int .i64 b), (2, .int .i64 c), (3, .int .i64 d)] = some #[.int .i64 a, .int .i64 b, .int .i64 c, .int .i64 d] := by kernel_rfl
theorem results_cell_tmp {P : Program} {fn : Func} {p q : Tmp} {ty : TypeId} (h : fn.results = #[.cell p ty, .tmp q]) (tmps : Array Value) (w : World) (g : Nat) (t : TypeId) (cs : Array Value) (d : TypeDesc)
  (hp : tmps.getD p undef = .pointer (some ⟨g, 0, none⟩)) (hg : w.heap[g]? = some (.cells cs t (0, 0)))
  (hu : P.underlying ty = some d) (hd : (match d with | .struct _ | .array _ _ => true | _ => false) = true) (hi : (P.info? ty).map (·.size) = some cs.size) :
  (results fn tmps).run P w = .ok (.tuple #[.agg cs, tmps.getD q undef]) w := by
 have hp' : tmps[p]?.getD undef = .pointer (some ⟨g, 0, none⟩) := by simpa using hp
 simp [results, h, hp', asAddr, run_loadVar_row w g t ty cs (0, 0) d hg hu hd hi]
structure But2 (a b : Nat) (w w' : World) : Prop where
 os : w'.os = w.os
 tape : w'.tape = w.tape
 output : w'.output = w.output
 size : w.heap.size ≤ w'.heap.size
 block : ∀ k, k < w.heap.size → k ≠ a → k ≠ b → w'.heap[k]? = w.heap[k]?
theorem But2.of {a b : Nat} {w w' : World} (h : Below w.heap.size w w') : But2 a b w w' := ⟨h.os, h.tape, h.output, h.size, fun k hk _ _ => h.block k hk⟩
theorem But2.below {a b : Nat} {w w1 w2 : World} (h : But2 a b w w1) (hb : Below w1.heap.size w1 w2) : But2 a b w w2 :=
 ⟨hb.os.trans h.os, hb.tape.trans h.tape, hb.output.trans h.output, Nat.le_trans h.size hb.size, fun k hk h1 h2 => (hb.block k (Nat.lt_of_lt_of_le hk h.size)).trans (h.block k hk h1 h2)⟩
theorem But2.but {a b g : Nat} {w w1 w2 : World} (h : But2 a b w w1) (hb : H.But g w1 w2) (hg : g = a ∨ g = b ∨ w.heap.size ≤ g) : But2 a b w w2 :=
 ⟨hb.os.trans h.os, hb.tape.trans h.tape, hb.output.trans h.output, Nat.le_trans h.size hb.size, fun k hk h1 h2 => (hb.block k (Nat.lt_of_lt_of_le hk h.size) (by rcases hg with rfl | rfl | hg; exact h1; exact h2; omega)).trans (h.block k hk h1 h2)⟩
def Lined (p : Prod) (A1 : Option Addr) (c1 : Nat) (A2 : Option Addr) (c2 : Nat) (A3 : Option Addr) (c3 : Nat) (m inst left : Int) (W h : Int) (gm gb : Nat) (k d : Int) (z : Int × Int × Int) (w : World) (e : Ending) (w' : World) : Prop :=
 But2 gm gb w w' ∧ ∃ v, e = .returned (.tuple #[.agg v, .int .i64 (lerr p m inst k left z)]) ∧
  (lerr p m inst k left z = 0 → v = #[.int .i64 d, .int .i64 (prin p m inst k z.1 left), .int .i64 z.1, .int .i64 (left - prin p m inst k z.1 left)] ∧ w'.heap[gm]? = some (.cells (mcs p A1 c1 A2 c2 A3 c3 m inst (left - prin p m inst k z.1 left) (.pointer (some ⟨gb, 0, none⟩))) 56 (0, 0)) ∧ BearAt w' gb W h z.2.2) ∧ (lerr p m inst k left z ≠ 0 → v = #[.int .i64 0, .int .i64 0, .int .i64 0, .int .i64 0])
theorem bear_bdL {W h rest bal rate n : Int} (G : H.Good W h rest) (b0 : 0 ≤ bal) (b1 : bal ≤ 1000000000000000) : 0 ≤ (Gm.bear W h rest bal rate n).1 ∧ (Gm.bear W h rest bal rate n).1 ≤ 1000000000000000 := by
 rw [bear_eq]
 split
 ·rename_i hm
  split
  ·rename_i hq
   exact ⟨(Gm.step (W := W) (h := h) (rest := rest) (x := bal * rate * n) (by have := G.w0; omega) (Int.mul_nonneg (Int.mul_nonneg hm.1 hm.2.2.1) hm.2.2.2.2.1) G.r0).1, hq⟩
  ·simp
 ·simp
set_option maxRecDepth 100000 in
set_option maxHeartbeats 8000000 in
theorem line_any (p : Prod) (A1 : Option Addr) (c1 : Nat) (A2 : Option Addr) (c2 : Nat) (A3 : Option Addr) (c3 : Nat) (m inst left W h rest n k d : Int) (gm gb : Nat) (w : World) (z : Int × Int × Int) (hz : Gm.bear W h rest left p.rate n = z) (A : BearAt w gb W h rest) (G : H.Good W h rest) (hm : w.heap[gm]? = some (.cells (mcs p A1 c1 A2 c2 A3 c3 m inst left (.pointer (some ⟨gb, 0, none⟩))) 56 (0, 0))) (hne : gm ≠ gb) (MM : Mid p m k left) (g0 : 0 ≤ p.grace) (g1 : p.grace < p.times) (t1 : p.times ≤ 600) (k0 : 0 ≤ k) (k1 : k < p.times) (m0 : 0 ≤ m) (m1 : m ≤ 10000000000000) (i0 : 0 ≤ inst) (i1 : inst ≤ 1000000000000000) (hk : p.kind = 1 ∨ p.kind = 2 ∨ p.kind = 3) :
  Calls Tryz.prog 19 #[.pointer (some ⟨gm, 0, none⟩), .int .i64 k, .int .i64 d, .int .i64 n] w (Lined p A1 c1 A2 c2 A3 c3 m inst left W h gm gb k d z w) := by
 have l0 := MM.l0
 have l1 : left ≤ 10000000000000 := by have := MM.l1; omega
 have RB := Aside0.mk (fun (U : World) (A : BearAt U gb W h rest) => bear_any (bal := left) (rate := p.rate) (n := n) A G)
 rw [hz] at RB
 obtain ⟨z1, z2, z3⟩ := z
 have zb := bear_bdL (rate := p.rate) (n := n) G l0 (show left ≤ 1000000000000000 by omega)
 rw [hz] at zb
 simp only [] at zb
 obtain ⟨pr, hpr⟩ : ∃ x, prin p m inst k z1 left = x := ⟨_, rfl⟩
 have PA := Aside0.mk (fun (U : World) (hU : U.heap[gm]? = some (.cells (mcs p A1 c1 A2 c2 A3 c3 m inst left (.pointer (some ⟨gb, 0, none⟩))) 56 (0, 0))) => show Calls Tryz.prog 48 #[.pointer (some ⟨gm, 0, none⟩), .int .i64 k, .int .i64 z1] U fun e w' => e = .returned (.int .i64 pr) ∧ Below U.heap.size U w' from by have := principal_any p A1 c1 A2 c2 A3 c3 m inst left (.pointer (some ⟨gb, 0, none⟩)) k z1 U gm hU g0 g1 t1 k0 k1 m0 m1 i0 i1 zb.1 zb.2 l0 l1; rw [hpr] at this; exact this.mono fun e w' h => ⟨h.1, h.2.below⟩)
 obtain ⟨p1, p2, p3⟩ := prin_bd (inst := inst) (v := z1) MM m0 g0 g1 k0 k1
 rw [hpr] at p1 p2
 have BA0 := Aside0.mk A
 have GM0 := Aside0.mk hm
 have gmlt := blk_lt hm
 have gblt := A.lt
 have st : IntKind.i64.wrap (p.times - 1) = p.times - 1 := IntWalk.i64_in _ (by omega)
 have NE := Aside0.mk hne
 clear A hm G MM p3
 go_enter Tryz.func19, Tryz.ntmps19
 go_wp2_with ((with_reducible refine gate_dst (N := 8) rfl ?_); refine box_event ?hg (N := 8) ?hd (cs := #[.int .i64 0, .int .i64 0, .int .i64 0, .int .i64 0]) (t := 38) ?hr ?_; (case hd => rfl); (case hg => rfl); (case hr => first | (go_simp; done) | (go_simp; rfl)); intro g8 hg w1 hb1 hbl1; have g8ge := (show w.heap.size ≤ g8 by rw [hg]; exact Nat.le_refl _); clear hg; have G8 := Aside0.mk hb1; have BT := Aside0.mk (But2.of (a := gm) (b := gb) hbl1); have GM := Aside0.mk (Pd.blk_below GM0.out hbl1); have BA := Aside0.mk ((BA0.out.below hbl1).below (w1 := w1.drew) (Below.drew (Below.refl _ _))); clear hb1 hbl1; obtain ⟨-, -, -, q7, -, q20, q21, q22⟩ := mk_cells GM.out)
 have g8ne : g8 ≠ gb := by omega
 have g8m : g8 ≠ gm := by omega
 have gmlt1 : gm < w1.heap.size := blk_lt GM.out
 have L8 := Aside0.mk (blk_lt G8.out)
 have LM := Aside0.mk gmlt1
 go_region_held3 (fun U => U.cell? ⟨gm, 22, none⟩ = some (.pointer (some ⟨gb, 0, none⟩)) ∧ U.cell? ⟨gm, 21, none⟩ = some (.int .i64 left) ∧ U.cell? ⟨gm, 7, none⟩ = some (.int .i64 p.rate)) (first | exact ⟨q22, q21, q7⟩ | go_keep) ((go_at_call 47; (with_reducible refine (RB.out _ BA.out).mono ?_); rintro e yy ⟨rfl, hba, hbut⟩; have q22 := (hbut.cell (p := ⟨gm, 22, none⟩) LM.out NE.out).trans q22; have q21 := (hbut.cell (p := ⟨gm, 21, none⟩) LM.out NE.out).trans q21; have q7 := (hbut.cell (p := ⟨gm, 7, none⟩) LM.out NE.out).trans q7))
 have BA := Aside0.mk hba
 have GM := Aside0.mk ((hbut.block gm LM.out NE.out).trans GM.out)
 have G8 := Aside0.mk ((hbut.block g8 L8.out g8ne).trans G8.out)
 have BT := Aside0.mk ((BT.out.below (Below.drew (Below.refl _ _))).but hbut (.inr (.inl rfl)))
 clear hba hbut q22 q7 gmlt1 LM L8
 by_cases hz2 : z2 = 0
 ·subst hz2
  by_cases hn : pr < 0
  ·have hL : lerr p m inst k left (z1, 0, z3) = 10 := by unfold lerr; rw [if_neg (fun h => h rfl)]; simp only []; rw [hpr, if_pos hn]
   have HL := Aside0.mk hL
   clear hL
   go_wp2_with (first
    | ((go_at_call 48; (with_reducible refine (PA.out _ GM.out).mono ?_); rintro e w5 ⟨rfl, hb⟩; have GM := Aside0.mk (Pd.blk_below GM.out hb); have G8 := Aside0.mk (Pd.blk_below G8.out hb); have BT := Aside0.mk (BT.out.below hb); have BA := Aside0.mk (BA.out.below hb); clear hb; obtain ⟨q3, q5, -, -, -, q20, q21, -⟩ := mk_cells GM.out; have f21 := frozen_of_row w5 gm 21 _ _ GM.out))
    | ((with_reducible refine gate_dst (N := 41) rfl ?_); refine build_event rfl (t := 38) rfl (cs := #[.int .i64 0, .int .i64 0, .int .i64 0, .int .i64 0]) ?hb ?_; (case hb => simp only [List.map_toArray, List.map_cons, List.map_nil]; exact built_line0))
    | ((with_reducible refine gate_store (t := 38) (p := 8) rfl ?_); refine row_event rfl (t := 38) (p := 8) (v := .tmp 41) rfl rfl (g := g8) (cs := #[.int .i64 0, .int .i64 0, .int .i64 0, .int .i64 0]) (zs := #[.int .i64 0, .int .i64 0, .int .i64 0, .int .i64 0]) rfl rfl G8.out info_line rfl (line_one 0 0 0 0) ?_; intro w9 hb8 hbut; have G8 := Aside0.mk hb8; have BT := Aside0.mk (BT.out.but hbut (.inr (.inr g8ge))); clear hb8 hbut))
   exact bodyPost_ret (v := .tuple #[.agg #[.int .i64 0, .int .i64 0, .int .i64 0, .int .i64 0], .int .i64 10]) (results_cell_tmp (g := g8) (cs := #[.int .i64 0, .int .i64 0, .int .i64 0, .int .i64 0]) Tryz.results19 _ _ _ _ rfl G8.out Tryz.underlying38 rfl info_line) rfl ⟨BT.out, _, by rw [HL.out], fun h => by rw [HL.out] at h; exact absurd h (by decide), fun _ => rfl⟩
  ·have s1 : IntKind.i64.wrap (pr + z1) = pr + z1 := IntWalk.i64_in _ (by omega)
   obtain ⟨ap, hap⟩ : ∃ x, pr + z1 - inst = x := ⟨_, rfl⟩
   have s2 : IntKind.i64.wrap (pr + z1 - inst) = ap := by rw [hap]; exact IntWalk.i64_in _ (by omega)
   have s3 : IntKind.i64.wrap (left - pr) = left - pr := IntWalk.i64_in _ (by omega)
   have s4 : IntKind.i64.wrap (-ap) = -ap := IntWalk.i64_in _ (by omega)
   obtain ⟨mx, hmx⟩ : ∃ x, (if ap < -ap then -ap else ap) = x := ⟨_, rfl⟩
   have hmx2 : mx = ap ∧ 0 ≤ ap ∨ mx = -ap ∧ ap < 0 := by rw [← hmx]; split <;> omega
   have hL0 : lerr p m inst k left (z1, 0, z3) = if p.kind = 1 ∧ k = p.times - 1 ∧ (p.times < ap ∨ p.times < -ap) then 10 else 0 := by
    unfold lerr
    rw [if_neg (fun h => h rfl)]
    simp only []
    rw [hpr, if_neg hn, hap]
   by_cases hbad : p.kind = 1 ∧ k = p.times - 1 ∧ (p.times < ap ∨ p.times < -ap)
   ·rw [if_pos hbad] at hL0
    obtain ⟨e1, e2, e3⟩ := hbad
    have hk1 : (p.kind == 1) = true := by simpa using e1
    have hq : (k == p.times - 1) = true := by simpa using e2
    have hmt : p.times < mx := by omega
    have HL := Aside0.mk hL0
    clear hap hmx2 e1 e2 e3 hpr hL0 hk
    go_wp2_with (first
     | ((go_at_call 48; (with_reducible refine (PA.out _ GM.out).mono ?_); rintro e w5 ⟨rfl, hb⟩; have GM := Aside0.mk (Pd.blk_below GM.out hb); have G8 := Aside0.mk (Pd.blk_below G8.out hb); have BT := Aside0.mk (BT.out.below hb); have BA := Aside0.mk (BA.out.below hb); clear hb; obtain ⟨q3, q5, -, -, -, q20, q21, -⟩ := mk_cells GM.out; have f21 := frozen_of_row w5 gm 21 _ _ GM.out))
     | ((with_reducible refine gate_dst (N := 78) rfl ?_); refine build_event rfl (t := 38) rfl (cs := #[.int .i64 0, .int .i64 0, .int .i64 0, .int .i64 0]) ?hb ?_; (case hb => simp only [List.map_toArray, List.map_cons, List.map_nil]; exact built_line0))
     | ((with_reducible refine gate_store (t := 38) (p := 8) rfl ?_); refine row_event rfl (t := 38) (p := 8) (v := .tmp 78) rfl rfl (g := g8) (cs := #[.int .i64 0, .int .i64 0, .int .i64 0, .int .i64 0]) (zs := #[.int .i64 0, .int .i64 0, .int .i64 0, .int .i64 0]) rfl rfl G8.out info_line rfl (line_one 0 0 0 0) ?_; intro w9 hb8 hbut; have G8 := Aside0.mk hb8; have BT := Aside0.mk (BT.out.but hbut (.inr (.inr g8ge))); clear hb8 hbut))
    exact bodyPost_ret (v := .tuple #[.agg #[.int .i64 0, .int .i64 0, .int .i64 0, .int .i64 0], .int .i64 10]) (results_cell_tmp (g := g8) (cs := #[.int .i64 0, .int .i64 0, .int .i64 0, .int .i64 0]) Tryz.results19 _ _ _ _ rfl G8.out Tryz.underlying38 rfl info_line) rfl ⟨BT.out, _, by rw [HL.out], fun h => by rw [HL.out] at h; exact absurd h (by decide), fun _ => rfl⟩
   ·rw [if_neg hbad] at hL0
    have HPR := Aside0.mk hpr
    have HL := Aside0.mk hL0
    have hcs : (p.kind == 1) = false ∨ ((p.kind == 1) = true ∧ (k == p.times - 1) = false) ∨ ((p.kind == 1) = true ∧ (k == p.times - 1) = true ∧ mx ≤ p.times) := by
     by_cases e1 : p.kind = 1
     ·by_cases e2 : k = p.times - 1
      ·exact .inr (.inr ⟨by simpa using e1, by simpa using e2, by have : ¬ (p.times < ap ∨ p.times < -ap) := fun g => hbad ⟨e1, e2, g⟩; omega⟩)
      ·exact .inr (.inl ⟨by simpa using e1, by simpa using e2⟩)
     ·exact .inl (by simpa using e1)
    clear hap hmx2 hpr hL0 hbad hk
    rcases hcs with e1 | ⟨e1, e2⟩ | ⟨e1, e2, e3⟩
    all_goals
     go_wp2_with (first
      | ((go_at_call 48; (with_reducible refine (PA.out _ GM.out).mono ?_); rintro e w5 ⟨rfl, hb⟩; have GM := Aside0.mk (Pd.blk_below GM.out hb); have G8 := Aside0.mk (Pd.blk_below G8.out hb); have BT := Aside0.mk (BT.out.below hb); have BA := Aside0.mk (BA.out.below hb); clear hb; obtain ⟨q3, q5, -, -, -, q20, q21, -⟩ := mk_cells GM.out; have f21 := frozen_of_row w5 gm 21 _ _ GM.out))
      | ((with_reducible refine gate_store (t := 2) (p := 86) rfl ?_); refine put_event rfl (t := 2) (p := 86) (v := .tmp 84) rfl rfl (g := gm) (i := 21) (cs := mcs p A1 c1 A2 c2 A3 c3 m inst left (.pointer (some ⟨gb, 0, none⟩))) (cs' := mcs p A1 c1 A2 c2 A3 c3 m inst (left - pr) (.pointer (some ⟨gb, 0, none⟩))) (x := .int .i64 (left - pr)) ?hr GM.out ?hc ?_; (case hc => rfl); (case hr => go_simp); intro w8 hb8 hbut; have GM := Aside0.mk hb8; have G8 := Aside0.mk ((hbut.block g8 (blk_lt G8.out) g8m).trans G8.out); have BA := Aside0.mk (BA.out.but hbut (Ne.symm NE.out)); have BT := Aside0.mk (BT.out.but hbut (.inl rfl)); have q21 : w8.cell? ⟨gm, 21, none⟩ = some (.int .i64 (left - pr)) := (blk_cell GM.out 21).trans rfl; clear hb8 hbut)
      | ((with_reducible refine gate_dst (N := 94) rfl ?_); refine build_event rfl (t := 38) rfl (cs := #[.int .i64 d, .int .i64 pr, .int .i64 z1, .int .i64 (left - pr)]) ?hb ?_; (case hb => simp only [List.map_toArray, List.map_cons, List.map_nil]; exact built_line d pr z1 (left - pr)))
      | ((with_reducible refine gate_store (t := 38) (p := 8) rfl ?_); refine row_event rfl (t := 38) (p := 8) (v := .tmp 94) rfl rfl (g := g8) (cs := #[.int .i64 d, .int .i64 pr, .int .i64 z1, .int .i64 (left - pr)]) (zs := #[.int .i64 0, .int .i64 0, .int .i64 0, .int .i64 0]) rfl rfl G8.out info_line rfl (line_one _ _ _ _) ?_; intro w9 hb8 hbut; have G8 := Aside0.mk hb8; have GM := Aside0.mk ((hbut.block gm (blk_lt GM.out) (Ne.symm g8m)).trans GM.out); have BA := Aside0.mk (BA.out.but hbut (Ne.symm g8ne)); have BT := Aside0.mk (BT.out.but hbut (.inr (.inr g8ge))); clear hb8 hbut))
     exact bodyPost_ret (v := .tuple #[.agg #[.int .i64 d, .int .i64 pr, .int .i64 z1, .int .i64 (left - pr)], .int .i64 0]) (results_cell_tmp (g := g8) (cs := #[.int .i64 d, .int .i64 pr, .int .i64 z1, .int .i64 (left - pr)]) Tryz.results19 _ _ _ _ rfl G8.out Tryz.underlying38 rfl info_line) rfl ⟨BT.out, _, by rw [HL.out], fun _ => ⟨by simp only []; rw [HPR.out], by simp only []; rw [HPR.out]; exact GM.out, BA.out⟩, fun h => absurd HL.out h⟩
 ·have hL : lerr p m inst k left (z1, z2, z3) = 3 := by unfold lerr; rw [if_pos (by simpa using hz2)]
  have hzb : (z2 != 0) = true := by simpa using hz2
  have HL := Aside0.mk hL
  clear hz2 hL
  go_wp2_with (first
   | ((with_reducible refine gate_dst (N := 34) rfl ?_); refine build_event rfl (t := 38) rfl (cs := #[.int .i64 0, .int .i64 0, .int .i64 0, .int .i64 0]) ?hb ?_; (case hb => simp only [List.map_toArray, List.map_cons, List.map_nil]; exact built_line0))
   | ((with_reducible refine gate_store (t := 38) (p := 8) rfl ?_); refine row_event rfl (t := 38) (p := 8) (v := .tmp 34) rfl rfl (g := g8) (cs := #[.int .i64 0, .int .i64 0, .int .i64 0, .int .i64 0]) (zs := #[.int .i64 0, .int .i64 0, .int .i64 0, .int .i64 0]) rfl rfl G8.out info_line rfl (line_one 0 0 0 0) ?_; intro w9 hb8 hbut; have G8 := Aside0.mk hb8; have BT := Aside0.mk (BT.out.but hbut (.inr (.inr g8ge))); clear hb8 hbut))
  exact bodyPost_ret (v := .tuple #[.agg #[.int .i64 0, .int .i64 0, .int .i64 0, .int .i64 0], .int .i64 3]) (results_cell_tmp (g := g8) (cs := #[.int .i64 0, .int .i64 0, .int .i64 0, .int .i64 0]) Tryz.results19 _ _ _ _ rfl G8.out Tryz.underlying38 rfl info_line) rfl ⟨BT.out, _, by rw [HL.out], fun h => by rw [HL.out] at h; exact absurd h (by decide), fun _ => rfl⟩
end Go.Proofs.YtfmkdledofbhdaaGreat.Sc
/- Plain law of schedule: what holds of lines that are there. -/
namespace Go.Proofs.YtfmkdledofbhdaaGreat.Sc
open Go.RowKit Go.Proofs.YtfmkdledofbhdaaGreatW.PrintWords Go.Proofs.YtfmkdledofbhdaaGreatW.PrintLast Go.Proofs.YtfmkdledofbhdaaGreatW.PrintMore Go.Proofs.YtfmkdledofbhdaaGreat.HW
open Go.Proofs.YtfmkdledofbhdaaGreat.Math Go.Proofs.YtfmkdledofbhdaaGreat.H Go.Proofs.YtfmkdledofbhdaaGreat.Pd Go.Proofs.YtfmkdledofbhdaaGreat.Du Go.Proofs.YtfmkdledofbhdaaGreat.Lv Pm
set_option linter.unusedVariables false
set_option linter.unusedSimpArgs false
def Chain (p : Prod) (W h m inst : Int) : Int → Int → Int → List (Int × Int) → List Ln → Prop
 | k, left, rest, [], [] => True
 | k, left, rest, (d, n) :: r, x :: t =>
  (Gm.bear W h rest left p.rate n).2.1 = 0 ∧ lerr p m inst k left (Gm.bear W h rest left p.rate n) = 0 ∧ x.1 = d ∧ x.2.1 = prin p m inst k (Gm.bear W h rest left p.rate n).1 left ∧ x.2.2.1 = (Gm.bear W h rest left p.rate n).1 ∧ x.2.2.2 = left - x.2.1 ∧ 0 ≤ x.2.1 ∧
   Chain p W h m inst (k + 1) x.2.2.2 (Gm.bear W h rest left p.rate n).2.2 r t
 | _, _, _, _, _ => False
theorem lerr_zero {p : Prod} {m inst k left : Int} {z : Int × Int × Int} (h : lerr p m inst k left z = 0) : z.2.1 = 0 ∧ 0 ≤ prin p m inst k z.1 left ∧ (p.kind = 1 → k = p.times - 1 → prin p m inst k z.1 left + z.1 - inst ≤ p.times ∧ -(prin p m inst k z.1 left + z.1 - inst) ≤ p.times) := by
 unfold lerr at h
 split at h
 ·simp at h
 ·rename_i h1
  split at h
  ·simp at h
  ·rename_i h2
   split at h
   ·simp at h
   ·rename_i h3
    exact ⟨by simpa using h1, by omega, fun a b => by
     have : ¬ (p.times < prin p m inst k z.1 left + z.1 - inst ∨ p.times < -(prin p m inst k z.1 left + z.1 - inst)) := fun g => h3 ⟨a, b, g⟩
     omega⟩
theorem lines_chain {p : Prod} {W h m inst : Int} : ∀ (l : List (Int × Int)) (k left rest : Int) (ls : List Ln), lines p W h m inst k l left rest = (ls, 0) → Chain p W h m inst k left rest l ls
 | [], k, left, rest, ls, e => by
  rw [lines] at e
  obtain ⟨rfl, -⟩ := Prod.mk.inj e
  trivial
 | (d, n) :: r, k, left, rest, ls, e => by
  rw [lines] at e
  split at e
  ·rename_i h1
   exact absurd (congrArg Prod.snd e) h1
  ·rename_i h1
   have h1 : lerr p m inst k left (Gm.bear W h rest left p.rate n) = 0 := by simpa using h1
   split at e
   ·rename_i h2
    obtain ⟨rfl, -⟩ := Prod.mk.inj e
    obtain ⟨z0, pr, _⟩ := lerr_zero h1
    exact ⟨z0, h1, rfl, rfl, rfl, rfl, pr, lines_chain r _ _ _ _ (Prod.ext rfl h2)⟩
   ·rename_i h2
    exact absurd (congrArg Prod.snd e) h2
theorem chain_len {p : Prod} {W h m inst : Int} : ∀ (l : List (Int × Int)) (k left rest : Int) (ls : List Ln), Chain p W h m inst k left rest l ls → ls.length = l.length
 | [], k, left, rest, [], c => rfl
 | [], k, left, rest, x :: t, c => by simp [Chain] at c
 | y :: r, k, left, rest, [], c => by simp [Chain] at c
 | (d, n) :: r, k, left, rest, x :: t, c => by
  obtain ⟨_, _, _, _, _, _, _, c⟩ := c
  simp [chain_len r _ _ _ t c]
def looks (p : Prod) : Int → Int → Int → List Ln → Prop
 | k, left, day, [] => left = 0
 | k, left, day, x :: t => x.2.2.2 = left - x.2.1 ∧ 0 ≤ x.2.1 ∧ 0 ≤ x.2.2.1 ∧ 0 ≤ x.2.2.2 ∧ (k < p.grace → x.2.1 = 0) ∧ day < x.1 ∧ looks p (k + 1) x.2.2.2 x.1 t
theorem chain_looks {p : Prod} {m inst : Int} {W h : Int} (m0 : 0 ≤ m) (m1 : m ≤ 10000000000000) (g0 : 0 ≤ p.grace) (gt : p.grace < p.times) : ∀ (l : List (Int × Int)) (k left rest day : Int) (ls : List Ln), H.Good W h rest → Chain p W h m inst k left rest l ls → Mid p m k left → 0 ≤ k → k + l.length = p.times → 0 < l.length ∨ left = 0 → rise day (l.map (·.1)) = true → looks p k left day ls
 | [], k, left, rest, day, [], G, c, M, k0, kl, hn, hr => by
  rcases hn with h | h
  ·simp at h
  ·exact h
 | [], k, left, rest, day, x :: t, G, c, M, k0, kl, hn, hr => by simp [Chain] at c
 | y :: r, k, left, rest, day, [], G, c, M, k0, kl, hn, hr => by simp [Chain] at c
 | (d, n) :: r, k, left, rest, day, x :: t, G, c, M, k0, kl, hn, hr => by
  obtain ⟨c1, c2, c3, c4, c5, c6, c7, c8⟩ := c
  simp only [List.length_cons] at kl
  have kt : k < p.times := by omega
  obtain ⟨p1, p2, p3⟩ := prin_bd (inst := inst) (v := (Gm.bear W h rest left p.rate n).1) M m0 g0 gt k0 kt
  rw [List.map_cons, rise, Bool.and_eq_true] at hr
  obtain ⟨r1, r2⟩ := hr
  have r1 := of_decide_eq_true r1
  have M2 := p3 (by omega)
  rw [← c4, ← c6] at M2
  obtain ⟨hm, hq, he⟩ := bear_ok c1
  have v0 : 0 ≤ (Gm.bear W h rest left p.rate n).1 := by
   rw [he]
   exact (Gm.step (W := W) (h := h) (rest := rest) (x := left * p.rate * n) (by have := G.w0; omega) (Int.mul_nonneg (Int.mul_nonneg hm.1 hm.2.2.1) hm.2.2.2.2.1) G.r0).1
  refine ⟨c6, c7, by omega, M2.l0, fun hk => ?_, by omega, ?_⟩
  ·rw [c4]; unfold prin; rw [if_pos hk]
  ·refine chain_looks m0 m1 g0 gt r (k + 1) x.2.2.2 _ x.1 t (good_bear G) c8 M2 (by omega) (by omega) ?_ (by rw [c3]; exact r2)
   rcases (by omega : 0 < r.length ∨ r.length = 0) with h1 | h1
   ·exact .inl h1
   ·right
    have kk : k = p.times - 1 := by omega
    rw [c6, c4]
    unfold prin
    rw [if_neg (by omega), if_pos kk]
    omega
end Go.Proofs.YtfmkdledofbhdaaGreat.Sc
/- Arguments opened: a product. -/
namespace Go.Proofs.YtfmkdledofbhdaaGreat.Pd
open Go.ChangeShapes Go.WideShapes Go.Deep Go.RowKit Go.Joins Go.ChangeAt Go.Proofs.YtfmkdledofbhdaaGreatW.PrintWords Go.Proofs.YtfmkdledofbhdaaGreat.Op
open Pm
set_option linter.unusedVariables false
set_option linter.unusedSimpArgs false
set_option linter.constructorNameAsVariable false
section
variable {H : Type} {enc : TypeId × Value → H} {P : Program} {w : World} {base : Nat} {spare : Nat → Bool} {held : Bool}
theorem open_rowsC {t e : TypeId} {fs : Array Field} {fuel : Nat} {x : Value} {y : DataW H × List MemPlace} (ht : P.underlying t = some (.slice e)) (he : P.underlying e = some (.struct fs))
  (hone : oneCellFields P fs = true) (hC : P.cellsOf e = fs.size) (hint : ∀ (j : Nat) (f : Field), fs[j]? = some f → P.underlying f.type = some (.int .i64)) (h : DataW.trod enc P w base spare held fuel t [x] = some y) :
  ∃ (A : Option Addr) (cap : Nat) (rows : List (List Int)), x = .slice A rows.length cap ∧ (A = none → cap = 0) ∧ rows.length ≤ cap ∧ cap ≤ maxLen ∧ IntRows w A fs.size rows := by
 have hx : ∃ A0 n0 c0, x = .slice A0 n0 c0 := by
  rcases open_slice ht h with ⟨h0, _⟩ | ⟨a, len, cap, m, n, D, Pl, h0, _⟩
  ·simp at h0; exact ⟨_, _, _, h0⟩
  ·simp at h0; exact ⟨_, _, _, h0⟩
 obtain ⟨A0, n0, c0, rfl⟩ := hx
 have hf : DataW.trod enc P w base spare held fuel t (Value.slice A0 n0 c0).cells.toList = some y := h
 rcases open_slice ht hf with ⟨h0, _⟩ | ⟨a, len, cap, m, n, D, Pl, hcs, hb, hl, hm, hmm, hx, hi⟩
 ·simp [Value.cells] at h0
  obtain ⟨rfl, rfl, rfl⟩ := h0
  exact ⟨none, 0, [], rfl, fun _ => rfl, Nat.le_refl _, Nat.zero_le _, fun r hr => by simp at hr, fun i r h => by simp at h⟩
 ·simp [Value.cells] at hcs
  obtain ⟨rfl, rfl, rfl⟩ := hcs
  have hlm : n0 ≤ m := by rw [hmm]; split <;> omega
  obtain ⟨rows, hrl, hrows⟩ := list_of (P := fun i (r : List Int) => (r.length = fs.size ∧ ∀ x ∈ r, (Lit.int .i64 x).wf = true) ∧ ∀ (j : Nat) (x : Int), r[j]? = some x → w.cell? (a.add (i * fs.size + j)) = some (.int .i64 x)) n0 (fun i hin => by
   obtain ⟨cs', hc, ht'⟩ := hi i (by omega)
   rw [hC] at hc
   obtain ⟨ys, n', hn', hy, hlen, hyl, hfl⟩ := DataW.trod_struct he ht'
   obtain ⟨_, hcl, hat⟩ := World.cells?_some hc
   obtain ⟨r, hr1, hr2⟩ := list_of (P := fun j (x : Int) => w.cell? (a.add (i * fs.size + j)) = some (.int .i64 x) ∧ (Lit.int .i64 x).wf = true) fs.size (fun j hj => by
    obtain ⟨f, hfj⟩ : ∃ f, fs[j]? = some f := ⟨_, Array.getElem?_eq_getElem hj⟩
    obtain ⟨ho, hk⟩ := hone_of' hone j f hfj
    have h1 := hfl j f hfj
    rw [ho, hk] at h1
    have hone' : (cs'.drop j).take 1 = [cs'[j]'(by omega)] := by
     rw [List.drop_eq_getElem_cons (by omega)]
     rfl
    rw [hone'] at h1
    have hys : ys[j]? = some (ys[j]'(by omega)) := List.getElem?_eq_getElem (by omega)
    rw [hys] at h1
    obtain ⟨x, hx1, _, hx3⟩ := DataW.trod_int (hint j f hfj) h1
    simp at hx1
    refine ⟨x, ?_, hx3⟩
    rw [← Go.Deep.add_add, hat j hj, List.getElem?_eq_getElem (by omega), hx1])
   exact ⟨r, ⟨hr1, fun x hx => by
    obtain ⟨j, hj, rfl⟩ := List.getElem_of_mem hx
    exact (hr2 j _ (List.getElem?_eq_getElem hj)).2⟩, fun j x hj => (hr2 j x hj).1⟩)
  subst hrl
  refine ⟨some a, c0, rows, rfl, (fun h => by cases h), hl, hm, fun r hr => ?_, fun i r hi => ⟨a, rfl, (hrows i r hi).2⟩⟩
  obtain ⟨i, hi2, rfl⟩ := List.getElem_of_mem hr
  exact (hrows i _ (List.getElem?_eq_getElem hi2)).1
theorem open_intsC {t e : TypeId} {fuel : Nat} {x : Value} {y : DataW H × List MemPlace} (ht : P.underlying t = some (.slice e)) (he : P.underlying e = some (.int .i64)) (hc : P.cellsOf e = 1) (h : DataW.trod enc P w base (fun _ => true) held fuel t [x] = some y) :
  ∃ (A : Option Addr) (cap : Nat) (l : List Int), x = .slice A l.length cap ∧ (A = none → cap = 0) ∧ l.length ≤ cap ∧ cap ≤ maxLen ∧ Kd.C (Kd.int .i64) w A l.length l := by
 rcases open_ints ht he hc h with ⟨hcs, _⟩ | ⟨a, len, cap, zs, hcs, _, hl, hm, hz, _, hcell, hwz⟩
 ·simp at hcs
  exact ⟨none, 0, [], hcs, fun _ => rfl, Nat.le_refl _, Nat.zero_le _, Kd.C_nil _ w⟩
 ·simp at hcs
  have hz' : zs.length = cap := by simpa using hz
  have hlen : (zs.take len).length = len := by rw [List.length_take]; omega
  refine ⟨some a, cap, zs.take len, by rw [hlen]; exact hcs, (fun h => by cases h), by omega, hm, ?_⟩
  refine Kd.C_of_reads (d := (0 : Int)) ⟨rfl, by unfold maxLen at hm; omega, fun _ => ⟨a, rfl, fun j hj => ?_⟩⟩
  rw [hlen] at hj
  rw [hcell j (by omega)]
  congr 2
  rw [List.getD_eq_getElem?_getD, List.getD_eq_getElem?_getD, List.getElem?_take]
  simp [hj]
theorem arr19 {cs : Array Value} (h : cs.size = 19) : ∃ v0 v1 v2 v3 v4 v5 v6 v7 v8 v9 v10 v11 v12 v13 v14 v15 v16 v17 v18, cs = #[v0, v1, v2, v3, v4, v5, v6, v7, v8, v9, v10, v11, v12, v13, v14, v15, v16, v17, v18] := by
 obtain ⟨l⟩ := cs
 match l, h with
 | [v0, v1, v2, v3, v4, v5, v6, v7, v8, v9, v10, v11, v12, v13, v14, v15, v16, v17, v18], _ => exact ⟨v0, v1, v2, v3, v4, v5, v6, v7, v8, v9, v10, v11, v12, v13, v14, v15, v16, v17, v18, rfl⟩
end
theorem cells_prod : Tryz.prog.cellsOf 27 = 19 := by kernel_rfl
theorem cells_string : Tryz.prog.cellsOf 9 = 1 := by kernel_rfl
theorem cells_int : Tryz.prog.cellsOf 3 = 1 := by kernel_rfl
theorem cells_int64 : Tryz.prog.cellsOf 2 = 1 := by kernel_rfl
theorem cells_resets : Tryz.prog.cellsOf 22 = 1 := by kernel_rfl
theorem cells_tiers : Tryz.prog.cellsOf 24 = 1 := by kernel_rfl
theorem cells_ints : Tryz.prog.cellsOf 25 = 1 := by kernel_rfl
theorem cells_four : Tryz.prog.cellsOf 23 = 4 := by kernel_rfl
set_option maxRecDepth 100000 in
theorem open_prod {H : Type} {enc : TypeId × Value → H} {w : World} {base b0 : Nat} {held : Bool} {r : Reach} {v : Value} {d : DataW H} {q : List MemPlace} (hv : Value.okWide Tryz.prog w r b0 27 v) (h : DataW.Trod enc Tryz.prog w base (fun _ => true) held 27 v d q) :
  ∃ (p : Prod) (A1 : Option Addr) (c1 : Nat) (A2 : Option Addr) (c2 : Nat) (A3 : Option Addr) (c3 : Nat), v = pv p A1 c1 A2 c2 A3 c3 ∧ ProdAt w p A1 c1 A2 c2 A3 c3 ∧ p.name.size ≤ maxLen ∧ c1 ≤ maxLen ∧ c2 ≤ maxLen ∧ c3 ≤ maxLen := by
 obtain ⟨cs, rfl, hsz⟩ := okWide_struct Tryz.underlying27 hv
 obtain ⟨v0, v1, v2, v3, v4, v5, v6, v7, v8, v9, v10, v11, v12, v13, v14, v15, v16, v17, v18, rfl⟩ := arr19 (hsz.trans cells_prod)
 obtain ⟨fuel, hf⟩ := h
 obtain ⟨xs, n, _, hx, hl, hlen, hfl⟩ := DataW.trod_struct Tryz.underlying27 hf
 have hy : ∀ i, i < 16 → ∃ y, xs[i]? = some y := fun i hi => ⟨_, List.getElem?_eq_getElem (by rw [hlen]; exact hi)⟩
 obtain ⟨y0, e0⟩ := hy 0 (by decide)
 have g0 : DataW.trod enc Tryz.prog w base (fun _ => true) held n 9 ([v0, v1, v2, v3, v4, v5, v6, v7, v8, v9, v10, v11, v12, v13, v14, v15, v16, v17, v18].drop 0 |>.take (Tryz.prog.cellsOf 9)) = some y0 := (hfl 0 _ rfl).trans e0
 rw [cells_string] at g0
 have k0 : DataW.trod enc Tryz.prog w base (fun _ => true) held n 9 [v0] = some y0 := g0
 obtain ⟨y1, e1⟩ := hy 1 (by decide)
 have g1 : DataW.trod enc Tryz.prog w base (fun _ => true) held n 3 ([v0, v1, v2, v3, v4, v5, v6, v7, v8, v9, v10, v11, v12, v13, v14, v15, v16, v17, v18].drop 1 |>.take (Tryz.prog.cellsOf 3)) = some y1 := (hfl 1 _ rfl).trans e1
 rw [cells_int] at g1
 have k1 : DataW.trod enc Tryz.prog w base (fun _ => true) held n 3 [v1] = some y1 := g1
 obtain ⟨y2, e2⟩ := hy 2 (by decide)
 have g2 : DataW.trod enc Tryz.prog w base (fun _ => true) held n 3 ([v0, v1, v2, v3, v4, v5, v6, v7, v8, v9, v10, v11, v12, v13, v14, v15, v16, v17, v18].drop 2 |>.take (Tryz.prog.cellsOf 3)) = some y2 := (hfl 2 _ rfl).trans e2
 rw [cells_int] at g2
 have k2 : DataW.trod enc Tryz.prog w base (fun _ => true) held n 3 [v2] = some y2 := g2
 obtain ⟨y3, e3⟩ := hy 3 (by decide)
 have g3 : DataW.trod enc Tryz.prog w base (fun _ => true) held n 3 ([v0, v1, v2, v3, v4, v5, v6, v7, v8, v9, v10, v11, v12, v13, v14, v15, v16, v17, v18].drop 3 |>.take (Tryz.prog.cellsOf 3)) = some y3 := (hfl 3 _ rfl).trans e3
 rw [cells_int] at g3
 have k3 : DataW.trod enc Tryz.prog w base (fun _ => true) held n 3 [v3] = some y3 := g3
 obtain ⟨y4, e4⟩ := hy 4 (by decide)
 have g4 : DataW.trod enc Tryz.prog w base (fun _ => true) held n 3 ([v0, v1, v2, v3, v4, v5, v6, v7, v8, v9, v10, v11, v12, v13, v14, v15, v16, v17, v18].drop 4 |>.take (Tryz.prog.cellsOf 3)) = some y4 := (hfl 4 _ rfl).trans e4
 rw [cells_int] at g4
 have k4 : DataW.trod enc Tryz.prog w base (fun _ => true) held n 3 [v4] = some y4 := g4
 obtain ⟨y5, e5⟩ := hy 5 (by decide)
 have g5 : DataW.trod enc Tryz.prog w base (fun _ => true) held n 3 ([v0, v1, v2, v3, v4, v5, v6, v7, v8, v9, v10, v11, v12, v13, v14, v15, v16, v17, v18].drop 5 |>.take (Tryz.prog.cellsOf 3)) = some y5 := (hfl 5 _ rfl).trans e5
 rw [cells_int] at g5
 have k5 : DataW.trod enc Tryz.prog w base (fun _ => true) held n 3 [v5] = some y5 := g5
 obtain ⟨y6, e6⟩ := hy 6 (by decide)
 have g6 : DataW.trod enc Tryz.prog w base (fun _ => true) held n 3 ([v0, v1, v2, v3, v4, v5, v6, v7, v8, v9, v10, v11, v12, v13, v14, v15, v16, v17, v18].drop 6 |>.take (Tryz.prog.cellsOf 3)) = some y6 := (hfl 6 _ rfl).trans e6
 rw [cells_int] at g6
 have k6 : DataW.trod enc Tryz.prog w base (fun _ => true) held n 3 [v6] = some y6 := g6
 obtain ⟨y7, e7⟩ := hy 7 (by decide)
 have g7 : DataW.trod enc Tryz.prog w base (fun _ => true) held n 2 ([v0, v1, v2, v3, v4, v5, v6, v7, v8, v9, v10, v11, v12, v13, v14, v15, v16, v17, v18].drop 7 |>.take (Tryz.prog.cellsOf 2)) = some y7 := (hfl 7 _ rfl).trans e7
 rw [cells_int64] at g7
 have k7 : DataW.trod enc Tryz.prog w base (fun _ => true) held n 2 [v7] = some y7 := g7
 obtain ⟨y8, e8⟩ := hy 8 (by decide)
 have g8 : DataW.trod enc Tryz.prog w base (fun _ => true) held n 22 ([v0, v1, v2, v3, v4, v5, v6, v7, v8, v9, v10, v11, v12, v13, v14, v15, v16, v17, v18].drop 8 |>.take (Tryz.prog.cellsOf 22)) = some y8 := (hfl 8 _ rfl).trans e8
 rw [cells_resets] at g8
 have k8 : DataW.trod enc Tryz.prog w base (fun _ => true) held n 22 [v8] = some y8 := g8
 obtain ⟨y9, e9⟩ := hy 9 (by decide)
 have g9 : DataW.trod enc Tryz.prog w base (fun _ => true) held n 2 ([v0, v1, v2, v3, v4, v5, v6, v7, v8, v9, v10, v11, v12, v13, v14, v15, v16, v17, v18].drop 9 |>.take (Tryz.prog.cellsOf 2)) = some y9 := (hfl 9 _ rfl).trans e9
 rw [cells_int64] at g9
 have k9 : DataW.trod enc Tryz.prog w base (fun _ => true) held n 2 [v9] = some y9 := g9
 obtain ⟨y10, e10⟩ := hy 10 (by decide)
 have g10 : DataW.trod enc Tryz.prog w base (fun _ => true) held n 23 ([v0, v1, v2, v3, v4, v5, v6, v7, v8, v9, v10, v11, v12, v13, v14, v15, v16, v17, v18].drop 10 |>.take (Tryz.prog.cellsOf 23)) = some y10 := (hfl 10 _ rfl).trans e10
 rw [cells_four] at g10
 have k10 : DataW.trod enc Tryz.prog w base (fun _ => true) held n 23 [v10, v11, v12, v13] = some y10 := g10
 obtain ⟨y11, e11⟩ := hy 11 (by decide)
 have g11 : DataW.trod enc Tryz.prog w base (fun _ => true) held n 3 ([v0, v1, v2, v3, v4, v5, v6, v7, v8, v9, v10, v11, v12, v13, v14, v15, v16, v17, v18].drop 14 |>.take (Tryz.prog.cellsOf 3)) = some y11 := (hfl 11 _ rfl).trans e11
 rw [cells_int] at g11
 have k11 : DataW.trod enc Tryz.prog w base (fun _ => true) held n 3 [v14] = some y11 := g11
 obtain ⟨y12, e12⟩ := hy 12 (by decide)
 have g12 : DataW.trod enc Tryz.prog w base (fun _ => true) held n 24 ([v0, v1, v2, v3, v4, v5, v6, v7, v8, v9, v10, v11, v12, v13, v14, v15, v16, v17, v18].drop 15 |>.take (Tryz.prog.cellsOf 24)) = some y12 := (hfl 12 _ rfl).trans e12
 rw [cells_tiers] at g12
 have k12 : DataW.trod enc Tryz.prog w base (fun _ => true) held n 24 [v15] = some y12 := g12
 obtain ⟨y13, e13⟩ := hy 13 (by decide)
 have g13 : DataW.trod enc Tryz.prog w base (fun _ => true) held n 2 ([v0, v1, v2, v3, v4, v5, v6, v7, v8, v9, v10, v11, v12, v13, v14, v15, v16, v17, v18].drop 16 |>.take (Tryz.prog.cellsOf 2)) = some y13 := (hfl 13 _ rfl).trans e13
 rw [cells_int64] at g13
 have k13 : DataW.trod enc Tryz.prog w base (fun _ => true) held n 2 [v16] = some y13 := g13
 obtain ⟨y14, e14⟩ := hy 14 (by decide)
 have g14 : DataW.trod enc Tryz.prog w base (fun _ => true) held n 3 ([v0, v1, v2, v3, v4, v5, v6, v7, v8, v9, v10, v11, v12, v13, v14, v15, v16, v17, v18].drop 17 |>.take (Tryz.prog.cellsOf 3)) = some y14 := (hfl 14 _ rfl).trans e14
 rw [cells_int] at g14
 have k14 : DataW.trod enc Tryz.prog w base (fun _ => true) held n 3 [v17] = some y14 := g14
 obtain ⟨y15, e15⟩ := hy 15 (by decide)
 have g15 : DataW.trod enc Tryz.prog w base (fun _ => true) held n 25 ([v0, v1, v2, v3, v4, v5, v6, v7, v8, v9, v10, v11, v12, v13, v14, v15, v16, v17, v18].drop 18 |>.take (Tryz.prog.cellsOf 25)) = some y15 := (hfl 15 _ rfl).trans e15
 rw [cells_ints] at g15
 have k15 : DataW.trod enc Tryz.prog w base (fun _ => true) held n 25 [v18] = some y15 := g15
 clear hy hfl hf
 obtain ⟨nm, m0, _, z0⟩ := DataW.trod_string Tryz.underlying9 k0
 simp at m0
 subst m0
 obtain ⟨x1, m1, _, _⟩ := DataW.trod_int Tryz.underlying3 k1
 simp at m1
 subst m1
 obtain ⟨x2, m2, _, _⟩ := DataW.trod_int Tryz.underlying3 k2
 simp at m2
 subst m2
 obtain ⟨x3, m3, _, _⟩ := DataW.trod_int Tryz.underlying3 k3
 simp at m3
 subst m3
 obtain ⟨x4, m4, _, _⟩ := DataW.trod_int Tryz.underlying3 k4
 simp at m4
 subst m4
 obtain ⟨x5, m5, _, _⟩ := DataW.trod_int Tryz.underlying3 k5
 simp at m5
 subst m5
 obtain ⟨x6, m6, _, _⟩ := DataW.trod_int Tryz.underlying3 k6
 simp at m6
 subst m6
 obtain ⟨x7, m7, _, _⟩ := DataW.trod_int Tryz.underlying2 k7
 simp at m7
 subst m7
 obtain ⟨x9, m9, _, _⟩ := DataW.trod_int Tryz.underlying2 k9
 simp at m9
 subst m9
 obtain ⟨x11, m11, _, _⟩ := DataW.trod_int Tryz.underlying3 k11
 simp at m11
 subst m11
 obtain ⟨x13, m13, _, _⟩ := DataW.trod_int Tryz.underlying2 k13
 simp at m13
 subst m13
 obtain ⟨x14, m14, _, _⟩ := DataW.trod_int Tryz.underlying3 k14
 simp at m14
 subst m14
 obtain ⟨u0, u1, u2, u3, nn, _, f0, f1, f2, f3⟩ := trod_array4 Tryz.underlying23 cells_int k10
 obtain ⟨o0, mo0, _, _⟩ := DataW.trod_int Tryz.underlying3 f0
 simp at mo0
 subst mo0
 obtain ⟨o1, mo1, _, _⟩ := DataW.trod_int Tryz.underlying3 f1
 simp at mo1
 subst mo1
 obtain ⟨o2, mo2, _, _⟩ := DataW.trod_int Tryz.underlying3 f2
 simp at mo2
 subst mo2
 obtain ⟨o3, mo3, _, _⟩ := DataW.trod_int Tryz.underlying3 f3
 simp at mo3
 subst mo3
 obtain ⟨A1, c1, l1, rfl, n1, lc1, cm1, hr1⟩ := open_rowsC Tryz.underlying22 Tryz.underlying105 (by kernel_rfl) (by kernel_rfl) (fun j f hj => by have hmem := Array.mem_of_getElem? hj; simp at hmem; rcases hmem with rfl | rfl <;> first | exact Tryz.underlying3 | exact Tryz.underlying2) k8
 obtain ⟨A2, c2, l2, rfl, n2, lc2, cm2, hr2⟩ := open_rowsC Tryz.underlying24 Tryz.underlying107 (by kernel_rfl) (by kernel_rfl) (fun j f hj => by have hmem := Array.mem_of_getElem? hj; simp at hmem; rcases hmem with rfl | rfl <;> first | exact Tryz.underlying3 | exact Tryz.underlying2) k12
 obtain ⟨A3, c3, l3, rfl, n3, lc3, cm3, hr3⟩ := open_intsC Tryz.underlying25 Tryz.underlying3 cells_int k15
 exact ⟨{ name := nm, count := x1, round := x2, kind := x3, every := x4, times := x5, grace := x6, rate := x7, resets := l1, penalty := x9, o1 := o0, o2 := o1, o3 := o2, o4 := o3, over := x11, late := l2, cap := x13, roll := x14, hol := l3 }, A1, c1, A2, c2, A3, c3, rfl, ⟨hr1, lc1, n1, hr2, lc2, n2, hr3, lc3, n3⟩, z0, cm1, cm2, cm3⟩
end Go.Proofs.YtfmkdledofbhdaaGreat.Pd
/- A product handed in is within the reach: its name, its rows. -/
namespace Go.Proofs.YtfmkdledofbhdaaGreat.Pd
open Go.ChangeShapes Go.WideShapes Go.Deep Go.RowKit Go.Joins Go.ChangeAt Go.Proofs.YtfmkdledofbhdaaGreatW.PrintWords Go.Proofs.YtfmkdledofbhdaaGreat.Op
open Pm
set_option linter.unusedVariables false
set_option linter.unusedSimpArgs false
section
variable {H : Type} {enc : TypeId × Value → H} {P : Program} {w : World} {base : Nat} {spare : Nat → Bool} {held : Bool}
theorem slice_weight {t e : TypeId} {fuel : Nat} {A : Option Addr} {n c : Nat} {y : DataW H × List MemPlace} (ht : P.underlying t = some (.slice e)) (h : DataW.trod enc P w base spare held fuel t [.slice A n c] = some y) (hb : 0 < P.bytesOf e)
  (hw : ∀ k ∈ y.1.weights P t, k ≤ reachBytes) : n ≤ reachBytes := by
 rcases open_slice ht h with ⟨h0, -⟩ | ⟨a, len, cap, m, n', D, Pl, hcs, -, -, -, -, hx, -⟩
 ·simp at h0
  omega
 ·simp at hcs
  obtain ⟨-, rfl, -⟩ := hcs
  subst hx
  have := hw ((((List.range n).map D).length + ((List.range (m - n)).map fun j => D (n + j)).length) * P.bytesOf e) (by simp [DataW.weights, ht])
  rw [List.length_map, List.length_range] at this
  have h2 : n * 1 ≤ (n + ((List.range (m - n)).map fun j => D (n + j)).length) * P.bytesOf e := Nat.mul_le_mul (by omega) hb
  omega
theorem string_weight {t : TypeId} {fuel : Nat} {s : ByteArray} {y : DataW H × List MemPlace} (ht : P.underlying t = some .string) (h : DataW.trod enc P w base spare held fuel t [.string s] = some y)
  (hw : ∀ k ∈ y.1.weights P t, k ≤ reachBytes) : s.size ≤ reachBytes := by
 cases fuel with
 | zero => simp [DataW.trod] at h
 | succ n =>
  simp [DataW.trod, ht] at h
  obtain ⟨-, rfl⟩ := h
  have := hw s.data.toList.length (by simp [DataW.weights])
  exact this
end
theorem prod_sized {H : Type} {enc : TypeId × Value → H} {w : World} {base : Nat} {held : Bool} {p : Prod} {A1 : Option Addr} {c1 : Nat} {A2 : Option Addr} {c2 : Nat} {A3 : Option Addr} {c3 : Nat} {d : DataW H} {q : List MemPlace}
  (h : DataW.Trod enc Tryz.prog w base (fun _ => true) held 27 (pv p A1 c1 A2 c2 A3 c3) d q) (hw : ∀ k ∈ d.weights Tryz.prog 27, k ≤ reachBytes) : Held p := by
 obtain ⟨fuel, hf⟩ := h
 obtain ⟨xs, n, _, hx, hl, hlen, hfl⟩ := DataW.trod_struct Tryz.underlying27 hf
 have hy : ∀ i, i < 16 → ∃ y, xs[i]? = some y := fun i hi => ⟨_, List.getElem?_eq_getElem (by rw [hlen]; exact hi)⟩
 obtain rfl : d = .agg (xs.map (·.1)) := (Prod.mk.inj hx).1
 have part : ∀ (i : Nat) (f : Field) (y : DataW H × List MemPlace), (Tryz.prog.underlying 27).bind (fun t => match t with | .struct fs => fs[i]? | _ => none) = some f → xs[i]? = some y → ∀ k ∈ y.1.weights Tryz.prog f.type, k ≤ reachBytes := by
  intro i f y hfi hyi k hk
  refine hw k ?_
  rw [Tryz.underlying27] at hfi
  simp only [DataW.weights, Tryz.underlying27]
  refine DataW.weights_mem_each (j := i) (t := f.type) (d := y.1) ?_ (by simp [hyi]) k hk
  simp only [Option.bind_some] at hfi
  rw [List.getElem?_map, Array.getElem?_toList, hfi]
  rfl
 have rb : reachBytes ≤ 140737488351232 := by decide
 obtain ⟨y0, e0⟩ := hy 0 (by decide)
 have g0 := (hfl 0 _ rfl).trans e0
 have k0 : DataW.trod enc Tryz.prog w base (fun _ => true) held n 9 [.string p.name] = some y0 := by rw [← g0]; show _ = DataW.trod _ _ _ _ _ _ _ 9 ((List.drop 0 _).take (Tryz.prog.cellsOf 9)); rw [cells_string]; rfl
 obtain ⟨y8, e8⟩ := hy 8 (by decide)
 have g8 := (hfl 8 _ rfl).trans e8
 have k8 : DataW.trod enc Tryz.prog w base (fun _ => true) held n 22 [.slice A1 p.resets.length c1] = some y8 := by rw [← g8]; show _ = DataW.trod _ _ _ _ _ _ _ 22 ((List.drop 8 _).take (Tryz.prog.cellsOf 22)); rw [cells_resets]; rfl
 obtain ⟨y12, e12⟩ := hy 12 (by decide)
 have g12 := (hfl 12 _ rfl).trans e12
 have k12 : DataW.trod enc Tryz.prog w base (fun _ => true) held n 24 [.slice A2 p.late.length c2] = some y12 := by rw [← g12]; show _ = DataW.trod _ _ _ _ _ _ _ 24 ((List.drop 15 _).take (Tryz.prog.cellsOf 24)); rw [cells_tiers]; rfl
 obtain ⟨y15, e15⟩ := hy 15 (by decide)
 have g15 := (hfl 15 _ rfl).trans e15
 have k15 : DataW.trod enc Tryz.prog w base (fun _ => true) held n 25 [.slice A3 p.hol.length c3] = some y15 := by rw [← g15]; show _ = DataW.trod _ _ _ _ _ _ _ 25 ((List.drop 18 _).take (Tryz.prog.cellsOf 25)); rw [cells_ints]; rfl
 have w0 := string_weight Tryz.underlying9 k0 (part 0 _ y0 (by rw [Tryz.underlying27]; rfl) e0)
 have w8 := slice_weight Tryz.underlying22 k8 (by decide +kernel) (part 8 _ y8 (by rw [Tryz.underlying27]; rfl) e8)
 have w12 := slice_weight Tryz.underlying24 k12 (by decide +kernel) (part 12 _ y12 (by rw [Tryz.underlying27]; rfl) e12)
 have w15 := slice_weight Tryz.underlying25 k15 (by decide +kernel) (part 15 _ y15 (by rw [Tryz.underlying27]; rfl) e15)
 exact ⟨by omega, by omega, by omega, by omega⟩
end Go.Proofs.YtfmkdledofbhdaaGreat.Pd
/- Contracts by hand: schedule.Of. -/
namespace Go.Proofs.YtfmkdledofbhdaaGreat.Sc
open Go.RowKit Go.Proofs.YtfmkdledofbhdaaGreatW.PrintWords Go.Proofs.YtfmkdledofbhdaaGreatW.PrintLast Go.Proofs.YtfmkdledofbhdaaGreatW.PrintMore Go.Proofs.YtfmkdledofbhdaaGreat.HW
open Go.Proofs.YtfmkdledofbhdaaGreat.Math Go.Proofs.YtfmkdledofbhdaaGreat.H Go.Proofs.YtfmkdledofbhdaaGreat.Pd Go.Proofs.YtfmkdledofbhdaaGreat.Du Go.Proofs.YtfmkdledofbhdaaGreat.Lv Pm
set_option linter.unusedVariables false
set_option linter.unusedSimpArgs false
attribute [local go_sem] max2_int min2_int max_two min_two
theorem built_maker (p : Prod) (A1 : Option Addr) (c1 : Nat) (A2 : Option Addr) (c2 : Nat) (A3 : Option Addr) (c3 : Nat) (m : Int) : Tryz.prog.built 56 [(0, .agg (pcs p A1 c1 A2 c2 A3 c3)), (1, .int .i64 m), (3, .int .i64 m)] = some (mcs p A1 c1 A2 c2 A3 c3 m 0 m (.pointer none)) := by kernel_rfl
theorem Blk.readsL {w : World} {g : Nat} {e : TypeId} {l : List Int} {t : List Value} (h : H.Blk w g e (nums .i64 l ++ t)) (hm : l.length ≤ 1000000) : Kd.C (Kd.int .i64) w (some ⟨g, 0, none⟩) l.length l := Blk.reads h (by omega)
theorem info_lineb : (Tryz.prog.info? 38).map (fun i => (i.zero, i.size, i.bytes)) = some (some (.agg #[.int .i64 0, .int .i64 0, .int .i64 0, .int .i64 0]), 4, 32) := by kernel_rfl
theorem line_M {w : World} {base : Nat} {ok : Nat → Prop} (a b c d : Int) : (Kd.pair (Kd.int .i64) (Kd.pair (Kd.int .i64) (Kd.pair (Kd.int .i64) (Kd.int .i64)))).M w base ok (a, b, c, d) [.int .i64 a, .int .i64 b, .int .i64 c, .int .i64 d] :=
 ⟨[_], _, rfl, rfl, [_], _, rfl, rfl, [_], _, rfl, rfl, rfl⟩
theorem But2.toBelow {a b : Nat} {w w1 w2 : World} (h : Below w.heap.size w w1) (hb : But2 a b w1 w2) (ha : w.heap.size ≤ a) (hc : w.heap.size ≤ b) : Below w.heap.size w w2 :=
 ⟨hb.os.trans h.os, hb.tape.trans h.tape, hb.output.trans h.output, Nat.le_trans h.size hb.size, fun k hk => (hb.block k (Nat.lt_of_lt_of_le hk h.size) (by omega) (by omega)).trans (h.block k hk)⟩
theorem _root_.Go.Proofs.YtfmkdledofbhdaaGreat.H.BearAt.same {w w1 : World} {g : Nat} {W h rest : Int} (H : BearAt w g W h rest) (hb : w1.heap[g]? = w.heap[g]?) (hs : w.heap.size ≤ w1.heap.size) : BearAt w1 g W h rest :=
 ⟨(World.cell?_of_block (a := ⟨g, 0, none⟩) hb).trans H.c0, (World.cell?_of_block (a := ⟨g, 1, none⟩) hb).trans H.c1, (World.cell?_of_block (a := ⟨g, 2, none⟩) hb).trans H.c2, (World.frozen?_of_block (a := ⟨g, 2, none⟩) hb).trans H.f2, Nat.lt_of_lt_of_le H.lt hs⟩
theorem zip_drop {xs ys : List Int} {k : Nat} (h : k < xs.length) (h2 : ys.length = xs.length) : (xs.zip ys).drop k = (rd xs (k : Int), rd ys (k : Int)) :: (xs.zip ys).drop (k + 1) := by
 rw [List.drop_eq_getElem_cons (by rw [List.length_zip]; omega), List.getElem_zip]
 simp [rd, h, show k < ys.length by omega]
theorem inst_bd {p : Prod} {ys : List Int} {m inst : Int} (h : ofE p ys m = (inst, 0)) : 1 ≤ inst ∧ inst ≤ 1000000000000000 := by
 have ha : askE p ys m = 0 := by
  rcases Decidable.em (askE p ys m = 0) with e | e
  ·exact e
  ·unfold ofE at h
   rw [if_pos e] at h
   exact absurd (congrArg Prod.snd h) e
 obtain ⟨hm, hz⟩ := lf_mono ha
 have hn : ¬ askE p ys m ≠ 0 := by rw [ha]; decide
 unfold ofE at h
 rw [if_neg hn] at h
 by_cases h2 : 0 < lf p ys m 1000000000000000
 ·rw [if_pos h2] at h
  exact absurd (congrArg Prod.snd h) (fun e => by simp at e)
 ·rw [if_neg h2] at h
  have L := srch_least (lf p ys m) 50 0 1000000000000000 (by decide) (by decide) (by decide) (by decide) hz (by omega)
  have e := congrArg Prod.fst h
  simp only [] at e
  rw [e] at L
  exact ⟨L.v1, L.vm⟩
def ListedL1 (l : List Int) (w : World) (e : Ending) (w' : World) : Prop := ∃ g c t, e = .returned (.tuple #[.slice (some ⟨g, 0, none⟩) l.length c, .int .i64 0]) ∧ w.heap.size ≤ g ∧ l.length ≤ c ∧ H.Blk w' g 2 (nums .i64 l ++ t) ∧ Below w.heap.size w w'
theorem listed_one {l : List Int} {w w' : World} {e : Ending} (h : ListedL (l, 0) w e w') (hl : l ≠ []) : ListedL1 l w e w' := by
 obtain ⟨v, he, hr, hb⟩ := h
 rcases hr with ⟨-, h⟩ | ⟨g, c, t, rfl, hg, hc, hk⟩
 ·exact absurd h hl
 ·exact ⟨g, c, t, he, hg, hc, hk, hb⟩
def Sched (r : List Ln × Int) (w : World) (e : Ending) (w' : World) : Prop := ∃ A c, e = .returned (.tuple #[.slice A r.1.length c, .int .i64 r.2]) ∧ Kd.R (Kd.pair (Kd.int .i64) (Kd.pair (Kd.int .i64) (Kd.pair (Kd.int .i64) (Kd.int .i64)))) 38 w' w.heap.size (fun _ => True) (.slice A r.1.length c) r.1 ∧ Below w.heap.size w w'
set_option maxRecDepth 100000 in
set_option maxHeartbeats 20000000 in
theorem sched_one (p : Prod) (A1 : Option Addr) (c1 : Nat) (A2 : Option Addr) (c2 : Nat) (A3 : Option Addr) (c3 : Nat) (start m inst : Int) (w : World) (hg : GV w) (hp : ProdAt w p A1 c1 A2 c2 A3 c3) (hs : Small p) (xs ys : List Int) (hd : daysP p start = (xs, 0)) (hpx : partsP p start = (ys, 0)) (hxl : xs.length ≤ 600) (m0 : 1 ≤ m) (m1 : m ≤ 10000000000000) (hi : p.kind = 1 ∧ ofE p ys m = (inst, 0)) :
  Calls Tryz.prog 7 #[pv p A1 c1 A2 c2 A3 c3, .int .i64 start, .int .i64 m] w (Sched (linesP p start m inst) w) := by
 obtain ⟨ho, hs0, hds, hl, t1, t2, hr, -⟩ := days_known hd
 have hyl : ys.length = xs.length := by
  have := hpx
  unfold partsP at this
  rw [hd, if_pos rfl] at this
  obtain ⟨rfl, -⟩ := Prod.mk.inj this
  exact rparts_len _ _ _
 have hJ : linesP p start m inst = join [] (lines p (Gm.whole p.count) (Gm.half p.count p.round) m inst 0 (xs.zip ys) m 0) := by
  unfold linesP
  rw [hd, hpx]
  exact (join_nil _ (lines_err _ _ _ _ _ _ _ _ _)).symm
 obtain ⟨⟨⟨⟨⟨_, a2, a3, a4, a5, a6, a7, a8⟩, ⟨b1, b2, b3⟩, b4⟩, c⟩, d_⟩, e_⟩ := (ok_iff p).1 ho
 have hne : xs ≠ [] := fun e => by rw [e] at hl; simp at hl; omega
 have hne2 : ys ≠ [] := fun e => by rw [e] at hyl; simp at hyl; exact hne (List.eq_nil_of_length_eq_zero hyl.symm)
 have ib : 0 ≤ inst ∧ inst ≤ 1000000000000000 := by
  have := inst_bd hi.2; omega
 have MM := Aside0.mk (show Mid p m 0 m from ⟨by omega, by omega, fun _ _ => by rw [show max 0 (0 - p.grace) = 0 by omega]; omega⟩)
 have GN := good_new p.count p.round
 have NW := Aside0.mk (fun U => bnew_any (c := p.count) (r := p.round) (by omega) a3 U)
 have DA := Aside0.mk (fun W (hb : Below w.heap.size w W) => show Calls Tryz.prog 15 #[pv p A1 c1 A2 c2 A3 c3, .int .i64 start] W (Listed1 xs W) from (days_any p A1 c1 A2 c2 A3 c3 start W (hg.below hb) (hp.below hb) hs).mono fun e w' h => by rw [hd] at h; exact h.one hne)
 have PA := Aside0.mk (fun W (hb : Below w.heap.size w W) => show Calls Tryz.prog 16 #[pv p A1 c1 A2 c2 A3 c3, .int .i64 start] W (ListedL1 ys W) from (parts_any p A1 c1 A2 c2 A3 c3 start W (hg.below hb) (hp.below hb) hs).mono fun e w' h => by rw [hpx] at h; exact listed_one h hne2)
 have OF := Aside0.mk (fun (A : Option Addr) (c : Nat) (W : World) (hb : Below w.heap.size w W) (hc : Kd.C (Kd.int .i64) W A ys.length ys) => show Calls Tryz.prog 17 #[pv p A1 c1 A2 c2 A3 c3, .slice A ys.length c, .int .i64 m] W (Two (inst, 0) W) from by have := Of_any p A1 c1 A2 c2 A3 c3 A ys c m W (hg.below hb) (hp.below hb) hs hc (by omega); rw [hi.2] at this; exact this)
 obtain ⟨R, hR⟩ : ∃ R, linesP p start m inst = R := ⟨_, rfl⟩
 rw [hR] at hJ ⊢
 obtain ⟨Wh, hWh⟩ : ∃ y, Gm.whole p.count = y := ⟨_, rfl⟩
 obtain ⟨Hf, hHf⟩ : ∃ y, Gm.half p.count p.round = y := ⟨_, rfl⟩
 rw [hWh, hHf] at GN hJ
 have HWh := Aside0.mk hWh
 have HHf := Aside0.mk hHf
 have GN := Aside0.mk GN
 have HJ := Aside0.mk hJ
 have KD := Aside0.mk a4
 have kk : (p.kind == 1) = true := by simpa using hi.1
 have HYL := Aside0.mk hyl
 have T2 := Aside0.mk t2
 have HLT := Aside0.mk hl
 have G0 := Aside0.mk a7
 clear hg hp hs hd hpx hJ hR hWh hHf ho hs0 hds hr a2 a3 a4 a5 a6 a8 b1 b2 b3 b4 c d_ e_ hne hne2 hi hyl hl t2 a7
 go_enter Tryz.func7, Tryz.ntmps7
 go_wp2_with (first
  | ((with_reducible refine gate_dst (N := 3) rfl ?_); refine box_event ?hg (N := 3) ?hd (cs := pcs p A1 c1 A2 c2 A3 c3) (t := 27) ?hr ?_; (case hd => rfl); (case hg => rfl); (case hr => first | (go_simp; done) | (go_simp; rfl)); intro g hg w1 hb1 hbl1; have gge := (show w.heap.size ≤ g by rw [hg]; exact Nat.le_refl _); clear hg; have GG := Aside0.mk hb1; have HB := Aside0.mk hbl1; clear hb1 hbl1)
  | ((with_reducible refine gate_dst (N := 20) rfl ?_); refine wpList_load_row rfl 27 (.tmp 3) rfl g rfl 27 _ (0, 0) _ GG.out Tryz.underlying27 rfl info_prod ?_)
  | (go_at_call 15; (with_reducible refine (DA.out _ HB.out).mono ?_); rintro e w2 ⟨gl, cl, tl, rfl, gle, lc, hbk, hb⟩; have BL := Aside0.mk hbk; have glge := Nat.le_trans HB.out.size gle; have HB := Aside0.mk (below_step HB.out hb); have GG := Aside0.mk (Pd.blk_below GG.out hb); clear hb hbk)
  | ((with_reducible refine gate_dst (N := 35) rfl ?_); refine wpList_load_row rfl 27 (.tmp 3) rfl g rfl 27 _ (0, 0) _ GG.out Tryz.underlying27 rfl info_prod ?_)
  | (go_at_call 16; (with_reducible refine (PA.out _ HB.out).mono ?_); rintro e w3 ⟨gx, cx, tx, rfl, gxe, xc, hbk, hb⟩; have BX := Aside0.mk hbk; have gxge := Nat.le_trans HB.out.size gxe; have BL := Aside0.mk (Blk.below BL.out hb); have HB := Aside0.mk (below_step HB.out hb); have GG := Aside0.mk (Pd.blk_below GG.out hb); clear hb hbk)
  | ((with_reducible refine gate_dst (N := 40) rfl ?_); refine wpList_load_row rfl 27 (.tmp 3) rfl g rfl 27 _ (0, 0) _ GG.out Tryz.underlying27 rfl info_prod ?_)
  | ((with_reducible refine gate_dst (N := 43) rfl ?_); refine build_event rfl (t := 56) rfl (cs := mcs p A1 c1 A2 c2 A3 c3 m 0 m (.pointer none)) ?hb ?_; (case hb => simp only [List.map_toArray, List.map_cons, List.map_nil]; exact built_maker p A1 c1 A2 c2 A3 c3 m))
  | ((with_reducible refine gate_dst (N := 44) rfl ?_); refine box_event ?hg (N := 44) ?hd (cs := mcs p A1 c1 A2 c2 A3 c3 m 0 m (.pointer none)) (t := 56) ?hr ?_; (case hd => rfl); (case hg => rfl); (case hr => first | (go_simp; done) | (go_simp; rfl)); intro gm hgm w4 hb1 hb; have gmge := (show w.heap.size ≤ gm by rw [hgm]; exact HB.out.size); have gmx := (show gx ≠ gm by have := Blk.lt BX.out; omega); have gml := (show gl ≠ gm by have := Blk.lt BL.out; omega); have gmg := (show g ≠ gm by have := blk_lt GG.out; omega); clear hgm; have GM := Aside0.mk hb1; have BL := Aside0.mk (Blk.below BL.out hb); have BX := Aside0.mk (Blk.below BX.out hb); have HB := Aside0.mk (below_step HB.out hb); have GG := Aside0.mk (Pd.blk_below GG.out hb); clear hb1 hb; have v20 := (show w4.cell? ⟨gm, 20, none⟩ = some (.int .i64 0) from (blk_cell GM.out 20).trans rfl); have f20 := frozen_of_row w4 gm 20 _ _ GM.out; have v22 := (show w4.cell? ⟨gm, 22, none⟩ = some (.pointer none) from (blk_cell GM.out 22).trans rfl); have f22 := frozen_of_row w4 gm 22 _ _ GM.out; obtain ⟨-, u1, u2, u3, -⟩ := pc_cells GG.out)
  | ((with_reducible refine gate_dst (N := 50) rfl ?_); refine wpList_load_row rfl 27 (.tmp 3) rfl g rfl 27 _ (0, 0) _ GG.out Tryz.underlying27 rfl info_prod ?_)
  | (go_at_call 17; (with_reducible refine (OF.out _ _ _ HB.out (Blk.readsL BX.out (by have := HYL.out; omega))).mono ?_); rintro e w5 ⟨rfl, hb⟩; have BL := Aside0.mk (Blk.below BL.out hb); have BX := Aside0.mk (Blk.below BX.out hb); have GM := Aside0.mk (Pd.blk_below GM.out hb); have HB := Aside0.mk (below_step HB.out hb); have GG := Aside0.mk (Pd.blk_below GG.out hb); clear hb v20 f20 v22 f22 u1 u2 u3; have v20 := (show w5.cell? ⟨gm, 20, none⟩ = some (.int .i64 0) from (blk_cell GM.out 20).trans rfl); have f20 := frozen_of_row w5 gm 20 _ _ GM.out)
  | ((with_reducible refine gate_store (t := 2) (p := 57) rfl ?_); refine put_event rfl (t := 2) (p := 57) (v := .tmp 54) rfl rfl (g := gm) (i := 20) (cs := mcs p A1 c1 A2 c2 A3 c3 m 0 m (.pointer none)) (cs' := mcs p A1 c1 A2 c2 A3 c3 m inst m (.pointer none)) (x := .int .i64 inst) ?hr GM.out ?hc ?_; (case hc => rfl); (case hr => go_simp); intro w6 hb8 hbut; have GM := Aside0.mk hb8; have BL := Aside0.mk (Blk.but BL.out hbut gml); have BX := Aside0.mk (Blk.but BX.out hbut gmx); have GG := Aside0.mk ((hbut.block g (blk_lt GG.out) gmg).trans GG.out); have HB := Aside0.mk (But.below HB.out HB.out.size gmge hbut); clear hb8 hbut; have v22 := (show w6.cell? ⟨gm, 22, none⟩ = some (.pointer none) from (blk_cell GM.out 22).trans rfl); have f22 := frozen_of_row w6 gm 22 _ _ GM.out; obtain ⟨-, u1, u2, u3, -⟩ := pc_cells GG.out)
  | (go_at_call 18; (with_reducible refine (NW.out _).mono ?_); rintro e w7 ⟨hb, gb, hgb, rfl, hba⟩; rw [HWh.out, HHf.out] at hba; have gbge := Nat.le_trans HB.out.size hgb; have gbm := (show gm ≠ gb by have := blk_lt GM.out; omega); have gbl := (show gl ≠ gb by have := Blk.lt BL.out; omega); have gbx := (show gx ≠ gb by have := Blk.lt BX.out; omega); have gbg := (show g ≠ gb by have := blk_lt GG.out; omega); have BA := Aside0.mk hba; have BL := Aside0.mk (Blk.below BL.out hb); have BX := Aside0.mk (Blk.below BX.out hb); have GM := Aside0.mk (Pd.blk_below GM.out hb); have HB := Aside0.mk (below_step HB.out hb); have GG := Aside0.mk (Pd.blk_below GG.out hb); clear hb hba hgb v22 f22 u1 u2 u3; have v22 := (show w7.cell? ⟨gm, 22, none⟩ = some (.pointer none) from (blk_cell GM.out 22).trans rfl); have f22 := frozen_of_row w7 gm 22 _ _ GM.out)
  | ((with_reducible refine gate_store (t := 54) (p := 71) rfl ?_); refine put_event rfl (t := 54) (p := 71) (v := .tmp 68) rfl rfl (g := gm) (i := 22) (cs := mcs p A1 c1 A2 c2 A3 c3 m inst m (.pointer none)) (cs' := mcs p A1 c1 A2 c2 A3 c3 m inst m (.pointer (some ⟨gb, 0, none⟩))) (x := .pointer (some ⟨gb, 0, none⟩)) ?hr GM.out ?hc ?_; (case hc => rfl); (case hr => go_simp); intro w8 hb8 hbut; have GM := Aside0.mk hb8; have BA := Aside0.mk (BA.out.but hbut (Ne.symm gbm)); have BL := Aside0.mk (Blk.but BL.out hbut gml); have BX := Aside0.mk (Blk.but BX.out hbut gmx); have GG := Aside0.mk ((hbut.block g (blk_lt GG.out) gmg).trans GG.out); have HB := Aside0.mk (But.below HB.out HB.out.size gmge hbut); clear hb8 hbut v22 f22))
 clear kk
 have HGE := Aside0.mk (show 0 ≤ p.grace ∧ p.grace < p.times by have := G0.out; omega)
 have HZD := Aside0.mk (List.length_zip (l₁ := xs) (l₂ := ys))
 go_loopg [14, 76] (xs.length + 1) (fun gq ov iv w' => ∃ (k : Nat) (left rest : Int) (Ax : Option Addr) (cw : Nat) (ls : List Ln), k ≤ xs.length ∧ iv = .int .i64 (k : Int) ∧ ov = .slice Ax ls.length cw ∧ Aside0 (ls.length = k) ∧ Aside0 (gq = xs.length + 1 - k) ∧ Aside0 (R = join ls (lines p Wh Hf m inst (k : Int) ((xs.zip ys).drop k) left rest)) ∧ Aside0 (Mid p m (k : Int) left) ∧ Aside0 (H.Good Wh Hf rest) ∧ Aside0 (w'.heap[gm]? = some (.cells (mcs p A1 c1 A2 c2 A3 c3 m inst left (.pointer (some ⟨gb, 0, none⟩))) 56 (0, 0))) ∧ Aside0 (BearAt w' gb Wh Hf rest) ∧ Aside0 (Kd.R (Kd.pair (Kd.int .i64) (Kd.pair (Kd.int .i64) (Kd.pair (Kd.int .i64) (Kd.int .i64)))) 38 w' w.heap.size (fun b => b ≠ g ∧ b ≠ gl ∧ b ≠ gx ∧ b ≠ gm ∧ b ≠ gb) (.slice Ax ls.length cw) ls) ∧ Aside0 (H.Blk w' gl 3 (nums .i64 xs ++ tl)) ∧ Aside0 (H.Blk w' gx 2 (nums .i64 ys ++ tx)) ∧ Aside0 (w'.heap[g]? = some (.cells (pcs p A1 c1 A2 c2 A3 c3) 27 (0, 0))) ∧ Aside0 (Below w.heap.size w w'))
 case atStart => exact ⟨0, m, 0, none, 0, [], by omega, rfl, rfl, ⟨rfl⟩, ⟨rfl⟩, ⟨by rw [List.drop_zero]; exact HJ.out⟩, MM, GN, GM, BA, ⟨Kd.R_nil _ _ _ _ _⟩, BL, BX, GG, HB⟩
 case round =>
  obtain ⟨k, left, rest, Ax, cw, ls, hk, rfl, rfl, hlen, hgq, HJ, MM, GN, GM, BA, HO, BL, BX, GG, HB⟩ := hrel
  by_cases hlt : k < xs.length
  ·obtain ⟨d, hdd⟩ : ∃ d, rd xs (k : Int) = d := ⟨_, rfl⟩
   obtain ⟨n, hnn⟩ : ∃ n, rd ys (k : Int) = n := ⟨_, rfl⟩
   have hcl : wr.cell? ⟨gl, k, none⟩ = some (.int .i64 d) := (BL.out.cell k).trans (by rw [List.getElem?_append_left (by simp [nums]; omega), ← hdd]; simp [nums, rd, hlt])
   have hkl : k < ys.length := by have := HYL.out; omega
   have hcx : wr.cell? ⟨gx, k, none⟩ = some (.int .i64 n) := (BX.out.cell k).trans (by rw [List.getElem?_append_left (by simp [nums]; omega), ← hnn]; simp [nums, rd, hkl])
   have hkx : (k : Int) < (xs.length : Int) := by omega
   have hky : (k : Int) < (ys.length : Int) := by omega
   obtain ⟨z, hz⟩ : ∃ z, Gm.bear Wh Hf rest left p.rate n = z := ⟨_, rfl⟩
   have hj := HJ.out
   rw [zip_drop hlt HYL.out, hdd, hnn, lines_cons hz] at hj
   have ge := HGE.out
   have kt : (k : Int) < p.times := by have := HLT.out; omega
   have LA := line_any p A1 c1 A2 c2 A3 c3 m inst left Wh Hf rest n (k : Int) d gm gb wr z hz BA.out GN.out GM.out gbm MM.out ge.1 ge.2 T2.out (by omega) kt (by omega) m1 ib.1 ib.2 (by have := KD.out; omega)
   obtain ⟨p1, p2, p3⟩ := prin_bd (inst := inst) (v := z.1) MM.out (by omega) ge.1 ge.2 (by omega) kt
   have G2 := good_bear (bal := left) (rate := p.rate) (n := n) GN.out
   rw [hz] at G2
   by_cases he : lerr p m inst (k : Int) left z = 0
   ·rw [if_neg (by simpa using he)] at hj
    have pz := (lerr_zero he).2.1
    have M2 := p3 pz
    obtain ⟨z1, z2, z3⟩ := z
    obtain ⟨pr, hpr⟩ : ∃ x, prin p m inst (k : Int) z1 left = x := ⟨_, rfl⟩
    simp only [] at hj M2 G2
    rw [hpr] at hj M2
    have LN := Aside0.mk (show Calls Tryz.prog 19 #[.pointer (some ⟨gm, 0, none⟩), .int .i64 (k : Int), .int .i64 d, .int .i64 n] wr fun e w' => e = .returned (.tuple #[.agg #[.int .i64 d, .int .i64 pr, .int .i64 z1, .int .i64 (left - pr)], .int .i64 0]) ∧ But2 gm gb wr w' ∧ w'.heap[gm]? = some (.cells (mcs p A1 c1 A2 c2 A3 c3 m inst (left - pr) (.pointer (some ⟨gb, 0, none⟩))) 56 (0, 0)) ∧ BearAt w' gb Wh Hf z3 from LA.mono fun e w' h => by
     obtain ⟨hbt, v, rfl, h1, h2⟩ := h
     obtain ⟨rfl, h3, h4⟩ := h1 he
     simp only [] at h3
     rw [hpr] at h3
     rw [he]
     simp only []
     rw [hpr]
     exact ⟨rfl, hbt, h3, h4⟩)
    have HJ2 := Aside0.mk hj
    have MM2 := Aside0.mk M2
    have GN2 := Aside0.mk G2
    have HPR := Aside0.mk hpr
    clear hj LA p1 p2 p3 M2 G2 pz hz hpr he hdd hnn ge HJ MM kt
    go_wp2_with (first
     | (go_at_call 19; (with_reducible refine LN.out.mono ?_); rintro e w10 ⟨rfl, hbt, hgm, hba⟩; have GM := Aside0.mk hgm; have BA := Aside0.mk hba; have HO := Aside0.mk (Kd.R_step HO.out (fun b hb hlt => hbt.block b hlt hb.2.2.2.1 hb.2.2.2.2)); have BL := Aside0.mk (BL.out.same (hbt.block gl (Blk.lt BL.out) gml gbl)); have BX := Aside0.mk (BX.out.same (hbt.block gx (Blk.lt BX.out) gmx gbx)); have GG := Aside0.mk ((hbt.block g (blk_lt GG.out) gmg gbg).trans GG.out); have HB := Aside0.mk (But2.toBelow HB.out hbt gmge gbge); clear hbt hgm hba)
     | ((with_reducible refine gate_dst (N := 17) rfl ?_); refine copy_event rfl (N := 17) rfl rfl rfl (t := 38) (v := .tmp 90) rfl (cs := #[.int .i64 d, .int .i64 pr, .int .i64 z1, .int .i64 (left - pr)]) (zs := #[.int .i64 0, .int .i64 0, .int .i64 0, .int .i64 0]) ?hr rfl rfl info_line ?hz (line_one _ _ _ _) ?_; (case hr => first | (go_simp; done) | (go_simp; rfl)); (case hz => rfl); intro gt hgt w11 hb1 hb; have GT := Aside0.mk hb1; have HO := Aside0.mk (Kd.R_below HO.out hb); have BA := Aside0.mk (BA.out.below hb); have BL := Aside0.mk (Blk.below BL.out hb); have BX := Aside0.mk (Blk.below BX.out hb); have GM := Aside0.mk (Pd.blk_below GM.out hb); have HB := Aside0.mk (below_step HB.out hb); have GG := Aside0.mk (Pd.blk_below GG.out hb); clear hgt hb1 hb)
     | ((with_reducible refine gate_dst (N := 96) rfl ?_); refine wpList_load_row rfl 38 (.tmp 17) rfl gt rfl 38 _ (0, 0) _ GT.out Tryz.underlying38 rfl info_line ?_)
     | ((with_reducible refine gate_builtin (b := .append) (xs := #[.tmp 95, .tmp 97]) rfl ?_); at_builtin; refine Kd.R_append (Kd.pair (Kd.int .i64) (Kd.pair (Kd.int .i64) (Kd.pair (Kd.int .i64) (Kd.int .i64)))) (w0 := w) w.heap.size rfl (.tmp 95) (.tmp 97) 32 38 (.agg #[.int .i64 0, .int .i64 0, .int .i64 0, .int .i64 0]) 32 rfl Tryz.underlying32 info_lineb rfl (by decide) (by decide) (.slice Ax ls.length cw) ls (d, pr, z1, left - pr) [.int .i64 d, .int .i64 pr, .int .i64 z1, .int .i64 (left - pr)] (fun b => b ≠ g ∧ b ≠ gl ∧ b ≠ gx ∧ b ≠ gm ∧ b ≠ gb) (fun _ => False) rfl rfl ?aP (fun _ hk => hk.elim) ?aF ?aO ?aB ?aS ?aL ?_; (case aP => exact line_M d pr z1 (left - pr)); (case aF => exact fun b hb => ⟨(by have := blk_lt GG.out; omega), (by have := Blk.lt BL.out; omega), (by have := Blk.lt BX.out; omega), (by have := blk_lt GM.out; omega), (by have := BA.out.lt; omega)⟩); (case aO => exact HO.out); (case aB => exact HB.out); (case aS => exact HB.out.size); (case aL => have := hlen.out; omega); intro v1 w12 hr1 hb1 hg1 hat1; obtain ⟨l2, hl2⟩ : ∃ l2, l2 = ls ++ [(d, pr, z1, left - pr)] := ⟨_, rfl⟩; rw [← hl2] at hr1; obtain ⟨An, cn, rfl⟩ := Kd.R_slice hr1; have L2 := Aside0.mk hl2; have R1 := Aside0.mk hr1; have BL := Aside0.mk (BL.out.same (hg1.block gl (Blk.lt BL.out) (fun e => (HO.out.1 gl e.symm).2.1 rfl))); have BX := Aside0.mk (BX.out.same (hg1.block gx (Blk.lt BX.out) (fun e => (HO.out.1 gx e.symm).2.2.1 rfl))); have GM := Aside0.mk ((hg1.block gm (blk_lt GM.out) (fun e => (HO.out.1 gm e.symm).2.2.2.1 rfl)).trans GM.out); have BA := Aside0.mk (BA.out.same (hg1.block gb BA.out.lt (fun e => (HO.out.1 gb e.symm).2.2.2.2 rfl)) hg1.size); have GG := Aside0.mk ((hg1.block g (blk_lt GG.out) (fun e => (HO.out.1 g e.symm).1 rfl)).trans GG.out); have HB := Aside0.mk hb1; clear hl2 hr1 hb1 hg1 hat1))
    have L3 := Aside0.mk (show l2.length = k + 1 by rw [L2.out, List.length_append, hlen.out]; rfl)
    go_roundg (xs.length + 1 - (k + 1))
    case measure => have := hgq.out; omega
    case rel => exact ⟨k + 1, left - pr, z3, An, cn, l2, by omega, by simp, rfl, L3, ⟨rfl⟩, ⟨by rw [HJ2.out, L2.out]; rfl⟩, ⟨MM2.out⟩, GN2, GM, BA, R1, BL, BX, GG, HB⟩
   ·obtain ⟨er, her⟩ : ∃ er, lerr p m inst (k : Int) left z = er := ⟨_, rfl⟩
    rw [if_pos he, her] at hj
    have LN := Aside0.mk (show Calls Tryz.prog 19 #[.pointer (some ⟨gm, 0, none⟩), .int .i64 (k : Int), .int .i64 d, .int .i64 n] wr fun e w' => e = .returned (.tuple #[.agg #[.int .i64 0, .int .i64 0, .int .i64 0, .int .i64 0], .int .i64 er]) ∧ But2 gm gb wr w' from LA.mono fun e w' h => by
     obtain ⟨hbt, v, rfl, h1, h2⟩ := h
     obtain rfl := h2 he
     rw [her]
     exact ⟨rfl, hbt⟩)
    rw [her] at he
    have hen : (er != 0) = true := by simpa using he
    have HJ2 := Aside0.mk hj
    clear hj LA p1 p2 p3 G2 hz he her hdd hnn ge HJ MM kt
    go_wp2_with (first
     | (go_at_call 19; (with_reducible refine LN.out.mono ?_); rintro e w10 ⟨rfl, hbt⟩; have HB := Aside0.mk (But2.toBelow HB.out hbt gmge gbge); clear hbt)
     | ((with_reducible refine gate_dst (N := 17) rfl ?_); refine copy_event rfl (N := 17) rfl rfl rfl (t := 38) (v := .tmp 90) rfl (cs := #[.int .i64 0, .int .i64 0, .int .i64 0, .int .i64 0]) (zs := #[.int .i64 0, .int .i64 0, .int .i64 0, .int .i64 0]) ?hr rfl rfl info_line ?hz (line_one _ _ _ _) ?_; (case hr => first | (go_simp; done) | (go_simp; rfl)); (case hz => rfl); intro gt hgt w11 hb1 hb; have HB := Aside0.mk (below_step HB.out hb); clear hgt hb1 hb))
    go_ret2
    obtain rfl := HJ2.out
    exact ⟨none, 0, rfl, Kd.R_nil _ _ _ _ _, HB.out⟩
  ·have hj := HJ.out
   rw [List.drop_of_length_le (by rw [HZD.out]; omega), lines, join, if_pos rfl, List.append_nil] at hj
   have HJ2 := Aside0.mk hj
   clear hj HJ
   go_wp2_with fail
   go_ret2
   obtain rfl := HJ2.out
   exact ⟨Ax, cw, rfl, Kd.R_mono HO.out (fun _ _ => trivial), HB.out⟩
set_option maxRecDepth 100000 in
set_option maxHeartbeats 20000000 in
theorem sched_two (p : Prod) (A1 : Option Addr) (c1 : Nat) (A2 : Option Addr) (c2 : Nat) (A3 : Option Addr) (c3 : Nat) (start m inst : Int) (w : World) (hg : GV w) (hp : ProdAt w p A1 c1 A2 c2 A3 c3) (hs : Small p) (xs ys : List Int) (hd : daysP p start = (xs, 0)) (hpx : partsP p start = (ys, 0)) (hxl : xs.length ≤ 600) (m0 : 1 ≤ m) (m1 : m ≤ 10000000000000) (hi : p.kind ≠ 1 ∧ inst = 0) :
  Calls Tryz.prog 7 #[pv p A1 c1 A2 c2 A3 c3, .int .i64 start, .int .i64 m] w (Sched (linesP p start m inst) w) := by
 obtain ⟨ho, hs0, hds, hl, t1, t2, hr, -⟩ := days_known hd
 have hyl : ys.length = xs.length := by
  have := hpx
  unfold partsP at this
  rw [hd, if_pos rfl] at this
  obtain ⟨rfl, -⟩ := Prod.mk.inj this
  exact rparts_len _ _ _
 have hJ : linesP p start m inst = join [] (lines p (Gm.whole p.count) (Gm.half p.count p.round) m inst 0 (xs.zip ys) m 0) := by
  unfold linesP
  rw [hd, hpx]
  exact (join_nil _ (lines_err _ _ _ _ _ _ _ _ _)).symm
 obtain ⟨⟨⟨⟨⟨_, a2, a3, a4, a5, a6, a7, a8⟩, ⟨b1, b2, b3⟩, b4⟩, c⟩, d_⟩, e_⟩ := (ok_iff p).1 ho
 have hne : xs ≠ [] := fun e => by rw [e] at hl; simp at hl; omega
 have hne2 : ys ≠ [] := fun e => by rw [e] at hyl; simp at hyl; exact hne (List.eq_nil_of_length_eq_zero hyl.symm)
 have ib : 0 ≤ inst ∧ inst ≤ 1000000000000000 := by
  have := hi.2; omega
 have MM := Aside0.mk (show Mid p m 0 m from ⟨by omega, by omega, fun _ _ => by rw [show max 0 (0 - p.grace) = 0 by omega]; omega⟩)
 have GN := good_new p.count p.round
 have NW := Aside0.mk (fun U => bnew_any (c := p.count) (r := p.round) (by omega) a3 U)
 have DA := Aside0.mk (fun W (hb : Below w.heap.size w W) => show Calls Tryz.prog 15 #[pv p A1 c1 A2 c2 A3 c3, .int .i64 start] W (Listed1 xs W) from (days_any p A1 c1 A2 c2 A3 c3 start W (hg.below hb) (hp.below hb) hs).mono fun e w' h => by rw [hd] at h; exact h.one hne)
 have PA := Aside0.mk (fun W (hb : Below w.heap.size w W) => show Calls Tryz.prog 16 #[pv p A1 c1 A2 c2 A3 c3, .int .i64 start] W (ListedL1 ys W) from (parts_any p A1 c1 A2 c2 A3 c3 start W (hg.below hb) (hp.below hb) hs).mono fun e w' h => by rw [hpx] at h; exact listed_one h hne2)
 obtain ⟨R, hR⟩ : ∃ R, linesP p start m inst = R := ⟨_, rfl⟩
 rw [hR] at hJ ⊢
 obtain ⟨Wh, hWh⟩ : ∃ y, Gm.whole p.count = y := ⟨_, rfl⟩
 obtain ⟨Hf, hHf⟩ : ∃ y, Gm.half p.count p.round = y := ⟨_, rfl⟩
 rw [hWh, hHf] at GN hJ
 have HWh := Aside0.mk hWh
 have HHf := Aside0.mk hHf
 have GN := Aside0.mk GN
 have HJ := Aside0.mk hJ
 have KD := Aside0.mk a4
 have kk : (p.kind == 1) = false := by simpa using hi.1
 have HYL := Aside0.mk hyl
 have T2 := Aside0.mk t2
 have HLT := Aside0.mk hl
 have G0 := Aside0.mk a7
 obtain rfl := hi.2
 clear hg hp hs hd hpx hJ hR hWh hHf ho hs0 hds hr a2 a3 a4 a5 a6 a8 b1 b2 b3 b4 c d_ e_ hne hne2 hi hyl hl t2 a7
 go_enter Tryz.func7, Tryz.ntmps7
 go_wp2_with (first
  | ((with_reducible refine gate_dst (N := 3) rfl ?_); refine box_event ?hg (N := 3) ?hd (cs := pcs p A1 c1 A2 c2 A3 c3) (t := 27) ?hr ?_; (case hd => rfl); (case hg => rfl); (case hr => first | (go_simp; done) | (go_simp; rfl)); intro g hg w1 hb1 hbl1; have gge := (show w.heap.size ≤ g by rw [hg]; exact Nat.le_refl _); clear hg; have GG := Aside0.mk hb1; have HB := Aside0.mk hbl1; clear hb1 hbl1)
  | ((with_reducible refine gate_dst (N := 20) rfl ?_); refine wpList_load_row rfl 27 (.tmp 3) rfl g rfl 27 _ (0, 0) _ GG.out Tryz.underlying27 rfl info_prod ?_)
  | (go_at_call 15; (with_reducible refine (DA.out _ HB.out).mono ?_); rintro e w2 ⟨gl, cl, tl, rfl, gle, lc, hbk, hb⟩; have BL := Aside0.mk hbk; have glge := Nat.le_trans HB.out.size gle; have HB := Aside0.mk (below_step HB.out hb); have GG := Aside0.mk (Pd.blk_below GG.out hb); clear hb hbk)
  | ((with_reducible refine gate_dst (N := 35) rfl ?_); refine wpList_load_row rfl 27 (.tmp 3) rfl g rfl 27 _ (0, 0) _ GG.out Tryz.underlying27 rfl info_prod ?_)
  | (go_at_call 16; (with_reducible refine (PA.out _ HB.out).mono ?_); rintro e w3 ⟨gx, cx, tx, rfl, gxe, xc, hbk, hb⟩; have BX := Aside0.mk hbk; have gxge := Nat.le_trans HB.out.size gxe; have BL := Aside0.mk (Blk.below BL.out hb); have HB := Aside0.mk (below_step HB.out hb); have GG := Aside0.mk (Pd.blk_below GG.out hb); clear hb hbk)
  | ((with_reducible refine gate_dst (N := 40) rfl ?_); refine wpList_load_row rfl 27 (.tmp 3) rfl g rfl 27 _ (0, 0) _ GG.out Tryz.underlying27 rfl info_prod ?_)
  | ((with_reducible refine gate_dst (N := 43) rfl ?_); refine build_event rfl (t := 56) rfl (cs := mcs p A1 c1 A2 c2 A3 c3 m 0 m (.pointer none)) ?hb ?_; (case hb => simp only [List.map_toArray, List.map_cons, List.map_nil]; exact built_maker p A1 c1 A2 c2 A3 c3 m))
  | ((with_reducible refine gate_dst (N := 44) rfl ?_); refine box_event ?hg (N := 44) ?hd (cs := mcs p A1 c1 A2 c2 A3 c3 m 0 m (.pointer none)) (t := 56) ?hr ?_; (case hd => rfl); (case hg => rfl); (case hr => first | (go_simp; done) | (go_simp; rfl)); intro gm hgm w4 hb1 hb; have gmge := (show w.heap.size ≤ gm by rw [hgm]; exact HB.out.size); have gmx := (show gx ≠ gm by have := Blk.lt BX.out; omega); have gml := (show gl ≠ gm by have := Blk.lt BL.out; omega); have gmg := (show g ≠ gm by have := blk_lt GG.out; omega); clear hgm; have GM := Aside0.mk hb1; have BL := Aside0.mk (Blk.below BL.out hb); have BX := Aside0.mk (Blk.below BX.out hb); have HB := Aside0.mk (below_step HB.out hb); have GG := Aside0.mk (Pd.blk_below GG.out hb); clear hb1 hb; have v20 := (show w4.cell? ⟨gm, 20, none⟩ = some (.int .i64 0) from (blk_cell GM.out 20).trans rfl); have f20 := frozen_of_row w4 gm 20 _ _ GM.out; have v22 := (show w4.cell? ⟨gm, 22, none⟩ = some (.pointer none) from (blk_cell GM.out 22).trans rfl); have f22 := frozen_of_row w4 gm 22 _ _ GM.out; obtain ⟨-, u1, u2, u3, -⟩ := pc_cells GG.out)
  | ((with_reducible refine gate_dst (N := 50) rfl ?_); refine wpList_load_row rfl 27 (.tmp 3) rfl g rfl 27 _ (0, 0) _ GG.out Tryz.underlying27 rfl info_prod ?_)
  | (go_at_call 18; (with_reducible refine (NW.out _).mono ?_); rintro e w7 ⟨hb, gb, hgb, rfl, hba⟩; rw [HWh.out, HHf.out] at hba; have gbge := Nat.le_trans HB.out.size hgb; have gbm := (show gm ≠ gb by have := blk_lt GM.out; omega); have gbl := (show gl ≠ gb by have := Blk.lt BL.out; omega); have gbx := (show gx ≠ gb by have := Blk.lt BX.out; omega); have gbg := (show g ≠ gb by have := blk_lt GG.out; omega); have BA := Aside0.mk hba; have BL := Aside0.mk (Blk.below BL.out hb); have BX := Aside0.mk (Blk.below BX.out hb); have GM := Aside0.mk (Pd.blk_below GM.out hb); have HB := Aside0.mk (below_step HB.out hb); have GG := Aside0.mk (Pd.blk_below GG.out hb); clear hb hba hgb v22 f22 u1 u2 u3; have v22 := (show w7.cell? ⟨gm, 22, none⟩ = some (.pointer none) from (blk_cell GM.out 22).trans rfl); have f22 := frozen_of_row w7 gm 22 _ _ GM.out)
  | ((with_reducible refine gate_store (t := 54) (p := 71) rfl ?_); refine put_event rfl (t := 54) (p := 71) (v := .tmp 68) rfl rfl (g := gm) (i := 22) (cs := mcs p A1 c1 A2 c2 A3 c3 m 0 m (.pointer none)) (cs' := mcs p A1 c1 A2 c2 A3 c3 m 0 m (.pointer (some ⟨gb, 0, none⟩))) (x := .pointer (some ⟨gb, 0, none⟩)) ?hr GM.out ?hc ?_; (case hc => rfl); (case hr => go_simp); intro w8 hb8 hbut; have GM := Aside0.mk hb8; have BA := Aside0.mk (BA.out.but hbut (Ne.symm gbm)); have BL := Aside0.mk (Blk.but BL.out hbut gml); have BX := Aside0.mk (Blk.but BX.out hbut gmx); have GG := Aside0.mk ((hbut.block g (blk_lt GG.out) gmg).trans GG.out); have HB := Aside0.mk (But.below HB.out HB.out.size gmge hbut); clear hb8 hbut v22 f22))
 clear kk
 have HGE := Aside0.mk (show 0 ≤ p.grace ∧ p.grace < p.times by have := G0.out; omega)
 have HZD := Aside0.mk (List.length_zip (l₁ := xs) (l₂ := ys))
 go_loopg [14, 76] (xs.length + 1) (fun gq ov iv w' => ∃ (k : Nat) (left rest : Int) (Ax : Option Addr) (cw : Nat) (ls : List Ln), k ≤ xs.length ∧ iv = .int .i64 (k : Int) ∧ ov = .slice Ax ls.length cw ∧ Aside0 (ls.length = k) ∧ Aside0 (gq = xs.length + 1 - k) ∧ Aside0 (R = join ls (lines p Wh Hf m 0 (k : Int) ((xs.zip ys).drop k) left rest)) ∧ Aside0 (Mid p m (k : Int) left) ∧ Aside0 (H.Good Wh Hf rest) ∧ Aside0 (w'.heap[gm]? = some (.cells (mcs p A1 c1 A2 c2 A3 c3 m 0 left (.pointer (some ⟨gb, 0, none⟩))) 56 (0, 0))) ∧ Aside0 (BearAt w' gb Wh Hf rest) ∧ Aside0 (Kd.R (Kd.pair (Kd.int .i64) (Kd.pair (Kd.int .i64) (Kd.pair (Kd.int .i64) (Kd.int .i64)))) 38 w' w.heap.size (fun b => b ≠ g ∧ b ≠ gl ∧ b ≠ gx ∧ b ≠ gm ∧ b ≠ gb) (.slice Ax ls.length cw) ls) ∧ Aside0 (H.Blk w' gl 3 (nums .i64 xs ++ tl)) ∧ Aside0 (H.Blk w' gx 2 (nums .i64 ys ++ tx)) ∧ Aside0 (w'.heap[g]? = some (.cells (pcs p A1 c1 A2 c2 A3 c3) 27 (0, 0))) ∧ Aside0 (Below w.heap.size w w'))
 case atStart => exact ⟨0, m, 0, none, 0, [], by omega, rfl, rfl, ⟨rfl⟩, ⟨rfl⟩, ⟨by rw [List.drop_zero]; exact HJ.out⟩, MM, GN, GM, BA, ⟨Kd.R_nil _ _ _ _ _⟩, BL, BX, GG, HB⟩
 case round =>
  obtain ⟨k, left, rest, Ax, cw, ls, hk, rfl, rfl, hlen, hgq, HJ, MM, GN, GM, BA, HO, BL, BX, GG, HB⟩ := hrel
  by_cases hlt : k < xs.length
  ·obtain ⟨d, hdd⟩ : ∃ d, rd xs (k : Int) = d := ⟨_, rfl⟩
   obtain ⟨n, hnn⟩ : ∃ n, rd ys (k : Int) = n := ⟨_, rfl⟩
   have hcl : wr.cell? ⟨gl, k, none⟩ = some (.int .i64 d) := (BL.out.cell k).trans (by rw [List.getElem?_append_left (by simp [nums]; omega), ← hdd]; simp [nums, rd, hlt])
   have hkl : k < ys.length := by have := HYL.out; omega
   have hcx : wr.cell? ⟨gx, k, none⟩ = some (.int .i64 n) := (BX.out.cell k).trans (by rw [List.getElem?_append_left (by simp [nums]; omega), ← hnn]; simp [nums, rd, hkl])
   have hkx : (k : Int) < (xs.length : Int) := by omega
   have hky : (k : Int) < (ys.length : Int) := by omega
   obtain ⟨z, hz⟩ : ∃ z, Gm.bear Wh Hf rest left p.rate n = z := ⟨_, rfl⟩
   have hj := HJ.out
   rw [zip_drop hlt HYL.out, hdd, hnn, lines_cons hz] at hj
   have ge := HGE.out
   have kt : (k : Int) < p.times := by have := HLT.out; omega
   have LA := line_any p A1 c1 A2 c2 A3 c3 m 0 left Wh Hf rest n (k : Int) d gm gb wr z hz BA.out GN.out GM.out gbm MM.out ge.1 ge.2 T2.out (by omega) kt (by omega) m1 ib.1 ib.2 (by have := KD.out; omega)
   obtain ⟨p1, p2, p3⟩ := prin_bd (inst := 0) (v := z.1) MM.out (by omega) ge.1 ge.2 (by omega) kt
   have G2 := good_bear (bal := left) (rate := p.rate) (n := n) GN.out
   rw [hz] at G2
   by_cases he : lerr p m 0 (k : Int) left z = 0
   ·rw [if_neg (by simpa using he)] at hj
    have pz := (lerr_zero he).2.1
    have M2 := p3 pz
    obtain ⟨z1, z2, z3⟩ := z
    obtain ⟨pr, hpr⟩ : ∃ x, prin p m 0 (k : Int) z1 left = x := ⟨_, rfl⟩
    simp only [] at hj M2 G2
    rw [hpr] at hj M2
    have LN := Aside0.mk (show Calls Tryz.prog 19 #[.pointer (some ⟨gm, 0, none⟩), .int .i64 (k : Int), .int .i64 d, .int .i64 n] wr fun e w' => e = .returned (.tuple #[.agg #[.int .i64 d, .int .i64 pr, .int .i64 z1, .int .i64 (left - pr)], .int .i64 0]) ∧ But2 gm gb wr w' ∧ w'.heap[gm]? = some (.cells (mcs p A1 c1 A2 c2 A3 c3 m 0 (left - pr) (.pointer (some ⟨gb, 0, none⟩))) 56 (0, 0)) ∧ BearAt w' gb Wh Hf z3 from LA.mono fun e w' h => by
     obtain ⟨hbt, v, rfl, h1, h2⟩ := h
     obtain ⟨rfl, h3, h4⟩ := h1 he
     simp only [] at h3
     rw [hpr] at h3
     rw [he]
     simp only []
     rw [hpr]
     exact ⟨rfl, hbt, h3, h4⟩)
    have HJ2 := Aside0.mk hj
    have MM2 := Aside0.mk M2
    have GN2 := Aside0.mk G2
    have HPR := Aside0.mk hpr
    clear hj LA p1 p2 p3 M2 G2 pz hz hpr he hdd hnn ge HJ MM kt
    go_wp2_with (first
     | (go_at_call 19; (with_reducible refine LN.out.mono ?_); rintro e w10 ⟨rfl, hbt, hgm, hba⟩; have GM := Aside0.mk hgm; have BA := Aside0.mk hba; have HO := Aside0.mk (Kd.R_step HO.out (fun b hb hlt => hbt.block b hlt hb.2.2.2.1 hb.2.2.2.2)); have BL := Aside0.mk (BL.out.same (hbt.block gl (Blk.lt BL.out) gml gbl)); have BX := Aside0.mk (BX.out.same (hbt.block gx (Blk.lt BX.out) gmx gbx)); have GG := Aside0.mk ((hbt.block g (blk_lt GG.out) gmg gbg).trans GG.out); have HB := Aside0.mk (But2.toBelow HB.out hbt gmge gbge); clear hbt hgm hba)
     | ((with_reducible refine gate_dst (N := 17) rfl ?_); refine copy_event rfl (N := 17) rfl rfl rfl (t := 38) (v := .tmp 90) rfl (cs := #[.int .i64 d, .int .i64 pr, .int .i64 z1, .int .i64 (left - pr)]) (zs := #[.int .i64 0, .int .i64 0, .int .i64 0, .int .i64 0]) ?hr rfl rfl info_line ?hz (line_one _ _ _ _) ?_; (case hr => first | (go_simp; done) | (go_simp; rfl)); (case hz => rfl); intro gt hgt w11 hb1 hb; have GT := Aside0.mk hb1; have HO := Aside0.mk (Kd.R_below HO.out hb); have BA := Aside0.mk (BA.out.below hb); have BL := Aside0.mk (Blk.below BL.out hb); have BX := Aside0.mk (Blk.below BX.out hb); have GM := Aside0.mk (Pd.blk_below GM.out hb); have HB := Aside0.mk (below_step HB.out hb); have GG := Aside0.mk (Pd.blk_below GG.out hb); clear hgt hb1 hb)
     | ((with_reducible refine gate_dst (N := 96) rfl ?_); refine wpList_load_row rfl 38 (.tmp 17) rfl gt rfl 38 _ (0, 0) _ GT.out Tryz.underlying38 rfl info_line ?_)
     | ((with_reducible refine gate_builtin (b := .append) (xs := #[.tmp 95, .tmp 97]) rfl ?_); at_builtin; refine Kd.R_append (Kd.pair (Kd.int .i64) (Kd.pair (Kd.int .i64) (Kd.pair (Kd.int .i64) (Kd.int .i64)))) (w0 := w) w.heap.size rfl (.tmp 95) (.tmp 97) 32 38 (.agg #[.int .i64 0, .int .i64 0, .int .i64 0, .int .i64 0]) 32 rfl Tryz.underlying32 info_lineb rfl (by decide) (by decide) (.slice Ax ls.length cw) ls (d, pr, z1, left - pr) [.int .i64 d, .int .i64 pr, .int .i64 z1, .int .i64 (left - pr)] (fun b => b ≠ g ∧ b ≠ gl ∧ b ≠ gx ∧ b ≠ gm ∧ b ≠ gb) (fun _ => False) rfl rfl ?aP (fun _ hk => hk.elim) ?aF ?aO ?aB ?aS ?aL ?_; (case aP => exact line_M d pr z1 (left - pr)); (case aF => exact fun b hb => ⟨(by have := blk_lt GG.out; omega), (by have := Blk.lt BL.out; omega), (by have := Blk.lt BX.out; omega), (by have := blk_lt GM.out; omega), (by have := BA.out.lt; omega)⟩); (case aO => exact HO.out); (case aB => exact HB.out); (case aS => exact HB.out.size); (case aL => have := hlen.out; omega); intro v1 w12 hr1 hb1 hg1 hat1; obtain ⟨l2, hl2⟩ : ∃ l2, l2 = ls ++ [(d, pr, z1, left - pr)] := ⟨_, rfl⟩; rw [← hl2] at hr1; obtain ⟨An, cn, rfl⟩ := Kd.R_slice hr1; have L2 := Aside0.mk hl2; have R1 := Aside0.mk hr1; have BL := Aside0.mk (BL.out.same (hg1.block gl (Blk.lt BL.out) (fun e => (HO.out.1 gl e.symm).2.1 rfl))); have BX := Aside0.mk (BX.out.same (hg1.block gx (Blk.lt BX.out) (fun e => (HO.out.1 gx e.symm).2.2.1 rfl))); have GM := Aside0.mk ((hg1.block gm (blk_lt GM.out) (fun e => (HO.out.1 gm e.symm).2.2.2.1 rfl)).trans GM.out); have BA := Aside0.mk (BA.out.same (hg1.block gb BA.out.lt (fun e => (HO.out.1 gb e.symm).2.2.2.2 rfl)) hg1.size); have GG := Aside0.mk ((hg1.block g (blk_lt GG.out) (fun e => (HO.out.1 g e.symm).1 rfl)).trans GG.out); have HB := Aside0.mk hb1; clear hl2 hr1 hb1 hg1 hat1))
    have L3 := Aside0.mk (show l2.length = k + 1 by rw [L2.out, List.length_append, hlen.out]; rfl)
    go_roundg (xs.length + 1 - (k + 1))
    case measure => have := hgq.out; omega
    case rel => exact ⟨k + 1, left - pr, z3, An, cn, l2, by omega, by simp, rfl, L3, ⟨rfl⟩, ⟨by rw [HJ2.out, L2.out]; rfl⟩, ⟨MM2.out⟩, GN2, GM, BA, R1, BL, BX, GG, HB⟩
   ·obtain ⟨er, her⟩ : ∃ er, lerr p m 0 (k : Int) left z = er := ⟨_, rfl⟩
    rw [if_pos he, her] at hj
    have LN := Aside0.mk (show Calls Tryz.prog 19 #[.pointer (some ⟨gm, 0, none⟩), .int .i64 (k : Int), .int .i64 d, .int .i64 n] wr fun e w' => e = .returned (.tuple #[.agg #[.int .i64 0, .int .i64 0, .int .i64 0, .int .i64 0], .int .i64 er]) ∧ But2 gm gb wr w' from LA.mono fun e w' h => by
     obtain ⟨hbt, v, rfl, h1, h2⟩ := h
     obtain rfl := h2 he
     rw [her]
     exact ⟨rfl, hbt⟩)
    rw [her] at he
    have hen : (er != 0) = true := by simpa using he
    have HJ2 := Aside0.mk hj
    clear hj LA p1 p2 p3 G2 hz he her hdd hnn ge HJ MM kt
    go_wp2_with (first
     | (go_at_call 19; (with_reducible refine LN.out.mono ?_); rintro e w10 ⟨rfl, hbt⟩; have HB := Aside0.mk (But2.toBelow HB.out hbt gmge gbge); clear hbt)
     | ((with_reducible refine gate_dst (N := 17) rfl ?_); refine copy_event rfl (N := 17) rfl rfl rfl (t := 38) (v := .tmp 90) rfl (cs := #[.int .i64 0, .int .i64 0, .int .i64 0, .int .i64 0]) (zs := #[.int .i64 0, .int .i64 0, .int .i64 0, .int .i64 0]) ?hr rfl rfl info_line ?hz (line_one _ _ _ _) ?_; (case hr => first | (go_simp; done) | (go_simp; rfl)); (case hz => rfl); intro gt hgt w11 hb1 hb; have HB := Aside0.mk (below_step HB.out hb); clear hgt hb1 hb))
    go_ret2
    obtain rfl := HJ2.out
    exact ⟨none, 0, rfl, Kd.R_nil _ _ _ _ _, HB.out⟩
  ·have hj := HJ.out
   rw [List.drop_of_length_le (by rw [HZD.out]; omega), lines, join, if_pos rfl, List.append_nil] at hj
   have HJ2 := Aside0.mk hj
   clear hj HJ
   go_wp2_with fail
   go_ret2
   obtain rfl := HJ2.out
   exact ⟨Ax, cw, rfl, Kd.R_mono HO.out (fun _ _ => trivial), HB.out⟩
end Go.Proofs.YtfmkdledofbhdaaGreat.Sc
/- Contracts by hand: schedule.Of, all of it. -/
namespace Go.Proofs.YtfmkdledofbhdaaGreat.Sc
open Go.RowKit Go.Proofs.YtfmkdledofbhdaaGreatW.PrintWords Go.Proofs.YtfmkdledofbhdaaGreatW.PrintLast Go.Proofs.YtfmkdledofbhdaaGreatW.PrintMore Go.Proofs.YtfmkdledofbhdaaGreat.HW
open Go.Proofs.YtfmkdledofbhdaaGreat.Math Go.Proofs.YtfmkdledofbhdaaGreat.H Go.Proofs.YtfmkdledofbhdaaGreat.Pd Go.Proofs.YtfmkdledofbhdaaGreat.Du Go.Proofs.YtfmkdledofbhdaaGreat.Lv Pm
set_option linter.unusedVariables false
set_option linter.unusedSimpArgs false
attribute [local go_sem] max2_int min2_int max_two min_two
theorem sched_days (p : Prod) (A1 : Option Addr) (c1 : Nat) (A2 : Option Addr) (c2 : Nat) (A3 : Option Addr) (c3 : Nat) (start m : Int) (w : World) (hg : GV w) (hp : ProdAt w p A1 c1 A2 c2 A3 c3) (hs : Small p) (er : Int) (he : (daysP p start).2 = er) (hn : er ≠ 0) : Calls Tryz.prog 7 #[pv p A1 c1 A2 c2 A3 c3, .int .i64 start, .int .i64 m] w (Sched ([], er) w) := by
 have DA := Aside0.mk (fun W (hb : Below w.heap.size w W) => show Calls Tryz.prog 15 #[pv p A1 c1 A2 c2 A3 c3, .int .i64 start] W (fun e w' => ∃ v, e = .returned (.tuple #[v, .int .i64 er]) ∧ Below W.heap.size W w') from (days_any p A1 c1 A2 c2 A3 c3 start W (hg.below hb) (hp.below hb) hs).mono fun e w' h => by obtain ⟨v, h1, _, h3⟩ := h; exact ⟨v, by rw [h1, he], h3⟩)
 have hen : (er != 0) = true := by simpa using hn
 clear hg hp hs he hn
 go_enter Tryz.func7, Tryz.ntmps7
 go_wp2_with (first
  | ((with_reducible refine gate_dst (N := 3) rfl ?_); refine box_event ?hg (N := 3) ?hd (cs := pcs p A1 c1 A2 c2 A3 c3) (t := 27) ?hr ?_; (case hd => rfl); (case hg => rfl); (case hr => first | (go_simp; done) | (go_simp; rfl)); intro g hg w1 hb1 hbl1; have gge := (show w.heap.size ≤ g by rw [hg]; exact Nat.le_refl _); clear hg; have GG := Aside0.mk hb1; have HB := Aside0.mk hbl1; clear hb1 hbl1)
  | ((with_reducible refine gate_dst (N := 20) rfl ?_); refine wpList_load_row rfl 27 (.tmp 3) rfl g rfl 27 _ (0, 0) _ GG.out Tryz.underlying27 rfl info_prod ?_)
  | (go_at_call 15; (with_reducible refine (DA.out _ HB.out).mono ?_); rintro e w2 ⟨v, rfl, hb⟩; have HB := Aside0.mk (below_step HB.out hb); clear hb))
 go_ret2
 exact ⟨none, 0, rfl, Kd.R_nil _ _ _ _ _, HB.out⟩
theorem sched_amt (p : Prod) (A1 : Option Addr) (c1 : Nat) (A2 : Option Addr) (c2 : Nat) (A3 : Option Addr) (c3 : Nat) (start m : Int) (w : World) (hg : GV w) (hp : ProdAt w p A1 c1 A2 c2 A3 c3) (hs : Small p) (xs : List Int) (hd : daysP p start = (xs, 0)) (hm : m < 1 ∨ (1 ≤ m ∧ 10000000000000 < m)) : Calls Tryz.prog 7 #[pv p A1 c1 A2 c2 A3 c3, .int .i64 start, .int .i64 m] w (Sched ([], 16) w) := by
 obtain ⟨ho, hs0, hds, hl, t1, t2, hr, -⟩ := days_known hd
 have hne : xs ≠ [] := fun e => by rw [e] at hl; simp at hl; omega
 have DA := Aside0.mk (fun W (hb : Below w.heap.size w W) => show Calls Tryz.prog 15 #[pv p A1 c1 A2 c2 A3 c3, .int .i64 start] W (Listed1 xs W) from (days_any p A1 c1 A2 c2 A3 c3 start W (hg.below hb) (hp.below hb) hs).mono fun e w' h => by rw [hd] at h; exact h.one hne)
 clear hg hp hs hd ho hs0 hds hl t1 t2 hr hne
 rcases hm with h | ⟨h, h2⟩
 all_goals
  go_enter Tryz.func7, Tryz.ntmps7
  go_wp2_with (first
   | ((with_reducible refine gate_dst (N := 3) rfl ?_); refine box_event ?hg (N := 3) ?hd (cs := pcs p A1 c1 A2 c2 A3 c3) (t := 27) ?hr ?_; (case hd => rfl); (case hg => rfl); (case hr => first | (go_simp; done) | (go_simp; rfl)); intro g hg w1 hb1 hbl1; have gge := (show w.heap.size ≤ g by rw [hg]; exact Nat.le_refl _); clear hg; have GG := Aside0.mk hb1; have HB := Aside0.mk hbl1; clear hb1 hbl1)
   | ((with_reducible refine gate_dst (N := 20) rfl ?_); refine wpList_load_row rfl 27 (.tmp 3) rfl g rfl 27 _ (0, 0) _ GG.out Tryz.underlying27 rfl info_prod ?_)
   | (go_at_call 15; (with_reducible refine (DA.out _ HB.out).mono ?_); rintro e w2 ⟨gl, cl, tl, rfl, gle, lc, hbk, hb⟩; have BL := Aside0.mk hbk; have glge := Nat.le_trans HB.out.size gle; have HB := Aside0.mk (below_step HB.out hb); have GG := Aside0.mk (Pd.blk_below GG.out hb); clear hb hbk))
  go_ret2
  exact ⟨none, 0, rfl, Kd.R_nil _ _ _ _ _, HB.out⟩
set_option maxRecDepth 100000 in
set_option maxHeartbeats 8000000 in
theorem sched_steep (p : Prod) (A1 : Option Addr) (c1 : Nat) (A2 : Option Addr) (c2 : Nat) (A3 : Option Addr) (c3 : Nat) (start m : Int) (w : World) (hg : GV w) (hp : ProdAt w p A1 c1 A2 c2 A3 c3) (hs : Small p) (xs ys : List Int) (hd : daysP p start = (xs, 0)) (hpx : partsP p start = (ys, 0)) (m0 : 1 ≤ m) (m1 : m ≤ 10000000000000) (hk : p.kind = 1) (ov er : Int) (ho1 : ofE p ys m = (ov, er)) (hn : er ≠ 0) : Calls Tryz.prog 7 #[pv p A1 c1 A2 c2 A3 c3, .int .i64 start, .int .i64 m] w (Sched ([], er) w) := by
 obtain ⟨ho, hs0, hds, hl, t1, t2, hr, -⟩ := days_known hd
 have hne : xs ≠ [] := fun e => by rw [e] at hl; simp at hl; omega
 have DA := Aside0.mk (fun W (hb : Below w.heap.size w W) => show Calls Tryz.prog 15 #[pv p A1 c1 A2 c2 A3 c3, .int .i64 start] W (Listed1 xs W) from (days_any p A1 c1 A2 c2 A3 c3 start W (hg.below hb) (hp.below hb) hs).mono fun e w' h => by rw [hd] at h; exact h.one hne)
 have hyl : ys.length = xs.length := by
  have := hpx
  unfold partsP at this
  rw [hd, if_pos rfl] at this
  obtain ⟨rfl, -⟩ := Prod.mk.inj this
  exact rparts_len _ _ _
 have hne2 : ys ≠ [] := fun e => by rw [e] at hyl; simp at hyl; exact hne (List.eq_nil_of_length_eq_zero hyl.symm)
 have PA := Aside0.mk (fun W (hb : Below w.heap.size w W) => show Calls Tryz.prog 16 #[pv p A1 c1 A2 c2 A3 c3, .int .i64 start] W (ListedL1 ys W) from (parts_any p A1 c1 A2 c2 A3 c3 start W (hg.below hb) (hp.below hb) hs).mono fun e w' h => by rw [hpx] at h; exact listed_one h hne2)
 have OF := Aside0.mk (fun (A : Option Addr) (c : Nat) (W : World) (hb : Below w.heap.size w W) (hc : Kd.C (Kd.int .i64) W A ys.length ys) => show Calls Tryz.prog 17 #[pv p A1 c1 A2 c2 A3 c3, .slice A ys.length c, .int .i64 m] W (Two (ov, er) W) from by have := Of_any p A1 c1 A2 c2 A3 c3 A ys c m W (hg.below hb) (hp.below hb) hs hc (by omega); rw [ho1] at this; exact this)
 have hen : (er != 0) = true := by simpa using hn
 have kk : (p.kind == 1) = true := by simpa using hk
 have HYL := Aside0.mk (show ys.length ≤ 600 by omega)
 clear hg hp hs hd hpx ho hs0 hds hl t1 t2 hr hne hne2 hyl ho1 hn hk
 go_enter Tryz.func7, Tryz.ntmps7
 go_wp2_with (first
  | ((with_reducible refine gate_dst (N := 3) rfl ?_); refine box_event ?hg (N := 3) ?hd (cs := pcs p A1 c1 A2 c2 A3 c3) (t := 27) ?hr ?_; (case hd => rfl); (case hg => rfl); (case hr => first | (go_simp; done) | (go_simp; rfl)); intro g hg w1 hb1 hbl1; have gge := (show w.heap.size ≤ g by rw [hg]; exact Nat.le_refl _); clear hg; have GG := Aside0.mk hb1; have HB := Aside0.mk hbl1; clear hb1 hbl1)
  | ((with_reducible refine gate_dst (N := 20) rfl ?_); refine wpList_load_row rfl 27 (.tmp 3) rfl g rfl 27 _ (0, 0) _ GG.out Tryz.underlying27 rfl info_prod ?_)
  | (go_at_call 15; (with_reducible refine (DA.out _ HB.out).mono ?_); rintro e w2 ⟨gl, cl, tl, rfl, gle, lc, hbk, hb⟩; have BL := Aside0.mk hbk; have glge := Nat.le_trans HB.out.size gle; have HB := Aside0.mk (below_step HB.out hb); have GG := Aside0.mk (Pd.blk_below GG.out hb); clear hb hbk)
  | ((with_reducible refine gate_dst (N := 35) rfl ?_); refine wpList_load_row rfl 27 (.tmp 3) rfl g rfl 27 _ (0, 0) _ GG.out Tryz.underlying27 rfl info_prod ?_)
  | (go_at_call 16; (with_reducible refine (PA.out _ HB.out).mono ?_); rintro e w3 ⟨gx, cx, tx, rfl, gxe, xc, hbk, hb⟩; have BX := Aside0.mk hbk; have gxge := Nat.le_trans HB.out.size gxe; have BL := Aside0.mk (Blk.below BL.out hb); have HB := Aside0.mk (below_step HB.out hb); have GG := Aside0.mk (Pd.blk_below GG.out hb); clear hb hbk)
  | ((with_reducible refine gate_dst (N := 40) rfl ?_); refine wpList_load_row rfl 27 (.tmp 3) rfl g rfl 27 _ (0, 0) _ GG.out Tryz.underlying27 rfl info_prod ?_)
  | ((with_reducible refine gate_dst (N := 43) rfl ?_); refine build_event rfl (t := 56) rfl (cs := mcs p A1 c1 A2 c2 A3 c3 m 0 m (.pointer none)) ?hb ?_; (case hb => simp only [List.map_toArray, List.map_cons, List.map_nil]; exact built_maker p A1 c1 A2 c2 A3 c3 m))
  | ((with_reducible refine gate_dst (N := 44) rfl ?_); refine box_event ?hg (N := 44) ?hd (cs := mcs p A1 c1 A2 c2 A3 c3 m 0 m (.pointer none)) (t := 56) ?hr ?_; (case hd => rfl); (case hg => rfl); (case hr => first | (go_simp; done) | (go_simp; rfl)); intro gm hgm w4 hb1 hb; have gmge := (show w.heap.size ≤ gm by rw [hgm]; exact HB.out.size); have gmx := (show gx ≠ gm by have := Blk.lt BX.out; omega); have gml := (show gl ≠ gm by have := Blk.lt BL.out; omega); have gmg := (show g ≠ gm by have := blk_lt GG.out; omega); clear hgm; have GM := Aside0.mk hb1; have BL := Aside0.mk (Blk.below BL.out hb); have BX := Aside0.mk (Blk.below BX.out hb); have HB := Aside0.mk (below_step HB.out hb); have GG := Aside0.mk (Pd.blk_below GG.out hb); clear hb1 hb; have v20 := (show w4.cell? ⟨gm, 20, none⟩ = some (.int .i64 0) from (blk_cell GM.out 20).trans rfl); have f20 := frozen_of_row w4 gm 20 _ _ GM.out; have v22 := (show w4.cell? ⟨gm, 22, none⟩ = some (.pointer none) from (blk_cell GM.out 22).trans rfl); have f22 := frozen_of_row w4 gm 22 _ _ GM.out; obtain ⟨-, u1, u2, u3, -⟩ := pc_cells GG.out)
  | ((with_reducible refine gate_dst (N := 50) rfl ?_); refine wpList_load_row rfl 27 (.tmp 3) rfl g rfl 27 _ (0, 0) _ GG.out Tryz.underlying27 rfl info_prod ?_)
  | (go_at_call 17; (with_reducible refine (OF.out _ _ _ HB.out (Blk.readsL BX.out (by have := HYL.out; omega))).mono ?_); rintro e w5 ⟨rfl, hb⟩; have BL := Aside0.mk (Blk.below BL.out hb); have BX := Aside0.mk (Blk.below BX.out hb); have GM := Aside0.mk (Pd.blk_below GM.out hb); have HB := Aside0.mk (below_step HB.out hb); have GG := Aside0.mk (Pd.blk_below GG.out hb); clear hb v20 f20 v22 f22 u1 u2 u3; have v20 := (show w5.cell? ⟨gm, 20, none⟩ = some (.int .i64 0) from (blk_cell GM.out 20).trans rfl); have f20 := frozen_of_row w5 gm 20 _ _ GM.out)
  | ((with_reducible refine gate_store (t := 2) (p := 57) rfl ?_); refine put_event rfl (t := 2) (p := 57) (v := .tmp 54) rfl rfl (g := gm) (i := 20) (cs := mcs p A1 c1 A2 c2 A3 c3 m 0 m (.pointer none)) (cs' := mcs p A1 c1 A2 c2 A3 c3 m ov m (.pointer none)) (x := .int .i64 ov) ?hr GM.out ?hc ?_; (case hc => rfl); (case hr => go_simp); intro w6 hb8 hbut; have GM := Aside0.mk hb8; have BL := Aside0.mk (Blk.but BL.out hbut gml); have BX := Aside0.mk (Blk.but BX.out hbut gmx); have GG := Aside0.mk ((hbut.block g (blk_lt GG.out) gmg).trans GG.out); have HB := Aside0.mk (But.below HB.out HB.out.size gmge hbut); clear hb8 hbut; have v22 := (show w6.cell? ⟨gm, 22, none⟩ = some (.pointer none) from (blk_cell GM.out 22).trans rfl); have f22 := frozen_of_row w6 gm 22 _ _ GM.out; obtain ⟨-, u1, u2, u3, -⟩ := pc_cells GG.out))
 go_ret2
 exact ⟨none, 0, rfl, Kd.R_nil _ _ _ _ _, HB.out⟩
theorem sched_any (p : Prod) (A1 : Option Addr) (c1 : Nat) (A2 : Option Addr) (c2 : Nat) (A3 : Option Addr) (c3 : Nat) (start m : Int) (w : World) (hg : GV w) (hp : ProdAt w p A1 c1 A2 c2 A3 c3) (hs : Small p) : Calls Tryz.prog 7 #[pv p A1 c1 A2 c2 A3 c3, .int .i64 start, .int .i64 m] w (Sched (schedP p start m) w) := by
 by_cases h1 : (daysP p start).2 = 0
 ·have hd : daysP p start = ((daysP p start).1, 0) := Prod.ext rfl h1
  have hpx : partsP p start = ((partsP p start).1, 0) := by unfold partsP; rw [if_pos h1]
  have hxl : (daysP p start).1.length ≤ 600 := by
   obtain ⟨_, _, _, hl, t1, t2, _⟩ := days_known hd
   omega
  have n1 : ¬ (daysP p start).2 ≠ 0 := by rw [h1]; decide
  by_cases h2 : 1 ≤ m ∧ m ≤ 10000000000000
  ·have n2 : ¬ ¬ (1 ≤ m ∧ m ≤ 10000000000000) := fun h => h h2
   by_cases h3 : p.kind = 1
   ·by_cases h4 : (ofE p (partsP p start).1 m).2 = 0
    ·have e : schedP p start m = linesP p start m (ofE p (partsP p start).1 m).1 := by
      unfold schedP
      rw [if_neg n1, if_neg n2, if_pos h3, if_neg (by rw [h4]; decide)]
     rw [e]
     exact sched_one p A1 c1 A2 c2 A3 c3 start m _ w hg hp hs _ _ hd hpx hxl h2.1 h2.2 ⟨h3, Prod.ext rfl h4⟩
    ·have e : schedP p start m = ([], (ofE p (partsP p start).1 m).2) := by
      unfold schedP
      rw [if_neg n1, if_neg n2, if_pos h3, if_pos h4]
     rw [e]
     exact sched_steep p A1 c1 A2 c2 A3 c3 start m w hg hp hs _ _ hd hpx h2.1 h2.2 h3 _ _ rfl h4
   ·have e : schedP p start m = linesP p start m 0 := by
     unfold schedP
     rw [if_neg n1, if_neg n2, if_neg h3]
    rw [e]
    exact sched_two p A1 c1 A2 c2 A3 c3 start m 0 w hg hp hs _ _ hd hpx hxl h2.1 h2.2 ⟨h3, rfl⟩
  ·have e : schedP p start m = ([], 16) := by unfold schedP; rw [if_neg n1, if_pos h2]
   rw [e]
   exact sched_amt p A1 c1 A2 c2 A3 c3 start m w hg hp hs _ hd (by omega)
 ·have e : schedP p start m = ([], (daysP p start).2) := by unfold schedP; rw [if_pos h1]
  rw [e]
  exact sched_days p A1 c1 A2 c2 A3 c3 start m w hg hp hs _ rfl h1
end Go.Proofs.YtfmkdledofbhdaaGreat.Sc
/- Schedule: lines by their cells; the law's awake. -/
namespace Go.Proofs.YtfmkdledofbhdaaGreat.Sc
open Go.RowKit Go.Proofs.YtfmkdledofbhdaaGreatW.PrintWords Go.Proofs.YtfmkdledofbhdaaGreatW.PrintLast Go.Proofs.YtfmkdledofbhdaaGreatW.PrintMore Go.Proofs.YtfmkdledofbhdaaGreat.HW
open Go.Proofs.YtfmkdledofbhdaaGreat.Math Go.Proofs.YtfmkdledofbhdaaGreat.H Go.Proofs.YtfmkdledofbhdaaGreat.Pd Go.Proofs.YtfmkdledofbhdaaGreat.Du Go.Proofs.YtfmkdledofbhdaaGreat.Lv Pm
set_option linter.unusedVariables false
set_option linter.unusedSimpArgs false
attribute [local go_sem] max2_int min2_int max_two min_two
theorem line_K {w : World} {x : Ln} {cs : List Value} (h : (Kd.pair (Kd.int .i64) (Kd.pair (Kd.int .i64) (Kd.pair (Kd.int .i64) (Kd.int .i64)))).K w x cs) : cs = [.int .i64 x.1, .int .i64 x.2.1, .int .i64 x.2.2.1, .int .i64 x.2.2.2] := by
 obtain ⟨c0, c1, rfl, h0, d0, d1, rfl, h1, e0, e1, rfl, h2, h3⟩ := h
 obtain rfl : c0 = [.int .i64 x.1] := h0
 obtain rfl : d0 = [.int .i64 x.2.1] := h1
 obtain rfl : e0 = [.int .i64 x.2.2.1] := h2
 obtain rfl : e1 = [.int .i64 x.2.2.2] := h3
 rfl
theorem lines_cells {w : World} {g n : Nat} {ls : List Ln} (h : (Kd.pair (Kd.int .i64) (Kd.pair (Kd.int .i64) (Kd.pair (Kd.int .i64) (Kd.int .i64)))).C w (some ⟨g, 0, none⟩) n ls) (hn : n = ls.length) {i : Nat} {x : Ln} (hi : ls[i]? = some x) :
  w.cell? ⟨g, i * 4, none⟩ = some (.int .i64 x.1) ∧ w.cell? ⟨g, i * 4 + 1, none⟩ = some (.int .i64 x.2.1) ∧ w.cell? ⟨g, i * 4 + 2, none⟩ = some (.int .i64 x.2.2.1) ∧ w.cell? ⟨g, i * 4 + 3, none⟩ = some (.int .i64 x.2.2.2) := by
 have hlt : i < ls.length := (List.getElem?_eq_some_iff.1 hi).1
 obtain ⟨_, _, h3⟩ := h
 obtain ⟨ad, e, hc⟩ := h3 (by omega)
 cases e
 obtain ⟨cs, hl, hK, hcell⟩ := hc i x hi
 obtain rfl := line_K hK
 have a0 := hcell 0 _ rfl
 have a1 := hcell 1 _ rfl
 have a2 := hcell 2 _ rfl
 have a3 := hcell 3 _ rfl
 have hs : (Kd.pair (Kd.int .i64) (Kd.pair (Kd.int .i64) (Kd.pair (Kd.int .i64) (Kd.int .i64)))).sz = 4 := rfl
 simp only [hs, Addr.add_mid, Nat.zero_add, Nat.add_zero] at a0 a1 a2 a3
 exact ⟨a0, a1, a2, a3⟩
abbrev awP : Prod := { plainP with kind := 3, rate := 0, times := 2 }
theorem aw_sched : schedP awP 19723 100 = ([(19754, 0, 0, 100), (19783, 100, 0, 0)], 0) := by decide +kernel
theorem sched_awake (w : World) (hg : GV w) : Calls Tryz.prog 5 #[] w fun e w' => e = .returned (.bool true) ∧ Below w.heap.size w w' := by
 have OF := Aside0.mk (fun (W : World) (hb : Below w.heap.size w W) => show Calls Tryz.prog 7 #[pv awP none 0 none 0 none 0, .int .i64 19723, .int .i64 100] W (Sched ([(19754, 0, 0, 100), (19783, 100, 0, 0)], 0) W) from by have := sched_any awP none 0 none 0 none 0 19723 100 W (hg.below hb) (nilAt rfl rfl rfl) ⟨by decide, by decide, by decide, by decide⟩; rw [aw_sched] at this; exact this)
 clear hg
 go_enter Tryz.func5, Tryz.ntmps5
 go_wp2_with (first
  | (go_at_call 13; (with_reducible refine (plain_any _).mono ?_); rintro e w0 ⟨rfl, hb⟩; have HB := Aside0.mk hb; clear hb)
  | ((with_reducible refine gate_dst (N := 1) rfl ?_); refine copy_event rfl (N := 1) rfl rfl rfl (t := 27) (v := .tmp 4) rfl (cs := pcs plainP none 0 none 0 none 0) (zs := pzs) ?hr rfl rfl info_prod ?hz (pcs_one _ _ _ _ _ _ _) ?_; (case hr => first | (go_simp; done) | (go_simp; rfl)); (case hz => rfl); intro g hg w1 hb1 hbl1; have gge := (show w.heap.size ≤ g by rw [hg]; exact HB.out.size); have HB := Aside0.mk (below_step HB.out hbl1); have GG := Aside0.mk hb1; clear hg hb1 hbl1; have u3 : w1.cell? ⟨g, 3, none⟩ = some (.int .i64 _) := (blk_cell GG.out 3).trans rfl; have f3 := frozen_of_row w1 g 3 _ _ GG.out)
  | ((with_reducible refine gate_store (t := 3) (p := 5) rfl ?_); refine put_event rfl (t := 3) (p := 5) (v := (.const (.int .i64 3))) rfl rfl (g := g) (i := 3) (cs := pcs plainP none 0 none 0 none 0) (cs' := pcs { plainP with kind := 3 } none 0 none 0 none 0) (x := .int .i64 3) ?hr GG.out ?hc ?_; (case hc => rfl); (case hr => go_simp); intro w2 hb8 hbut; have GG := Aside0.mk hb8; have HB := Aside0.mk (But.below HB.out HB.out.size gge hbut); clear hbut; clear hb8; have u7 : w2.cell? ⟨g, 7, none⟩ = some (.int .i64 _) := (blk_cell GG.out 7).trans rfl; have f7 := frozen_of_row w2 g 7 _ _ GG.out)
  | ((with_reducible refine gate_store (t := 2) (p := 6) rfl ?_); refine put_event rfl (t := 2) (p := 6) (v := (.const (.int .i64 0))) rfl rfl (g := g) (i := 7) (cs := pcs { plainP with kind := 3 } none 0 none 0 none 0) (cs' := pcs { plainP with kind := 3, rate := 0 } none 0 none 0 none 0) (x := .int .i64 0) ?hr GG.out ?hc ?_; (case hc => rfl); (case hr => go_simp); intro w3 hb8 hbut; have GG := Aside0.mk hb8; have HB := Aside0.mk (But.below HB.out HB.out.size gge hbut); clear hbut; clear hb8; have u5 : w3.cell? ⟨g, 5, none⟩ = some (.int .i64 _) := (blk_cell GG.out 5).trans rfl; have f5 := frozen_of_row w3 g 5 _ _ GG.out)
  | ((with_reducible refine gate_store (t := 3) (p := 7) rfl ?_); refine put_event rfl (t := 3) (p := 7) (v := (.const (.int .i64 2))) rfl rfl (g := g) (i := 5) (cs := pcs { plainP with kind := 3, rate := 0 } none 0 none 0 none 0) (cs' := pcs { plainP with kind := 3, rate := 0, times := 2 } none 0 none 0 none 0) (x := .int .i64 2) ?hr GG.out ?hc ?_; (case hc => rfl); (case hr => go_simp); intro w4 hb8 hbut; have GG := Aside0.mk hb8; have HB := Aside0.mk (But.below HB.out HB.out.size gge hbut); clear hbut; clear hb8; skip)
  | ((with_reducible refine gate_dst (N := 9) rfl ?_); refine wpList_load_row rfl 27 (.tmp 1) rfl g rfl 27 _ (0, 0) _ GG.out Tryz.underlying27 rfl info_prod ?_)
  | (go_at_call 7; (with_reducible refine (OF.out _ HB.out).mono ?_); rintro e w5 ⟨A, c, rfl, hR, hb⟩; have HB := Aside0.mk (below_step HB.out hb); obtain ⟨gn, cn, e1, _⟩ := Kd.R_form hR (by decide); injection e1 with e1 _ e3; subst e1 e3; obtain ⟨_, hc2, hC⟩ := Kd.R_reads' hR; obtain ⟨x0, x1, x2, x3⟩ := lines_cells hC rfl (i := 0) rfl; obtain ⟨y0, y1, y2, y3⟩ := lines_cells hC rfl (i := 1) rfl; clear hb hR hC))
 go_ret
 exact ⟨rfl, HB.out⟩
end Go.Proofs.YtfmkdledofbhdaaGreat.Sc
