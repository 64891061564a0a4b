/- Contracts by hand: the document's digits: so many times, so many more. -/
import Derived.Test.YtliapjhjofmliaaPRBx1
import Derived.Test.YtliapjhjofmliaaDg
import Derived.Test.YtliapjhjofmliaaL3
import Derived.OwnWalk
import Derived.Laws.OwnMore
import Derived.Maps.AppendAt
namespace Go.Proofs.Ytliapjhjofmliaa.H
open Go.RowKit Go.Proofs.YtliapjhjofmliaaW.PrintWords Go.Proofs.YtliapjhjofmliaaW.PrintLast Go.Proofs.YtliapjhjofmliaaW.PrintMore Go.Proofs.Ytliapjhjofmliaa.HW
set_option linter.unusedVariables false
set_option linter.unusedSimpArgs false
theorem w64' {x : Int} (h1 : -9223372036854775808 ≤ x) (h2 : x ≤ 9223372036854775807) : wrap64 x = x := by unfold wrap64; omega
theorem rd_nat' (l : List Int) (k : Nat) (h : k < l.length) : rd l (k : Int) = l[k] := by simp [rd, h]
/-- Digits that a call answers. -/
def Digits (w : World) (r : List Int) (e : Ending) (w' : World) : Prop := ∃ A c, e = .returned (.slice A r.length c) ∧ Kd.C (Kd.int .i64) w' A r.length r ∧ r.length ≤ c ∧ (A = none → c = 0) ∧ Below w.heap.size w w'
theorem digits_of_own {w w1 : World} {v : Value} {r : List Int} (h : w1.ownsRow w.heap.size 2 1 v r.length (nums .i64 r)) (hb : Below w.heap.size w w1) : ∃ A c, v = .slice A r.length c ∧ Kd.C (Kd.int .i64) w1 A r.length r ∧ r.length ≤ c ∧ (A = none → c = 0) := by
  have h' : w1.ownsRow w.heap.size 2 1 v r.length (encs (Value.int .i64) r) := h
  obtain ⟨A, c, rfl, hle, hr⟩ := own_reads_of_le (d := (0 : Int)) h'
  refine ⟨A, c, rfl, Kd.C_of_reads hr, hle, fun hA => ?_⟩
  subst hA
  rcases h.2 with ⟨e, _⟩ | ⟨g, cap, cur, e, _⟩
  · injection e
  · injection e with e1 e2
    cases e1
theorem times_l1 (k : Nat) (acc : List Int) (c : Int) (c0 : 0 ≤ c) (c1 : c < 1000000000) (ha : acc.length ≤ 1000000) : PRB.quittanceref12_times.l1 (k + 2) acc c = some (acc ++ (if 0 < c then [c] else [])) := by
  simp only [PRB.quittanceref12_times.l1]
  by_cases h : 0 < c
  · rw [if_pos h, if_pos (by omega), if_pos h, Int.tmod_eq_emod_of_nonneg c0, Int.emod_eq_of_lt c0 c1, Int.tdiv_eq_ediv_of_nonneg c0, Int.ediv_eq_zero_of_lt c0 c1, w64' (by omega) (by omega), if_neg (by decide)]
  · rw [if_neg h, if_neg h, List.append_nil]
theorem times_l0 (l : List Int) (hd : Dg.Dig l) (hl : l.length ≤ 100000) (n : Int) (n0 : 0 ≤ n) (n1 : n ≤ 1000000000) (d : Nat) : ∀ (k i : Nat) (acc : List Int) (c : Int), l.length - i = d → i ≤ l.length → d + 2 < k → acc.length ≤ 100000 + i → 0 ≤ c → c < 1000000000 →
    PRB.quittanceref12_times.l0 k l n acc c (i : Int) = some (acc ++ Dg.tms n c (l.drop i)) := by
  induction d with
  | zero =>
    intro k i acc c h1 h2 h3 h4 c0 c1
    obtain ⟨k, rfl⟩ : ∃ m, k = m + 1 := ⟨k - 1, by omega⟩
    simp only [PRB.quittanceref12_times.l0]
    rw [if_neg (by omega), List.drop_eq_nil_of_le (by omega)]
    obtain ⟨k, rfl⟩ : ∃ m, k = m + 2 := ⟨k - 2, by omega⟩
    exact times_l1 k acc c c0 c1 (by omega)
  | succ d ih =>
    intro k i acc c h1 h2 h3 h4 c0 c1
    obtain ⟨k, rfl⟩ : ∃ m, k = m + 1 := ⟨k - 1, by omega⟩
    have hi : i < l.length := by omega
    have hx := hd _ (List.getElem_mem hi)
    simp only [PRB.quittanceref12_times.l0]
    rw [if_pos (by omega), if_pos (by omega), if_pos (by omega), rd_nat' l i hi]
    obtain ⟨s1, s2, s3, s4, s5⟩ := Dg.step_bd hx.1 hx.2 n0 n1 c0 c1
    rw [w64' (x := l[i] * n) (by omega) (by omega), w64' (x := l[i] * n + c) (by omega) (by omega), Int.tmod_eq_emod_of_nonneg s3, Int.tdiv_eq_ediv_of_nonneg s3, w64' (x := (l[i] * n + c) / 1000000000) (by omega) (by omega), w64' (x := (i : Int) + 1) (by omega) (by omega), show (i : Int) + 1 = ((i + 1 : Nat) : Int) by omega]
    rw [ih k (i + 1) _ _ (by omega) (by omega) (by omega) (by simp; omega) (by omega) s5, List.drop_eq_getElem_cons hi]
    simp only [Dg.tms, List.append_assoc, List.cons_append, List.nil_append]
theorem times_any {A0 : Option Addr} {c0 : Nat} {l : List Int} {n : Int} {w : World} (hr0 : Kd.C (Kd.int .i64) w A0 l.length l) (hc0 : l.length ≤ c0) (hd : Dg.Dig l) (hl : l.length ≤ 1000) (n0 : 0 ≤ n) (n1 : n ≤ 1000000000) :
    Calls Try.prog 48 #[.slice A0 l.length c0, .int .i64 n] w (Digits w (Dg.tms n 0 l)) := by
  refine (PRB.quittanceref12_times.calls 2000 A0 c0 l n (Dg.tms n 0 l) w hr0 hc0 ?_).mono ?_
  · have := times_l0 l hd (by omega) n n0 n1 l.length 2000 0 [] 0 (by omega) (by omega) (by omega) (by simp) (by omega) (by omega)
    simpa [PRB.quittanceref12_times.f] using this
  · rintro e w' ⟨v, rfl, hR, hb⟩
    have ho : w'.ownsRow w.heap.size 2 1 v (Dg.tms n 0 l).length (nums .i64 (Dg.tms n 0 l)) := Kd.own_of_R hR
    obtain ⟨A, c, rfl, h1, h2, h3⟩ := digits_of_own ho hb
    exact ⟨A, c, rfl, h1, h2, h3, hb⟩
theorem info_i64 : (Try.prog.info? 2).map (fun i => (i.zero, i.size, i.bytes)) = some (some (.int .i64 0), 1, 8) := by kernel_rfl
theorem nums_get' (l : List Int) (j : Nat) (u : Value) (h : (nums .i64 l)[j]? = some u) : j < l.length ∧ u = .int .i64 (rd l (j : Int)) := by
  have hj : j < l.length := by
    rcases Nat.lt_or_ge j l.length with h' | h'
    · exact h'
    · rw [List.getElem?_eq_none (by rw [nums_length]; exact h')] at h; cases h
  refine ⟨hj, ?_⟩
  rw [rd_nat' l j hj]
  simp [nums, hj] at h
  exact h.symm
theorem news_of' {w w1 : World} {ad : Addr} {l : List Int} (hr : Kd.C (Kd.int .i64) w (some ad) l.length l) (hb : Below w.heap.size w w1) : ∀ j u, (nums .i64 l)[j]? = some u → w1.cell? (ad.add j) = some u := by
  intro j u hu
  obtain ⟨hj, rfl⟩ := nums_get' l j u hu
  obtain ⟨ad', e', hc⟩ := Kd.at_int (Kd.C_below hr hb) (j : Int) (by omega) (by omega)
  obtain rfl := Option.some.inj e'
  rw [Int.toNat_natCast] at hc
  exact hc
theorem all_one (l : List Int) : ∀ u ∈ nums .i64 l, u.oneCell' = true := by
  intro u hu
  simp [nums] at hu
  obtain ⟨a, _, rfl⟩ := hu
  rfl
theorem new_one' (w : World) (x : Int) (e : TypeId) : ∀ j u, [Value.int .i64 x][j]? = some u → (w.alloc (.cells #[.int .i64 x] e)).cell? ((⟨w.heap.size, 0, none⟩ : Addr).add j) = some u := by
  intro j u hu
  have hj : j < 1 := by
    rcases Nat.lt_or_ge j 1 with h | h
    · exact h
    · rw [List.getElem?_eq_none (by simpa using h)] at hu; cases hu
  obtain rfl : j = 0 := by omega
  simp at hu
  subst hu
  simp [go_sem, Addr.add]
theorem own_form' {w : World} {base n : Nat} {e : TypeId} {v : Value} {xs : List Value} (h : w.ownsRow base e 1 v n xs) (hn : 0 < n) : ∃ g cap, v = .slice (some ⟨g, 0, none⟩) n cap ∧ base ≤ g ∧ n ≤ cap := by
  rcases h.2 with ⟨_, e0⟩ | ⟨g, cap, cur, e', hb, _, h1, _⟩
  · omega
  · exact ⟨g, cap, e', hb, h1⟩
/-- In the middle of it: some digits are done. -/
structure Mid (w W : World) (v : Value) (done todo : List Int) (k : Nat) : Prop where
  len : done.length = k
  own : W.ownsRow w.heap.size 2 1 v (done ++ todo).length (nums .i64 (done ++ todo))
  below : Below w.heap.size w W
theorem Mid.slice {w W : World} {v : Value} {done todo : List Int} {k : Nat} (h : Mid w W v done todo k) : ∃ A c, v = .slice A (done ++ todo).length c ∧ (done ++ todo).length ≤ c ∧ (A = none → c = 0) := by
  obtain ⟨A, c, h1, _, h3, h4⟩ := digits_of_own h.own h.below
  exact ⟨A, c, h1, h3, h4⟩
theorem Mid.set {w W : World} {g cap : Nat} {done todo : List Int} {d x : Int} {k : Nat} (h : Mid w W (.slice (some ⟨g, 0, none⟩) (done ++ d :: todo).length cap) done (d :: todo) k) (hg : w.heap.size ≤ g) : Mid w (W.setCell ⟨g, k, none⟩ (.int .i64 x)) (.slice (some ⟨g, 0, none⟩) (done ++ d :: todo).length cap) (done ++ [x]) todo (k + 1) := by
  have hl := h.len
  refine ⟨by simp [hl], ?_, h.below.setCell (by exact hg) _⟩
  have h1 := (World.ownsRow.stored h.own k (.int .i64 x)).1
  have e : (nums .i64 (done ++ d :: todo)).set k (.int .i64 x) = nums .i64 ((done ++ [x]) ++ todo) := by
    simp only [nums, List.map_append, List.map_cons, List.append_assoc, List.cons_append, List.nil_append]
    rw [List.set_append_right _ _ (by simp [hl])]
    simp [hl]
  rw [e] at h1
  have e2 : ((done ++ [x]) ++ todo).length = (done ++ d :: todo).length := by simp
  rw [e2]
  exact h1
theorem Mid.cell {w W : World} {g cap : Nat} {done todo : List Int} {d : Int} {k : Nat} (h : Mid w W (.slice (some ⟨g, 0, none⟩) (done ++ d :: todo).length cap) done (d :: todo) k) : W.cell? ⟨g, k, none⟩ = some (.int .i64 d) ∧ W.frozen? ⟨g, k, none⟩ = false := by
  refine ⟨?_, World.ownsRow.frozenAt h.own k⟩
  rw [World.ownsRow.cellAt h.own k (by have := h.len; simp; omega)]
  simp [nums, List.getElem?_append_right, h.len]
theorem Mid.more {w W w1 : World} {v v' : Value} {done : List Int} {k : Nat} (h : Mid w W v done [] k) (hown : w1.ownsRow w.heap.size 2 1 v' ((done ++ []).length + 1) (nums .i64 (done ++ []) ++ [.int .i64 0])) (hg : (W.alloc (.cells #[.int .i64 0] 2)).grownBy w1 v.ownBlock) : Mid w w1 v' done [0] k :=
  ⟨h.len, by simpa [nums] using hown, (h.below.alloc h.below.size _).grown hg (by have := h.below.size; simp; omega) (own_base h.own)⟩
def dgs (x : Int) : Nat := if x ≤ 0 then 0 else if x < 1000000000 then 1 else 2
theorem pls_nil {x : Int} (h : 0 < x) (h1 : x ≤ 1000000000000000) : Dg.pls x [] = x % 1000000000 :: Dg.pls (x / 1000000000) [] ∧ dgs (x / 1000000000) + 1 ≤ dgs x := by
  refine ⟨?_, ?_⟩
  · simp only [Dg.pls]
    rw [if_pos h]
    by_cases h2 : 0 < x / 1000000000
    · rw [if_pos h2, if_pos h2, if_neg (show ¬ 0 < x / 1000000000 / 1000000000 by omega), Int.emod_eq_of_lt (a := x / 1000000000) (b := 1000000000) (by omega) (by omega)]
    · rw [if_neg h2, if_neg h2]
  · unfold dgs
    rw [if_neg (show ¬ x ≤ 0 by omega)]
    by_cases h2 : x < 1000000000
    · rw [if_pos h2, if_pos (show x / 1000000000 ≤ 0 by omega)]; decide
    · rw [if_neg h2, if_neg (show ¬ x / 1000000000 ≤ 0 by omega), if_pos (by omega)]; decide
theorem dgs_cons {x d : Int} (h : 0 < x) (h1 : x ≤ 1000000000000000) (d0 : 0 ≤ d) (d1 : d < 1000000000) : dgs ((x + d) / 1000000000) ≤ dgs x ∧ 1 ≤ dgs x := by
  unfold dgs
  rw [if_neg (show ¬ x ≤ 0 by omega)]
  by_cases h2 : x < 1000000000
  · rw [if_pos h2]
    by_cases h3 : (x + d) / 1000000000 ≤ 0
    · rw [if_pos h3]; decide
    · rw [if_neg h3, if_pos (by omega)]; decide
  · rw [if_neg h2]
    by_cases h3 : (x + d) / 1000000000 ≤ 0
    · rw [if_pos h3]; decide
    · rw [if_neg h3]; split <;> decide
set_option maxHeartbeats 2000000 in
set_option maxRecDepth 100000 in
theorem plus_any {A0 : Option Addr} {c0 : Nat} {l : List Int} {v : Int} {w : World} (hr0 : Kd.C (Kd.int .i64) w A0 l.length l) (hc0 : l.length ≤ c0) (hn0 : A0 = none → c0 = 0) (hd : Dg.Dig l) (hl : l.length ≤ 1000) (v0 : 0 ≤ v) (v1 : v ≤ 1000000000000000) :
    Calls Try.prog 49 #[.slice A0 l.length c0, .int .i64 v] w (Digits w (Dg.pls v l)) := by
  have HD := Aside0.mk hd
  obtain ⟨i0, hi, hz0, hz1, hz2⟩ := info_parts info_i64
  obtain ⟨r, hr⟩ : ∃ r, Dg.pls v l = r := ⟨_, rfl⟩
  have HR := Aside0.mk hr
  rw [hr]
  clear hr hd
  cases A0 with
  | none =>
    obtain rfl := hn0 rfl
    obtain rfl : l = [] := List.eq_nil_of_length_eq_zero (by omega)
    have M0 := Aside0.mk (show Mid w w (.slice none 0 0) [] [] 0 from ⟨rfl, ⟨rfl, Or.inl ⟨rfl, rfl⟩⟩, Below.refl _ _⟩)
    clear hr0 hn0
    go_enter Try.func49, Try.ntmps49
    go_wp2_with fail
    go_loopg [1, 5, 6] 3 (fun gq vv sv iv w' => ∃ (done todo : List Int) (x : Int) (k : Nat), vv = .int .i64 x ∧ iv = .int .i64 (k : Int) ∧ 0 ≤ x ∧ x ≤ 1000000000000000 ∧ k + gq ≤ 1010 ∧ Aside0 (todo.length + dgs x ≤ gq) ∧ Aside0 (Dg.Dig todo) ∧ Aside0 (Mid w w' sv done todo k) ∧ Aside0 (done ++ Dg.pls x todo = r))
    case atStart => exact ⟨[], [], v, 0, rfl, rfl, v0, v1, by omega, ⟨by have : dgs v ≤ 2 := (by unfold dgs; split; decide; split <;> decide); simp; omega⟩, HD, M0, ⟨HR.out⟩⟩
    case round =>
      obtain ⟨done, todo, x, k, rfl, rfl, x0, x1, hk, hg, hD, hM, hq⟩ := hrel
      obtain ⟨A, c, rfl, hle, hA⟩ := hM.out.slice
      have HA := Aside0.mk hA
      clear hA
      by_cases hx : 0 < x
      · cases todo with
        | nil =>
          obtain ⟨p1, p2⟩ := pls_nil hx x1
          have HQ := Aside0.mk (show (done ++ [x % 1000000000]) ++ Dg.pls (x / 1000000000) [] = r by rw [← hq.out, p1]; simp)
          have HG := Aside0.mk p2
          clear p1 p2 hq
          have hlen : (done ++ []).length = k := by have := hM.out.len; simp; exact this
          rw [hlen] at hle ⊢
          have M1 := Aside0.mk (show Mid w wr (.slice A k c) done [] k by have := hM.out; rw [hlen] at this; exact this)
          have HO := Aside0.mk (show wr.ownsRow w.heap.size 2 1 (.slice A k c) k (nums .i64 (done ++ [])) by have := M1.out.own; rw [hlen] at this; exact this)
          have HLEN := Aside0.mk hlen
          clear hM hlen
          go_wp2_with ((at_builtin; refine wpList_append_own _ rfl _ _ 42 rfl w.heap.size 2 i0 (.int .i64 0) 1 8 Try.underlying42 hi hz0 hz1 hz2 rfl (by decide) _ _ _ rfl (HO.out.alloc _) ⟨wr.heap.size, 0, none⟩ 1 1 [.int .i64 0] rfl rfl (new_one' wr 0 2) (all_one [0]) (by unfold maxLen; omega) (by omega) (by have := M1.out.below.size; simp; omega) ?_); intro v' w1 hown1 hgrow _; have M2 := Mid.more (v := .slice A k c) M1.out (by rw [HLEN.out]; exact hown1) hgrow; obtain ⟨g, cap, rfl, hgb, hcap⟩ := own_form' M2.own (by simp); have hN : (done ++ [(0 : Int)]).length = k + 1 := (by have := M1.out.len; simp; exact this); obtain ⟨hc1, hc2⟩ := M2.cell; have M3 := Aside0.mk (M2.set (x := x % 1000000000) hgb); clear hown1 hgrow M2 M1 HO; rw [hN]; obtain ⟨N, hN1⟩ : ∃ N, k + 1 = N := ⟨_, rfl⟩; rw [hN1]; have hkN : k < N := (by omega); have HN2 := Aside0.mk (hN.trans hN1); clear hN hN1)
          go_roundg (gk - 1)
          case measure => have := hg.out; have := HG.out; omega
          case rel => exact ⟨done ++ [x % 1000000000], [], x / 1000000000, k + 1, rfl, by simp, by omega, by omega, by have := hg.out; have := HG.out; omega, ⟨by have := hg.out; have := HG.out; simp at *; omega⟩, ⟨Dg.Dig.nil⟩, ⟨by have := M3.out; rw [HN2.out] at this; exact this⟩, HQ⟩
        | cons d ds =>
          obtain ⟨d0, d1⟩ := hD.out.head
          obtain ⟨p1, p2⟩ := dgs_cons hx x1 d0 d1
          have HQ := Aside0.mk (show (done ++ [(x + d) % 1000000000]) ++ Dg.pls ((x + d) / 1000000000) ds = r by rw [← hq.out]; simp only [Dg.pls]; rw [if_pos hx]; simp)
          have HG := Aside0.mk (And.intro p1 p2)
          clear p1 p2 hq
          obtain ⟨g, cap, e, hgb, hcap⟩ := own_form' hM.out.own (by simp; omega)
          injection e with e1 e2 e3
          subst e1 e3
          obtain ⟨hc1, hc2⟩ := hM.out.cell
          have M3 := Aside0.mk (hM.out.set (x := (x + d) % 1000000000) hgb)
          obtain ⟨N, hN⟩ : ∃ N, (done ++ d :: ds).length = N := ⟨_, rfl⟩
          have hkN : k < N := by rw [← hN]; have := hM.out.len; simp; omega
          rw [hN]
          have HN2 := Aside0.mk hN
          have hkne : ¬ k = N := by omega
          clear hN hM
          go_wp2_with fail
          go_roundg (gk - 1)
          case measure => have := hg.out; simp at this; omega
          case rel => exact ⟨done ++ [(x + d) % 1000000000], ds, (x + d) / 1000000000, k + 1, rfl, by simp, by omega, by omega, by have := hg.out; simp at this; omega, ⟨by have := hg.out; have := HG.out; simp at *; omega⟩, ⟨hD.out.tail⟩, ⟨by have := M3.out; rw [HN2.out] at this; exact this⟩, HQ⟩
      · obtain rfl : x = 0 := by omega
        have HQ := Aside0.mk (show done ++ todo = r by rw [← hq.out, Dg.pls_zero])
        have HF := Aside0.mk (digits_of_own hM.out.own hM.out.below)
        have HBB := Aside0.mk hM.out.below
        obtain rfl := HQ.out
        obtain ⟨N, hN⟩ : ∃ N, (done ++ todo).length = N := ⟨_, rfl⟩
        rw [hN]
        have HN2 := Aside0.mk hN
        clear hq HQ hM hN
        go_wp2_with fail
        go_ret
        obtain ⟨A', c', e, h1, h2, h3⟩ := HF.out
        injection e with e1 e2 e3
        subst e1 e3
        exact ⟨_, _, by rw [HN2.out]; rfl, h1, h2, h3, HBB.out⟩
  | some ad =>
    have HN := Aside0.mk (news_of' hr0 (Below.refl w.heap.size w))
    have hnil : w.ownsRow w.heap.size 2 1 (.slice none 0 0) 0 [] := ⟨rfl, Or.inl ⟨rfl, rfl⟩⟩
    have HNL := Aside0.mk hnil
    clear hr0 hn0 hnil
    go_enter Try.func49, Try.ntmps49
    go_wp2_with ((at_builtin; refine wpList_append_own _ rfl _ _ 42 rfl w.heap.size 2 i0 (.int .i64 0) 1 8 Try.underlying42 hi hz0 hz1 hz2 rfl (by decide) _ 0 [] rfl HNL.out ad l.length c0 (nums .i64 l) rfl (by simp [nums]) HN.out (all_one l) (by unfold maxLen; omega) (by omega) (Nat.le_refl _) ?_); intro v' w1 hown1 hgrow _)
    have M0 := Aside0.mk (show Mid w w1 v' [] l 0 from ⟨rfl, by simpa [nums] using hown1, (Below.refl _ _).grown hgrow (Nat.le_refl _) (fun k hk => by cases hk)⟩)
    clear hown1 hgrow
    go_wp2_with fail
    go_loopg [1, 5, 6] (l.length + 3) (fun gq vv sv iv w' => ∃ (done todo : List Int) (x : Int) (k : Nat), vv = .int .i64 x ∧ iv = .int .i64 (k : Int) ∧ 0 ≤ x ∧ x ≤ 1000000000000000 ∧ k + gq ≤ 1010 ∧ Aside0 (todo.length + dgs x ≤ gq) ∧ Aside0 (Dg.Dig todo) ∧ Aside0 (Mid w w' sv done todo k) ∧ Aside0 (done ++ Dg.pls x todo = r))
    case atStart => exact ⟨[], l, v, 0, rfl, rfl, v0, v1, by omega, ⟨by have : dgs v ≤ 2 := (by unfold dgs; split; decide; split <;> decide); simp; omega⟩, HD, M0, ⟨HR.out⟩⟩
    case round =>
      obtain ⟨done, todo, x, k, rfl, rfl, x0, x1, hk, hg, hD, hM, hq⟩ := hrel
      obtain ⟨A, c, rfl, hle, hA⟩ := hM.out.slice
      have HA := Aside0.mk hA
      clear hA
      by_cases hx : 0 < x
      · cases todo with
        | nil =>
          obtain ⟨p1, p2⟩ := pls_nil hx x1
          have HQ := Aside0.mk (show (done ++ [x % 1000000000]) ++ Dg.pls (x / 1000000000) [] = r by rw [← hq.out, p1]; simp)
          have HG := Aside0.mk p2
          clear p1 p2 hq
          have hlen : (done ++ []).length = k := by have := hM.out.len; simp; exact this
          rw [hlen] at hle ⊢
          have M1 := Aside0.mk (show Mid w wr (.slice A k c) done [] k by have := hM.out; rw [hlen] at this; exact this)
          have HO := Aside0.mk (show wr.ownsRow w.heap.size 2 1 (.slice A k c) k (nums .i64 (done ++ [])) by have := M1.out.own; rw [hlen] at this; exact this)
          have HLEN := Aside0.mk hlen
          clear hM hlen
          go_wp2_with ((at_builtin; refine wpList_append_own _ rfl _ _ 42 rfl w.heap.size 2 i0 (.int .i64 0) 1 8 Try.underlying42 hi hz0 hz1 hz2 rfl (by decide) _ _ _ rfl (HO.out.alloc _) ⟨wr.heap.size, 0, none⟩ 1 1 [.int .i64 0] rfl rfl (new_one' wr 0 2) (all_one [0]) (by unfold maxLen; omega) (by omega) (by have := M1.out.below.size; simp; omega) ?_); intro v' w1 hown1 hgrow _; have M2 := Mid.more (v := .slice A k c) M1.out (by rw [HLEN.out]; exact hown1) hgrow; obtain ⟨g, cap, rfl, hgb, hcap⟩ := own_form' M2.own (by simp); have hN : (done ++ [(0 : Int)]).length = k + 1 := (by have := M1.out.len; simp; exact this); obtain ⟨hc1, hc2⟩ := M2.cell; have M3 := Aside0.mk (M2.set (x := x % 1000000000) hgb); clear hown1 hgrow M2 M1 HO; rw [hN]; obtain ⟨N, hN1⟩ : ∃ N, k + 1 = N := ⟨_, rfl⟩; rw [hN1]; have hkN : k < N := (by omega); have HN2 := Aside0.mk (hN.trans hN1); clear hN hN1)
          go_roundg (gk - 1)
          case measure => have := hg.out; have := HG.out; omega
          case rel => exact ⟨done ++ [x % 1000000000], [], x / 1000000000, k + 1, rfl, by simp, by omega, by omega, by have := hg.out; have := HG.out; omega, ⟨by have := hg.out; have := HG.out; simp at *; omega⟩, ⟨Dg.Dig.nil⟩, ⟨by have := M3.out; rw [HN2.out] at this; exact this⟩, HQ⟩
        | cons d ds =>
          obtain ⟨d0, d1⟩ := hD.out.head
          obtain ⟨p1, p2⟩ := dgs_cons hx x1 d0 d1
          have HQ := Aside0.mk (show (done ++ [(x + d) % 1000000000]) ++ Dg.pls ((x + d) / 1000000000) ds = r by rw [← hq.out]; simp only [Dg.pls]; rw [if_pos hx]; simp)
          have HG := Aside0.mk (And.intro p1 p2)
          clear p1 p2 hq
          obtain ⟨g, cap, e, hgb, hcap⟩ := own_form' hM.out.own (by simp; omega)
          injection e with e1 e2 e3
          subst e1 e3
          obtain ⟨hc1, hc2⟩ := hM.out.cell
          have M3 := Aside0.mk (hM.out.set (x := (x + d) % 1000000000) hgb)
          obtain ⟨N, hN⟩ : ∃ N, (done ++ d :: ds).length = N := ⟨_, rfl⟩
          have hkN : k < N := by rw [← hN]; have := hM.out.len; simp; omega
          rw [hN]
          have HN2 := Aside0.mk hN
          have hkne : ¬ k = N := by omega
          clear hN hM
          go_wp2_with fail
          go_roundg (gk - 1)
          case measure => have := hg.out; simp at this; omega
          case rel => exact ⟨done ++ [(x + d) % 1000000000], ds, (x + d) / 1000000000, k + 1, rfl, by simp, by omega, by omega, by have := hg.out; simp at this; omega, ⟨by have := hg.out; have := HG.out; simp at *; omega⟩, ⟨hD.out.tail⟩, ⟨by have := M3.out; rw [HN2.out] at this; exact this⟩, HQ⟩
      · obtain rfl : x = 0 := by omega
        have HQ := Aside0.mk (show done ++ todo = r by rw [← hq.out, Dg.pls_zero])
        have HF := Aside0.mk (digits_of_own hM.out.own hM.out.below)
        have HBB := Aside0.mk hM.out.below
        obtain rfl := HQ.out
        obtain ⟨N, hN⟩ : ∃ N, (done ++ todo).length = N := ⟨_, rfl⟩
        rw [hN]
        have HN2 := Aside0.mk hN
        clear hq HQ hM hN
        go_wp2_with fail
        go_ret
        obtain ⟨A', c', e, h1, h2, h3⟩ := HF.out
        injection e with e1 e2 e3
        subst e1 e3
        exact ⟨_, _, by rw [HN2.out]; rfl, h1, h2, h3, HBB.out⟩
end Go.Proofs.Ytliapjhjofmliaa.H
