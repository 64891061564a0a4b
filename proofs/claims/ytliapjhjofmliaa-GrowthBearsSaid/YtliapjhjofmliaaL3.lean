/- The law GrowthSplits, walked. -/
import Derived.Test.YtliapjhjofmliaaL2
namespace Go.Proofs.Ytliapjhjofmliaa.H
open Go.RowKit Go.Proofs.YtliapjhjofmliaaW.PrintWords Go.Proofs.YtliapjhjofmliaaW.PrintLast Go.Proofs.YtliapjhjofmliaaW.PrintMore Go.Proofs.Ytliapjhjofmliaa.HW
set_option linter.unusedVariables false
set_option linter.unusedSimpArgs false
theorem small_x {bal rate n W : Int} (b0 : 0 ≤ bal) (b1 : bal ≤ 10000000000000) (r0 : 0 ≤ rate) (r1 : rate ≤ 1000000000) (n0 : 0 ≤ n) (n1 : n ≤ 30000) (w0 : 360000000000 ≤ W) : 0 ≤ bal * rate * n ∧ bal * rate * n ≤ 1000000000000000 * W := by
  obtain ⟨h1, h2⟩ := Gm.mul3 b0 r0 n0 b1 r1 n1
  exact ⟨h1, by omega⟩
theorem bear_small {W h rest bal rate n : Int} (G : Good W h rest) (b0 : 0 ≤ bal) (b1 : bal ≤ 10000000000000) (r0 : 0 ≤ rate) (r1 : rate ≤ 1000000000) (n0 : 0 ≤ n) (n1 : n ≤ 30000) :
    Gm.bear W h rest bal rate n = (Gm.q W h rest (bal * rate * n), 0, Gm.r W h rest (bal * rate * n)) := by
  obtain ⟨h1, h2⟩ := small_x b0 b1 r0 r1 n0 n1 G.w0
  have := G.w0
  unfold Gm.bear
  rw [if_pos ⟨b0, by omega, r0, r1, n0, by omega⟩, if_pos (Gm.most (by omega) G.r1 h2)]
/-- One part more. -/
theorem split_step {W h rest bal rate n s all : Int} (G : Good W h rest) (b0 : 0 ≤ bal) (r0 : 0 ≤ rate) (n0 : 0 ≤ n) (e : rest = bal * rate * all - s * W) :
    Gm.r W h rest (bal * rate * n) = bal * rate * (all + n) - (s + Gm.q W h rest (bal * rate * n)) * W := by
  have := G.w0
  obtain ⟨_, _, _, h4⟩ := Gm.step (W := W) (h := h) (rest := rest) (x := bal * rate * n) (by omega) (Int.mul_nonneg (Int.mul_nonneg b0 r0) n0) G.r0
  rw [h4, e, Int.mul_add, Int.add_mul]; omega
theorem split_all {W h rest bal rate s all : Int} (G : Good W h rest) (e : rest = bal * rate * all - s * W) : Gm.q W h 0 (bal * rate * all) = s ∧ Gm.r W h 0 (bal * rate * all) = rest := by
  have := G.w0
  obtain ⟨h1, h2⟩ := Gm.uniq (W := W) (h := h) (x := bal * rate * all) (s := s) (by omega) (by have := G.r0; omega) (by have := G.r1; omega)
  exact ⟨h1, by omega⟩
/-- Two bearers in two blocks. -/
def Pair (w W : World) (ga gb : Nat) (Wh h ra rb : Int) : Prop := BearAt W ga Wh h ra ∧ BearAt W gb Wh h rb ∧ ga ≠ gb ∧ w.heap.size ≤ ga ∧ w.heap.size ≤ gb ∧ Below w.heap.size w W
set_option maxHeartbeats 2000000 in
set_option maxRecDepth 100000 in
theorem growthSplits_walk (a0 a1 a2 a3 : Int) (a4 : Option Addr) (c4 : Nat) (l : List Int) (w : World) (w0 : (Lit.int .i64 a0).wf = true) (w1 : (Lit.int .i64 a1).wf = true) (w2 : (Lit.int .i64 a2).wf = true) (w3 : (Lit.int .i64 a3).wf = true) (hr4 : Kd.C (Kd.int .i64) w a4 l.length l) (hc4 : l.length ≤ c4) (hn4 : a4 = none → c4 = 0) (hy : l.length * 8 ≤ 140737488351232) (hw4 : ∀ x ∈ l, (Lit.int .i64 x).wf = true) :
    Calls Try.prog 10 #[.int .i64 a0, .int .i64 a1, .int .i64 a2, .int .i64 a3, .slice a4 l.length c4] w fun e w' => e = .returned (.bool true) ∧ Below w.heap.size w w' := by
  have HR4 := Aside0.mk hr4
  clear hr4 hw4 hn4 w0 w1 w2 w3
  obtain ⟨u, hu⟩ : ∃ u, IntKind.u64.wrap a0 = u := ⟨_, rfl⟩
  obtain ⟨v, hv⟩ : ∃ v, IntKind.u64.wrap a1 = v := ⟨_, rfl⟩
  obtain ⟨x, hx⟩ : ∃ x, IntKind.u64.wrap a2 = x := ⟨_, rfl⟩
  obtain ⟨y, hy0⟩ : ∃ y, IntKind.u64.wrap a3 = y := ⟨_, rfl⟩
  obtain ⟨u1, u2⟩ : 0 ≤ u ∧ u ≤ 18446744073709551615 := by rw [← hu]; exact u64_bd a0
  obtain ⟨v1, v2⟩ : 0 ≤ v ∧ v ≤ 18446744073709551615 := by rw [← hv]; exact u64_bd a1
  obtain ⟨x1, x2⟩ : 0 ≤ x ∧ x ≤ 18446744073709551615 := by rw [← hx]; exact u64_bd a2
  obtain ⟨y1, y2⟩ : 0 ≤ y ∧ y ≤ 18446744073709551615 := by rw [← hy0]; exact u64_bd a3
  obtain ⟨c, hcd⟩ : ∃ c, 1 + u % 3 = c := ⟨_, rfl⟩
  obtain ⟨b, hb⟩ : ∃ b, x % 10000000000000 = b := ⟨_, rfl⟩
  obtain ⟨rt, hrt⟩ : ∃ rt, y % 1000000000 = rt := ⟨_, rfl⟩
  have hc : Aside0 (c = 1 ∨ c = 2 ∨ c = 3) := ⟨by omega⟩
  have b0 : 0 ≤ b := by omega
  have b1 : b ≤ 10000000000000 := by omega
  have t0 : 0 ≤ rt := by omega
  have t1 : rt ≤ 1000000000 := by omega
  rcases (by omega : v % 2 = 0 ∨ v % 2 = 1) with hv2 | hv2
  · go_enter Try.func10, Try.ntmps10
    go_wp2_with fail
    clear hu hv hx hy0 u1 u2 v1 v2 x1 x2 y1 y2 hcd hb hrt hv2
    refine (bnew_any hc.out (by decide) _).mono ?_
    rintro e w1 ⟨hb, ga, hg, rfl, A⟩
    have AA := Aside0.mk A
    have HB := Aside0.mk (((Below.refl w.heap.size w).alloc (Nat.le_refl _) (.cells #[.int .i64 1, .int .i64 3] 3)).trans (hb.mono (by simp)))
    have hga : w.heap.size ≤ ga := by simp at hg; omega
    clear A hb hg
    go_wp2_with fail
    refine (bnew_any hc.out (by decide) _).mono ?_
    rintro e w2 ⟨hb, gb, hg, rfl, A⟩
    have A2 := Aside0.mk A
    have AA2 := Aside0.mk (AA.out.below hb)
    have HB2 := Aside0.mk (below_step HB.out hb)
    have hne : ga ≠ gb := by have := AA.out.lt; omega
    have hgb : w.heap.size ≤ gb := Nat.le_trans HB.out.size hg
    clear A hb AA HB hg
    go_wp2_with fail
    refine (grow_awake _).mono ?_
    rintro e w3 ⟨rfl, hb⟩
    obtain ⟨W, hW⟩ : ∃ W, Gm.whole c = W := ⟨_, rfl⟩
    obtain ⟨h, hh⟩ : ∃ h, Gm.half c 1 = h := ⟨_, rfl⟩
    have PP := Aside0.mk (show Pair w w3 ga gb W h 0 0 by rw [← hW, ← hh]; exact ⟨AA2.out.below hb, A2.out.below hb, hne, hga, hgb, below_step HB2.out hb⟩)
    have GG := Aside0.mk (show Good W h 0 by rw [← hW, ← hh]; exact good_new c 1)
    clear hb A2 AA2 HB2 hW hh
    go_wp2_with fail
    go_loopg [15, 16, 17] 31 (fun gq sv av iv w' => ∃ (k : Nat) (s all rest : Int), k ≤ 30 ∧ k ≤ l.length ∧ iv = .int .i64 k ∧ sv = .int .i64 s ∧ av = .int .i64 all ∧ 0 ≤ all ∧ all ≤ 300 * (k : Int) ∧ 0 ≤ s ∧ s ≤ 1000000000000000 * (k : Int) ∧ Aside0 (rest = b * rt * all - s * W) ∧ Aside0 (Good W h rest) ∧ Aside0 (Pair w w' ga gb W h rest 0) ∧ Aside0 (gq = 31 - k))
    case atStart => exact ⟨0, 0, 0, 0, by omega, by omega, rfl, rfl, rfl, by omega, by omega, by omega, by omega, ⟨by simp⟩, GG, PP, ⟨rfl⟩⟩
    case round =>
      obtain ⟨k, s, all, rest, k30, kl, rfl, rfl, rfl, al0, al1, s0, s1, hrest, hG, hP, hg⟩ := hrel
      by_cases hlt : k < l.length ∧ k < 30
      · obtain ⟨hlt1, hlt2⟩ := hlt
        obtain ⟨ad, e0, hx0⟩ := Kd.at_int (Kd.C_below HR4.out hP.out.2.2.2.2.2) (k : Int) (by omega) (by omega)
        subst e0
        rw [Int.toNat_natCast] at hx0
        obtain ⟨u, hu⟩ : ∃ u, IntKind.u64.wrap (rd l (k : Int)) = u := ⟨_, rfl⟩
        obtain ⟨u1, u2⟩ : 0 ≤ u ∧ u ≤ 18446744073709551615 := by rw [← hu]; exact u64_bd _
        obtain ⟨n, hn⟩ : ∃ n, u % 300 = n := ⟨_, rfl⟩
        have n0 : 0 ≤ n := by omega
        have n1 : n ≤ 299 := by omega
        go_wp2_with fail
        clear hu u1 u2 hn hx0
        refine (bear_any hP.out.1 hG.out).mono ?_
        rw [bear_small hG.out b0 b1 t0 t1 n0 (by omega)]
        rintro e w4 ⟨rfl, A, hbut⟩
        have hst := split_step hG.out b0 t0 n0 hrest.out
        have hG2 := hG.out.next (Int.mul_nonneg (Int.mul_nonneg b0 t0) n0)
        obtain ⟨q0, _⟩ := Gm.step (W := W) (h := h) (rest := rest) (x := b * rt * n) (by have := hG.out.w0; omega) (Int.mul_nonneg (Int.mul_nonneg b0 t0) n0) hG.out.r0
        have q1 := Gm.most (M := 1000000000000000) (by have := hG.out.w0; omega) hG.out.r1 (small_x b0 b1 t0 t1 n0 (by omega) hG.out.w0).2
        have P2 := Aside0.mk (show Pair w w4 ga gb W h _ 0 from ⟨A, hP.out.2.1.but hbut (Ne.symm hne), hne, hga, hgb, hbut.below hP.out.2.2.2.2.2 hP.out.2.2.2.2.2.size hga⟩)
        generalize Gm.q W h rest (b * rt * n) = q at *
        generalize Gm.r W h rest (b * rt * n) = r' at *
        have HST := Aside0.mk hst
        have HG2 := Aside0.mk hG2
        clear hst hG2 A hbut hP hG hrest
        go_wp2_with fail
        go_roundg (31 - (k + 1))
        case measure => have := hg.out; omega
        case rel => exact ⟨k + 1, s + q, all + n, r', by omega, by omega, by simp, rfl, rfl, by omega, by omega, by omega, by omega, HST, HG2, P2, ⟨rfl⟩⟩
      · rcases (by omega : l.length ≤ k ∨ (k < l.length ∧ 30 ≤ k)) with h1 | ⟨h1, h2⟩
        all_goals
          clear hlt
          go_wp2_with fail
          refine (bear_any hP.out.2.1 (show Good W h 0 from GG.out)).mono ?_
          rw [bear_small GG.out b0 b1 t0 t1 al0 (by omega)]
          obtain ⟨e1, e2⟩ := split_all hG.out hrest.out
          rw [e1, e2]
          rintro e w4 ⟨rfl, A, hbut⟩
          have A1 := Aside0.mk (hP.out.1.but hbut hne)
          have A2 := Aside0.mk A
          have HBB := Aside0.mk (hbut.below hP.out.2.2.2.2.2 hP.out.2.2.2.2.2.size hgb)
          clear A hbut e1 e2 hP hG hrest
          go_wp2_with fail
          refine (brest_any A1.out).mono ?_
          rintro e w5 ⟨rfl, rfl⟩
          go_wp2_with fail
          refine (brest_any A2.out).mono ?_
          rintro e w6 ⟨rfl, rfl⟩
          go_wp2_with fail
          go_ret
          exact ⟨rfl, HBB.out⟩
  · go_enter Try.func10, Try.ntmps10
    go_wp2_with fail
    clear hu hv hx hy0 u1 u2 v1 v2 x1 x2 y1 y2 hcd hb hrt hv2
    refine (bnew_any hc.out (by decide) _).mono ?_
    rintro e w1 ⟨hb, ga, hg, rfl, A⟩
    have AA := Aside0.mk A
    have HB := Aside0.mk (((Below.refl w.heap.size w).alloc (Nat.le_refl _) (.cells #[.int .i64 1, .int .i64 3] 3)).trans (hb.mono (by simp)))
    have hga : w.heap.size ≤ ga := by simp at hg; omega
    clear A hb hg
    go_wp2_with fail
    refine (bnew_any hc.out (by decide) _).mono ?_
    rintro e w2 ⟨hb, gb, hg, rfl, A⟩
    have A2 := Aside0.mk A
    have AA2 := Aside0.mk (AA.out.below hb)
    have HB2 := Aside0.mk (below_step HB.out hb)
    have hne : ga ≠ gb := by have := AA.out.lt; omega
    have hgb : w.heap.size ≤ gb := Nat.le_trans HB.out.size hg
    clear A hb AA HB hg
    go_wp2_with fail
    refine (grow_awake _).mono ?_
    rintro e w3 ⟨rfl, hb⟩
    obtain ⟨W, hW⟩ : ∃ W, Gm.whole c = W := ⟨_, rfl⟩
    obtain ⟨h, hh⟩ : ∃ h, Gm.half c 3 = h := ⟨_, rfl⟩
    have PP := Aside0.mk (show Pair w w3 ga gb W h 0 0 by rw [← hW, ← hh]; exact ⟨AA2.out.below hb, A2.out.below hb, hne, hga, hgb, below_step HB2.out hb⟩)
    have GG := Aside0.mk (show Good W h 0 by rw [← hW, ← hh]; exact good_new c 3)
    clear hb A2 AA2 HB2 hW hh
    go_wp2_with fail
    go_loopg [15, 16, 17] 31 (fun gq sv av iv w' => ∃ (k : Nat) (s all rest : Int), k ≤ 30 ∧ k ≤ l.length ∧ iv = .int .i64 k ∧ sv = .int .i64 s ∧ av = .int .i64 all ∧ 0 ≤ all ∧ all ≤ 300 * (k : Int) ∧ 0 ≤ s ∧ s ≤ 1000000000000000 * (k : Int) ∧ Aside0 (rest = b * rt * all - s * W) ∧ Aside0 (Good W h rest) ∧ Aside0 (Pair w w' ga gb W h rest 0) ∧ Aside0 (gq = 31 - k))
    case atStart => exact ⟨0, 0, 0, 0, by omega, by omega, rfl, rfl, rfl, by omega, by omega, by omega, by omega, ⟨by simp⟩, GG, PP, ⟨rfl⟩⟩
    case round =>
      obtain ⟨k, s, all, rest, k30, kl, rfl, rfl, rfl, al0, al1, s0, s1, hrest, hG, hP, hg⟩ := hrel
      by_cases hlt : k < l.length ∧ k < 30
      · obtain ⟨hlt1, hlt2⟩ := hlt
        obtain ⟨ad, e0, hx0⟩ := Kd.at_int (Kd.C_below HR4.out hP.out.2.2.2.2.2) (k : Int) (by omega) (by omega)
        subst e0
        rw [Int.toNat_natCast] at hx0
        obtain ⟨u, hu⟩ : ∃ u, IntKind.u64.wrap (rd l (k : Int)) = u := ⟨_, rfl⟩
        obtain ⟨u1, u2⟩ : 0 ≤ u ∧ u ≤ 18446744073709551615 := by rw [← hu]; exact u64_bd _
        obtain ⟨n, hn⟩ : ∃ n, u % 300 = n := ⟨_, rfl⟩
        have n0 : 0 ≤ n := by omega
        have n1 : n ≤ 299 := by omega
        go_wp2_with fail
        clear hu u1 u2 hn hx0
        refine (bear_any hP.out.1 hG.out).mono ?_
        rw [bear_small hG.out b0 b1 t0 t1 n0 (by omega)]
        rintro e w4 ⟨rfl, A, hbut⟩
        have hst := split_step hG.out b0 t0 n0 hrest.out
        have hG2 := hG.out.next (Int.mul_nonneg (Int.mul_nonneg b0 t0) n0)
        obtain ⟨q0, _⟩ := Gm.step (W := W) (h := h) (rest := rest) (x := b * rt * n) (by have := hG.out.w0; omega) (Int.mul_nonneg (Int.mul_nonneg b0 t0) n0) hG.out.r0
        have q1 := Gm.most (M := 1000000000000000) (by have := hG.out.w0; omega) hG.out.r1 (small_x b0 b1 t0 t1 n0 (by omega) hG.out.w0).2
        have P2 := Aside0.mk (show Pair w w4 ga gb W h _ 0 from ⟨A, hP.out.2.1.but hbut (Ne.symm hne), hne, hga, hgb, hbut.below hP.out.2.2.2.2.2 hP.out.2.2.2.2.2.size hga⟩)
        generalize Gm.q W h rest (b * rt * n) = q at *
        generalize Gm.r W h rest (b * rt * n) = r' at *
        have HST := Aside0.mk hst
        have HG2 := Aside0.mk hG2
        clear hst hG2 A hbut hP hG hrest
        go_wp2_with fail
        go_roundg (31 - (k + 1))
        case measure => have := hg.out; omega
        case rel => exact ⟨k + 1, s + q, all + n, r', by omega, by omega, by simp, rfl, rfl, by omega, by omega, by omega, by omega, HST, HG2, P2, ⟨rfl⟩⟩
      · rcases (by omega : l.length ≤ k ∨ (k < l.length ∧ 30 ≤ k)) with h1 | ⟨h1, h2⟩
        all_goals
          clear hlt
          go_wp2_with fail
          refine (bear_any hP.out.2.1 (show Good W h 0 from GG.out)).mono ?_
          rw [bear_small GG.out b0 b1 t0 t1 al0 (by omega)]
          obtain ⟨e1, e2⟩ := split_all hG.out hrest.out
          rw [e1, e2]
          rintro e w4 ⟨rfl, A, hbut⟩
          have A1 := Aside0.mk (hP.out.1.but hbut hne)
          have A2 := Aside0.mk A
          have HBB := Aside0.mk (hbut.below hP.out.2.2.2.2.2 hP.out.2.2.2.2.2.size hgb)
          clear A hbut e1 e2 hP hG hrest
          go_wp2_with fail
          refine (brest_any A1.out).mono ?_
          rintro e w5 ⟨rfl, rfl⟩
          go_wp2_with fail
          refine (brest_any A2.out).mono ?_
          rintro e w6 ⟨rfl, rfl⟩
          go_wp2_with fail
          go_ret
          exact ⟨rfl, HBB.out⟩
end Go.Proofs.Ytliapjhjofmliaa.H
