/- The law GrowthRest, walked. -/
import Derived.Test.YtliapjhjofmliaaL3
import Derived.Test.YtliapjhjofmliaaOp
import Derived.Deep.RegionHeld3
import Derived.RegionTactic
namespace Go.Proofs.Ytliapjhjofmliaa.H
open Go.RowKit Go.Proofs.YtliapjhjofmliaaW.PrintWords Go.Proofs.YtliapjhjofmliaaW.PrintLast Go.Proofs.YtliapjhjofmliaaW.PrintMore Go.Proofs.Ytliapjhjofmliaa.HW
set_option linter.unusedVariables false
set_option linter.unusedSimpArgs false
theorem cell_lt' {w : World} {ad : Addr} {v : Value} (h : w.cell? ad = some v) : ad.block < w.heap.size := by
  rcases Nat.lt_or_ge ad.block w.heap.size with h1 | h1
  · exact h1
  · exfalso
    have e : w.heap[ad.block]? = none := Array.getElem?_eq_none h1
    simp [World.cell?, e] at h
theorem add_block (ad : Addr) (n : Nat) : (ad.add n).block = ad.block := by simp only [Addr.add]; split <;> rfl
theorem add_field (ad : Addr) (n j : Nat) (hj : 0 < j) : ad.add (n + j) = ⟨(ad.add n).block, (ad.add n).off + j, none⟩ := by
  simp only [Addr.add]
  rw [if_neg (by omega)]
  split
  · rename_i h; subst h; simp
  · simp; omega
/-- Three cells that stay. -/
theorem three_stay {w0 W : World} {a0 a1 a2 : Addr} {x y z : Value} (hb : Below w0.heap.size w0 W) (h0 : w0.cell? a0 = some x) (h1 : w0.cell? a1 = some y) (h2 : w0.cell? a2 = some z) : W.cell? a0 = some x ∧ W.cell? a1 = some y ∧ W.cell? a2 = some z :=
  ⟨by rw [hb.cell (cell_lt' h0)]; exact h0, by rw [hb.cell (cell_lt' h1)]; exact h1, by rw [hb.cell (cell_lt' h2)]; exact h2⟩
set_option maxHeartbeats 2000000 in
set_option maxRecDepth 100000 in
theorem growthRest_walk (a0 a1 : Int) (a2 : Option Addr) (c2 : Nat) (l : List (List Int)) (w : World) (w0 : (Lit.int .i64 a0).wf = true) (w1 : (Lit.int .i64 a1).wf = true) (hr2 : Op.IntRows w a2 3 l) (hc2 : l.length ≤ c2) (hn2 : a2 = none → c2 = 0) (hm : c2 ≤ maxLen) :
    Calls Try.prog 11 #[.int .i64 a0, .int .i64 a1, .slice a2 l.length c2] w fun e w' => e = .returned (.bool true) ∧ Below w.heap.size w w' := by
  have HR := Aside0.mk hr2
  clear hr2 hn2 w0 w1
  unfold maxLen at hm
  obtain ⟨u, hu⟩ : ∃ u, IntKind.u64.wrap a0 = u := ⟨_, rfl⟩
  obtain ⟨v, hv⟩ : ∃ v, IntKind.u64.wrap a1 = v := ⟨_, rfl⟩
  obtain ⟨u1, u2⟩ : 0 ≤ u ∧ u ≤ 18446744073709551615 := by rw [← hu]; exact u64_bd a0
  obtain ⟨v1, v2⟩ : 0 ≤ v ∧ v ≤ 18446744073709551615 := by rw [← hv]; exact u64_bd a1
  obtain ⟨c, hcd⟩ : ∃ c, 1 + u % 3 = c := ⟨_, rfl⟩
  have hc : Aside0 (c = 1 ∨ c = 2 ∨ c = 3) := ⟨by omega⟩
  rcases (by omega : v % 2 = 0 ∨ v % 2 = 1) with hv2 | hv2
  · go_enter Try.func11, Try.ntmps11
    go_wp2_with fail
    clear hu hv u1 u2 v1 v2 hcd hv2
    refine (bnew_any hc.out (by decide) _).mono ?_
    rintro e w1 ⟨hb, ga, hg, rfl, A⟩
    have AA := Aside0.mk A
    have HB := Aside0.mk (((Below.refl w.heap.size w).alloc (Nat.le_refl _) (.cells #[.int .i64 1, .int .i64 3] 3)).trans (hb.mono (by simp)))
    have hga : w.heap.size ≤ ga := by simp at hg; omega
    clear A hb hg
    go_wp2_with fail
    refine (rnew_any (up := true) hc.out (by decide) _).mono ?_
    rintro e w2 ⟨hb, gr, hgr, rfl, A⟩
    have A2 := Aside0.mk A
    have AA2 := Aside0.mk (AA.out.below hb)
    have HB2 := Aside0.mk (below_step HB.out hb)
    clear A hb AA HB hgr
    go_wp2_with fail
    refine (grow_awake _).mono ?_
    rintro e w3 ⟨rfl, hb⟩
    have R3 := Aside0.mk (A2.out.below hb)
    have B3 := Aside0.mk (AA2.out.below hb)
    have HB3 := Aside0.mk (below_step HB2.out hb)
    clear hb A2 AA2 HB2
    go_wp2_with fail
    refine (rwhole_any R3.out (by have := gp_bd c; omega) (gp_bd c).2).mono ?_
    rintro e w4 ⟨rfl, rfl⟩
    obtain ⟨W, hW⟩ : ∃ W, Gm.whole c = W := ⟨_, rfl⟩
    have hW' : 1000000000 * Gm.gp c = W := hW
    rw [hW']
    obtain ⟨h, hh⟩ : ∃ h, Gm.half c 1 = h := ⟨_, rfl⟩
    have PP := Aside0.mk (show BearAt w4 ga W h 0 by rw [← hW, ← hh]; exact B3.out)
    have GG := Aside0.mk (show Good W h 0 by rw [← hW, ← hh]; exact good_new c 1)
    obtain ⟨g1, g2, g3, g4, _, _⟩ := GG.out
    have hWh : W = 2 * h := by rw [← hW, ← hh]; exact (Gm.half_one c).symm
    have HWH := Aside0.mk hWh
    clear hWh
    clear B3 R3 hW hW' hh
    go_wp2_with fail
    go_loopg [12, 13, 14] 21 (fun gq ev bv iv w' => ∃ (k : Nat) (ex bo rest : Int), k ≤ 20 ∧ k ≤ l.length ∧ iv = .int .i64 k ∧ ev = .int .i64 ex ∧ bv = .int .i64 bo ∧ 0 ≤ ex ∧ ex ≤ 4000000000000 * (k : Int) ∧ 0 ≤ bo ∧ bo ≤ 1000 * (k : Int) ∧ Aside0 (rest = ex - bo * W) ∧ Aside0 (Good W h rest) ∧ Aside0 (BearAt w' ga W h rest) ∧ Aside0 (Below w.heap.size w w') ∧ Aside0 (gq = 21 - k))
    case atStart => exact ⟨0, 0, 0, 0, by omega, by omega, rfl, rfl, rfl, by omega, by omega, by omega, by omega, ⟨by simp⟩, GG, PP, HB3, ⟨rfl⟩⟩
    case round =>
      obtain ⟨k, ex, bo, rest, k30, kl, rfl, rfl, rfl, ex0, ex1, bo0, bo1, hrest, hG, hP, hB, hg⟩ := hrel
      by_cases hlt : k < l.length ∧ k < 20
      · obtain ⟨hlt1, hlt2⟩ := hlt
        obtain ⟨ad, x0, y0, z0, e0, _, q0, q1, q2, wx, wy, wz⟩ := (HR.out.below hB.out).three k hlt1
        subst e0
        have hadlt : ad.block < wr.heap.size := by have := cell_lt' q0; rw [add_block] at this; exact this
        obtain ⟨xu, hxu⟩ : ∃ u, IntKind.u64.wrap x0 = u := ⟨_, rfl⟩
        obtain ⟨xu1, xu2⟩ : 0 ≤ xu ∧ xu ≤ 18446744073709551615 := by rw [← hxu]; exact u64_bd _
        obtain ⟨yu, hyu⟩ : ∃ u, IntKind.u64.wrap y0 = u := ⟨_, rfl⟩
        obtain ⟨yu1, yu2⟩ : 0 ≤ yu ∧ yu ≤ 18446744073709551615 := by rw [← hyu]; exact u64_bd _
        obtain ⟨zu, hzu⟩ : ∃ u, IntKind.u64.wrap z0 = u := ⟨_, rfl⟩
        obtain ⟨zu1, zu2⟩ : 0 ≤ zu ∧ zu ≤ 18446744073709551615 := by rw [← hzu]; exact u64_bd _
        obtain ⟨x, hx⟩ : ∃ x, xu % 100000 = x := ⟨_, rfl⟩
        obtain ⟨y, hy⟩ : ∃ y, yu % 100000 = y := ⟨_, rfl⟩
        obtain ⟨z, hz⟩ : ∃ z, zu % 400 = z := ⟨_, rfl⟩
        have x1 : 0 ≤ x := by omega
        have x2 : x ≤ 99999 := by omega
        have y1 : 0 ≤ y := by omega
        have y2 : y ≤ 99999 := by omega
        have z1 : 0 ≤ z := by omega
        have z2 : z ≤ 399 := by omega
        have tx : Int.tmod xu 100000 = x := by rw [Int.tmod_eq_emod_of_nonneg xu1]; exact hx
        have ty : Int.tmod yu 100000 = y := by rw [Int.tmod_eq_emod_of_nonneg yu1]; exact hy
        have tz : Int.tmod zu 400 = z := by rw [Int.tmod_eq_emod_of_nonneg zu1]; exact hz
        have ux : IntKind.u64.wrap x = x := IntWalk.u64_in _ (by omega)
        have uy : IntKind.u64.wrap y = y := IntWalk.u64_in _ (by omega)
        have uz : IntKind.u64.wrap z = z := IntWalk.u64_in _ (by omega)
        have ix : IntKind.i64.wrap x = x := IntWalk.i64_in _ (by omega)
        have iy : IntKind.i64.wrap y = y := IntWalk.i64_in _ (by omega)
        have iz : IntKind.i64.wrap z = z := IntWalk.i64_in _ (by omega)
        have kk0 : (0 : Int) ≤ (k : Int) := by omega
        have kk1 : (k : Int) < (l.length : Int) := by omega
        have Q0 := Aside0.mk q0
        rw [add_field _ _ _ (by decide)] at q1 q2
        have Q1 := Aside0.mk q1
        have Q2 := Aside0.mk q2
        clear q0 q1 q2
        go_wp2_with fail
        go_region_held3 (fun w' => w'.cell? (ad.add (k * 3)) = some (.int .i64 x0) ∧ w'.cell? ⟨(ad.add (k * 3)).block, (ad.add (k * 3)).off + 1, none⟩ = some (.int .i64 y0) ∧ w'.cell? ⟨(ad.add (k * 3)).block, (ad.add (k * 3)).off + 2, none⟩ = some (.int .i64 z0))
          (exact three_stay (by repeat (first | exact Below.refl _ _ | refine Below.drew ?_ | (refine Below.alloc ?_ (by first | exact Nat.le_refl _ | (simp; done) | (simp; omega)) _) | (refine Below.setCell ?_ (by simp) _))) Q0.out Q1.out Q2.out)
          (fail)
        clear hxu hyu hzu xu1 xu2 yu1 yu2 zu1 zu2 tx ty tz ux uy uz ix iy iz hx hy hz
        have BN := Aside0.mk (((Below.refl wr.heap.size wr).alloc (Nat.le_refl _) (.cells #[.int .i64 x, .int .i64 y, .int .i64 z] 54)).drew)
        have s0 : ((wr.alloc (.cells #[.int .i64 x, .int .i64 y, .int .i64 z] 54)).drew).cell? ⟨wr.heap.size, 0, none⟩ = some (.int .i64 x) := by simp [go_sem]
        have s1 : ((wr.alloc (.cells #[.int .i64 x, .int .i64 y, .int .i64 z] 54)).drew).cell? ⟨wr.heap.size, 1, none⟩ = some (.int .i64 y) := by simp [go_sem]
        have s2 : ((wr.alloc (.cells #[.int .i64 x, .int .i64 y, .int .i64 z] 54)).drew).cell? ⟨wr.heap.size, 2, none⟩ = some (.int .i64 z) := by simp [go_sem]
        have hsz : wr.heap.size < ((wr.alloc (.cells #[.int .i64 x, .int .i64 y, .int .i64 z] 54)).drew).heap.size := by simp
        generalize (wr.alloc (.cells #[.int .i64 x, .int .i64 y, .int .i64 z] 54)).drew = wn at *
        have PN := Aside0.mk (hP.out.below BN.out)
        have HBN := Aside0.mk (hB.out.trans (BN.out.mono hB.out.size))
        have hne : wr.heap.size ≠ ga := by have := hP.out.lt; omega
        clear hP hB BN
        go_wp2_with fail
        refine (bear_any PN.out hG.out).mono ?_
        rw [bear_small hG.out x1 (by omega) y1 (by omega) z1 (by omega)]
        rintro e w5 ⟨rfl, A, hbut⟩
        have n1 := hbut.cell (p := ⟨wr.heap.size, 0, none⟩) hsz hne
        have n2 := hbut.cell (p := ⟨wr.heap.size, 1, none⟩) hsz hne
        have n3 := hbut.cell (p := ⟨wr.heap.size, 2, none⟩) hsz hne
        rw [s0] at n1
        rw [s1] at n2
        rw [s2] at n3
        obtain ⟨p1, p2⟩ := Gm.mul_le x1 y1 x2 y2
        obtain ⟨p3, p4⟩ := Gm.mul_le p1 z1 p2 z2
        have GN := hG.out.next p3
        obtain ⟨qq0, _, _, qe⟩ := Gm.step (W := W) (h := h) (rest := rest) (x := x * y * z) (by omega) p3 hG.out.r0
        have qq1 := Gm.most (W := W) (h := h) (rest := rest) (x := x * y * z) (M := 1000) (by omega) hG.out.r1 (by omega)
        have HBW := Aside0.mk (hbut.below HBN.out HBN.out.size hga)
        have P5 := Aside0.mk (show BearAt w5 ga W h (Gm.r W h rest (x * y * z)) from A)
        generalize Gm.q W h rest (x * y * z) = q at *
        generalize Gm.r W h rest (x * y * z) = r' at *
        obtain ⟨XY, hXY⟩ : ∃ s, x * y = s := ⟨_, rfl⟩
        rw [hXY] at p1 p2 p3 p4 qe
        obtain ⟨X, hX⟩ : ∃ s, XY * z = s := ⟨_, rfl⟩
        rw [hX] at p3 p4 qe
        obtain ⟨bw, hbw⟩ : ∃ s, (bo + q) * W = s := ⟨_, rfl⟩
        have er : r' = ex + X - bw := by rw [qe, hrest.out, ← hbw, Int.add_mul]; omega
        have m1 : IntKind.i64.wrap (x * y) = XY := by rw [hXY]; exact IntWalk.i64_in _ (by omega)
        have m2 : IntKind.i64.wrap (XY * z) = X := by rw [hX]; exact IntWalk.i64_in _ (by omega)
        have r0 := GN.r0
        have r1 := GN.r1
        subst er
        have m3 : IntKind.i64.wrap ((bo + q) * W) = bw := by rw [hbw]; exact IntWalk.i64_in _ (by omega)
        have HBQ := Aside0.mk hbw
        have G5 := Aside0.mk GN
        clear GN A hbut s0 s1 s2 hXY hX hbw qe hrest hG PN HBN Q0 Q1 Q2 HR hsz p2 p1
        go_wp2_with fail
        clear n1 n2 n3 m1 m2
        refine (brest_any P5.out).mono ?_
        rintro e w6 ⟨rfl, rfl⟩
        have HWHo := HWH.out
        have hW2 : W / 2 = h := by omega
        have hneg : IntKind.i64.wrap (-W) = -W := IntWalk.i64_in _ (by omega)
        have htd : Int.tdiv (-W) 2 = -h := by rw [Int.neg_tdiv, Int.tdiv_eq_ediv_of_nonneg (by omega), hW2]
        have hng2 : IntKind.i64.wrap (-h) = -h := IntWalk.i64_in _ (by omega)
        clear HWHo
        go_wp2_with fail
        go_roundg (21 - (k + 1))
        case measure => have := hg.out; omega
        case rel => exact ⟨k + 1, ex + X, bo + q, ex + X - bw, by omega, by omega, by simp, rfl, rfl, by omega, by omega, by omega, by omega, ⟨by rw [← HBQ.out]⟩, G5, P5, HBW, ⟨rfl⟩⟩
      · rcases (by omega : l.length ≤ k ∨ (k < l.length ∧ 20 ≤ k)) with h1 | ⟨h1, h2⟩
        all_goals
          clear hlt
          have HBF := hB
          clear hP hG hrest hB
          go_wp2_with fail
          go_ret
          exact ⟨rfl, HBF.out⟩
  · go_enter Try.func11, Try.ntmps11
    go_wp2_with fail
    clear hu hv u1 u2 v1 v2 hcd hv2
    refine (bnew_any hc.out (by decide) _).mono ?_
    rintro e w1 ⟨hb, ga, hg, rfl, A⟩
    have AA := Aside0.mk A
    have HB := Aside0.mk (((Below.refl w.heap.size w).alloc (Nat.le_refl _) (.cells #[.int .i64 1, .int .i64 3] 3)).trans (hb.mono (by simp)))
    have hga : w.heap.size ≤ ga := by simp at hg; omega
    clear A hb hg
    go_wp2_with fail
    refine (rnew_any (up := false) hc.out (by decide) _).mono ?_
    rintro e w2 ⟨hb, gr, hgr, rfl, A⟩
    have A2 := Aside0.mk A
    have AA2 := Aside0.mk (AA.out.below hb)
    have HB2 := Aside0.mk (below_step HB.out hb)
    clear A hb AA HB hgr
    go_wp2_with fail
    refine (grow_awake _).mono ?_
    rintro e w3 ⟨rfl, hb⟩
    have R3 := Aside0.mk (A2.out.below hb)
    have B3 := Aside0.mk (AA2.out.below hb)
    have HB3 := Aside0.mk (below_step HB2.out hb)
    clear hb A2 AA2 HB2
    go_wp2_with fail
    refine (rwhole_any R3.out (by have := gp_bd c; omega) (gp_bd c).2).mono ?_
    rintro e w4 ⟨rfl, rfl⟩
    obtain ⟨W, hW⟩ : ∃ W, Gm.whole c = W := ⟨_, rfl⟩
    have hW' : 1000000000 * Gm.gp c = W := hW
    rw [hW']
    obtain ⟨h, hh⟩ : ∃ h, Gm.half c 3 = h := ⟨_, rfl⟩
    have PP := Aside0.mk (show BearAt w4 ga W h 0 by rw [← hW, ← hh]; exact B3.out)
    have GG := Aside0.mk (show Good W h 0 by rw [← hW, ← hh]; exact good_new c 3)
    obtain ⟨g1, g2, g3, g4, _, _⟩ := GG.out
    have hh0 : h = 0 := by rw [← hh]; exact Gm.half_no (by decide)
    have HWH := Aside0.mk hh0
    clear hh0
    clear B3 R3 hW hW' hh
    go_wp2_with fail
    go_loopg [12, 13, 14] 21 (fun gq ev bv iv w' => ∃ (k : Nat) (ex bo rest : Int), k ≤ 20 ∧ k ≤ l.length ∧ iv = .int .i64 k ∧ ev = .int .i64 ex ∧ bv = .int .i64 bo ∧ 0 ≤ ex ∧ ex ≤ 4000000000000 * (k : Int) ∧ 0 ≤ bo ∧ bo ≤ 1000 * (k : Int) ∧ Aside0 (rest = ex - bo * W) ∧ Aside0 (Good W h rest) ∧ Aside0 (BearAt w' ga W h rest) ∧ Aside0 (Below w.heap.size w w') ∧ Aside0 (gq = 21 - k))
    case atStart => exact ⟨0, 0, 0, 0, by omega, by omega, rfl, rfl, rfl, by omega, by omega, by omega, by omega, ⟨by simp⟩, GG, PP, HB3, ⟨rfl⟩⟩
    case round =>
      obtain ⟨k, ex, bo, rest, k30, kl, rfl, rfl, rfl, ex0, ex1, bo0, bo1, hrest, hG, hP, hB, hg⟩ := hrel
      by_cases hlt : k < l.length ∧ k < 20
      · obtain ⟨hlt1, hlt2⟩ := hlt
        obtain ⟨ad, x0, y0, z0, e0, _, q0, q1, q2, wx, wy, wz⟩ := (HR.out.below hB.out).three k hlt1
        subst e0
        have hadlt : ad.block < wr.heap.size := by have := cell_lt' q0; rw [add_block] at this; exact this
        obtain ⟨xu, hxu⟩ : ∃ u, IntKind.u64.wrap x0 = u := ⟨_, rfl⟩
        obtain ⟨xu1, xu2⟩ : 0 ≤ xu ∧ xu ≤ 18446744073709551615 := by rw [← hxu]; exact u64_bd _
        obtain ⟨yu, hyu⟩ : ∃ u, IntKind.u64.wrap y0 = u := ⟨_, rfl⟩
        obtain ⟨yu1, yu2⟩ : 0 ≤ yu ∧ yu ≤ 18446744073709551615 := by rw [← hyu]; exact u64_bd _
        obtain ⟨zu, hzu⟩ : ∃ u, IntKind.u64.wrap z0 = u := ⟨_, rfl⟩
        obtain ⟨zu1, zu2⟩ : 0 ≤ zu ∧ zu ≤ 18446744073709551615 := by rw [← hzu]; exact u64_bd _
        obtain ⟨x, hx⟩ : ∃ x, xu % 100000 = x := ⟨_, rfl⟩
        obtain ⟨y, hy⟩ : ∃ y, yu % 100000 = y := ⟨_, rfl⟩
        obtain ⟨z, hz⟩ : ∃ z, zu % 400 = z := ⟨_, rfl⟩
        have x1 : 0 ≤ x := by omega
        have x2 : x ≤ 99999 := by omega
        have y1 : 0 ≤ y := by omega
        have y2 : y ≤ 99999 := by omega
        have z1 : 0 ≤ z := by omega
        have z2 : z ≤ 399 := by omega
        have tx : Int.tmod xu 100000 = x := by rw [Int.tmod_eq_emod_of_nonneg xu1]; exact hx
        have ty : Int.tmod yu 100000 = y := by rw [Int.tmod_eq_emod_of_nonneg yu1]; exact hy
        have tz : Int.tmod zu 400 = z := by rw [Int.tmod_eq_emod_of_nonneg zu1]; exact hz
        have ux : IntKind.u64.wrap x = x := IntWalk.u64_in _ (by omega)
        have uy : IntKind.u64.wrap y = y := IntWalk.u64_in _ (by omega)
        have uz : IntKind.u64.wrap z = z := IntWalk.u64_in _ (by omega)
        have ix : IntKind.i64.wrap x = x := IntWalk.i64_in _ (by omega)
        have iy : IntKind.i64.wrap y = y := IntWalk.i64_in _ (by omega)
        have iz : IntKind.i64.wrap z = z := IntWalk.i64_in _ (by omega)
        have kk0 : (0 : Int) ≤ (k : Int) := by omega
        have kk1 : (k : Int) < (l.length : Int) := by omega
        have Q0 := Aside0.mk q0
        rw [add_field _ _ _ (by decide)] at q1 q2
        have Q1 := Aside0.mk q1
        have Q2 := Aside0.mk q2
        clear q0 q1 q2
        go_wp2_with fail
        go_region_held3 (fun w' => w'.cell? (ad.add (k * 3)) = some (.int .i64 x0) ∧ w'.cell? ⟨(ad.add (k * 3)).block, (ad.add (k * 3)).off + 1, none⟩ = some (.int .i64 y0) ∧ w'.cell? ⟨(ad.add (k * 3)).block, (ad.add (k * 3)).off + 2, none⟩ = some (.int .i64 z0))
          (exact three_stay (by repeat (first | exact Below.refl _ _ | refine Below.drew ?_ | (refine Below.alloc ?_ (by first | exact Nat.le_refl _ | (simp; done) | (simp; omega)) _) | (refine Below.setCell ?_ (by simp) _))) Q0.out Q1.out Q2.out)
          (fail)
        clear hxu hyu hzu xu1 xu2 yu1 yu2 zu1 zu2 tx ty tz ux uy uz ix iy iz hx hy hz
        have BN := Aside0.mk (((Below.refl wr.heap.size wr).alloc (Nat.le_refl _) (.cells #[.int .i64 x, .int .i64 y, .int .i64 z] 54)).drew)
        have s0 : ((wr.alloc (.cells #[.int .i64 x, .int .i64 y, .int .i64 z] 54)).drew).cell? ⟨wr.heap.size, 0, none⟩ = some (.int .i64 x) := by simp [go_sem]
        have s1 : ((wr.alloc (.cells #[.int .i64 x, .int .i64 y, .int .i64 z] 54)).drew).cell? ⟨wr.heap.size, 1, none⟩ = some (.int .i64 y) := by simp [go_sem]
        have s2 : ((wr.alloc (.cells #[.int .i64 x, .int .i64 y, .int .i64 z] 54)).drew).cell? ⟨wr.heap.size, 2, none⟩ = some (.int .i64 z) := by simp [go_sem]
        have hsz : wr.heap.size < ((wr.alloc (.cells #[.int .i64 x, .int .i64 y, .int .i64 z] 54)).drew).heap.size := by simp
        generalize (wr.alloc (.cells #[.int .i64 x, .int .i64 y, .int .i64 z] 54)).drew = wn at *
        have PN := Aside0.mk (hP.out.below BN.out)
        have HBN := Aside0.mk (hB.out.trans (BN.out.mono hB.out.size))
        have hne : wr.heap.size ≠ ga := by have := hP.out.lt; omega
        clear hP hB BN
        go_wp2_with fail
        refine (bear_any PN.out hG.out).mono ?_
        rw [bear_small hG.out x1 (by omega) y1 (by omega) z1 (by omega)]
        rintro e w5 ⟨rfl, A, hbut⟩
        have n1 := hbut.cell (p := ⟨wr.heap.size, 0, none⟩) hsz hne
        have n2 := hbut.cell (p := ⟨wr.heap.size, 1, none⟩) hsz hne
        have n3 := hbut.cell (p := ⟨wr.heap.size, 2, none⟩) hsz hne
        rw [s0] at n1
        rw [s1] at n2
        rw [s2] at n3
        obtain ⟨p1, p2⟩ := Gm.mul_le x1 y1 x2 y2
        obtain ⟨p3, p4⟩ := Gm.mul_le p1 z1 p2 z2
        have GN := hG.out.next p3
        obtain ⟨qq0, _, _, qe⟩ := Gm.step (W := W) (h := h) (rest := rest) (x := x * y * z) (by omega) p3 hG.out.r0
        have qq1 := Gm.most (W := W) (h := h) (rest := rest) (x := x * y * z) (M := 1000) (by omega) hG.out.r1 (by omega)
        have HBW := Aside0.mk (hbut.below HBN.out HBN.out.size hga)
        have P5 := Aside0.mk (show BearAt w5 ga W h (Gm.r W h rest (x * y * z)) from A)
        generalize Gm.q W h rest (x * y * z) = q at *
        generalize Gm.r W h rest (x * y * z) = r' at *
        obtain ⟨XY, hXY⟩ : ∃ s, x * y = s := ⟨_, rfl⟩
        rw [hXY] at p1 p2 p3 p4 qe
        obtain ⟨X, hX⟩ : ∃ s, XY * z = s := ⟨_, rfl⟩
        rw [hX] at p3 p4 qe
        obtain ⟨bw, hbw⟩ : ∃ s, (bo + q) * W = s := ⟨_, rfl⟩
        have er : r' = ex + X - bw := by rw [qe, hrest.out, ← hbw, Int.add_mul]; omega
        have m1 : IntKind.i64.wrap (x * y) = XY := by rw [hXY]; exact IntWalk.i64_in _ (by omega)
        have m2 : IntKind.i64.wrap (XY * z) = X := by rw [hX]; exact IntWalk.i64_in _ (by omega)
        have r0 := GN.r0
        have r1 := GN.r1
        subst er
        have m3 : IntKind.i64.wrap ((bo + q) * W) = bw := by rw [hbw]; exact IntWalk.i64_in _ (by omega)
        have HBQ := Aside0.mk hbw
        have G5 := Aside0.mk GN
        clear GN A hbut s0 s1 s2 hXY hX hbw qe hrest hG PN HBN Q0 Q1 Q2 HR hsz p2 p1
        go_wp2_with fail
        clear n1 n2 n3 m1 m2
        refine (brest_any P5.out).mono ?_
        rintro e w6 ⟨rfl, rfl⟩
        have HWHo := HWH.out
        clear HWHo
        have r0' : 0 ≤ ex + X - bw := by have := HWH.out; omega
        have r1' : ex + X - bw < W := by have := HWH.out; omega
        go_wp2_with fail
        go_roundg (21 - (k + 1))
        case measure => have := hg.out; omega
        case rel => exact ⟨k + 1, ex + X, bo + q, ex + X - bw, by omega, by omega, by simp, rfl, rfl, by omega, by omega, by omega, by omega, ⟨by rw [← HBQ.out]⟩, G5, P5, HBW, ⟨rfl⟩⟩
      · rcases (by omega : l.length ≤ k ∨ (k < l.length ∧ 20 ≤ k)) with h1 | ⟨h1, h2⟩
        all_goals
          clear hlt
          have HBF := hB
          clear hP hG hrest hB
          go_wp2_with fail
          go_ret
          exact ⟨rfl, HBF.out⟩
end Go.Proofs.Ytliapjhjofmliaa.H
