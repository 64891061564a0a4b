/- The law LatefeeMany, walked. -/
import Derived.Test.YtcbebbiedegjlaaLh
import Derived.Deep.RegionHeld3
namespace Go.Proofs.Ytcbebbiedegjlaa.Pd
open Go.RowKit Go.Proofs.YtcbebbiedegjlaaW.PrintWords Go.Proofs.YtcbebbiedegjlaaW.PrintLast Go.Proofs.YtcbebbiedegjlaaW.PrintMore Go.Proofs.Ytcbebbiedegjlaa.HW
open Pm
set_option linter.unusedVariables false
set_option linter.unusedSimpArgs false
set_option maxRecDepth 100000 in
set_option maxHeartbeats 2000000 in
theorem latefeeMany_walk (a0 a1 a2 a3 a4 : Int) (A5 : Option Addr) (c5 : Nat) (l : List Int) (a6 : Int) (w : World) (w0 : (Lit.int .i64 a0).wf = true) (w1 : (Lit.int .i64 a1).wf = true) (w2 : (Lit.int .i64 a2).wf = true) (w3 : (Lit.int .i64 a3).wf = true) (w4 : (Lit.int .i64 a4).wf = true) (hr5 : Kd.C (Kd.int .i64) w A5 l.length l) (hc5 : l.length ≤ c5) (hn5 : A5 = none → c5 = 0) (y5 : l.length * 8 ≤ 140737488351232) (hw5 : ∀ x ∈ l, (Lit.int .i64 x).wf = true) (w6 : (Lit.int .i64 a6).wf = true) (hgv : GV w) :
    Calls Try.prog 9 #[.int .i64 a0, .int .i64 a1, .int .i64 a2, .int .i64 a3, .int .i64 a4, .slice A5 l.length c5, .int .i64 a6] w fun e w' => e = .returned (.bool true) ∧ Below w.heap.size w w' := by
  have HG := Aside0.mk hgv
  have HR5 := Aside0.mk hr5
  obtain ⟨j, hj, ej⟩ := modN 1000 (by decide) a6
  obtain ⟨sf, hsf, es⟩ := modN 60000 (by decide) a4
  have x1 : IntKind.i64.wrap (Int.tmod (IntKind.u64.wrap a6) 1000) = (j : Int) := by rw [show ((1000 : Int)) = ((1000 : Nat) : Int) from rfl, ej]; exact IntWalk.i64_in _ (by omega)
  have x2 : IntKind.i64.wrap (Int.tmod (IntKind.u64.wrap a4) 60000) = (sf : Int) := by rw [show ((60000 : Int)) = ((60000 : Nat) : Int) from rfl, es]; exact IntWalk.i64_in _ (by omega)
  have l5 : l.length ≤ 17592186043904 := by omega
  clear hgv w0 w1 w2 w3 w4 w6 ej es hr5 hc5 hn5 y5 hw5
  go_enter Try.func9, Try.ntmps9
  go_wp2_with fail
  refine (tiered_any a0 a1 a2 a3 _).mono ?_
  rintro e v1 ⟨d1, d2, f, cap, gs, v, rfl, ⟨rfl, b1, b2, bf, bc, hs, gsge, hb⟩⟩
  have S1 := Aside0.mk hs
  have BL1 := Aside0.mk hb
  have B1 := Aside0.mk b1
  have B2 := Aside0.mk b2
  have BF := Aside0.mk bf
  have BC := Aside0.mk bc
  clear hs hb
  go_wp2_with (first
    | ((with_reducible refine gate_dst (N := 15) rfl ?_); refine copy_event rfl (N := 15) rfl rfl rfl (t := 27) (v := .tmp 27) rfl (cs := lateC (.slice (some ⟨gs, 0, none⟩) 2 2) cap) (zs := pzs) ?hr rfl rfl info_prod ?hz (by simp [Value.oneCell']) ?_; (case hr => first | (go_simp; done) | (go_simp; rfl)); (case hz => rfl); intro g11 hg v2 hb0 hbl0; have g11ge := (show w.heap.size ≤ g11 by rw [hg]; exact BL1.out.size); have H0 := Aside0.mk hb0; have S2 := Aside0.mk (blk_below S1.out hbl0); have BL2 := Aside0.mk (below_step BL1.out hbl0); clear hg hb0 hbl0))
  obtain ⟨day, hday⟩ : ∃ day : Int, 19723 + (j : Int) = day := ⟨_, rfl⟩
  have dy0 : 19723 ≤ day := by omega
  have dy1 : day ≤ 20722 := by omega
  rw [hday]
  clear hday x1 x2 hj
  go_loopg [16, 17, 18] 31 (fun gq lv wv iv w' => ∃ (k : Nat) (want : Int) (rows : List (List Int)), k ≤ 30 ∧ k ≤ l.length ∧ wv = .int .i64 want ∧ iv = .int .i64 k ∧ Aside0 (gq = 31 - k) ∧ Aside0 (Rowed v2 w' lv [[d1, f], [d2, 2 * f]] day want k rows))
  case atStart => exact ⟨0, 0, [], by omega, by omega, rfl, rfl, ⟨rfl⟩, ⟨Rowed.zero _ _ _⟩⟩
  case round =>
    obtain ⟨k, want, rows, k30, kl, rfl, rfl, hgq, HQ⟩ := hrel
    have HB := Aside0.mk (below_step BL2.out HQ.out.below)
    have C0 := Aside0.mk (blk_below H0.out HQ.out.below)
    have S3 := Aside0.mk (blk_below S2.out HQ.out.below)
    obtain ⟨A, c, rfl, hkc, hAc, hrows⟩ := own_rows HQ.out.own HQ.out.len (fun r h => (HQ.out.all r h).four) (fun r h => (HQ.out.all r h).wf (by omega) (by omega))
    have HROWS := Aside0.mk hrows
    have HKC := Aside0.mk hkc
    have HAC := Aside0.mk hAc
    have hwb := wantS_bd (d1 := d1) (d2 := d2) BF.out day rows
    rw [HQ.out.want, HQ.out.len] at hwb
    obtain ⟨want0, want1⟩ := hwb
    clear hkc hAc hrows
    by_cases hlt : k < l.length ∧ k < 30
    · obtain ⟨hlt1, hlt2⟩ := hlt
      obtain ⟨ad, e0, hx0⟩ := Kd.at_int (Kd.C_below HR5.out HB.out) (k : Int) (by omega) (by omega)
      subst e0
      rw [Int.toNat_natCast] at hx0
      obtain ⟨x, hx, ex⟩ := modN 220 (by decide) (rd l (k : Int))
      have x3 : IntKind.i64.wrap (Int.tmod (IntKind.u64.wrap (rd l (k : Int))) 220) = (x : Int) := by rw [show ((220 : Int)) = ((220 : Nat) : Int) from rfl, ex]; exact IntWalk.i64_in _ (by omega)
      obtain ⟨i0, hi, hz0, hz1, hz2⟩ := info_parts info_due4
      have kk0 : (0 : Int) ≤ (k : Int) := by omega
      clear ex
      go_wp2_with (first
        | ((with_reducible refine gate_dst (N := 61) rfl ?_); refine lit_event rfl (N := 61) rfl (cs := #[.int .i64 ((k : Int) + 1), .int .i64 (day - (x : Int)), .int .i64 1, .int .i64 0]) (t := 56) (n := 1) ?hr ?_; (case hr => first | (go_simp; done) | (go_simp; rfl)); intro gd hg v3 hbs hbl3; have D0 := Aside0.mk hbs; have BA := Aside0.mk (below_step HQ.out.below hbl3); have O3 := Aside0.mk (own_below HQ.out.own hbl3); have S4 := Aside0.mk (blk_below S3.out hbl3); have C4 := Aside0.mk (blk_below C0.out hbl3); clear hg hbs hbl3)
        | (at_builtin; refine wpList_append_own _ rfl _ _ 52 rfl v2.heap.size 56 i0 (.agg #[.int .i64 0, .int .i64 0, .int .i64 0, .int .i64 0]) 4 32 Try.underlying52 hi hz0 hz1 hz2 rfl (by decide) _ _ _ rfl O3.out ⟨gd, 0, none⟩ 1 1 [.int .i64 ((k : Int) + 1), .int .i64 (day - (x : Int)), .int .i64 1, .int .i64 0] rfl rfl (news_blk D0.out) ?h1 ?h2 ?h3 BA.out.size ?_; (case h1 => (intro u hu; simp at hu; rcases hu with rfl | rfl | rfl | rfl <;> rfl)); (case h2 => (unfold maxLen; omega)); (case h3 => omega); intro v' v4 hown1 hgrow _; have HM := Aside0.mk (Rowed.more (x := (x : Int)) HQ.out hlt2 (by omega) BA.out hown1 hgrow); clear hown1 hgrow; have C5 := blk_below H0.out HM.out.below; have S5 := blk_below S2.out HM.out.below; have q15 := (blk_cell C5 15).trans rfl; have r0 := (blk_cell S5 0).trans rfl; have r1 := (blk_cell S5 1).trans rfl; have r2 := (blk_cell S5 2).trans rfl; have r3 := (blk_cell S5 3).trans rfl; clear C5 S5))
      have hb1 := B1.out
      have hb2 := B2.out
      have hbf := BF.out
      have xx0 : (0 : Int) ≤ (x : Int) := by omega
      have xx1 : (x : Int) < 220 := by omega
      clear b1 b2 bf bc hi hz0 hz1 hz2 x3 hx0
      have hone : (x : Int) = d1 ∧ look (x : Int) [[d1, f], [d2, 2 * f]] = f ∨ (x : Int) = d2 ∧ look (x : Int) [[d1, f], [d2, 2 * f]] = 2 * f ∨ (¬ (x : Int) = d1 ∧ ¬ (x : Int) = d2) ∧ look (x : Int) [[d1, f], [d2, 2 * f]] = 0 := by
        simp only [look, List.getD_cons_zero, List.getD_cons_succ]
        by_cases e1 : (x : Int) = d1
        · left; rw [if_pos e1.symm]; exact ⟨e1, rfl⟩
        · by_cases e2 : (x : Int) = d2
          · right; left; rw [if_neg (fun h => e1 h.symm), if_pos e2.symm]; exact ⟨e2, rfl⟩
          · right; right; rw [if_neg (fun h => e1 h.symm), if_neg (fun h => e2 h.symm)]; exact ⟨⟨e1, e2⟩, rfl⟩
      rcases hone with ⟨hxx, hl⟩ | ⟨hxx, hl⟩ | ⟨⟨hx1, hx2⟩, hl⟩
      · have HM2 := Aside0.mk (show Rowed v2 v4 v' [[d1, f], [d2, 2 * f]] day (want + f) (k + 1) _ by have h := HM.out; rw [hl] at h; exact h)
        clear hl HM
        refine wp_loop_rounds 3 ?_
        rw [rounds_succ]
        go_wp2_with fail
        rw [rounds_succ]
        go_wp2_with fail
        rw [rounds_succ]
        go_wp2_with fail
        go_roundg (31 - (k + 1))
        case measure => have := hgq.out; omega
        case rel => exact ⟨k + 1, want + f, _, by omega, by omega, by simp, by simp, ⟨rfl⟩, HM2⟩
      · have HM2 := Aside0.mk (show Rowed v2 v4 v' [[d1, f], [d2, 2 * f]] day (want + 2 * f) (k + 1) _ by have h := HM.out; rw [hl] at h; exact h)
        clear hl HM
        refine wp_loop_rounds 3 ?_
        rw [rounds_succ]
        go_wp2_with fail
        rw [rounds_succ]
        go_wp2_with fail
        rw [rounds_succ]
        go_wp2_with fail
        go_roundg (31 - (k + 1))
        case measure => have := hgq.out; omega
        case rel => exact ⟨k + 1, want + 2 * f, _, by omega, by omega, by simp, by simp, ⟨rfl⟩, HM2⟩
      · have HM2 := Aside0.mk (show Rowed v2 v4 v' [[d1, f], [d2, 2 * f]] day want (k + 1) _ by have h := HM.out; rw [hl, Int.add_zero] at h; exact h)
        clear hl HM
        refine wp_loop_rounds 3 ?_
        rw [rounds_succ]
        go_wp2_with fail
        rw [rounds_succ]
        go_wp2_with fail
        rw [rounds_succ]
        go_wp2_with fail
        go_roundg (31 - (k + 1))
        case measure => have := hgq.out; omega
        case rel => exact ⟨k + 1, want, _, by omega, by omega, by simp, by simp, ⟨rfl⟩, HM2⟩
    · have HON := Aside0.mk (many_on B1.out B2.out BF.out BC.out (show (0 : Int) ≤ (sf : Int) by omega) (show (sf : Int) < 60000 by omega) rows (fun r h => (HQ.out.all r h).le))
      have hon := HON.out
      rw [HQ.out.want] at hon
      have HO2 := Aside0.mk hon
      clear hon HON b1 b2 bf bc
      rcases (by omega : l.length ≤ k ∨ (k < l.length ∧ 30 ≤ k)) with h1 | ⟨h1, h2⟩
      all_goals
        clear hlt
        go_wp2_with ((with_reducible refine gate_dst (N := 86) rfl ?_); refine wpList_load_row rfl 27 (.tmp 15) rfl g11 rfl 27 _ (0, 0) _ C0.out Try.underlying27 rfl info_prod ?_)
        refine (on_late [[d1, f], [d2, 2 * f]] cap (some ⟨gs, 0, none⟩) 2 2 rfl A c k rows HQ.out.len day sf _ (HG.out.below HB.out) (rows_two S3.out ?_ ?_ ?_ ?_) (Nat.le_refl _) (fun h => by cases h) (by simp) HROWS.out (by have := HQ.out.len; omega) ?_ _ HO2.out).mono ?_
        · have := B1.out; exact wf_of (by omega) (by omega)
        · have := BF.out; exact wf_of (by omega) (by omega)
        · have := B1.out; have := B2.out; exact wf_of (by omega) (by omega)
        · have := BF.out; exact wf_of (by omega) (by omega)
        · exact wf_of (by omega) (by omega)
        rintro e v5 ⟨rfl, hb⟩
        have X1 := Aside0.mk (below_step HB.out hb)
        have C5 := Aside0.mk (blk_below C0.out hb)
        clear hb
        go_wp2_with fail
        refine (late_awake _ (HG.out.below X1.out)).mono ?_
        rintro e v6 ⟨rfl, hb⟩
        have X2 := Aside0.mk (below_step X1.out hb)
        have C6 := blk_below C5.out hb
        have q16 := (blk_cell C6 16).trans rfl
        have c0 := BC.out
        clear hb C6
        go_wp2_with fail
        go_ret
        exact ⟨by simp, X2.out⟩
end Go.Proofs.Ytcbebbiedegjlaa.Pd
