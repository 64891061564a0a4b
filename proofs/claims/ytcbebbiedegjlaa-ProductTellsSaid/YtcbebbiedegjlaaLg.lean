/- The law LatefeeOnce, walked. -/
import Derived.Test.YtcbebbiedegjlaaLf
import Derived.Deep.RegionHeld3
namespace Go.Proofs.Ytcbebbiedegjlaa.Pd
open Go.RowKit Go.Proofs.YtcbebbiedegjlaaW.PrintWords Go.Proofs.YtcbebbiedegjlaaW.PrintLast Go.Proofs.YtcbebbiedegjlaaW.PrintMore Go.Proofs.Ytcbebbiedegjlaa.HW
open Pm
set_option linter.unusedVariables false
set_option linter.unusedSimpArgs false
theorem below_refl_of {B : Nat} {w w1 : World} (_h : Below B w w1) : Below w1.heap.size w1 w1 := Below.refl _ _
set_option maxRecDepth 100000 in
set_option maxHeartbeats 2000000 in
theorem latefeeOnce_walk (a0 a1 a2 a3 a4 : Int) (w : World) (w0 : (Lit.int .i64 a0).wf = true) (w1 : (Lit.int .i64 a1).wf = true) (w2 : (Lit.int .i64 a2).wf = true) (w3 : (Lit.int .i64 a3).wf = true) (w4 : (Lit.int .i64 a4).wf = true) (hgv : GV w) :
    Calls Try.prog 8 #[.int .i64 a0, .int .i64 a1, .int .i64 a2, .int .i64 a3, .int .i64 a4] w fun e w' => e = .returned (.bool true) ∧ Below w.heap.size w w' := by
  have HG := Aside0.mk hgv
  obtain ⟨j, hj, ej⟩ := modN 1000 (by decide) a4
  have x1 : IntKind.i64.wrap (Int.tmod (IntKind.u64.wrap a4) 1000) = (j : Int) := by rw [show ((1000 : Int)) = ((1000 : Nat) : Int) from rfl, ej]; exact IntWalk.i64_in _ (by omega)
  clear hgv w0 w1 w2 w3 w4 ej
  go_enter Try.func8, Try.ntmps8
  go_wp2_with fail
  refine (tiered_any a0 a1 a2 a3 _).mono ?_
  rintro e v1 ⟨d1, d2, f, cap, gs, v, rfl, ⟨rfl, b1, b2, bf, bc, hs, gsge, hb⟩⟩
  have S1 := Aside0.mk hs
  have BL1 := Aside0.mk hb
  have B1 := Aside0.mk b1
  have B2 := Aside0.mk b2
  have BF := Aside0.mk bf
  have BC := Aside0.mk bc
  clear hs hb
  go_wp2_with (first
    | ((with_reducible refine gate_dst (N := 11) rfl ?_); refine copy_event rfl (N := 11) rfl rfl rfl (t := 27) (v := .tmp 21) rfl (cs := lateC (.slice (some ⟨gs, 0, none⟩) 2 2) cap) (zs := pzs) ?hr rfl rfl info_prod ?hz (by simp [Value.oneCell']) ?_; (case hr => first | (go_simp; done) | (go_simp; rfl)); (case hz => rfl); intro g11 hg v2 hb0 hbl0; have g11ge := (show w.heap.size ≤ g11 by rw [hg]; exact BL1.out.size); have H0 := Aside0.mk hb0; have S2 := Aside0.mk (blk_below S1.out hbl0); have BL2 := Aside0.mk (below_step BL1.out hbl0); clear hg hb0 hbl0))
  obtain ⟨day, hday⟩ : ∃ day : Int, 19723 + (j : Int) = day := ⟨_, rfl⟩
  have dy0 : 19723 ≤ day := by omega
  have dy1 : day ≤ 20722 := by omega
  rw [hday]
  clear hday x1 hj
  go_loopg [12, 13, 14] 251 (fun gq sv tv dv w' => ∃ (k : Nat) (s t : Int), k ≤ 250 ∧ sv = .int .i64 s ∧ tv = .int .i64 t ∧ dv = .int .i64 (day + (k : Int)) ∧ Aside0 (gq = 251 - k) ∧ Aside0 (Inv d1 d2 f cap k s t) ∧ Aside0 (Below v2.heap.size v2 w'))
  case atStart => exact ⟨0, 0, 0, Nat.zero_le _, rfl, rfl, by simp, ⟨rfl⟩, ⟨inv_zero B1.out B2.out⟩, ⟨Below.refl _ _⟩⟩
  case round =>
    obtain ⟨k, s, t, hk, rfl, rfl, rfl, hgq, hq, hbl⟩ := hrel
    have HB := Aside0.mk (below_step BL2.out hbl.out)
    have R0 := Aside0.mk (below_refl_of hbl.out)
    have C0 := Aside0.mk (blk_below H0.out hbl.out)
    have S3 := Aside0.mk (blk_below S2.out hbl.out)
    obtain ⟨v, hv, hcase, hs, ht⟩ := one_day B1.out B2.out BF.out BC.out day hq.out
    have HV := Aside0.mk hv
    have HCS := Aside0.mk hcase
    clear hv hcase b1 b2 bf bc
    obtain ⟨hs0, hs1⟩ := hs
    obtain ⟨ht0, ht1⟩ := ht
    by_cases hlt : k < 250
    · have kk0 : (0 : Int) ≤ (k : Int) := by omega
      have kk1 : (k : Int) < 250 := by omega
      have hk2 := blk_lt C0.out
      have hk3 := blk_lt S3.out
      go_wp2_with (first
        | ((with_reducible refine gate_dst (N := 35) rfl ?_); refine wpList_load_row rfl 27 (.tmp 11) rfl g11 rfl 27 _ (0, 0) _ C0.out Try.underlying27 rfl info_prod ?_)
        | ((with_reducible refine gate_dst (N := 38) rfl ?_); refine lit_event rfl (N := 38) rfl (cs := #[.int .i64 1, .int .i64 day, .int .i64 5, .int .i64 0]) (t := 56) (n := 1) ?hr ?_; (case hr => first | (go_simp; done) | (go_simp; rfl)); intro gd hg v3 hbs hbl3; have D0 := Aside0.mk hbs; have BA := Aside0.mk (below_step hbl.out hbl3); have S4 := Aside0.mk (blk_below S3.out hbl3); have C4 := Aside0.mk (blk_below C0.out hbl3); clear hg hbs hbl3))
      refine (on_late [[d1, f], [d2, 2 * f]] cap (some ⟨gs, 0, none⟩) 2 2 rfl (some ⟨gd, 0, none⟩) 1 1 [[1, day, 5, 0]] rfl (day + (k : Int)) s _ (HG.out.below (below_step BL2.out BA.out)) (rows_two S4.out ?_ ?_ ?_ ?_) (Nat.le_refl _) (fun h => by cases h) (by simp) (rows_blk [[1, day, 5, 0]] D0.out (by simp) ?_) (by simp) ?_ (v, 0) HV.out).mono ?_
      · have := B1.out; exact wf_of (by omega) (by omega)
      · have := BF.out; exact wf_of (by omega) (by omega)
      · have := B1.out; have := B2.out; exact wf_of (by omega) (by omega)
      · have := BF.out; exact wf_of (by omega) (by omega)
      · intro r hr x hx
        obtain rfl : r = [1, day, 5, 0] := by simpa using hr
        simp at hx
        rcases hx with rfl | rfl | rfl | rfl <;> exact wf_of (by omega) (by omega)
      · exact wf_of (by omega) (by omega)
      rintro e v4 ⟨rfl, hb⟩
      have BE := Aside0.mk (below_step BA.out hb)
      have C5 := Aside0.mk (blk_below C4.out hb)
      have S5 := Aside0.mk (blk_below S4.out hb)
      clear hb
      have q15 := (blk_cell C5.out 15).trans rfl
      have r0 := (blk_cell S5.out 0).trans rfl
      have r2 := (blk_cell S5.out 2).trans rfl
      rcases HCS.out with ⟨rfl, hi⟩ | ⟨v0, v1, hkk, hi⟩
      · have HI := Aside0.mk hi
        clear hi HCS
        go_wp2_with fail
        go_roundg (251 - (k + 1))
        case measure => have := hgq.out; omega
        case rel => exact ⟨k + 1, s, t, by omega, by simp, by simp, by simp; omega, ⟨rfl⟩, HI, BE⟩
      · have HI := Aside0.mk hi
        have hk1 := B1.out
        have hk2 := B2.out
        clear hi HCS
        rcases hkk with hkk | hkk
        · have e1 : decide (day + (k : Int) = day + d1) = true := decide_eq_true (by omega)
          go_wp2_with fail
          go_roundg (251 - (k + 1))
          case measure => have := hgq.out; omega
          case rel => exact ⟨k + 1, s + v, t + 1, by omega, by simp, by simp, by simp; omega, ⟨rfl⟩, HI, BE⟩
        · have e1 : decide (day + (k : Int) = day + d2) = true := decide_eq_true (by omega)
          go_wp2_with fail
          go_roundg (251 - (k + 1))
          case measure => have := hgq.out; omega
          case rel => exact ⟨k + 1, s + v, t + 1, by omega, by simp, by simp, by simp; omega, ⟨rfl⟩, HI, BE⟩
    · obtain rfl : k = 250 := by omega
      have hi := hq.out.2.2 (by have := B1.out; have := B2.out; show d2 < ((250 : Nat) : Int); omega)
      obtain ⟨hse, -, -⟩ := hi
      have e2 : min cap (f + 2 * f) = s := by have := BF.out; omega
      have e4 : IntKind.i64.wrap (f + 2 * f) = f + 2 * f := IntWalk.i64_in _ (by have := BF.out; omega)
      have e5 : (s == min cap (IntKind.i64.wrap (f + 2 * f))) = true := by rw [e4, e2]; exact beq_self_eq_true s
      have E5 := Aside0.mk e5
      clear e5
      have e3 : decide (t ≤ 2) = true := decide_eq_true ht1
      have c0 := BC.out
      have f0 := BF.out
      clear hse hq HCS HV
      go_wp2_with fail
      have q15 := (blk_cell C0.out 15).trans rfl
      have q16 := (blk_cell C0.out 16).trans rfl
      have r1 := (blk_cell S3.out 1).trans rfl
      have r3 := (blk_cell S3.out 3).trans rfl
      go_region_held3 (fun W => W.cell? ⟨g11, 15, none⟩ = some (.slice (some ⟨gs, 0, none⟩) 2 2) ∧ W.cell? ⟨g11, 16, none⟩ = some (.int .i64 cap) ∧ W.cell? ⟨gs, 1, none⟩ = some (.int .i64 f) ∧ W.cell? ⟨gs, 3, none⟩ = some (.int .i64 (2 * f))) (first | exact ⟨q15, q16, r1, r3⟩ | go_keep) ((go_at_call 25; refine (late_awake _ (HG.out.below (by first | exact pw_below_drewN HB.out _ | exact Below.drew HB.out | exact HB.out))).mono ?_; rintro e v5 ⟨rfl, hb⟩; have X5 := Aside0.mk (below_step (by first | exact pw_below_drewN HB.out _ | exact Below.drew HB.out | exact HB.out) hb); have Z5 := below_step (by first | exact pw_below_drewN R0.out _ | exact Below.drew R0.out | exact R0.out) hb; have C5 := blk_below C0.out Z5; have S5 := blk_below S3.out Z5; have q15 := (blk_cell C5 15).trans rfl; have q16 := (blk_cell C5 16).trans rfl; have r1 := (blk_cell S5 1).trans rfl; have r3 := (blk_cell S5 3).trans rfl; clear hb Z5 C5 S5))
      all_goals
        go_wp2_with fail
        go_ret
        exact ⟨by first | rfl | rw [E5.out] | (rw [← e4, E5.out]), by first | exact X5.out | exact Below.drew X5.out | exact pw_below_drewN X5.out _⟩
end Go.Proofs.Ytcbebbiedegjlaa.Pd
