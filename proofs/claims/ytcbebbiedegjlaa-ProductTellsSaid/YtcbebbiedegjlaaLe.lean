/- Contracts by hand: a product with tiers. -/
import Derived.Test.YtcbebbiedegjlaaLd
namespace Go.Proofs.Ytcbebbiedegjlaa.Pd
open Go.RowKit Go.Proofs.YtcbebbiedegjlaaW.PrintWords Go.Proofs.YtcbebbiedegjlaaW.PrintLast Go.Proofs.YtcbebbiedegjlaaW.PrintMore Go.Proofs.Ytcbebbiedegjlaa.HW
open Pm
set_option linter.unusedVariables false
set_option linter.unusedSimpArgs false
theorem modN (N : Nat) (hN : 0 < N) (x : Int) : ∃ j : Nat, j < N ∧ Int.tmod (IntKind.u64.wrap x) (N : Int) = (j : Int) := by
  have h := Int.emod_nonneg x (show (18446744073709551616 : Int) ≠ 0 by omega)
  have e : IntKind.u64.wrap x = x % 18446744073709551616 := rfl
  rw [e, Int.tmod_eq_emod_of_nonneg h]
  have h2 := Int.emod_nonneg (x % 18446744073709551616) (show (N : Int) ≠ 0 by omega)
  have h3 := Int.emod_lt_of_pos (x % 18446744073709551616) (show (0 : Int) < (N : Int) by omega)
  exact ⟨(x % 18446744073709551616 % (N : Int)).toNat, by omega, by omega⟩
/-- A product with two tiers lies there. -/
structure Lated (w : World) (v : Value) (w' : World) (d1 d2 f cap : Int) (gs : Nat) : Prop where
  v : v = .agg (lateC (.slice (some ⟨gs, 0, none⟩) 2 2) cap)
  b1 : 1 ≤ d1 ∧ d1 ≤ 100
  b2 : d1 + 1 ≤ d2 ∧ d2 ≤ d1 + 100
  bf : 0 ≤ f ∧ f < 10000
  bc : 0 ≤ cap ∧ cap < 50000
  at_ : w'.heap[gs]? = some (.cells #[.int .i64 d1, .int .i64 f, .int .i64 d2, .int .i64 (2 * f)] 34 (0, 0))
  ge : w.heap.size ≤ gs
  below : Below w.heap.size w w'
def LateE (w : World) (e : Ending) (w' : World) : Prop := ∃ d1 d2 f cap gs v, e = .returned v ∧ Lated w v w' d1 d2 f cap gs
set_option maxRecDepth 100000 in
set_option maxHeartbeats 1000000 in
theorem tiered_any (a b fee most : Int) (w : World) : Calls Try.prog 26 #[.int .i64 a, .int .i64 b, .int .i64 fee, .int .i64 most] w (LateE w) := by
  obtain ⟨j1, h1, e1⟩ := modN 100 (by decide) a
  obtain ⟨j2, h2, e2⟩ := modN 100 (by decide) b
  obtain ⟨j3, h3, e3⟩ := modN 10000 (by decide) fee
  obtain ⟨j4, h4, e4⟩ := modN 50000 (by decide) most
  have x1 : IntKind.i64.wrap (Int.tmod (IntKind.u64.wrap a) 100) = (j1 : Int) := by rw [show ((100 : Int)) = ((100 : Nat) : Int) from rfl, e1]; exact IntWalk.i64_in _ (by omega)
  have x2 : IntKind.i64.wrap (Int.tmod (IntKind.u64.wrap b) 100) = (j2 : Int) := by rw [show ((100 : Int)) = ((100 : Nat) : Int) from rfl, e2]; exact IntWalk.i64_in _ (by omega)
  have x3 : IntKind.i64.wrap (Int.tmod (IntKind.u64.wrap fee) 10000) = (j3 : Int) := by rw [show ((10000 : Int)) = ((10000 : Nat) : Int) from rfl, e3]; exact IntWalk.i64_in _ (by omega)
  have x4 : IntKind.i64.wrap (Int.tmod (IntKind.u64.wrap most) 50000) = (j4 : Int) := by rw [show ((50000 : Int)) = ((50000 : Nat) : Int) from rfl, e4]; exact IntWalk.i64_in _ (by omega)
  clear e1 e2 e3 e4
  go_enter Try.func26, Try.ntmps26
  go_wp2_with (first
    | ((with_reducible refine gate_dst (N := 8) rfl ?_); refine box_event ?hg (N := 8) ?hd (cs := pzs) (t := 27) ?hr ?_; (case hd => rfl); (case hg => rfl); (case hr => first | (go_simp; done) | (go_simp; rfl)); intro g1 hg v1 hb1 hbl1; have g1ge := (show w.heap.size ≤ g1 by rw [hg]; exact Nat.le_refl _); clear hg; have HB1 := Aside0.mk hb1; have BL1 := Aside0.mk hbl1; clear hb1 hbl1))
  refine (plain_any _).mono ?_
  rintro e v2 ⟨rfl, hb⟩
  have BL2 := Aside0.mk (below_step BL1.out hb)
  have HB2 := Aside0.mk (blk_below HB1.out hb)
  clear hb
  go_wp2_with (first
    | ((with_reducible refine gate_dst (N := 9) rfl ?_); refine copy_event rfl (N := 9) rfl rfl rfl (t := 27) (v := .tmp 12) rfl (cs := plainC) (zs := pzs) ?hr rfl rfl info_prod ?hz plainC_one ?_; (case hr => first | (go_simp; done) | (go_simp; rfl)); (case hz => rfl); intro g9 hg v3 hb0 hbl0; have g9ge := (show w.heap.size ≤ g9 by rw [hg]; exact BL2.out.size); have gne := (show g1 ≠ g9 by have := blk_lt HB2.out; omega); have H9 := Aside0.mk hb0; have HB3 := Aside0.mk (blk_below HB2.out hbl0); have BL3 := Aside0.mk (below_step BL2.out hbl0); clear hg hb0 hbl0)
    | ((with_reducible refine gate_dst (N := 35) rfl ?_); refine lit_event rfl (N := 35) rfl (cs := #[.int .i64 (1 + (j1 : Int)), .int .i64 j3, .int .i64 (1 + (j1 : Int) + 1 + j2), .int .i64 (2 * (j3 : Int))]) (t := 34) (n := 2) ?hr ?_; (case hr => first | (go_simp; done) | (go_simp; rfl)); intro gs hg v4 hbs hbl; have gsge := (show w.heap.size ≤ gs by rw [hg]; exact BL3.out.size); have S4 := Aside0.mk hbs; have BL4 := Aside0.mk (below_step BL3.out hbl); have I9 := Aside0.mk (blk_below H9.out hbl); have HB4 := Aside0.mk (blk_below HB3.out hbl); have gsne := (show gs ≠ g9 by have := blk_lt H9.out; omega); have gs1 := (show gs ≠ g1 by have := blk_lt HB3.out; omega); have q15 := (blk_cell I9.out 15).trans rfl; have f15 := frozen_of_row v4 g9 15 _ _ I9.out; clear hg hbs hbl)
    | ((with_reducible refine gate_store (t := 24) (p := 36) rfl ?_); refine put_event rfl (t := 24) (p := 36) (v := .tmp 35) rfl rfl (g := g9) (i := 15) (cs := plainC) (cs' := lateC (.slice (some ⟨gs, 0, none⟩) 2 2) 0) (x := .slice (some ⟨gs, 0, none⟩) 2 2) ?hr I9.out rfl ?_; (case hr => first | (go_simp; done) | (go_simp; rfl)); clear q15 f15; intro v5 hb hbut; have J9 := Aside0.mk hb; have BL5 := Aside0.mk (hbut.below BL4.out g9ge BL4.out.size); have S5 := Aside0.mk (hbut.blk S4.out gsne); have HB5 := Aside0.mk (hbut.blk HB4.out gne); have q16 := (blk_cell hb 16).trans rfl; have f16 := frozen_of_row v5 g9 16 _ _ hb; clear hb hbut)
    | ((with_reducible refine gate_store (t := 2) (p := 41) rfl ?_); refine put_event rfl (t := 2) (p := 41) (v := .tmp 40) rfl rfl (g := g9) (i := 16) (cs := lateC (.slice (some ⟨gs, 0, none⟩) 2 2) 0) (cs' := lateC (.slice (some ⟨gs, 0, none⟩) 2 2) j4) (x := .int .i64 j4) ?hr J9.out rfl ?_; (case hr => first | (go_simp; done) | (go_simp; rfl)); clear q16 f16; intro v6 hb hbut; have K9 := Aside0.mk hb; have BL6 := Aside0.mk (hbut.below BL5.out g9ge BL5.out.size); have S6 := Aside0.mk (hbut.blk S5.out gsne); have HB6 := Aside0.mk (hbut.blk HB5.out gne); clear hb hbut)
    | ((with_reducible refine gate_dst (N := 42) rfl ?_); refine wpList_load_row rfl 27 (.tmp 9) rfl g9 rfl 27 _ (0, 0) _ K9.out Try.underlying27 rfl info_prod ?_)
    | ((with_reducible refine gate_store (t := 27) (p := 8) rfl ?_); refine Hid.out ?_))
  refine Lib.hid ?_
  refine wpList_store_row rfl 27 (.tmp 8) (.tmp 42) rfl g1 (lateC (.slice (some ⟨gs, 0, none⟩) 2 2) j4) rfl rfl 27 pzs HB6.out info_prod rfl (by simp [Value.oneCell']) ?_
  have hb2 := setRow_heap v6 g1 _ (lateC (.slice (some ⟨gs, 0, none⟩) 2 2) j4) _ _ HB6.out
  have bl2 := below_setRowP (g := g1) BL6.out g1ge (lateC (.slice (some ⟨gs, 0, none⟩) 2 2) j4)
  have hs2 := (setRow_other v6 g1 gs (lateC (.slice (some ⟨gs, 0, none⟩) 2 2) j4) gs1).trans S6.out
  obtain ⟨v7, hv7⟩ : ∃ v7, v7 = v6.setRow g1 (lateC (.slice (some ⟨gs, 0, none⟩) 2 2) j4) := ⟨_, rfl⟩
  rw [← hv7] at hb2 bl2 hs2 ⊢
  have HB7 := Aside0.mk hb2
  have BL7 := Aside0.mk bl2
  have S7 := Aside0.mk hs2
  clear hv7 hb2 bl2 hs2
  go_frame
  go_wp2_with fail
  exact bodyPost_ret (v := .agg (lateC (.slice (some ⟨gs, 0, none⟩) 2 2) j4)) (results_cell_row (g := g1) Try.results26 _ _ _ _ _ _ rfl HB7.out Try.underlying27 rfl info_prod) rfl ⟨_, _, _, _, gs, _, rfl, ⟨rfl, by omega, by omega, by omega, by omega, S7.out, gsge, BL7.out⟩⟩
end Go.Proofs.Ytcbebbiedegjlaa.Pd
