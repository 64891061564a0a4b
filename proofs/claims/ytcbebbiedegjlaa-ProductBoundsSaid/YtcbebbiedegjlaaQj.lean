/- The law ProductBounds, walked. -/
import Derived.Test.YtcbebbiedegjlaaQg
import Derived.Lib.Hide
namespace Go.Proofs.Ytcbebbiedegjlaa.Pd
open Go.RowKit Go.Proofs.YtcbebbiedegjlaaW.PrintWords Go.Proofs.YtcbebbiedegjlaaW.PrintLast Go.Proofs.YtcbebbiedegjlaaW.PrintMore Go.Proofs.Ytcbebbiedegjlaa.HW
open Pm
set_option linter.unusedVariables false
set_option linter.unusedSimpArgs false
theorem check_late (p : Prod) (g : Nat) (d x : Int) (hl : p.late = [[d, x]]) (h1 : p.resets = []) (h3 : p.hol = []) (w : World) (hg : GV w) (hb : w.heap[g]? = some (.cells #[.int .i64 d, .int .i64 x] 34 (0, 0))) (wd : (Lit.int .i64 d).wf = true) (wx : (Lit.int .i64 x).wf = true) (hn : p.name.size ≤ 1000) (r : Int) (he : err p = r) :
    Calls Try.prog 15 #[pv p none 0 (some ⟨g, 0, none⟩) 1 none 0] w fun e w' => e = .returned (.int .i64 r) ∧ Below w.heap.size w w' := by
  have hp : ProdAt w p none 0 (some ⟨g, 0, none⟩) 1 none 0 := by
    refine ⟨by rw [h1]; exact nilRows w, by rw [h1]; exact Nat.le_refl _, fun _ => rfl, by rw [hl]; exact rows_one hb wd wx, by rw [hl]; exact Nat.le_refl _, fun h => by (cases h), ?_, by rw [h3]; exact Nat.le_refl _, fun _ => rfl⟩
    rw [h3]; exact Kd.C_nil _ w
  have h := check_any p none 0 (some ⟨g, 0, none⟩) 1 none 0 w hg hp ⟨by omega, by rw [h1]; exact Nat.zero_le _, by rw [hl]; show 1 ≤ 1000000; omega, by rw [h3]; exact Nat.zero_le _⟩
  rw [he] at h
  exact h
theorem eql_ten (x : Int) : ∃ i : Nat, i < 10 ∧ Int.tmod (IntKind.u64.wrap x) 10 = (i : Int) := by
  have h := Int.emod_nonneg x (show (18446744073709551616 : Int) ≠ 0 by omega)
  have e : IntKind.u64.wrap x = x % 18446744073709551616 := rfl
  rw [e, Int.tmod_eq_emod_of_nonneg h]
  exact ⟨(x % 18446744073709551616 % 10).toNat, by omega, by omega⟩

theorem bd_0_1_1 : err { plainP with late := [[5, 5]], count := 4, kind := 1, times := 12, grace := 0, rate := 60000000, penalty := 100000000, over := 1, cap := 0, roll := 1 } = 9 := by decide +kernel
theorem bd_0_1_0 : err { plainP with late := [[5, 5]], count := 3, kind := 1, times := 12, grace := 0, rate := 60000000, penalty := 100000000, over := 1, cap := 0, roll := 1 } = 0 := by decide +kernel
theorem bd_0_0_1 : err { plainP with late := [[5, 5]], count := 0, kind := 1, times := 12, grace := 0, rate := 60000000, penalty := 100000000, over := 1, cap := 0, roll := 1 } = 9 := by decide +kernel
theorem bd_0_0_0 : err { plainP with late := [[5, 5]], count := 1, kind := 1, times := 12, grace := 0, rate := 60000000, penalty := 100000000, over := 1, cap := 0, roll := 1 } = 0 := by decide +kernel
theorem bd_1_1_1 : err { plainP with late := [[5, 5]], count := 2, kind := 4, times := 12, grace := 0, rate := 60000000, penalty := 100000000, over := 1, cap := 0, roll := 1 } = 9 := by decide +kernel
theorem bd_1_1_0 : err { plainP with late := [[5, 5]], count := 2, kind := 3, times := 12, grace := 0, rate := 60000000, penalty := 100000000, over := 1, cap := 0, roll := 1 } = 0 := by decide +kernel
theorem bd_1_0_1 : err { plainP with late := [[5, 5]], count := 2, kind := 0, times := 12, grace := 0, rate := 60000000, penalty := 100000000, over := 1, cap := 0, roll := 1 } = 9 := by decide +kernel
theorem bd_1_0_0 : err { plainP with late := [[5, 5]], count := 2, kind := 1, times := 12, grace := 0, rate := 60000000, penalty := 100000000, over := 1, cap := 0, roll := 1 } = 0 := by decide +kernel
theorem bd_2_1_1 : err { plainP with late := [[5, 5]], count := 2, kind := 1, times := 601, grace := 0, rate := 60000000, penalty := 100000000, over := 1, cap := 0, roll := 1 } = 9 := by decide +kernel
theorem bd_2_1_0 : err { plainP with late := [[5, 5]], count := 2, kind := 1, times := 600, grace := 0, rate := 60000000, penalty := 100000000, over := 1, cap := 0, roll := 1 } = 0 := by decide +kernel
theorem bd_2_0_1 : err { plainP with late := [[5, 5]], count := 2, kind := 1, times := 0, grace := 0, rate := 60000000, penalty := 100000000, over := 1, cap := 0, roll := 1 } = 9 := by decide +kernel
theorem bd_2_0_0 : err { plainP with late := [[5, 5]], count := 2, kind := 1, times := 1, grace := 0, rate := 60000000, penalty := 100000000, over := 1, cap := 0, roll := 1 } = 0 := by decide +kernel
theorem bd_3_1_1 : err { plainP with late := [[5, 5]], count := 2, kind := 1, times := 12, grace := 12, rate := 60000000, penalty := 100000000, over := 1, cap := 0, roll := 1 } = 9 := by decide +kernel
theorem bd_3_1_0 : err { plainP with late := [[5, 5]], count := 2, kind := 1, times := 12, grace := 11, rate := 60000000, penalty := 100000000, over := 1, cap := 0, roll := 1 } = 0 := by decide +kernel
theorem bd_3_0_1 : err { plainP with late := [[5, 5]], count := 2, kind := 1, times := 12, grace := (-1), rate := 60000000, penalty := 100000000, over := 1, cap := 0, roll := 1 } = 9 := by decide +kernel
theorem bd_3_0_0 : err { plainP with late := [[5, 5]], count := 2, kind := 1, times := 12, grace := 0, rate := 60000000, penalty := 100000000, over := 1, cap := 0, roll := 1 } = 0 := by decide +kernel
theorem bd_4_1_1 : err { plainP with late := [[5, 5]], count := 2, kind := 1, times := 12, grace := 0, rate := 1000000001, penalty := 100000000, over := 1, cap := 0, roll := 1 } = 9 := by decide +kernel
theorem bd_4_1_0 : err { plainP with late := [[5, 5]], count := 2, kind := 1, times := 12, grace := 0, rate := 1000000000, penalty := 100000000, over := 1, cap := 0, roll := 1 } = 0 := by decide +kernel
theorem bd_4_0_1 : err { plainP with late := [[5, 5]], count := 2, kind := 1, times := 12, grace := 0, rate := (-1), penalty := 100000000, over := 1, cap := 0, roll := 1 } = 9 := by decide +kernel
theorem bd_4_0_0 : err { plainP with late := [[5, 5]], count := 2, kind := 1, times := 12, grace := 0, rate := 0, penalty := 100000000, over := 1, cap := 0, roll := 1 } = 0 := by decide +kernel
theorem bd_5_1_1 : err { plainP with late := [[5, 5]], count := 2, kind := 1, times := 12, grace := 0, rate := 60000000, penalty := 1000000001, over := 1, cap := 0, roll := 1 } = 9 := by decide +kernel
theorem bd_5_1_0 : err { plainP with late := [[5, 5]], count := 2, kind := 1, times := 12, grace := 0, rate := 60000000, penalty := 1000000000, over := 1, cap := 0, roll := 1 } = 0 := by decide +kernel
theorem bd_5_0_1 : err { plainP with late := [[5, 5]], count := 2, kind := 1, times := 12, grace := 0, rate := 60000000, penalty := (-1), over := 1, cap := 0, roll := 1 } = 9 := by decide +kernel
theorem bd_5_0_0 : err { plainP with late := [[5, 5]], count := 2, kind := 1, times := 12, grace := 0, rate := 60000000, penalty := 0, over := 1, cap := 0, roll := 1 } = 0 := by decide +kernel
theorem bd_6_1_1 : err { plainP with late := [[5, 5]], count := 2, kind := 1, times := 12, grace := 0, rate := 60000000, penalty := 100000000, over := 4, cap := 0, roll := 1 } = 9 := by decide +kernel
theorem bd_6_1_0 : err { plainP with late := [[5, 5]], count := 2, kind := 1, times := 12, grace := 0, rate := 60000000, penalty := 100000000, over := 3, cap := 0, roll := 1 } = 0 := by decide +kernel
theorem bd_6_0_1 : err { plainP with late := [[5, 5]], count := 2, kind := 1, times := 12, grace := 0, rate := 60000000, penalty := 100000000, over := 0, cap := 0, roll := 1 } = 9 := by decide +kernel
theorem bd_6_0_0 : err { plainP with late := [[5, 5]], count := 2, kind := 1, times := 12, grace := 0, rate := 60000000, penalty := 100000000, over := 1, cap := 0, roll := 1 } = 0 := by decide +kernel
theorem bd_7_1_1 : err { plainP with late := [[5, 5]], count := 2, kind := 1, times := 12, grace := 0, rate := 60000000, penalty := 100000000, over := 1, cap := 10000000000001, roll := 1 } = 9 := by decide +kernel
theorem bd_7_1_0 : err { plainP with late := [[5, 5]], count := 2, kind := 1, times := 12, grace := 0, rate := 60000000, penalty := 100000000, over := 1, cap := 10000000000000, roll := 1 } = 0 := by decide +kernel
theorem bd_7_0_1 : err { plainP with late := [[5, 5]], count := 2, kind := 1, times := 12, grace := 0, rate := 60000000, penalty := 100000000, over := 1, cap := (-1), roll := 1 } = 9 := by decide +kernel
theorem bd_7_0_0 : err { plainP with late := [[5, 5]], count := 2, kind := 1, times := 12, grace := 0, rate := 60000000, penalty := 100000000, over := 1, cap := 0, roll := 1 } = 0 := by decide +kernel
theorem bd_8_1_1 : err { plainP with late := [[5, 5]], count := 2, kind := 1, times := 12, grace := 0, rate := 60000000, penalty := 100000000, over := 1, cap := 0, roll := 5 } = 9 := by decide +kernel
theorem bd_8_1_0 : err { plainP with late := [[5, 5]], count := 2, kind := 1, times := 12, grace := 0, rate := 60000000, penalty := 100000000, over := 1, cap := 0, roll := 4 } = 0 := by decide +kernel
theorem bd_8_0_1 : err { plainP with late := [[5, 5]], count := 2, kind := 1, times := 12, grace := 0, rate := 60000000, penalty := 100000000, over := 1, cap := 0, roll := 0 } = 9 := by decide +kernel
theorem bd_8_0_0 : err { plainP with late := [[5, 5]], count := 2, kind := 1, times := 12, grace := 0, rate := 60000000, penalty := 100000000, over := 1, cap := 0, roll := 1 } = 0 := by decide +kernel
theorem bd_9_1_1 : err { plainP with late := [[366, 5]], count := 2, kind := 1, times := 12, grace := 0, rate := 60000000, penalty := 100000000, over := 1, cap := 0, roll := 1 } = 9 := by decide +kernel
theorem bd_9_1_0 : err { plainP with late := [[365, 5]], count := 2, kind := 1, times := 12, grace := 0, rate := 60000000, penalty := 100000000, over := 1, cap := 0, roll := 1 } = 0 := by decide +kernel
theorem bd_9_0_1 : err { plainP with late := [[0, 5]], count := 2, kind := 1, times := 12, grace := 0, rate := 60000000, penalty := 100000000, over := 1, cap := 0, roll := 1 } = 9 := by decide +kernel
theorem bd_9_0_0 : err { plainP with late := [[1, 5]], count := 2, kind := 1, times := 12, grace := 0, rate := 60000000, penalty := 100000000, over := 1, cap := 0, roll := 1 } = 0 := by decide +kernel

set_option maxRecDepth 100000 in
set_option maxHeartbeats 8000000 in
theorem productBounds_walk (a0 : Int) (a1 a2 : Bool) (w : World) (w0 : (Lit.int .i64 a0).wf = true) (hgv : GV w) :
    Calls Try.prog 4 #[.int .i64 a0, .bool a1, .bool a2] w fun e w' => e = .returned (.bool true) ∧ Below w.heap.size w w' := by
  have HG := Aside0.mk hgv
  obtain ⟨j, hj, ej⟩ := eql_ten a0
  have EJ := Aside0.mk ej
  clear hgv w0 ej
  go_enter Try.func4, Try.ntmps4
  go_wp2_with fail
  refine (plain_any _).mono ?_
  rintro e v1 ⟨rfl, hb⟩
  have B1 := Aside0.mk hb
  clear hb
  go_wp2_with (first
    | ((with_reducible refine gate_dst (N := 7) rfl ?_); refine copy_event rfl (N := 7) rfl rfl rfl (t := 27) (v := .tmp 12) rfl (cs := plainC) (zs := pzs) ?hr rfl rfl info_prod ?hz plainC_one ?_; (case hr => first | (go_simp; done) | (go_simp; rfl)); (case hz => rfl); intro g7 hg v2 hb0 hbl0; have g7ge := (show w.heap.size ≤ g7 by rw [hg]; exact B1.out.size); have H0 := Aside0.mk hb0; have B2 := Aside0.mk (below_step B1.out hbl0); clear hg hb0 hbl0)
    | ((with_reducible refine gate_dst (N := 14) rfl ?_); refine lit_event rfl (N := 14) rfl (cs := #[.int .i64 5, .int .i64 5]) (t := 34) (n := 1) ?hr ?_; (case hr => first | (go_simp; done) | (go_simp; rfl)); intro gs hg v3 hbs hbl; have gsge := (show w.heap.size ≤ gs by rw [hg]; exact B2.out.size); have S0 := Aside0.mk hbs; have B3 := Aside0.mk (below_step B2.out hbl); have H1 := Aside0.mk (blk_below H0.out hbl); have h07 := blk_lt H0.out; have gsne : gs ≠ g7 := (by omega); have q15 := (blk_cell H1.out 15).trans rfl; have f15 := frozen_of_row v3 g7 15 _ _ H1.out; clear hg hbs hbl h07)
    | ((with_reducible refine gate_store (t := 24) (p := 15) rfl ?_); refine put_event rfl (t := 24) (p := 15) (v := .tmp 14) rfl rfl (g := g7) (i := 15) (cs := plainC) (cs' := #[.string ⟨#[104, 111, 109, 101]⟩, .int .i64 2, .int .i64 1, .int .i64 1, .int .i64 1, .int .i64 12, .int .i64 0, .int .i64 60000000, .slice none 0 0, .int .i64 100000000, .int .i64 1, .int .i64 2, .int .i64 3, .int .i64 4, .int .i64 1, .slice (some ⟨gs, 0, none⟩) 1 1, .int .i64 0, .int .i64 1, .slice none 0 0]) (x := .slice (some ⟨gs, 0, none⟩) 1 1) ?hr H1.out rfl ?_; (case hr => first | (go_simp; done) | (go_simp; rfl)); clear q15 f15; intro v8 hb hbut; have H7 := Aside0.mk hb; have B8 := Aside0.mk (hbut.below B3.out g7ge B3.out.size); have HS := Aside0.mk (hbut.blk S0.out gsne); have q15 := (blk_cell hb 15).trans rfl; have f15 := frozen_of_row v8 g7 15 _ _ hb; clear hb hbut)
    | ((with_reducible refine gate_dst (N := 21) rfl ?_); refine Hid.out ?_))
  refine Lib.hid ?_
  have ej := EJ.out
  rw [ej]
  clear ej EJ B1 B2 B3 H0 H1 S0
  rcases (by omega : j = 0 ∨ j = 1 ∨ j = 2 ∨ j = 3 ∨ j = 4 ∨ j = 5 ∨ j = 6 ∨ j = 7 ∨ j = 8 ∨ j = 9) with rfl | rfl | rfl | rfl | rfl | rfl | rfl | rfl | rfl | rfl

  · cases a1 <;> cases a2
    · have cq := (blk_cell H7.out 1).trans rfl
      have fq := frozen_of_row v8 g7 1 _ _ H7.out
      go_wp2_with (first
      | ((with_reducible refine gate_store (t := 3) (p := 57) rfl ?_); refine put_event rfl (t := 3) (p := 57) (v := .tmp 56) rfl rfl (g := g7) (i := 1) (cs := #[.string ⟨#[104, 111, 109, 101]⟩, .int .i64 2, .int .i64 1, .int .i64 1, .int .i64 1, .int .i64 12, .int .i64 0, .int .i64 60000000, .slice none 0 0, .int .i64 100000000, .int .i64 1, .int .i64 2, .int .i64 3, .int .i64 4, .int .i64 1, .slice (some ⟨gs, 0, none⟩) 1 1, .int .i64 0, .int .i64 1, .slice none 0 0]) (cs' := #[.string ⟨#[104, 111, 109, 101]⟩, .int .i64 1, .int .i64 1, .int .i64 1, .int .i64 1, .int .i64 12, .int .i64 0, .int .i64 60000000, .slice none 0 0, .int .i64 100000000, .int .i64 1, .int .i64 2, .int .i64 3, .int .i64 4, .int .i64 1, .slice (some ⟨gs, 0, none⟩) 1 1, .int .i64 0, .int .i64 1, .slice none 0 0]) (x := .int .i64 1) ?hr H7.out rfl ?_; (case hr => first | (go_simp; done) | (go_simp; rfl)); clear q15 f15 cq fq; intro v9 hb hbut; have K7 := Aside0.mk hb; have B9 := Aside0.mk (hbut.below B8.out g7ge B8.out.size); have KS := Aside0.mk (hbut.blk HS.out gsne); clear hb hbut))
      refine (prod_awake _ (HG.out.below B9.out)).mono ?_
      rintro e x1 ⟨rfl, hb⟩
      have X1 := Aside0.mk (below_step B9.out hb)
      have Y7 := Aside0.mk (blk_below K7.out hb)
      have YS := Aside0.mk (blk_below KS.out hb)
      clear hb
      go_wp2_with ((with_reducible refine gate_dst (N := 92) rfl ?_); refine load_want rfl 27 (.tmp 7) rfl g7 rfl 27 _ (0, 0) _ Y7.out Try.underlying27 rfl info_prod ?_)
      refine (check_late { plainP with late := [[5, 5]], count := 1, kind := 1, times := 12, grace := 0, rate := 60000000, penalty := 100000000, over := 1, cap := 0, roll := 1 } gs _ _ rfl rfl rfl _ (HG.out.below X1.out) YS.out rfl rfl (by decide) _ bd_0_0_0).mono ?_
      rintro e x2 ⟨rfl, hb⟩
      have X2 := Aside0.mk (below_step X1.out hb)
      clear hb
      go_wp2_with fail
      go_ret
      exact ⟨rfl, X2.out⟩
    · have cq := (blk_cell H7.out 1).trans rfl
      have fq := frozen_of_row v8 g7 1 _ _ H7.out
      go_wp2_with (first
      | ((with_reducible refine gate_store (t := 3) (p := 57) rfl ?_); refine put_event rfl (t := 3) (p := 57) (v := .tmp 56) rfl rfl (g := g7) (i := 1) (cs := #[.string ⟨#[104, 111, 109, 101]⟩, .int .i64 2, .int .i64 1, .int .i64 1, .int .i64 1, .int .i64 12, .int .i64 0, .int .i64 60000000, .slice none 0 0, .int .i64 100000000, .int .i64 1, .int .i64 2, .int .i64 3, .int .i64 4, .int .i64 1, .slice (some ⟨gs, 0, none⟩) 1 1, .int .i64 0, .int .i64 1, .slice none 0 0]) (cs' := #[.string ⟨#[104, 111, 109, 101]⟩, .int .i64 0, .int .i64 1, .int .i64 1, .int .i64 1, .int .i64 12, .int .i64 0, .int .i64 60000000, .slice none 0 0, .int .i64 100000000, .int .i64 1, .int .i64 2, .int .i64 3, .int .i64 4, .int .i64 1, .slice (some ⟨gs, 0, none⟩) 1 1, .int .i64 0, .int .i64 1, .slice none 0 0]) (x := .int .i64 0) ?hr H7.out rfl ?_; (case hr => first | (go_simp; done) | (go_simp; rfl)); clear q15 f15 cq fq; intro v9 hb hbut; have K7 := Aside0.mk hb; have B9 := Aside0.mk (hbut.below B8.out g7ge B8.out.size); have KS := Aside0.mk (hbut.blk HS.out gsne); clear hb hbut))
      refine (prod_awake _ (HG.out.below B9.out)).mono ?_
      rintro e x1 ⟨rfl, hb⟩
      have X1 := Aside0.mk (below_step B9.out hb)
      have Y7 := Aside0.mk (blk_below K7.out hb)
      have YS := Aside0.mk (blk_below KS.out hb)
      clear hb
      go_wp2_with ((with_reducible refine gate_dst (N := 92) rfl ?_); refine load_want rfl 27 (.tmp 7) rfl g7 rfl 27 _ (0, 0) _ Y7.out Try.underlying27 rfl info_prod ?_)
      refine (check_late { plainP with late := [[5, 5]], count := 0, kind := 1, times := 12, grace := 0, rate := 60000000, penalty := 100000000, over := 1, cap := 0, roll := 1 } gs _ _ rfl rfl rfl _ (HG.out.below X1.out) YS.out rfl rfl (by decide) _ bd_0_0_1).mono ?_
      rintro e x2 ⟨rfl, hb⟩
      have X2 := Aside0.mk (below_step X1.out hb)
      clear hb
      go_wp2_with fail
      go_ret
      exact ⟨rfl, X2.out⟩
    · have cq := (blk_cell H7.out 1).trans rfl
      have fq := frozen_of_row v8 g7 1 _ _ H7.out
      go_wp2_with (first
      | ((with_reducible refine gate_store (t := 3) (p := 57) rfl ?_); refine put_event rfl (t := 3) (p := 57) (v := .tmp 56) rfl rfl (g := g7) (i := 1) (cs := #[.string ⟨#[104, 111, 109, 101]⟩, .int .i64 2, .int .i64 1, .int .i64 1, .int .i64 1, .int .i64 12, .int .i64 0, .int .i64 60000000, .slice none 0 0, .int .i64 100000000, .int .i64 1, .int .i64 2, .int .i64 3, .int .i64 4, .int .i64 1, .slice (some ⟨gs, 0, none⟩) 1 1, .int .i64 0, .int .i64 1, .slice none 0 0]) (cs' := #[.string ⟨#[104, 111, 109, 101]⟩, .int .i64 3, .int .i64 1, .int .i64 1, .int .i64 1, .int .i64 12, .int .i64 0, .int .i64 60000000, .slice none 0 0, .int .i64 100000000, .int .i64 1, .int .i64 2, .int .i64 3, .int .i64 4, .int .i64 1, .slice (some ⟨gs, 0, none⟩) 1 1, .int .i64 0, .int .i64 1, .slice none 0 0]) (x := .int .i64 3) ?hr H7.out rfl ?_; (case hr => first | (go_simp; done) | (go_simp; rfl)); clear q15 f15 cq fq; intro v9 hb hbut; have K7 := Aside0.mk hb; have B9 := Aside0.mk (hbut.below B8.out g7ge B8.out.size); have KS := Aside0.mk (hbut.blk HS.out gsne); clear hb hbut))
      refine (prod_awake _ (HG.out.below B9.out)).mono ?_
      rintro e x1 ⟨rfl, hb⟩
      have X1 := Aside0.mk (below_step B9.out hb)
      have Y7 := Aside0.mk (blk_below K7.out hb)
      have YS := Aside0.mk (blk_below KS.out hb)
      clear hb
      go_wp2_with ((with_reducible refine gate_dst (N := 92) rfl ?_); refine load_want rfl 27 (.tmp 7) rfl g7 rfl 27 _ (0, 0) _ Y7.out Try.underlying27 rfl info_prod ?_)
      refine (check_late { plainP with late := [[5, 5]], count := 3, kind := 1, times := 12, grace := 0, rate := 60000000, penalty := 100000000, over := 1, cap := 0, roll := 1 } gs _ _ rfl rfl rfl _ (HG.out.below X1.out) YS.out rfl rfl (by decide) _ bd_0_1_0).mono ?_
      rintro e x2 ⟨rfl, hb⟩
      have X2 := Aside0.mk (below_step X1.out hb)
      clear hb
      go_wp2_with fail
      go_ret
      exact ⟨rfl, X2.out⟩
    · have cq := (blk_cell H7.out 1).trans rfl
      have fq := frozen_of_row v8 g7 1 _ _ H7.out
      go_wp2_with (first
      | ((with_reducible refine gate_store (t := 3) (p := 57) rfl ?_); refine put_event rfl (t := 3) (p := 57) (v := .tmp 56) rfl rfl (g := g7) (i := 1) (cs := #[.string ⟨#[104, 111, 109, 101]⟩, .int .i64 2, .int .i64 1, .int .i64 1, .int .i64 1, .int .i64 12, .int .i64 0, .int .i64 60000000, .slice none 0 0, .int .i64 100000000, .int .i64 1, .int .i64 2, .int .i64 3, .int .i64 4, .int .i64 1, .slice (some ⟨gs, 0, none⟩) 1 1, .int .i64 0, .int .i64 1, .slice none 0 0]) (cs' := #[.string ⟨#[104, 111, 109, 101]⟩, .int .i64 4, .int .i64 1, .int .i64 1, .int .i64 1, .int .i64 12, .int .i64 0, .int .i64 60000000, .slice none 0 0, .int .i64 100000000, .int .i64 1, .int .i64 2, .int .i64 3, .int .i64 4, .int .i64 1, .slice (some ⟨gs, 0, none⟩) 1 1, .int .i64 0, .int .i64 1, .slice none 0 0]) (x := .int .i64 4) ?hr H7.out rfl ?_; (case hr => first | (go_simp; done) | (go_simp; rfl)); clear q15 f15 cq fq; intro v9 hb hbut; have K7 := Aside0.mk hb; have B9 := Aside0.mk (hbut.below B8.out g7ge B8.out.size); have KS := Aside0.mk (hbut.blk HS.out gsne); clear hb hbut))
      refine (prod_awake _ (HG.out.below B9.out)).mono ?_
      rintro e x1 ⟨rfl, hb⟩
      have X1 := Aside0.mk (below_step B9.out hb)
      have Y7 := Aside0.mk (blk_below K7.out hb)
      have YS := Aside0.mk (blk_below KS.out hb)
      clear hb
      go_wp2_with ((with_reducible refine gate_dst (N := 92) rfl ?_); refine load_want rfl 27 (.tmp 7) rfl g7 rfl 27 _ (0, 0) _ Y7.out Try.underlying27 rfl info_prod ?_)
      refine (check_late { plainP with late := [[5, 5]], count := 4, kind := 1, times := 12, grace := 0, rate := 60000000, penalty := 100000000, over := 1, cap := 0, roll := 1 } gs _ _ rfl rfl rfl _ (HG.out.below X1.out) YS.out rfl rfl (by decide) _ bd_0_1_1).mono ?_
      rintro e x2 ⟨rfl, hb⟩
      have X2 := Aside0.mk (below_step X1.out hb)
      clear hb
      go_wp2_with fail
      go_ret
      exact ⟨rfl, X2.out⟩
  · cases a1 <;> cases a2
    · have cq := (blk_cell H7.out 3).trans rfl
      have fq := frozen_of_row v8 g7 3 _ _ H7.out
      go_wp2_with (first
      | ((with_reducible refine gate_store (t := 3) (p := 61) rfl ?_); refine put_event rfl (t := 3) (p := 61) (v := .tmp 60) rfl rfl (g := g7) (i := 3) (cs := #[.string ⟨#[104, 111, 109, 101]⟩, .int .i64 2, .int .i64 1, .int .i64 1, .int .i64 1, .int .i64 12, .int .i64 0, .int .i64 60000000, .slice none 0 0, .int .i64 100000000, .int .i64 1, .int .i64 2, .int .i64 3, .int .i64 4, .int .i64 1, .slice (some ⟨gs, 0, none⟩) 1 1, .int .i64 0, .int .i64 1, .slice none 0 0]) (cs' := #[.string ⟨#[104, 111, 109, 101]⟩, .int .i64 2, .int .i64 1, .int .i64 1, .int .i64 1, .int .i64 12, .int .i64 0, .int .i64 60000000, .slice none 0 0, .int .i64 100000000, .int .i64 1, .int .i64 2, .int .i64 3, .int .i64 4, .int .i64 1, .slice (some ⟨gs, 0, none⟩) 1 1, .int .i64 0, .int .i64 1, .slice none 0 0]) (x := .int .i64 1) ?hr H7.out rfl ?_; (case hr => first | (go_simp; done) | (go_simp; rfl)); clear q15 f15 cq fq; intro v9 hb hbut; have K7 := Aside0.mk hb; have B9 := Aside0.mk (hbut.below B8.out g7ge B8.out.size); have KS := Aside0.mk (hbut.blk HS.out gsne); clear hb hbut))
      refine (prod_awake _ (HG.out.below B9.out)).mono ?_
      rintro e x1 ⟨rfl, hb⟩
      have X1 := Aside0.mk (below_step B9.out hb)
      have Y7 := Aside0.mk (blk_below K7.out hb)
      have YS := Aside0.mk (blk_below KS.out hb)
      clear hb
      go_wp2_with ((with_reducible refine gate_dst (N := 92) rfl ?_); refine load_want rfl 27 (.tmp 7) rfl g7 rfl 27 _ (0, 0) _ Y7.out Try.underlying27 rfl info_prod ?_)
      refine (check_late { plainP with late := [[5, 5]], count := 2, kind := 1, times := 12, grace := 0, rate := 60000000, penalty := 100000000, over := 1, cap := 0, roll := 1 } gs _ _ rfl rfl rfl _ (HG.out.below X1.out) YS.out rfl rfl (by decide) _ bd_1_0_0).mono ?_
      rintro e x2 ⟨rfl, hb⟩
      have X2 := Aside0.mk (below_step X1.out hb)
      clear hb
      go_wp2_with fail
      go_ret
      exact ⟨rfl, X2.out⟩
    · have cq := (blk_cell H7.out 3).trans rfl
      have fq := frozen_of_row v8 g7 3 _ _ H7.out
      go_wp2_with (first
      | ((with_reducible refine gate_store (t := 3) (p := 61) rfl ?_); refine put_event rfl (t := 3) (p := 61) (v := .tmp 60) rfl rfl (g := g7) (i := 3) (cs := #[.string ⟨#[104, 111, 109, 101]⟩, .int .i64 2, .int .i64 1, .int .i64 1, .int .i64 1, .int .i64 12, .int .i64 0, .int .i64 60000000, .slice none 0 0, .int .i64 100000000, .int .i64 1, .int .i64 2, .int .i64 3, .int .i64 4, .int .i64 1, .slice (some ⟨gs, 0, none⟩) 1 1, .int .i64 0, .int .i64 1, .slice none 0 0]) (cs' := #[.string ⟨#[104, 111, 109, 101]⟩, .int .i64 2, .int .i64 1, .int .i64 0, .int .i64 1, .int .i64 12, .int .i64 0, .int .i64 60000000, .slice none 0 0, .int .i64 100000000, .int .i64 1, .int .i64 2, .int .i64 3, .int .i64 4, .int .i64 1, .slice (some ⟨gs, 0, none⟩) 1 1, .int .i64 0, .int .i64 1, .slice none 0 0]) (x := .int .i64 0) ?hr H7.out rfl ?_; (case hr => first | (go_simp; done) | (go_simp; rfl)); clear q15 f15 cq fq; intro v9 hb hbut; have K7 := Aside0.mk hb; have B9 := Aside0.mk (hbut.below B8.out g7ge B8.out.size); have KS := Aside0.mk (hbut.blk HS.out gsne); clear hb hbut))
      refine (prod_awake _ (HG.out.below B9.out)).mono ?_
      rintro e x1 ⟨rfl, hb⟩
      have X1 := Aside0.mk (below_step B9.out hb)
      have Y7 := Aside0.mk (blk_below K7.out hb)
      have YS := Aside0.mk (blk_below KS.out hb)
      clear hb
      go_wp2_with ((with_reducible refine gate_dst (N := 92) rfl ?_); refine load_want rfl 27 (.tmp 7) rfl g7 rfl 27 _ (0, 0) _ Y7.out Try.underlying27 rfl info_prod ?_)
      refine (check_late { plainP with late := [[5, 5]], count := 2, kind := 0, times := 12, grace := 0, rate := 60000000, penalty := 100000000, over := 1, cap := 0, roll := 1 } gs _ _ rfl rfl rfl _ (HG.out.below X1.out) YS.out rfl rfl (by decide) _ bd_1_0_1).mono ?_
      rintro e x2 ⟨rfl, hb⟩
      have X2 := Aside0.mk (below_step X1.out hb)
      clear hb
      go_wp2_with fail
      go_ret
      exact ⟨rfl, X2.out⟩
    · have cq := (blk_cell H7.out 3).trans rfl
      have fq := frozen_of_row v8 g7 3 _ _ H7.out
      go_wp2_with (first
      | ((with_reducible refine gate_store (t := 3) (p := 61) rfl ?_); refine put_event rfl (t := 3) (p := 61) (v := .tmp 60) rfl rfl (g := g7) (i := 3) (cs := #[.string ⟨#[104, 111, 109, 101]⟩, .int .i64 2, .int .i64 1, .int .i64 1, .int .i64 1, .int .i64 12, .int .i64 0, .int .i64 60000000, .slice none 0 0, .int .i64 100000000, .int .i64 1, .int .i64 2, .int .i64 3, .int .i64 4, .int .i64 1, .slice (some ⟨gs, 0, none⟩) 1 1, .int .i64 0, .int .i64 1, .slice none 0 0]) (cs' := #[.string ⟨#[104, 111, 109, 101]⟩, .int .i64 2, .int .i64 1, .int .i64 3, .int .i64 1, .int .i64 12, .int .i64 0, .int .i64 60000000, .slice none 0 0, .int .i64 100000000, .int .i64 1, .int .i64 2, .int .i64 3, .int .i64 4, .int .i64 1, .slice (some ⟨gs, 0, none⟩) 1 1, .int .i64 0, .int .i64 1, .slice none 0 0]) (x := .int .i64 3) ?hr H7.out rfl ?_; (case hr => first | (go_simp; done) | (go_simp; rfl)); clear q15 f15 cq fq; intro v9 hb hbut; have K7 := Aside0.mk hb; have B9 := Aside0.mk (hbut.below B8.out g7ge B8.out.size); have KS := Aside0.mk (hbut.blk HS.out gsne); clear hb hbut))
      refine (prod_awake _ (HG.out.below B9.out)).mono ?_
      rintro e x1 ⟨rfl, hb⟩
      have X1 := Aside0.mk (below_step B9.out hb)
      have Y7 := Aside0.mk (blk_below K7.out hb)
      have YS := Aside0.mk (blk_below KS.out hb)
      clear hb
      go_wp2_with ((with_reducible refine gate_dst (N := 92) rfl ?_); refine load_want rfl 27 (.tmp 7) rfl g7 rfl 27 _ (0, 0) _ Y7.out Try.underlying27 rfl info_prod ?_)
      refine (check_late { plainP with late := [[5, 5]], count := 2, kind := 3, times := 12, grace := 0, rate := 60000000, penalty := 100000000, over := 1, cap := 0, roll := 1 } gs _ _ rfl rfl rfl _ (HG.out.below X1.out) YS.out rfl rfl (by decide) _ bd_1_1_0).mono ?_
      rintro e x2 ⟨rfl, hb⟩
      have X2 := Aside0.mk (below_step X1.out hb)
      clear hb
      go_wp2_with fail
      go_ret
      exact ⟨rfl, X2.out⟩
    · have cq := (blk_cell H7.out 3).trans rfl
      have fq := frozen_of_row v8 g7 3 _ _ H7.out
      go_wp2_with (first
      | ((with_reducible refine gate_store (t := 3) (p := 61) rfl ?_); refine put_event rfl (t := 3) (p := 61) (v := .tmp 60) rfl rfl (g := g7) (i := 3) (cs := #[.string ⟨#[104, 111, 109, 101]⟩, .int .i64 2, .int .i64 1, .int .i64 1, .int .i64 1, .int .i64 12, .int .i64 0, .int .i64 60000000, .slice none 0 0, .int .i64 100000000, .int .i64 1, .int .i64 2, .int .i64 3, .int .i64 4, .int .i64 1, .slice (some ⟨gs, 0, none⟩) 1 1, .int .i64 0, .int .i64 1, .slice none 0 0]) (cs' := #[.string ⟨#[104, 111, 109, 101]⟩, .int .i64 2, .int .i64 1, .int .i64 4, .int .i64 1, .int .i64 12, .int .i64 0, .int .i64 60000000, .slice none 0 0, .int .i64 100000000, .int .i64 1, .int .i64 2, .int .i64 3, .int .i64 4, .int .i64 1, .slice (some ⟨gs, 0, none⟩) 1 1, .int .i64 0, .int .i64 1, .slice none 0 0]) (x := .int .i64 4) ?hr H7.out rfl ?_; (case hr => first | (go_simp; done) | (go_simp; rfl)); clear q15 f15 cq fq; intro v9 hb hbut; have K7 := Aside0.mk hb; have B9 := Aside0.mk (hbut.below B8.out g7ge B8.out.size); have KS := Aside0.mk (hbut.blk HS.out gsne); clear hb hbut))
      refine (prod_awake _ (HG.out.below B9.out)).mono ?_
      rintro e x1 ⟨rfl, hb⟩
      have X1 := Aside0.mk (below_step B9.out hb)
      have Y7 := Aside0.mk (blk_below K7.out hb)
      have YS := Aside0.mk (blk_below KS.out hb)
      clear hb
      go_wp2_with ((with_reducible refine gate_dst (N := 92) rfl ?_); refine load_want rfl 27 (.tmp 7) rfl g7 rfl 27 _ (0, 0) _ Y7.out Try.underlying27 rfl info_prod ?_)
      refine (check_late { plainP with late := [[5, 5]], count := 2, kind := 4, times := 12, grace := 0, rate := 60000000, penalty := 100000000, over := 1, cap := 0, roll := 1 } gs _ _ rfl rfl rfl _ (HG.out.below X1.out) YS.out rfl rfl (by decide) _ bd_1_1_1).mono ?_
      rintro e x2 ⟨rfl, hb⟩
      have X2 := Aside0.mk (below_step X1.out hb)
      clear hb
      go_wp2_with fail
      go_ret
      exact ⟨rfl, X2.out⟩
  · cases a1 <;> cases a2
    · have cq := (blk_cell H7.out 5).trans rfl
      have fq := frozen_of_row v8 g7 5 _ _ H7.out
      go_wp2_with (first
      | ((with_reducible refine gate_store (t := 3) (p := 65) rfl ?_); refine put_event rfl (t := 3) (p := 65) (v := .tmp 64) rfl rfl (g := g7) (i := 5) (cs := #[.string ⟨#[104, 111, 109, 101]⟩, .int .i64 2, .int .i64 1, .int .i64 1, .int .i64 1, .int .i64 12, .int .i64 0, .int .i64 60000000, .slice none 0 0, .int .i64 100000000, .int .i64 1, .int .i64 2, .int .i64 3, .int .i64 4, .int .i64 1, .slice (some ⟨gs, 0, none⟩) 1 1, .int .i64 0, .int .i64 1, .slice none 0 0]) (cs' := #[.string ⟨#[104, 111, 109, 101]⟩, .int .i64 2, .int .i64 1, .int .i64 1, .int .i64 1, .int .i64 1, .int .i64 0, .int .i64 60000000, .slice none 0 0, .int .i64 100000000, .int .i64 1, .int .i64 2, .int .i64 3, .int .i64 4, .int .i64 1, .slice (some ⟨gs, 0, none⟩) 1 1, .int .i64 0, .int .i64 1, .slice none 0 0]) (x := .int .i64 1) ?hr H7.out rfl ?_; (case hr => first | (go_simp; done) | (go_simp; rfl)); clear q15 f15 cq fq; intro v9 hb hbut; have K7 := Aside0.mk hb; have B9 := Aside0.mk (hbut.below B8.out g7ge B8.out.size); have KS := Aside0.mk (hbut.blk HS.out gsne); clear hb hbut))
      refine (prod_awake _ (HG.out.below B9.out)).mono ?_
      rintro e x1 ⟨rfl, hb⟩
      have X1 := Aside0.mk (below_step B9.out hb)
      have Y7 := Aside0.mk (blk_below K7.out hb)
      have YS := Aside0.mk (blk_below KS.out hb)
      clear hb
      go_wp2_with ((with_reducible refine gate_dst (N := 92) rfl ?_); refine load_want rfl 27 (.tmp 7) rfl g7 rfl 27 _ (0, 0) _ Y7.out Try.underlying27 rfl info_prod ?_)
      refine (check_late { plainP with late := [[5, 5]], count := 2, kind := 1, times := 1, grace := 0, rate := 60000000, penalty := 100000000, over := 1, cap := 0, roll := 1 } gs _ _ rfl rfl rfl _ (HG.out.below X1.out) YS.out rfl rfl (by decide) _ bd_2_0_0).mono ?_
      rintro e x2 ⟨rfl, hb⟩
      have X2 := Aside0.mk (below_step X1.out hb)
      clear hb
      go_wp2_with fail
      go_ret
      exact ⟨rfl, X2.out⟩
    · have cq := (blk_cell H7.out 5).trans rfl
      have fq := frozen_of_row v8 g7 5 _ _ H7.out
      go_wp2_with (first
      | ((with_reducible refine gate_store (t := 3) (p := 65) rfl ?_); refine put_event rfl (t := 3) (p := 65) (v := .tmp 64) rfl rfl (g := g7) (i := 5) (cs := #[.string ⟨#[104, 111, 109, 101]⟩, .int .i64 2, .int .i64 1, .int .i64 1, .int .i64 1, .int .i64 12, .int .i64 0, .int .i64 60000000, .slice none 0 0, .int .i64 100000000, .int .i64 1, .int .i64 2, .int .i64 3, .int .i64 4, .int .i64 1, .slice (some ⟨gs, 0, none⟩) 1 1, .int .i64 0, .int .i64 1, .slice none 0 0]) (cs' := #[.string ⟨#[104, 111, 109, 101]⟩, .int .i64 2, .int .i64 1, .int .i64 1, .int .i64 1, .int .i64 0, .int .i64 0, .int .i64 60000000, .slice none 0 0, .int .i64 100000000, .int .i64 1, .int .i64 2, .int .i64 3, .int .i64 4, .int .i64 1, .slice (some ⟨gs, 0, none⟩) 1 1, .int .i64 0, .int .i64 1, .slice none 0 0]) (x := .int .i64 0) ?hr H7.out rfl ?_; (case hr => first | (go_simp; done) | (go_simp; rfl)); clear q15 f15 cq fq; intro v9 hb hbut; have K7 := Aside0.mk hb; have B9 := Aside0.mk (hbut.below B8.out g7ge B8.out.size); have KS := Aside0.mk (hbut.blk HS.out gsne); clear hb hbut))
      refine (prod_awake _ (HG.out.below B9.out)).mono ?_
      rintro e x1 ⟨rfl, hb⟩
      have X1 := Aside0.mk (below_step B9.out hb)
      have Y7 := Aside0.mk (blk_below K7.out hb)
      have YS := Aside0.mk (blk_below KS.out hb)
      clear hb
      go_wp2_with ((with_reducible refine gate_dst (N := 92) rfl ?_); refine load_want rfl 27 (.tmp 7) rfl g7 rfl 27 _ (0, 0) _ Y7.out Try.underlying27 rfl info_prod ?_)
      refine (check_late { plainP with late := [[5, 5]], count := 2, kind := 1, times := 0, grace := 0, rate := 60000000, penalty := 100000000, over := 1, cap := 0, roll := 1 } gs _ _ rfl rfl rfl _ (HG.out.below X1.out) YS.out rfl rfl (by decide) _ bd_2_0_1).mono ?_
      rintro e x2 ⟨rfl, hb⟩
      have X2 := Aside0.mk (below_step X1.out hb)
      clear hb
      go_wp2_with fail
      go_ret
      exact ⟨rfl, X2.out⟩
    · have cq := (blk_cell H7.out 5).trans rfl
      have fq := frozen_of_row v8 g7 5 _ _ H7.out
      go_wp2_with (first
      | ((with_reducible refine gate_store (t := 3) (p := 65) rfl ?_); refine put_event rfl (t := 3) (p := 65) (v := .tmp 64) rfl rfl (g := g7) (i := 5) (cs := #[.string ⟨#[104, 111, 109, 101]⟩, .int .i64 2, .int .i64 1, .int .i64 1, .int .i64 1, .int .i64 12, .int .i64 0, .int .i64 60000000, .slice none 0 0, .int .i64 100000000, .int .i64 1, .int .i64 2, .int .i64 3, .int .i64 4, .int .i64 1, .slice (some ⟨gs, 0, none⟩) 1 1, .int .i64 0, .int .i64 1, .slice none 0 0]) (cs' := #[.string ⟨#[104, 111, 109, 101]⟩, .int .i64 2, .int .i64 1, .int .i64 1, .int .i64 1, .int .i64 600, .int .i64 0, .int .i64 60000000, .slice none 0 0, .int .i64 100000000, .int .i64 1, .int .i64 2, .int .i64 3, .int .i64 4, .int .i64 1, .slice (some ⟨gs, 0, none⟩) 1 1, .int .i64 0, .int .i64 1, .slice none 0 0]) (x := .int .i64 600) ?hr H7.out rfl ?_; (case hr => first | (go_simp; done) | (go_simp; rfl)); clear q15 f15 cq fq; intro v9 hb hbut; have K7 := Aside0.mk hb; have B9 := Aside0.mk (hbut.below B8.out g7ge B8.out.size); have KS := Aside0.mk (hbut.blk HS.out gsne); clear hb hbut))
      refine (prod_awake _ (HG.out.below B9.out)).mono ?_
      rintro e x1 ⟨rfl, hb⟩
      have X1 := Aside0.mk (below_step B9.out hb)
      have Y7 := Aside0.mk (blk_below K7.out hb)
      have YS := Aside0.mk (blk_below KS.out hb)
      clear hb
      go_wp2_with ((with_reducible refine gate_dst (N := 92) rfl ?_); refine load_want rfl 27 (.tmp 7) rfl g7 rfl 27 _ (0, 0) _ Y7.out Try.underlying27 rfl info_prod ?_)
      refine (check_late { plainP with late := [[5, 5]], count := 2, kind := 1, times := 600, grace := 0, rate := 60000000, penalty := 100000000, over := 1, cap := 0, roll := 1 } gs _ _ rfl rfl rfl _ (HG.out.below X1.out) YS.out rfl rfl (by decide) _ bd_2_1_0).mono ?_
      rintro e x2 ⟨rfl, hb⟩
      have X2 := Aside0.mk (below_step X1.out hb)
      clear hb
      go_wp2_with fail
      go_ret
      exact ⟨rfl, X2.out⟩
    · have cq := (blk_cell H7.out 5).trans rfl
      have fq := frozen_of_row v8 g7 5 _ _ H7.out
      go_wp2_with (first
      | ((with_reducible refine gate_store (t := 3) (p := 65) rfl ?_); refine put_event rfl (t := 3) (p := 65) (v := .tmp 64) rfl rfl (g := g7) (i := 5) (cs := #[.string ⟨#[104, 111, 109, 101]⟩, .int .i64 2, .int .i64 1, .int .i64 1, .int .i64 1, .int .i64 12, .int .i64 0, .int .i64 60000000, .slice none 0 0, .int .i64 100000000, .int .i64 1, .int .i64 2, .int .i64 3, .int .i64 4, .int .i64 1, .slice (some ⟨gs, 0, none⟩) 1 1, .int .i64 0, .int .i64 1, .slice none 0 0]) (cs' := #[.string ⟨#[104, 111, 109, 101]⟩, .int .i64 2, .int .i64 1, .int .i64 1, .int .i64 1, .int .i64 601, .int .i64 0, .int .i64 60000000, .slice none 0 0, .int .i64 100000000, .int .i64 1, .int .i64 2, .int .i64 3, .int .i64 4, .int .i64 1, .slice (some ⟨gs, 0, none⟩) 1 1, .int .i64 0, .int .i64 1, .slice none 0 0]) (x := .int .i64 601) ?hr H7.out rfl ?_; (case hr => first | (go_simp; done) | (go_simp; rfl)); clear q15 f15 cq fq; intro v9 hb hbut; have K7 := Aside0.mk hb; have B9 := Aside0.mk (hbut.below B8.out g7ge B8.out.size); have KS := Aside0.mk (hbut.blk HS.out gsne); clear hb hbut))
      refine (prod_awake _ (HG.out.below B9.out)).mono ?_
      rintro e x1 ⟨rfl, hb⟩
      have X1 := Aside0.mk (below_step B9.out hb)
      have Y7 := Aside0.mk (blk_below K7.out hb)
      have YS := Aside0.mk (blk_below KS.out hb)
      clear hb
      go_wp2_with ((with_reducible refine gate_dst (N := 92) rfl ?_); refine load_want rfl 27 (.tmp 7) rfl g7 rfl 27 _ (0, 0) _ Y7.out Try.underlying27 rfl info_prod ?_)
      refine (check_late { plainP with late := [[5, 5]], count := 2, kind := 1, times := 601, grace := 0, rate := 60000000, penalty := 100000000, over := 1, cap := 0, roll := 1 } gs _ _ rfl rfl rfl _ (HG.out.below X1.out) YS.out rfl rfl (by decide) _ bd_2_1_1).mono ?_
      rintro e x2 ⟨rfl, hb⟩
      have X2 := Aside0.mk (below_step X1.out hb)
      clear hb
      go_wp2_with fail
      go_ret
      exact ⟨rfl, X2.out⟩
  · cases a1 <;> cases a2
    · have cq := (blk_cell H7.out 6).trans rfl
      have fq := frozen_of_row v8 g7 6 _ _ H7.out
      go_wp2_with (first
      | ((with_reducible refine gate_store (t := 3) (p := 69) rfl ?_); refine put_event rfl (t := 3) (p := 69) (v := .tmp 68) rfl rfl (g := g7) (i := 6) (cs := #[.string ⟨#[104, 111, 109, 101]⟩, .int .i64 2, .int .i64 1, .int .i64 1, .int .i64 1, .int .i64 12, .int .i64 0, .int .i64 60000000, .slice none 0 0, .int .i64 100000000, .int .i64 1, .int .i64 2, .int .i64 3, .int .i64 4, .int .i64 1, .slice (some ⟨gs, 0, none⟩) 1 1, .int .i64 0, .int .i64 1, .slice none 0 0]) (cs' := #[.string ⟨#[104, 111, 109, 101]⟩, .int .i64 2, .int .i64 1, .int .i64 1, .int .i64 1, .int .i64 12, .int .i64 0, .int .i64 60000000, .slice none 0 0, .int .i64 100000000, .int .i64 1, .int .i64 2, .int .i64 3, .int .i64 4, .int .i64 1, .slice (some ⟨gs, 0, none⟩) 1 1, .int .i64 0, .int .i64 1, .slice none 0 0]) (x := .int .i64 0) ?hr H7.out rfl ?_; (case hr => first | (go_simp; done) | (go_simp; rfl)); clear q15 f15 cq fq; intro v9 hb hbut; have K7 := Aside0.mk hb; have B9 := Aside0.mk (hbut.below B8.out g7ge B8.out.size); have KS := Aside0.mk (hbut.blk HS.out gsne); clear hb hbut))
      refine (prod_awake _ (HG.out.below B9.out)).mono ?_
      rintro e x1 ⟨rfl, hb⟩
      have X1 := Aside0.mk (below_step B9.out hb)
      have Y7 := Aside0.mk (blk_below K7.out hb)
      have YS := Aside0.mk (blk_below KS.out hb)
      clear hb
      go_wp2_with ((with_reducible refine gate_dst (N := 92) rfl ?_); refine load_want rfl 27 (.tmp 7) rfl g7 rfl 27 _ (0, 0) _ Y7.out Try.underlying27 rfl info_prod ?_)
      refine (check_late { plainP with late := [[5, 5]], count := 2, kind := 1, times := 12, grace := 0, rate := 60000000, penalty := 100000000, over := 1, cap := 0, roll := 1 } gs _ _ rfl rfl rfl _ (HG.out.below X1.out) YS.out rfl rfl (by decide) _ bd_3_0_0).mono ?_
      rintro e x2 ⟨rfl, hb⟩
      have X2 := Aside0.mk (below_step X1.out hb)
      clear hb
      go_wp2_with fail
      go_ret
      exact ⟨rfl, X2.out⟩
    · have cq := (blk_cell H7.out 6).trans rfl
      have fq := frozen_of_row v8 g7 6 _ _ H7.out
      go_wp2_with (first
      | ((with_reducible refine gate_store (t := 3) (p := 69) rfl ?_); refine put_event rfl (t := 3) (p := 69) (v := .tmp 68) rfl rfl (g := g7) (i := 6) (cs := #[.string ⟨#[104, 111, 109, 101]⟩, .int .i64 2, .int .i64 1, .int .i64 1, .int .i64 1, .int .i64 12, .int .i64 0, .int .i64 60000000, .slice none 0 0, .int .i64 100000000, .int .i64 1, .int .i64 2, .int .i64 3, .int .i64 4, .int .i64 1, .slice (some ⟨gs, 0, none⟩) 1 1, .int .i64 0, .int .i64 1, .slice none 0 0]) (cs' := #[.string ⟨#[104, 111, 109, 101]⟩, .int .i64 2, .int .i64 1, .int .i64 1, .int .i64 1, .int .i64 12, .int .i64 (-1), .int .i64 60000000, .slice none 0 0, .int .i64 100000000, .int .i64 1, .int .i64 2, .int .i64 3, .int .i64 4, .int .i64 1, .slice (some ⟨gs, 0, none⟩) 1 1, .int .i64 0, .int .i64 1, .slice none 0 0]) (x := .int .i64 (-1)) ?hr H7.out rfl ?_; (case hr => first | (go_simp; done) | (go_simp; rfl)); clear q15 f15 cq fq; intro v9 hb hbut; have K7 := Aside0.mk hb; have B9 := Aside0.mk (hbut.below B8.out g7ge B8.out.size); have KS := Aside0.mk (hbut.blk HS.out gsne); clear hb hbut))
      refine (prod_awake _ (HG.out.below B9.out)).mono ?_
      rintro e x1 ⟨rfl, hb⟩
      have X1 := Aside0.mk (below_step B9.out hb)
      have Y7 := Aside0.mk (blk_below K7.out hb)
      have YS := Aside0.mk (blk_below KS.out hb)
      clear hb
      go_wp2_with ((with_reducible refine gate_dst (N := 92) rfl ?_); refine load_want rfl 27 (.tmp 7) rfl g7 rfl 27 _ (0, 0) _ Y7.out Try.underlying27 rfl info_prod ?_)
      refine (check_late { plainP with late := [[5, 5]], count := 2, kind := 1, times := 12, grace := (-1), rate := 60000000, penalty := 100000000, over := 1, cap := 0, roll := 1 } gs _ _ rfl rfl rfl _ (HG.out.below X1.out) YS.out rfl rfl (by decide) _ bd_3_0_1).mono ?_
      rintro e x2 ⟨rfl, hb⟩
      have X2 := Aside0.mk (below_step X1.out hb)
      clear hb
      go_wp2_with fail
      go_ret
      exact ⟨rfl, X2.out⟩
    · have cq := (blk_cell H7.out 6).trans rfl
      have fq := frozen_of_row v8 g7 6 _ _ H7.out
      go_wp2_with (first
      | ((with_reducible refine gate_store (t := 3) (p := 69) rfl ?_); refine put_event rfl (t := 3) (p := 69) (v := .tmp 68) rfl rfl (g := g7) (i := 6) (cs := #[.string ⟨#[104, 111, 109, 101]⟩, .int .i64 2, .int .i64 1, .int .i64 1, .int .i64 1, .int .i64 12, .int .i64 0, .int .i64 60000000, .slice none 0 0, .int .i64 100000000, .int .i64 1, .int .i64 2, .int .i64 3, .int .i64 4, .int .i64 1, .slice (some ⟨gs, 0, none⟩) 1 1, .int .i64 0, .int .i64 1, .slice none 0 0]) (cs' := #[.string ⟨#[104, 111, 109, 101]⟩, .int .i64 2, .int .i64 1, .int .i64 1, .int .i64 1, .int .i64 12, .int .i64 11, .int .i64 60000000, .slice none 0 0, .int .i64 100000000, .int .i64 1, .int .i64 2, .int .i64 3, .int .i64 4, .int .i64 1, .slice (some ⟨gs, 0, none⟩) 1 1, .int .i64 0, .int .i64 1, .slice none 0 0]) (x := .int .i64 11) ?hr H7.out rfl ?_; (case hr => first | (go_simp; done) | (go_simp; rfl)); clear q15 f15 cq fq; intro v9 hb hbut; have K7 := Aside0.mk hb; have B9 := Aside0.mk (hbut.below B8.out g7ge B8.out.size); have KS := Aside0.mk (hbut.blk HS.out gsne); clear hb hbut))
      refine (prod_awake _ (HG.out.below B9.out)).mono ?_
      rintro e x1 ⟨rfl, hb⟩
      have X1 := Aside0.mk (below_step B9.out hb)
      have Y7 := Aside0.mk (blk_below K7.out hb)
      have YS := Aside0.mk (blk_below KS.out hb)
      clear hb
      go_wp2_with ((with_reducible refine gate_dst (N := 92) rfl ?_); refine load_want rfl 27 (.tmp 7) rfl g7 rfl 27 _ (0, 0) _ Y7.out Try.underlying27 rfl info_prod ?_)
      refine (check_late { plainP with late := [[5, 5]], count := 2, kind := 1, times := 12, grace := 11, rate := 60000000, penalty := 100000000, over := 1, cap := 0, roll := 1 } gs _ _ rfl rfl rfl _ (HG.out.below X1.out) YS.out rfl rfl (by decide) _ bd_3_1_0).mono ?_
      rintro e x2 ⟨rfl, hb⟩
      have X2 := Aside0.mk (below_step X1.out hb)
      clear hb
      go_wp2_with fail
      go_ret
      exact ⟨rfl, X2.out⟩
    · have cq := (blk_cell H7.out 6).trans rfl
      have fq := frozen_of_row v8 g7 6 _ _ H7.out
      go_wp2_with (first
      | ((with_reducible refine gate_store (t := 3) (p := 69) rfl ?_); refine put_event rfl (t := 3) (p := 69) (v := .tmp 68) rfl rfl (g := g7) (i := 6) (cs := #[.string ⟨#[104, 111, 109, 101]⟩, .int .i64 2, .int .i64 1, .int .i64 1, .int .i64 1, .int .i64 12, .int .i64 0, .int .i64 60000000, .slice none 0 0, .int .i64 100000000, .int .i64 1, .int .i64 2, .int .i64 3, .int .i64 4, .int .i64 1, .slice (some ⟨gs, 0, none⟩) 1 1, .int .i64 0, .int .i64 1, .slice none 0 0]) (cs' := #[.string ⟨#[104, 111, 109, 101]⟩, .int .i64 2, .int .i64 1, .int .i64 1, .int .i64 1, .int .i64 12, .int .i64 12, .int .i64 60000000, .slice none 0 0, .int .i64 100000000, .int .i64 1, .int .i64 2, .int .i64 3, .int .i64 4, .int .i64 1, .slice (some ⟨gs, 0, none⟩) 1 1, .int .i64 0, .int .i64 1, .slice none 0 0]) (x := .int .i64 12) ?hr H7.out rfl ?_; (case hr => first | (go_simp; done) | (go_simp; rfl)); clear q15 f15 cq fq; intro v9 hb hbut; have K7 := Aside0.mk hb; have B9 := Aside0.mk (hbut.below B8.out g7ge B8.out.size); have KS := Aside0.mk (hbut.blk HS.out gsne); clear hb hbut))
      refine (prod_awake _ (HG.out.below B9.out)).mono ?_
      rintro e x1 ⟨rfl, hb⟩
      have X1 := Aside0.mk (below_step B9.out hb)
      have Y7 := Aside0.mk (blk_below K7.out hb)
      have YS := Aside0.mk (blk_below KS.out hb)
      clear hb
      go_wp2_with ((with_reducible refine gate_dst (N := 92) rfl ?_); refine load_want rfl 27 (.tmp 7) rfl g7 rfl 27 _ (0, 0) _ Y7.out Try.underlying27 rfl info_prod ?_)
      refine (check_late { plainP with late := [[5, 5]], count := 2, kind := 1, times := 12, grace := 12, rate := 60000000, penalty := 100000000, over := 1, cap := 0, roll := 1 } gs _ _ rfl rfl rfl _ (HG.out.below X1.out) YS.out rfl rfl (by decide) _ bd_3_1_1).mono ?_
      rintro e x2 ⟨rfl, hb⟩
      have X2 := Aside0.mk (below_step X1.out hb)
      clear hb
      go_wp2_with fail
      go_ret
      exact ⟨rfl, X2.out⟩
  · cases a1 <;> cases a2
    · have cq := (blk_cell H7.out 7).trans rfl
      have fq := frozen_of_row v8 g7 7 _ _ H7.out
      go_wp2_with (first
      | ((with_reducible refine gate_store (t := 2) (p := 73) rfl ?_); refine put_event rfl (t := 2) (p := 73) (v := .tmp 72) rfl rfl (g := g7) (i := 7) (cs := #[.string ⟨#[104, 111, 109, 101]⟩, .int .i64 2, .int .i64 1, .int .i64 1, .int .i64 1, .int .i64 12, .int .i64 0, .int .i64 60000000, .slice none 0 0, .int .i64 100000000, .int .i64 1, .int .i64 2, .int .i64 3, .int .i64 4, .int .i64 1, .slice (some ⟨gs, 0, none⟩) 1 1, .int .i64 0, .int .i64 1, .slice none 0 0]) (cs' := #[.string ⟨#[104, 111, 109, 101]⟩, .int .i64 2, .int .i64 1, .int .i64 1, .int .i64 1, .int .i64 12, .int .i64 0, .int .i64 0, .slice none 0 0, .int .i64 100000000, .int .i64 1, .int .i64 2, .int .i64 3, .int .i64 4, .int .i64 1, .slice (some ⟨gs, 0, none⟩) 1 1, .int .i64 0, .int .i64 1, .slice none 0 0]) (x := .int .i64 0) ?hr H7.out rfl ?_; (case hr => first | (go_simp; done) | (go_simp; rfl)); clear q15 f15 cq fq; intro v9 hb hbut; have K7 := Aside0.mk hb; have B9 := Aside0.mk (hbut.below B8.out g7ge B8.out.size); have KS := Aside0.mk (hbut.blk HS.out gsne); clear hb hbut))
      refine (prod_awake _ (HG.out.below B9.out)).mono ?_
      rintro e x1 ⟨rfl, hb⟩
      have X1 := Aside0.mk (below_step B9.out hb)
      have Y7 := Aside0.mk (blk_below K7.out hb)
      have YS := Aside0.mk (blk_below KS.out hb)
      clear hb
      go_wp2_with ((with_reducible refine gate_dst (N := 92) rfl ?_); refine load_want rfl 27 (.tmp 7) rfl g7 rfl 27 _ (0, 0) _ Y7.out Try.underlying27 rfl info_prod ?_)
      refine (check_late { plainP with late := [[5, 5]], count := 2, kind := 1, times := 12, grace := 0, rate := 0, penalty := 100000000, over := 1, cap := 0, roll := 1 } gs _ _ rfl rfl rfl _ (HG.out.below X1.out) YS.out rfl rfl (by decide) _ bd_4_0_0).mono ?_
      rintro e x2 ⟨rfl, hb⟩
      have X2 := Aside0.mk (below_step X1.out hb)
      clear hb
      go_wp2_with fail
      go_ret
      exact ⟨rfl, X2.out⟩
    · have cq := (blk_cell H7.out 7).trans rfl
      have fq := frozen_of_row v8 g7 7 _ _ H7.out
      go_wp2_with (first
      | ((with_reducible refine gate_store (t := 2) (p := 73) rfl ?_); refine put_event rfl (t := 2) (p := 73) (v := .tmp 72) rfl rfl (g := g7) (i := 7) (cs := #[.string ⟨#[104, 111, 109, 101]⟩, .int .i64 2, .int .i64 1, .int .i64 1, .int .i64 1, .int .i64 12, .int .i64 0, .int .i64 60000000, .slice none 0 0, .int .i64 100000000, .int .i64 1, .int .i64 2, .int .i64 3, .int .i64 4, .int .i64 1, .slice (some ⟨gs, 0, none⟩) 1 1, .int .i64 0, .int .i64 1, .slice none 0 0]) (cs' := #[.string ⟨#[104, 111, 109, 101]⟩, .int .i64 2, .int .i64 1, .int .i64 1, .int .i64 1, .int .i64 12, .int .i64 0, .int .i64 (-1), .slice none 0 0, .int .i64 100000000, .int .i64 1, .int .i64 2, .int .i64 3, .int .i64 4, .int .i64 1, .slice (some ⟨gs, 0, none⟩) 1 1, .int .i64 0, .int .i64 1, .slice none 0 0]) (x := .int .i64 (-1)) ?hr H7.out rfl ?_; (case hr => first | (go_simp; done) | (go_simp; rfl)); clear q15 f15 cq fq; intro v9 hb hbut; have K7 := Aside0.mk hb; have B9 := Aside0.mk (hbut.below B8.out g7ge B8.out.size); have KS := Aside0.mk (hbut.blk HS.out gsne); clear hb hbut))
      refine (prod_awake _ (HG.out.below B9.out)).mono ?_
      rintro e x1 ⟨rfl, hb⟩
      have X1 := Aside0.mk (below_step B9.out hb)
      have Y7 := Aside0.mk (blk_below K7.out hb)
      have YS := Aside0.mk (blk_below KS.out hb)
      clear hb
      go_wp2_with ((with_reducible refine gate_dst (N := 92) rfl ?_); refine load_want rfl 27 (.tmp 7) rfl g7 rfl 27 _ (0, 0) _ Y7.out Try.underlying27 rfl info_prod ?_)
      refine (check_late { plainP with late := [[5, 5]], count := 2, kind := 1, times := 12, grace := 0, rate := (-1), penalty := 100000000, over := 1, cap := 0, roll := 1 } gs _ _ rfl rfl rfl _ (HG.out.below X1.out) YS.out rfl rfl (by decide) _ bd_4_0_1).mono ?_
      rintro e x2 ⟨rfl, hb⟩
      have X2 := Aside0.mk (below_step X1.out hb)
      clear hb
      go_wp2_with fail
      go_ret
      exact ⟨rfl, X2.out⟩
    · have cq := (blk_cell H7.out 7).trans rfl
      have fq := frozen_of_row v8 g7 7 _ _ H7.out
      go_wp2_with (first
      | ((with_reducible refine gate_store (t := 2) (p := 73) rfl ?_); refine put_event rfl (t := 2) (p := 73) (v := .tmp 72) rfl rfl (g := g7) (i := 7) (cs := #[.string ⟨#[104, 111, 109, 101]⟩, .int .i64 2, .int .i64 1, .int .i64 1, .int .i64 1, .int .i64 12, .int .i64 0, .int .i64 60000000, .slice none 0 0, .int .i64 100000000, .int .i64 1, .int .i64 2, .int .i64 3, .int .i64 4, .int .i64 1, .slice (some ⟨gs, 0, none⟩) 1 1, .int .i64 0, .int .i64 1, .slice none 0 0]) (cs' := #[.string ⟨#[104, 111, 109, 101]⟩, .int .i64 2, .int .i64 1, .int .i64 1, .int .i64 1, .int .i64 12, .int .i64 0, .int .i64 1000000000, .slice none 0 0, .int .i64 100000000, .int .i64 1, .int .i64 2, .int .i64 3, .int .i64 4, .int .i64 1, .slice (some ⟨gs, 0, none⟩) 1 1, .int .i64 0, .int .i64 1, .slice none 0 0]) (x := .int .i64 1000000000) ?hr H7.out rfl ?_; (case hr => first | (go_simp; done) | (go_simp; rfl)); clear q15 f15 cq fq; intro v9 hb hbut; have K7 := Aside0.mk hb; have B9 := Aside0.mk (hbut.below B8.out g7ge B8.out.size); have KS := Aside0.mk (hbut.blk HS.out gsne); clear hb hbut))
      refine (prod_awake _ (HG.out.below B9.out)).mono ?_
      rintro e x1 ⟨rfl, hb⟩
      have X1 := Aside0.mk (below_step B9.out hb)
      have Y7 := Aside0.mk (blk_below K7.out hb)
      have YS := Aside0.mk (blk_below KS.out hb)
      clear hb
      go_wp2_with ((with_reducible refine gate_dst (N := 92) rfl ?_); refine load_want rfl 27 (.tmp 7) rfl g7 rfl 27 _ (0, 0) _ Y7.out Try.underlying27 rfl info_prod ?_)
      refine (check_late { plainP with late := [[5, 5]], count := 2, kind := 1, times := 12, grace := 0, rate := 1000000000, penalty := 100000000, over := 1, cap := 0, roll := 1 } gs _ _ rfl rfl rfl _ (HG.out.below X1.out) YS.out rfl rfl (by decide) _ bd_4_1_0).mono ?_
      rintro e x2 ⟨rfl, hb⟩
      have X2 := Aside0.mk (below_step X1.out hb)
      clear hb
      go_wp2_with fail
      go_ret
      exact ⟨rfl, X2.out⟩
    · have cq := (blk_cell H7.out 7).trans rfl
      have fq := frozen_of_row v8 g7 7 _ _ H7.out
      go_wp2_with (first
      | ((with_reducible refine gate_store (t := 2) (p := 73) rfl ?_); refine put_event rfl (t := 2) (p := 73) (v := .tmp 72) rfl rfl (g := g7) (i := 7) (cs := #[.string ⟨#[104, 111, 109, 101]⟩, .int .i64 2, .int .i64 1, .int .i64 1, .int .i64 1, .int .i64 12, .int .i64 0, .int .i64 60000000, .slice none 0 0, .int .i64 100000000, .int .i64 1, .int .i64 2, .int .i64 3, .int .i64 4, .int .i64 1, .slice (some ⟨gs, 0, none⟩) 1 1, .int .i64 0, .int .i64 1, .slice none 0 0]) (cs' := #[.string ⟨#[104, 111, 109, 101]⟩, .int .i64 2, .int .i64 1, .int .i64 1, .int .i64 1, .int .i64 12, .int .i64 0, .int .i64 1000000001, .slice none 0 0, .int .i64 100000000, .int .i64 1, .int .i64 2, .int .i64 3, .int .i64 4, .int .i64 1, .slice (some ⟨gs, 0, none⟩) 1 1, .int .i64 0, .int .i64 1, .slice none 0 0]) (x := .int .i64 1000000001) ?hr H7.out rfl ?_; (case hr => first | (go_simp; done) | (go_simp; rfl)); clear q15 f15 cq fq; intro v9 hb hbut; have K7 := Aside0.mk hb; have B9 := Aside0.mk (hbut.below B8.out g7ge B8.out.size); have KS := Aside0.mk (hbut.blk HS.out gsne); clear hb hbut))
      refine (prod_awake _ (HG.out.below B9.out)).mono ?_
      rintro e x1 ⟨rfl, hb⟩
      have X1 := Aside0.mk (below_step B9.out hb)
      have Y7 := Aside0.mk (blk_below K7.out hb)
      have YS := Aside0.mk (blk_below KS.out hb)
      clear hb
      go_wp2_with ((with_reducible refine gate_dst (N := 92) rfl ?_); refine load_want rfl 27 (.tmp 7) rfl g7 rfl 27 _ (0, 0) _ Y7.out Try.underlying27 rfl info_prod ?_)
      refine (check_late { plainP with late := [[5, 5]], count := 2, kind := 1, times := 12, grace := 0, rate := 1000000001, penalty := 100000000, over := 1, cap := 0, roll := 1 } gs _ _ rfl rfl rfl _ (HG.out.below X1.out) YS.out rfl rfl (by decide) _ bd_4_1_1).mono ?_
      rintro e x2 ⟨rfl, hb⟩
      have X2 := Aside0.mk (below_step X1.out hb)
      clear hb
      go_wp2_with fail
      go_ret
      exact ⟨rfl, X2.out⟩
  · cases a1 <;> cases a2
    · have cq := (blk_cell H7.out 9).trans rfl
      have fq := frozen_of_row v8 g7 9 _ _ H7.out
      go_wp2_with (first
      | ((with_reducible refine gate_store (t := 2) (p := 77) rfl ?_); refine put_event rfl (t := 2) (p := 77) (v := .tmp 76) rfl rfl (g := g7) (i := 9) (cs := #[.string ⟨#[104, 111, 109, 101]⟩, .int .i64 2, .int .i64 1, .int .i64 1, .int .i64 1, .int .i64 12, .int .i64 0, .int .i64 60000000, .slice none 0 0, .int .i64 100000000, .int .i64 1, .int .i64 2, .int .i64 3, .int .i64 4, .int .i64 1, .slice (some ⟨gs, 0, none⟩) 1 1, .int .i64 0, .int .i64 1, .slice none 0 0]) (cs' := #[.string ⟨#[104, 111, 109, 101]⟩, .int .i64 2, .int .i64 1, .int .i64 1, .int .i64 1, .int .i64 12, .int .i64 0, .int .i64 60000000, .slice none 0 0, .int .i64 0, .int .i64 1, .int .i64 2, .int .i64 3, .int .i64 4, .int .i64 1, .slice (some ⟨gs, 0, none⟩) 1 1, .int .i64 0, .int .i64 1, .slice none 0 0]) (x := .int .i64 0) ?hr H7.out rfl ?_; (case hr => first | (go_simp; done) | (go_simp; rfl)); clear q15 f15 cq fq; intro v9 hb hbut; have K7 := Aside0.mk hb; have B9 := Aside0.mk (hbut.below B8.out g7ge B8.out.size); have KS := Aside0.mk (hbut.blk HS.out gsne); clear hb hbut))
      refine (prod_awake _ (HG.out.below B9.out)).mono ?_
      rintro e x1 ⟨rfl, hb⟩
      have X1 := Aside0.mk (below_step B9.out hb)
      have Y7 := Aside0.mk (blk_below K7.out hb)
      have YS := Aside0.mk (blk_below KS.out hb)
      clear hb
      go_wp2_with ((with_reducible refine gate_dst (N := 92) rfl ?_); refine load_want rfl 27 (.tmp 7) rfl g7 rfl 27 _ (0, 0) _ Y7.out Try.underlying27 rfl info_prod ?_)
      refine (check_late { plainP with late := [[5, 5]], count := 2, kind := 1, times := 12, grace := 0, rate := 60000000, penalty := 0, over := 1, cap := 0, roll := 1 } gs _ _ rfl rfl rfl _ (HG.out.below X1.out) YS.out rfl rfl (by decide) _ bd_5_0_0).mono ?_
      rintro e x2 ⟨rfl, hb⟩
      have X2 := Aside0.mk (below_step X1.out hb)
      clear hb
      go_wp2_with fail
      go_ret
      exact ⟨rfl, X2.out⟩
    · have cq := (blk_cell H7.out 9).trans rfl
      have fq := frozen_of_row v8 g7 9 _ _ H7.out
      go_wp2_with (first
      | ((with_reducible refine gate_store (t := 2) (p := 77) rfl ?_); refine put_event rfl (t := 2) (p := 77) (v := .tmp 76) rfl rfl (g := g7) (i := 9) (cs := #[.string ⟨#[104, 111, 109, 101]⟩, .int .i64 2, .int .i64 1, .int .i64 1, .int .i64 1, .int .i64 12, .int .i64 0, .int .i64 60000000, .slice none 0 0, .int .i64 100000000, .int .i64 1, .int .i64 2, .int .i64 3, .int .i64 4, .int .i64 1, .slice (some ⟨gs, 0, none⟩) 1 1, .int .i64 0, .int .i64 1, .slice none 0 0]) (cs' := #[.string ⟨#[104, 111, 109, 101]⟩, .int .i64 2, .int .i64 1, .int .i64 1, .int .i64 1, .int .i64 12, .int .i64 0, .int .i64 60000000, .slice none 0 0, .int .i64 (-1), .int .i64 1, .int .i64 2, .int .i64 3, .int .i64 4, .int .i64 1, .slice (some ⟨gs, 0, none⟩) 1 1, .int .i64 0, .int .i64 1, .slice none 0 0]) (x := .int .i64 (-1)) ?hr H7.out rfl ?_; (case hr => first | (go_simp; done) | (go_simp; rfl)); clear q15 f15 cq fq; intro v9 hb hbut; have K7 := Aside0.mk hb; have B9 := Aside0.mk (hbut.below B8.out g7ge B8.out.size); have KS := Aside0.mk (hbut.blk HS.out gsne); clear hb hbut))
      refine (prod_awake _ (HG.out.below B9.out)).mono ?_
      rintro e x1 ⟨rfl, hb⟩
      have X1 := Aside0.mk (below_step B9.out hb)
      have Y7 := Aside0.mk (blk_below K7.out hb)
      have YS := Aside0.mk (blk_below KS.out hb)
      clear hb
      go_wp2_with ((with_reducible refine gate_dst (N := 92) rfl ?_); refine load_want rfl 27 (.tmp 7) rfl g7 rfl 27 _ (0, 0) _ Y7.out Try.underlying27 rfl info_prod ?_)
      refine (check_late { plainP with late := [[5, 5]], count := 2, kind := 1, times := 12, grace := 0, rate := 60000000, penalty := (-1), over := 1, cap := 0, roll := 1 } gs _ _ rfl rfl rfl _ (HG.out.below X1.out) YS.out rfl rfl (by decide) _ bd_5_0_1).mono ?_
      rintro e x2 ⟨rfl, hb⟩
      have X2 := Aside0.mk (below_step X1.out hb)
      clear hb
      go_wp2_with fail
      go_ret
      exact ⟨rfl, X2.out⟩
    · have cq := (blk_cell H7.out 9).trans rfl
      have fq := frozen_of_row v8 g7 9 _ _ H7.out
      go_wp2_with (first
      | ((with_reducible refine gate_store (t := 2) (p := 77) rfl ?_); refine put_event rfl (t := 2) (p := 77) (v := .tmp 76) rfl rfl (g := g7) (i := 9) (cs := #[.string ⟨#[104, 111, 109, 101]⟩, .int .i64 2, .int .i64 1, .int .i64 1, .int .i64 1, .int .i64 12, .int .i64 0, .int .i64 60000000, .slice none 0 0, .int .i64 100000000, .int .i64 1, .int .i64 2, .int .i64 3, .int .i64 4, .int .i64 1, .slice (some ⟨gs, 0, none⟩) 1 1, .int .i64 0, .int .i64 1, .slice none 0 0]) (cs' := #[.string ⟨#[104, 111, 109, 101]⟩, .int .i64 2, .int .i64 1, .int .i64 1, .int .i64 1, .int .i64 12, .int .i64 0, .int .i64 60000000, .slice none 0 0, .int .i64 1000000000, .int .i64 1, .int .i64 2, .int .i64 3, .int .i64 4, .int .i64 1, .slice (some ⟨gs, 0, none⟩) 1 1, .int .i64 0, .int .i64 1, .slice none 0 0]) (x := .int .i64 1000000000) ?hr H7.out rfl ?_; (case hr => first | (go_simp; done) | (go_simp; rfl)); clear q15 f15 cq fq; intro v9 hb hbut; have K7 := Aside0.mk hb; have B9 := Aside0.mk (hbut.below B8.out g7ge B8.out.size); have KS := Aside0.mk (hbut.blk HS.out gsne); clear hb hbut))
      refine (prod_awake _ (HG.out.below B9.out)).mono ?_
      rintro e x1 ⟨rfl, hb⟩
      have X1 := Aside0.mk (below_step B9.out hb)
      have Y7 := Aside0.mk (blk_below K7.out hb)
      have YS := Aside0.mk (blk_below KS.out hb)
      clear hb
      go_wp2_with ((with_reducible refine gate_dst (N := 92) rfl ?_); refine load_want rfl 27 (.tmp 7) rfl g7 rfl 27 _ (0, 0) _ Y7.out Try.underlying27 rfl info_prod ?_)
      refine (check_late { plainP with late := [[5, 5]], count := 2, kind := 1, times := 12, grace := 0, rate := 60000000, penalty := 1000000000, over := 1, cap := 0, roll := 1 } gs _ _ rfl rfl rfl _ (HG.out.below X1.out) YS.out rfl rfl (by decide) _ bd_5_1_0).mono ?_
      rintro e x2 ⟨rfl, hb⟩
      have X2 := Aside0.mk (below_step X1.out hb)
      clear hb
      go_wp2_with fail
      go_ret
      exact ⟨rfl, X2.out⟩
    · have cq := (blk_cell H7.out 9).trans rfl
      have fq := frozen_of_row v8 g7 9 _ _ H7.out
      go_wp2_with (first
      | ((with_reducible refine gate_store (t := 2) (p := 77) rfl ?_); refine put_event rfl (t := 2) (p := 77) (v := .tmp 76) rfl rfl (g := g7) (i := 9) (cs := #[.string ⟨#[104, 111, 109, 101]⟩, .int .i64 2, .int .i64 1, .int .i64 1, .int .i64 1, .int .i64 12, .int .i64 0, .int .i64 60000000, .slice none 0 0, .int .i64 100000000, .int .i64 1, .int .i64 2, .int .i64 3, .int .i64 4, .int .i64 1, .slice (some ⟨gs, 0, none⟩) 1 1, .int .i64 0, .int .i64 1, .slice none 0 0]) (cs' := #[.string ⟨#[104, 111, 109, 101]⟩, .int .i64 2, .int .i64 1, .int .i64 1, .int .i64 1, .int .i64 12, .int .i64 0, .int .i64 60000000, .slice none 0 0, .int .i64 1000000001, .int .i64 1, .int .i64 2, .int .i64 3, .int .i64 4, .int .i64 1, .slice (some ⟨gs, 0, none⟩) 1 1, .int .i64 0, .int .i64 1, .slice none 0 0]) (x := .int .i64 1000000001) ?hr H7.out rfl ?_; (case hr => first | (go_simp; done) | (go_simp; rfl)); clear q15 f15 cq fq; intro v9 hb hbut; have K7 := Aside0.mk hb; have B9 := Aside0.mk (hbut.below B8.out g7ge B8.out.size); have KS := Aside0.mk (hbut.blk HS.out gsne); clear hb hbut))
      refine (prod_awake _ (HG.out.below B9.out)).mono ?_
      rintro e x1 ⟨rfl, hb⟩
      have X1 := Aside0.mk (below_step B9.out hb)
      have Y7 := Aside0.mk (blk_below K7.out hb)
      have YS := Aside0.mk (blk_below KS.out hb)
      clear hb
      go_wp2_with ((with_reducible refine gate_dst (N := 92) rfl ?_); refine load_want rfl 27 (.tmp 7) rfl g7 rfl 27 _ (0, 0) _ Y7.out Try.underlying27 rfl info_prod ?_)
      refine (check_late { plainP with late := [[5, 5]], count := 2, kind := 1, times := 12, grace := 0, rate := 60000000, penalty := 1000000001, over := 1, cap := 0, roll := 1 } gs _ _ rfl rfl rfl _ (HG.out.below X1.out) YS.out rfl rfl (by decide) _ bd_5_1_1).mono ?_
      rintro e x2 ⟨rfl, hb⟩
      have X2 := Aside0.mk (below_step X1.out hb)
      clear hb
      go_wp2_with fail
      go_ret
      exact ⟨rfl, X2.out⟩
  · cases a1 <;> cases a2
    · have cq := (blk_cell H7.out 14).trans rfl
      have fq := frozen_of_row v8 g7 14 _ _ H7.out
      go_wp2_with (first
      | ((with_reducible refine gate_store (t := 3) (p := 81) rfl ?_); refine put_event rfl (t := 3) (p := 81) (v := .tmp 80) rfl rfl (g := g7) (i := 14) (cs := #[.string ⟨#[104, 111, 109, 101]⟩, .int .i64 2, .int .i64 1, .int .i64 1, .int .i64 1, .int .i64 12, .int .i64 0, .int .i64 60000000, .slice none 0 0, .int .i64 100000000, .int .i64 1, .int .i64 2, .int .i64 3, .int .i64 4, .int .i64 1, .slice (some ⟨gs, 0, none⟩) 1 1, .int .i64 0, .int .i64 1, .slice none 0 0]) (cs' := #[.string ⟨#[104, 111, 109, 101]⟩, .int .i64 2, .int .i64 1, .int .i64 1, .int .i64 1, .int .i64 12, .int .i64 0, .int .i64 60000000, .slice none 0 0, .int .i64 100000000, .int .i64 1, .int .i64 2, .int .i64 3, .int .i64 4, .int .i64 1, .slice (some ⟨gs, 0, none⟩) 1 1, .int .i64 0, .int .i64 1, .slice none 0 0]) (x := .int .i64 1) ?hr H7.out rfl ?_; (case hr => first | (go_simp; done) | (go_simp; rfl)); clear q15 f15 cq fq; intro v9 hb hbut; have K7 := Aside0.mk hb; have B9 := Aside0.mk (hbut.below B8.out g7ge B8.out.size); have KS := Aside0.mk (hbut.blk HS.out gsne); clear hb hbut))
      refine (prod_awake _ (HG.out.below B9.out)).mono ?_
      rintro e x1 ⟨rfl, hb⟩
      have X1 := Aside0.mk (below_step B9.out hb)
      have Y7 := Aside0.mk (blk_below K7.out hb)
      have YS := Aside0.mk (blk_below KS.out hb)
      clear hb
      go_wp2_with ((with_reducible refine gate_dst (N := 92) rfl ?_); refine load_want rfl 27 (.tmp 7) rfl g7 rfl 27 _ (0, 0) _ Y7.out Try.underlying27 rfl info_prod ?_)
      refine (check_late { plainP with late := [[5, 5]], count := 2, kind := 1, times := 12, grace := 0, rate := 60000000, penalty := 100000000, over := 1, cap := 0, roll := 1 } gs _ _ rfl rfl rfl _ (HG.out.below X1.out) YS.out rfl rfl (by decide) _ bd_6_0_0).mono ?_
      rintro e x2 ⟨rfl, hb⟩
      have X2 := Aside0.mk (below_step X1.out hb)
      clear hb
      go_wp2_with fail
      go_ret
      exact ⟨rfl, X2.out⟩
    · have cq := (blk_cell H7.out 14).trans rfl
      have fq := frozen_of_row v8 g7 14 _ _ H7.out
      go_wp2_with (first
      | ((with_reducible refine gate_store (t := 3) (p := 81) rfl ?_); refine put_event rfl (t := 3) (p := 81) (v := .tmp 80) rfl rfl (g := g7) (i := 14) (cs := #[.string ⟨#[104, 111, 109, 101]⟩, .int .i64 2, .int .i64 1, .int .i64 1, .int .i64 1, .int .i64 12, .int .i64 0, .int .i64 60000000, .slice none 0 0, .int .i64 100000000, .int .i64 1, .int .i64 2, .int .i64 3, .int .i64 4, .int .i64 1, .slice (some ⟨gs, 0, none⟩) 1 1, .int .i64 0, .int .i64 1, .slice none 0 0]) (cs' := #[.string ⟨#[104, 111, 109, 101]⟩, .int .i64 2, .int .i64 1, .int .i64 1, .int .i64 1, .int .i64 12, .int .i64 0, .int .i64 60000000, .slice none 0 0, .int .i64 100000000, .int .i64 1, .int .i64 2, .int .i64 3, .int .i64 4, .int .i64 0, .slice (some ⟨gs, 0, none⟩) 1 1, .int .i64 0, .int .i64 1, .slice none 0 0]) (x := .int .i64 0) ?hr H7.out rfl ?_; (case hr => first | (go_simp; done) | (go_simp; rfl)); clear q15 f15 cq fq; intro v9 hb hbut; have K7 := Aside0.mk hb; have B9 := Aside0.mk (hbut.below B8.out g7ge B8.out.size); have KS := Aside0.mk (hbut.blk HS.out gsne); clear hb hbut))
      refine (prod_awake _ (HG.out.below B9.out)).mono ?_
      rintro e x1 ⟨rfl, hb⟩
      have X1 := Aside0.mk (below_step B9.out hb)
      have Y7 := Aside0.mk (blk_below K7.out hb)
      have YS := Aside0.mk (blk_below KS.out hb)
      clear hb
      go_wp2_with ((with_reducible refine gate_dst (N := 92) rfl ?_); refine load_want rfl 27 (.tmp 7) rfl g7 rfl 27 _ (0, 0) _ Y7.out Try.underlying27 rfl info_prod ?_)
      refine (check_late { plainP with late := [[5, 5]], count := 2, kind := 1, times := 12, grace := 0, rate := 60000000, penalty := 100000000, over := 0, cap := 0, roll := 1 } gs _ _ rfl rfl rfl _ (HG.out.below X1.out) YS.out rfl rfl (by decide) _ bd_6_0_1).mono ?_
      rintro e x2 ⟨rfl, hb⟩
      have X2 := Aside0.mk (below_step X1.out hb)
      clear hb
      go_wp2_with fail
      go_ret
      exact ⟨rfl, X2.out⟩
    · have cq := (blk_cell H7.out 14).trans rfl
      have fq := frozen_of_row v8 g7 14 _ _ H7.out
      go_wp2_with (first
      | ((with_reducible refine gate_store (t := 3) (p := 81) rfl ?_); refine put_event rfl (t := 3) (p := 81) (v := .tmp 80) rfl rfl (g := g7) (i := 14) (cs := #[.string ⟨#[104, 111, 109, 101]⟩, .int .i64 2, .int .i64 1, .int .i64 1, .int .i64 1, .int .i64 12, .int .i64 0, .int .i64 60000000, .slice none 0 0, .int .i64 100000000, .int .i64 1, .int .i64 2, .int .i64 3, .int .i64 4, .int .i64 1, .slice (some ⟨gs, 0, none⟩) 1 1, .int .i64 0, .int .i64 1, .slice none 0 0]) (cs' := #[.string ⟨#[104, 111, 109, 101]⟩, .int .i64 2, .int .i64 1, .int .i64 1, .int .i64 1, .int .i64 12, .int .i64 0, .int .i64 60000000, .slice none 0 0, .int .i64 100000000, .int .i64 1, .int .i64 2, .int .i64 3, .int .i64 4, .int .i64 3, .slice (some ⟨gs, 0, none⟩) 1 1, .int .i64 0, .int .i64 1, .slice none 0 0]) (x := .int .i64 3) ?hr H7.out rfl ?_; (case hr => first | (go_simp; done) | (go_simp; rfl)); clear q15 f15 cq fq; intro v9 hb hbut; have K7 := Aside0.mk hb; have B9 := Aside0.mk (hbut.below B8.out g7ge B8.out.size); have KS := Aside0.mk (hbut.blk HS.out gsne); clear hb hbut))
      refine (prod_awake _ (HG.out.below B9.out)).mono ?_
      rintro e x1 ⟨rfl, hb⟩
      have X1 := Aside0.mk (below_step B9.out hb)
      have Y7 := Aside0.mk (blk_below K7.out hb)
      have YS := Aside0.mk (blk_below KS.out hb)
      clear hb
      go_wp2_with ((with_reducible refine gate_dst (N := 92) rfl ?_); refine load_want rfl 27 (.tmp 7) rfl g7 rfl 27 _ (0, 0) _ Y7.out Try.underlying27 rfl info_prod ?_)
      refine (check_late { plainP with late := [[5, 5]], count := 2, kind := 1, times := 12, grace := 0, rate := 60000000, penalty := 100000000, over := 3, cap := 0, roll := 1 } gs _ _ rfl rfl rfl _ (HG.out.below X1.out) YS.out rfl rfl (by decide) _ bd_6_1_0).mono ?_
      rintro e x2 ⟨rfl, hb⟩
      have X2 := Aside0.mk (below_step X1.out hb)
      clear hb
      go_wp2_with fail
      go_ret
      exact ⟨rfl, X2.out⟩
    · have cq := (blk_cell H7.out 14).trans rfl
      have fq := frozen_of_row v8 g7 14 _ _ H7.out
      go_wp2_with (first
      | ((with_reducible refine gate_store (t := 3) (p := 81) rfl ?_); refine put_event rfl (t := 3) (p := 81) (v := .tmp 80) rfl rfl (g := g7) (i := 14) (cs := #[.string ⟨#[104, 111, 109, 101]⟩, .int .i64 2, .int .i64 1, .int .i64 1, .int .i64 1, .int .i64 12, .int .i64 0, .int .i64 60000000, .slice none 0 0, .int .i64 100000000, .int .i64 1, .int .i64 2, .int .i64 3, .int .i64 4, .int .i64 1, .slice (some ⟨gs, 0, none⟩) 1 1, .int .i64 0, .int .i64 1, .slice none 0 0]) (cs' := #[.string ⟨#[104, 111, 109, 101]⟩, .int .i64 2, .int .i64 1, .int .i64 1, .int .i64 1, .int .i64 12, .int .i64 0, .int .i64 60000000, .slice none 0 0, .int .i64 100000000, .int .i64 1, .int .i64 2, .int .i64 3, .int .i64 4, .int .i64 4, .slice (some ⟨gs, 0, none⟩) 1 1, .int .i64 0, .int .i64 1, .slice none 0 0]) (x := .int .i64 4) ?hr H7.out rfl ?_; (case hr => first | (go_simp; done) | (go_simp; rfl)); clear q15 f15 cq fq; intro v9 hb hbut; have K7 := Aside0.mk hb; have B9 := Aside0.mk (hbut.below B8.out g7ge B8.out.size); have KS := Aside0.mk (hbut.blk HS.out gsne); clear hb hbut))
      refine (prod_awake _ (HG.out.below B9.out)).mono ?_
      rintro e x1 ⟨rfl, hb⟩
      have X1 := Aside0.mk (below_step B9.out hb)
      have Y7 := Aside0.mk (blk_below K7.out hb)
      have YS := Aside0.mk (blk_below KS.out hb)
      clear hb
      go_wp2_with ((with_reducible refine gate_dst (N := 92) rfl ?_); refine load_want rfl 27 (.tmp 7) rfl g7 rfl 27 _ (0, 0) _ Y7.out Try.underlying27 rfl info_prod ?_)
      refine (check_late { plainP with late := [[5, 5]], count := 2, kind := 1, times := 12, grace := 0, rate := 60000000, penalty := 100000000, over := 4, cap := 0, roll := 1 } gs _ _ rfl rfl rfl _ (HG.out.below X1.out) YS.out rfl rfl (by decide) _ bd_6_1_1).mono ?_
      rintro e x2 ⟨rfl, hb⟩
      have X2 := Aside0.mk (below_step X1.out hb)
      clear hb
      go_wp2_with fail
      go_ret
      exact ⟨rfl, X2.out⟩
  · cases a1 <;> cases a2
    · have cq := (blk_cell H7.out 16).trans rfl
      have fq := frozen_of_row v8 g7 16 _ _ H7.out
      go_wp2_with (first
      | ((with_reducible refine gate_store (t := 2) (p := 85) rfl ?_); refine put_event rfl (t := 2) (p := 85) (v := .tmp 84) rfl rfl (g := g7) (i := 16) (cs := #[.string ⟨#[104, 111, 109, 101]⟩, .int .i64 2, .int .i64 1, .int .i64 1, .int .i64 1, .int .i64 12, .int .i64 0, .int .i64 60000000, .slice none 0 0, .int .i64 100000000, .int .i64 1, .int .i64 2, .int .i64 3, .int .i64 4, .int .i64 1, .slice (some ⟨gs, 0, none⟩) 1 1, .int .i64 0, .int .i64 1, .slice none 0 0]) (cs' := #[.string ⟨#[104, 111, 109, 101]⟩, .int .i64 2, .int .i64 1, .int .i64 1, .int .i64 1, .int .i64 12, .int .i64 0, .int .i64 60000000, .slice none 0 0, .int .i64 100000000, .int .i64 1, .int .i64 2, .int .i64 3, .int .i64 4, .int .i64 1, .slice (some ⟨gs, 0, none⟩) 1 1, .int .i64 0, .int .i64 1, .slice none 0 0]) (x := .int .i64 0) ?hr H7.out rfl ?_; (case hr => first | (go_simp; done) | (go_simp; rfl)); clear q15 f15 cq fq; intro v9 hb hbut; have K7 := Aside0.mk hb; have B9 := Aside0.mk (hbut.below B8.out g7ge B8.out.size); have KS := Aside0.mk (hbut.blk HS.out gsne); clear hb hbut))
      refine (prod_awake _ (HG.out.below B9.out)).mono ?_
      rintro e x1 ⟨rfl, hb⟩
      have X1 := Aside0.mk (below_step B9.out hb)
      have Y7 := Aside0.mk (blk_below K7.out hb)
      have YS := Aside0.mk (blk_below KS.out hb)
      clear hb
      go_wp2_with ((with_reducible refine gate_dst (N := 92) rfl ?_); refine load_want rfl 27 (.tmp 7) rfl g7 rfl 27 _ (0, 0) _ Y7.out Try.underlying27 rfl info_prod ?_)
      refine (check_late { plainP with late := [[5, 5]], count := 2, kind := 1, times := 12, grace := 0, rate := 60000000, penalty := 100000000, over := 1, cap := 0, roll := 1 } gs _ _ rfl rfl rfl _ (HG.out.below X1.out) YS.out rfl rfl (by decide) _ bd_7_0_0).mono ?_
      rintro e x2 ⟨rfl, hb⟩
      have X2 := Aside0.mk (below_step X1.out hb)
      clear hb
      go_wp2_with fail
      go_ret
      exact ⟨rfl, X2.out⟩
    · have cq := (blk_cell H7.out 16).trans rfl
      have fq := frozen_of_row v8 g7 16 _ _ H7.out
      go_wp2_with (first
      | ((with_reducible refine gate_store (t := 2) (p := 85) rfl ?_); refine put_event rfl (t := 2) (p := 85) (v := .tmp 84) rfl rfl (g := g7) (i := 16) (cs := #[.string ⟨#[104, 111, 109, 101]⟩, .int .i64 2, .int .i64 1, .int .i64 1, .int .i64 1, .int .i64 12, .int .i64 0, .int .i64 60000000, .slice none 0 0, .int .i64 100000000, .int .i64 1, .int .i64 2, .int .i64 3, .int .i64 4, .int .i64 1, .slice (some ⟨gs, 0, none⟩) 1 1, .int .i64 0, .int .i64 1, .slice none 0 0]) (cs' := #[.string ⟨#[104, 111, 109, 101]⟩, .int .i64 2, .int .i64 1, .int .i64 1, .int .i64 1, .int .i64 12, .int .i64 0, .int .i64 60000000, .slice none 0 0, .int .i64 100000000, .int .i64 1, .int .i64 2, .int .i64 3, .int .i64 4, .int .i64 1, .slice (some ⟨gs, 0, none⟩) 1 1, .int .i64 (-1), .int .i64 1, .slice none 0 0]) (x := .int .i64 (-1)) ?hr H7.out rfl ?_; (case hr => first | (go_simp; done) | (go_simp; rfl)); clear q15 f15 cq fq; intro v9 hb hbut; have K7 := Aside0.mk hb; have B9 := Aside0.mk (hbut.below B8.out g7ge B8.out.size); have KS := Aside0.mk (hbut.blk HS.out gsne); clear hb hbut))
      refine (prod_awake _ (HG.out.below B9.out)).mono ?_
      rintro e x1 ⟨rfl, hb⟩
      have X1 := Aside0.mk (below_step B9.out hb)
      have Y7 := Aside0.mk (blk_below K7.out hb)
      have YS := Aside0.mk (blk_below KS.out hb)
      clear hb
      go_wp2_with ((with_reducible refine gate_dst (N := 92) rfl ?_); refine load_want rfl 27 (.tmp 7) rfl g7 rfl 27 _ (0, 0) _ Y7.out Try.underlying27 rfl info_prod ?_)
      refine (check_late { plainP with late := [[5, 5]], count := 2, kind := 1, times := 12, grace := 0, rate := 60000000, penalty := 100000000, over := 1, cap := (-1), roll := 1 } gs _ _ rfl rfl rfl _ (HG.out.below X1.out) YS.out rfl rfl (by decide) _ bd_7_0_1).mono ?_
      rintro e x2 ⟨rfl, hb⟩
      have X2 := Aside0.mk (below_step X1.out hb)
      clear hb
      go_wp2_with fail
      go_ret
      exact ⟨rfl, X2.out⟩
    · have cq := (blk_cell H7.out 16).trans rfl
      have fq := frozen_of_row v8 g7 16 _ _ H7.out
      go_wp2_with (first
      | ((with_reducible refine gate_store (t := 2) (p := 85) rfl ?_); refine put_event rfl (t := 2) (p := 85) (v := .tmp 84) rfl rfl (g := g7) (i := 16) (cs := #[.string ⟨#[104, 111, 109, 101]⟩, .int .i64 2, .int .i64 1, .int .i64 1, .int .i64 1, .int .i64 12, .int .i64 0, .int .i64 60000000, .slice none 0 0, .int .i64 100000000, .int .i64 1, .int .i64 2, .int .i64 3, .int .i64 4, .int .i64 1, .slice (some ⟨gs, 0, none⟩) 1 1, .int .i64 0, .int .i64 1, .slice none 0 0]) (cs' := #[.string ⟨#[104, 111, 109, 101]⟩, .int .i64 2, .int .i64 1, .int .i64 1, .int .i64 1, .int .i64 12, .int .i64 0, .int .i64 60000000, .slice none 0 0, .int .i64 100000000, .int .i64 1, .int .i64 2, .int .i64 3, .int .i64 4, .int .i64 1, .slice (some ⟨gs, 0, none⟩) 1 1, .int .i64 10000000000000, .int .i64 1, .slice none 0 0]) (x := .int .i64 10000000000000) ?hr H7.out rfl ?_; (case hr => first | (go_simp; done) | (go_simp; rfl)); clear q15 f15 cq fq; intro v9 hb hbut; have K7 := Aside0.mk hb; have B9 := Aside0.mk (hbut.below B8.out g7ge B8.out.size); have KS := Aside0.mk (hbut.blk HS.out gsne); clear hb hbut))
      refine (prod_awake _ (HG.out.below B9.out)).mono ?_
      rintro e x1 ⟨rfl, hb⟩
      have X1 := Aside0.mk (below_step B9.out hb)
      have Y7 := Aside0.mk (blk_below K7.out hb)
      have YS := Aside0.mk (blk_below KS.out hb)
      clear hb
      go_wp2_with ((with_reducible refine gate_dst (N := 92) rfl ?_); refine load_want rfl 27 (.tmp 7) rfl g7 rfl 27 _ (0, 0) _ Y7.out Try.underlying27 rfl info_prod ?_)
      refine (check_late { plainP with late := [[5, 5]], count := 2, kind := 1, times := 12, grace := 0, rate := 60000000, penalty := 100000000, over := 1, cap := 10000000000000, roll := 1 } gs _ _ rfl rfl rfl _ (HG.out.below X1.out) YS.out rfl rfl (by decide) _ bd_7_1_0).mono ?_
      rintro e x2 ⟨rfl, hb⟩
      have X2 := Aside0.mk (below_step X1.out hb)
      clear hb
      go_wp2_with fail
      go_ret
      exact ⟨rfl, X2.out⟩
    · have cq := (blk_cell H7.out 16).trans rfl
      have fq := frozen_of_row v8 g7 16 _ _ H7.out
      go_wp2_with (first
      | ((with_reducible refine gate_store (t := 2) (p := 85) rfl ?_); refine put_event rfl (t := 2) (p := 85) (v := .tmp 84) rfl rfl (g := g7) (i := 16) (cs := #[.string ⟨#[104, 111, 109, 101]⟩, .int .i64 2, .int .i64 1, .int .i64 1, .int .i64 1, .int .i64 12, .int .i64 0, .int .i64 60000000, .slice none 0 0, .int .i64 100000000, .int .i64 1, .int .i64 2, .int .i64 3, .int .i64 4, .int .i64 1, .slice (some ⟨gs, 0, none⟩) 1 1, .int .i64 0, .int .i64 1, .slice none 0 0]) (cs' := #[.string ⟨#[104, 111, 109, 101]⟩, .int .i64 2, .int .i64 1, .int .i64 1, .int .i64 1, .int .i64 12, .int .i64 0, .int .i64 60000000, .slice none 0 0, .int .i64 100000000, .int .i64 1, .int .i64 2, .int .i64 3, .int .i64 4, .int .i64 1, .slice (some ⟨gs, 0, none⟩) 1 1, .int .i64 10000000000001, .int .i64 1, .slice none 0 0]) (x := .int .i64 10000000000001) ?hr H7.out rfl ?_; (case hr => first | (go_simp; done) | (go_simp; rfl)); clear q15 f15 cq fq; intro v9 hb hbut; have K7 := Aside0.mk hb; have B9 := Aside0.mk (hbut.below B8.out g7ge B8.out.size); have KS := Aside0.mk (hbut.blk HS.out gsne); clear hb hbut))
      refine (prod_awake _ (HG.out.below B9.out)).mono ?_
      rintro e x1 ⟨rfl, hb⟩
      have X1 := Aside0.mk (below_step B9.out hb)
      have Y7 := Aside0.mk (blk_below K7.out hb)
      have YS := Aside0.mk (blk_below KS.out hb)
      clear hb
      go_wp2_with ((with_reducible refine gate_dst (N := 92) rfl ?_); refine load_want rfl 27 (.tmp 7) rfl g7 rfl 27 _ (0, 0) _ Y7.out Try.underlying27 rfl info_prod ?_)
      refine (check_late { plainP with late := [[5, 5]], count := 2, kind := 1, times := 12, grace := 0, rate := 60000000, penalty := 100000000, over := 1, cap := 10000000000001, roll := 1 } gs _ _ rfl rfl rfl _ (HG.out.below X1.out) YS.out rfl rfl (by decide) _ bd_7_1_1).mono ?_
      rintro e x2 ⟨rfl, hb⟩
      have X2 := Aside0.mk (below_step X1.out hb)
      clear hb
      go_wp2_with fail
      go_ret
      exact ⟨rfl, X2.out⟩
  · cases a1 <;> cases a2
    · have cq := (blk_cell H7.out 17).trans rfl
      have fq := frozen_of_row v8 g7 17 _ _ H7.out
      go_wp2_with (first
      | ((with_reducible refine gate_store (t := 3) (p := 89) rfl ?_); refine put_event rfl (t := 3) (p := 89) (v := .tmp 88) rfl rfl (g := g7) (i := 17) (cs := #[.string ⟨#[104, 111, 109, 101]⟩, .int .i64 2, .int .i64 1, .int .i64 1, .int .i64 1, .int .i64 12, .int .i64 0, .int .i64 60000000, .slice none 0 0, .int .i64 100000000, .int .i64 1, .int .i64 2, .int .i64 3, .int .i64 4, .int .i64 1, .slice (some ⟨gs, 0, none⟩) 1 1, .int .i64 0, .int .i64 1, .slice none 0 0]) (cs' := #[.string ⟨#[104, 111, 109, 101]⟩, .int .i64 2, .int .i64 1, .int .i64 1, .int .i64 1, .int .i64 12, .int .i64 0, .int .i64 60000000, .slice none 0 0, .int .i64 100000000, .int .i64 1, .int .i64 2, .int .i64 3, .int .i64 4, .int .i64 1, .slice (some ⟨gs, 0, none⟩) 1 1, .int .i64 0, .int .i64 1, .slice none 0 0]) (x := .int .i64 1) ?hr H7.out rfl ?_; (case hr => first | (go_simp; done) | (go_simp; rfl)); clear q15 f15 cq fq; intro v9 hb hbut; have K7 := Aside0.mk hb; have B9 := Aside0.mk (hbut.below B8.out g7ge B8.out.size); have KS := Aside0.mk (hbut.blk HS.out gsne); clear hb hbut))
      refine (prod_awake _ (HG.out.below B9.out)).mono ?_
      rintro e x1 ⟨rfl, hb⟩
      have X1 := Aside0.mk (below_step B9.out hb)
      have Y7 := Aside0.mk (blk_below K7.out hb)
      have YS := Aside0.mk (blk_below KS.out hb)
      clear hb
      go_wp2_with ((with_reducible refine gate_dst (N := 92) rfl ?_); refine load_want rfl 27 (.tmp 7) rfl g7 rfl 27 _ (0, 0) _ Y7.out Try.underlying27 rfl info_prod ?_)
      refine (check_late { plainP with late := [[5, 5]], count := 2, kind := 1, times := 12, grace := 0, rate := 60000000, penalty := 100000000, over := 1, cap := 0, roll := 1 } gs _ _ rfl rfl rfl _ (HG.out.below X1.out) YS.out rfl rfl (by decide) _ bd_8_0_0).mono ?_
      rintro e x2 ⟨rfl, hb⟩
      have X2 := Aside0.mk (below_step X1.out hb)
      clear hb
      go_wp2_with fail
      go_ret
      exact ⟨rfl, X2.out⟩
    · have cq := (blk_cell H7.out 17).trans rfl
      have fq := frozen_of_row v8 g7 17 _ _ H7.out
      go_wp2_with (first
      | ((with_reducible refine gate_store (t := 3) (p := 89) rfl ?_); refine put_event rfl (t := 3) (p := 89) (v := .tmp 88) rfl rfl (g := g7) (i := 17) (cs := #[.string ⟨#[104, 111, 109, 101]⟩, .int .i64 2, .int .i64 1, .int .i64 1, .int .i64 1, .int .i64 12, .int .i64 0, .int .i64 60000000, .slice none 0 0, .int .i64 100000000, .int .i64 1, .int .i64 2, .int .i64 3, .int .i64 4, .int .i64 1, .slice (some ⟨gs, 0, none⟩) 1 1, .int .i64 0, .int .i64 1, .slice none 0 0]) (cs' := #[.string ⟨#[104, 111, 109, 101]⟩, .int .i64 2, .int .i64 1, .int .i64 1, .int .i64 1, .int .i64 12, .int .i64 0, .int .i64 60000000, .slice none 0 0, .int .i64 100000000, .int .i64 1, .int .i64 2, .int .i64 3, .int .i64 4, .int .i64 1, .slice (some ⟨gs, 0, none⟩) 1 1, .int .i64 0, .int .i64 0, .slice none 0 0]) (x := .int .i64 0) ?hr H7.out rfl ?_; (case hr => first | (go_simp; done) | (go_simp; rfl)); clear q15 f15 cq fq; intro v9 hb hbut; have K7 := Aside0.mk hb; have B9 := Aside0.mk (hbut.below B8.out g7ge B8.out.size); have KS := Aside0.mk (hbut.blk HS.out gsne); clear hb hbut))
      refine (prod_awake _ (HG.out.below B9.out)).mono ?_
      rintro e x1 ⟨rfl, hb⟩
      have X1 := Aside0.mk (below_step B9.out hb)
      have Y7 := Aside0.mk (blk_below K7.out hb)
      have YS := Aside0.mk (blk_below KS.out hb)
      clear hb
      go_wp2_with ((with_reducible refine gate_dst (N := 92) rfl ?_); refine load_want rfl 27 (.tmp 7) rfl g7 rfl 27 _ (0, 0) _ Y7.out Try.underlying27 rfl info_prod ?_)
      refine (check_late { plainP with late := [[5, 5]], count := 2, kind := 1, times := 12, grace := 0, rate := 60000000, penalty := 100000000, over := 1, cap := 0, roll := 0 } gs _ _ rfl rfl rfl _ (HG.out.below X1.out) YS.out rfl rfl (by decide) _ bd_8_0_1).mono ?_
      rintro e x2 ⟨rfl, hb⟩
      have X2 := Aside0.mk (below_step X1.out hb)
      clear hb
      go_wp2_with fail
      go_ret
      exact ⟨rfl, X2.out⟩
    · have cq := (blk_cell H7.out 17).trans rfl
      have fq := frozen_of_row v8 g7 17 _ _ H7.out
      go_wp2_with (first
      | ((with_reducible refine gate_store (t := 3) (p := 89) rfl ?_); refine put_event rfl (t := 3) (p := 89) (v := .tmp 88) rfl rfl (g := g7) (i := 17) (cs := #[.string ⟨#[104, 111, 109, 101]⟩, .int .i64 2, .int .i64 1, .int .i64 1, .int .i64 1, .int .i64 12, .int .i64 0, .int .i64 60000000, .slice none 0 0, .int .i64 100000000, .int .i64 1, .int .i64 2, .int .i64 3, .int .i64 4, .int .i64 1, .slice (some ⟨gs, 0, none⟩) 1 1, .int .i64 0, .int .i64 1, .slice none 0 0]) (cs' := #[.string ⟨#[104, 111, 109, 101]⟩, .int .i64 2, .int .i64 1, .int .i64 1, .int .i64 1, .int .i64 12, .int .i64 0, .int .i64 60000000, .slice none 0 0, .int .i64 100000000, .int .i64 1, .int .i64 2, .int .i64 3, .int .i64 4, .int .i64 1, .slice (some ⟨gs, 0, none⟩) 1 1, .int .i64 0, .int .i64 4, .slice none 0 0]) (x := .int .i64 4) ?hr H7.out rfl ?_; (case hr => first | (go_simp; done) | (go_simp; rfl)); clear q15 f15 cq fq; intro v9 hb hbut; have K7 := Aside0.mk hb; have B9 := Aside0.mk (hbut.below B8.out g7ge B8.out.size); have KS := Aside0.mk (hbut.blk HS.out gsne); clear hb hbut))
      refine (prod_awake _ (HG.out.below B9.out)).mono ?_
      rintro e x1 ⟨rfl, hb⟩
      have X1 := Aside0.mk (below_step B9.out hb)
      have Y7 := Aside0.mk (blk_below K7.out hb)
      have YS := Aside0.mk (blk_below KS.out hb)
      clear hb
      go_wp2_with ((with_reducible refine gate_dst (N := 92) rfl ?_); refine load_want rfl 27 (.tmp 7) rfl g7 rfl 27 _ (0, 0) _ Y7.out Try.underlying27 rfl info_prod ?_)
      refine (check_late { plainP with late := [[5, 5]], count := 2, kind := 1, times := 12, grace := 0, rate := 60000000, penalty := 100000000, over := 1, cap := 0, roll := 4 } gs _ _ rfl rfl rfl _ (HG.out.below X1.out) YS.out rfl rfl (by decide) _ bd_8_1_0).mono ?_
      rintro e x2 ⟨rfl, hb⟩
      have X2 := Aside0.mk (below_step X1.out hb)
      clear hb
      go_wp2_with fail
      go_ret
      exact ⟨rfl, X2.out⟩
    · have cq := (blk_cell H7.out 17).trans rfl
      have fq := frozen_of_row v8 g7 17 _ _ H7.out
      go_wp2_with (first
      | ((with_reducible refine gate_store (t := 3) (p := 89) rfl ?_); refine put_event rfl (t := 3) (p := 89) (v := .tmp 88) rfl rfl (g := g7) (i := 17) (cs := #[.string ⟨#[104, 111, 109, 101]⟩, .int .i64 2, .int .i64 1, .int .i64 1, .int .i64 1, .int .i64 12, .int .i64 0, .int .i64 60000000, .slice none 0 0, .int .i64 100000000, .int .i64 1, .int .i64 2, .int .i64 3, .int .i64 4, .int .i64 1, .slice (some ⟨gs, 0, none⟩) 1 1, .int .i64 0, .int .i64 1, .slice none 0 0]) (cs' := #[.string ⟨#[104, 111, 109, 101]⟩, .int .i64 2, .int .i64 1, .int .i64 1, .int .i64 1, .int .i64 12, .int .i64 0, .int .i64 60000000, .slice none 0 0, .int .i64 100000000, .int .i64 1, .int .i64 2, .int .i64 3, .int .i64 4, .int .i64 1, .slice (some ⟨gs, 0, none⟩) 1 1, .int .i64 0, .int .i64 5, .slice none 0 0]) (x := .int .i64 5) ?hr H7.out rfl ?_; (case hr => first | (go_simp; done) | (go_simp; rfl)); clear q15 f15 cq fq; intro v9 hb hbut; have K7 := Aside0.mk hb; have B9 := Aside0.mk (hbut.below B8.out g7ge B8.out.size); have KS := Aside0.mk (hbut.blk HS.out gsne); clear hb hbut))
      refine (prod_awake _ (HG.out.below B9.out)).mono ?_
      rintro e x1 ⟨rfl, hb⟩
      have X1 := Aside0.mk (below_step B9.out hb)
      have Y7 := Aside0.mk (blk_below K7.out hb)
      have YS := Aside0.mk (blk_below KS.out hb)
      clear hb
      go_wp2_with ((with_reducible refine gate_dst (N := 92) rfl ?_); refine load_want rfl 27 (.tmp 7) rfl g7 rfl 27 _ (0, 0) _ Y7.out Try.underlying27 rfl info_prod ?_)
      refine (check_late { plainP with late := [[5, 5]], count := 2, kind := 1, times := 12, grace := 0, rate := 60000000, penalty := 100000000, over := 1, cap := 0, roll := 5 } gs _ _ rfl rfl rfl _ (HG.out.below X1.out) YS.out rfl rfl (by decide) _ bd_8_1_1).mono ?_
      rintro e x2 ⟨rfl, hb⟩
      have X2 := Aside0.mk (below_step X1.out hb)
      clear hb
      go_wp2_with fail
      go_ret
      exact ⟨rfl, X2.out⟩
  · cases a1 <;> cases a2
    · have cq := (blk_cell HS.out 0).trans rfl
      have fq := frozen_of_row v8 gs 0 _ _ HS.out
      go_wp2_with (first
      | ((with_reducible refine gate_store (t := 3) (p := 53) rfl ?_); refine put_event rfl (t := 3) (p := 53) (v := .tmp 51) rfl rfl (g := gs) (i := 0) (cs := #[.int .i64 5, .int .i64 5]) (cs' := #[.int .i64 1, .int .i64 5]) (x := .int .i64 1) ?hr HS.out rfl ?_; (case hr => first | (go_simp; done) | (go_simp; rfl)); clear q15 f15 cq fq; intro v9 hb hbut; have KS := Aside0.mk hb; have B9 := Aside0.mk (hbut.below B8.out gsge B8.out.size); have K7 := Aside0.mk (hbut.blk H7.out (Ne.symm gsne)); clear hb hbut))
      refine (prod_awake _ (HG.out.below B9.out)).mono ?_
      rintro e x1 ⟨rfl, hb⟩
      have X1 := Aside0.mk (below_step B9.out hb)
      have Y7 := Aside0.mk (blk_below K7.out hb)
      have YS := Aside0.mk (blk_below KS.out hb)
      clear hb
      go_wp2_with ((with_reducible refine gate_dst (N := 92) rfl ?_); refine load_want rfl 27 (.tmp 7) rfl g7 rfl 27 _ (0, 0) _ Y7.out Try.underlying27 rfl info_prod ?_)
      refine (check_late { plainP with late := [[1, 5]], count := 2, kind := 1, times := 12, grace := 0, rate := 60000000, penalty := 100000000, over := 1, cap := 0, roll := 1 } gs _ _ rfl rfl rfl _ (HG.out.below X1.out) YS.out rfl rfl (by decide) _ bd_9_0_0).mono ?_
      rintro e x2 ⟨rfl, hb⟩
      have X2 := Aside0.mk (below_step X1.out hb)
      clear hb
      go_wp2_with fail
      go_ret
      exact ⟨rfl, X2.out⟩
    · have cq := (blk_cell HS.out 0).trans rfl
      have fq := frozen_of_row v8 gs 0 _ _ HS.out
      go_wp2_with (first
      | ((with_reducible refine gate_store (t := 3) (p := 53) rfl ?_); refine put_event rfl (t := 3) (p := 53) (v := .tmp 51) rfl rfl (g := gs) (i := 0) (cs := #[.int .i64 5, .int .i64 5]) (cs' := #[.int .i64 0, .int .i64 5]) (x := .int .i64 0) ?hr HS.out rfl ?_; (case hr => first | (go_simp; done) | (go_simp; rfl)); clear q15 f15 cq fq; intro v9 hb hbut; have KS := Aside0.mk hb; have B9 := Aside0.mk (hbut.below B8.out gsge B8.out.size); have K7 := Aside0.mk (hbut.blk H7.out (Ne.symm gsne)); clear hb hbut))
      refine (prod_awake _ (HG.out.below B9.out)).mono ?_
      rintro e x1 ⟨rfl, hb⟩
      have X1 := Aside0.mk (below_step B9.out hb)
      have Y7 := Aside0.mk (blk_below K7.out hb)
      have YS := Aside0.mk (blk_below KS.out hb)
      clear hb
      go_wp2_with ((with_reducible refine gate_dst (N := 92) rfl ?_); refine load_want rfl 27 (.tmp 7) rfl g7 rfl 27 _ (0, 0) _ Y7.out Try.underlying27 rfl info_prod ?_)
      refine (check_late { plainP with late := [[0, 5]], count := 2, kind := 1, times := 12, grace := 0, rate := 60000000, penalty := 100000000, over := 1, cap := 0, roll := 1 } gs _ _ rfl rfl rfl _ (HG.out.below X1.out) YS.out rfl rfl (by decide) _ bd_9_0_1).mono ?_
      rintro e x2 ⟨rfl, hb⟩
      have X2 := Aside0.mk (below_step X1.out hb)
      clear hb
      go_wp2_with fail
      go_ret
      exact ⟨rfl, X2.out⟩
    · have cq := (blk_cell HS.out 0).trans rfl
      have fq := frozen_of_row v8 gs 0 _ _ HS.out
      go_wp2_with (first
      | ((with_reducible refine gate_store (t := 3) (p := 53) rfl ?_); refine put_event rfl (t := 3) (p := 53) (v := .tmp 51) rfl rfl (g := gs) (i := 0) (cs := #[.int .i64 5, .int .i64 5]) (cs' := #[.int .i64 365, .int .i64 5]) (x := .int .i64 365) ?hr HS.out rfl ?_; (case hr => first | (go_simp; done) | (go_simp; rfl)); clear q15 f15 cq fq; intro v9 hb hbut; have KS := Aside0.mk hb; have B9 := Aside0.mk (hbut.below B8.out gsge B8.out.size); have K7 := Aside0.mk (hbut.blk H7.out (Ne.symm gsne)); clear hb hbut))
      refine (prod_awake _ (HG.out.below B9.out)).mono ?_
      rintro e x1 ⟨rfl, hb⟩
      have X1 := Aside0.mk (below_step B9.out hb)
      have Y7 := Aside0.mk (blk_below K7.out hb)
      have YS := Aside0.mk (blk_below KS.out hb)
      clear hb
      go_wp2_with ((with_reducible refine gate_dst (N := 92) rfl ?_); refine load_want rfl 27 (.tmp 7) rfl g7 rfl 27 _ (0, 0) _ Y7.out Try.underlying27 rfl info_prod ?_)
      refine (check_late { plainP with late := [[365, 5]], count := 2, kind := 1, times := 12, grace := 0, rate := 60000000, penalty := 100000000, over := 1, cap := 0, roll := 1 } gs _ _ rfl rfl rfl _ (HG.out.below X1.out) YS.out rfl rfl (by decide) _ bd_9_1_0).mono ?_
      rintro e x2 ⟨rfl, hb⟩
      have X2 := Aside0.mk (below_step X1.out hb)
      clear hb
      go_wp2_with fail
      go_ret
      exact ⟨rfl, X2.out⟩
    · have cq := (blk_cell HS.out 0).trans rfl
      have fq := frozen_of_row v8 gs 0 _ _ HS.out
      go_wp2_with (first
      | ((with_reducible refine gate_store (t := 3) (p := 53) rfl ?_); refine put_event rfl (t := 3) (p := 53) (v := .tmp 51) rfl rfl (g := gs) (i := 0) (cs := #[.int .i64 5, .int .i64 5]) (cs' := #[.int .i64 366, .int .i64 5]) (x := .int .i64 366) ?hr HS.out rfl ?_; (case hr => first | (go_simp; done) | (go_simp; rfl)); clear q15 f15 cq fq; intro v9 hb hbut; have KS := Aside0.mk hb; have B9 := Aside0.mk (hbut.below B8.out gsge B8.out.size); have K7 := Aside0.mk (hbut.blk H7.out (Ne.symm gsne)); clear hb hbut))
      refine (prod_awake _ (HG.out.below B9.out)).mono ?_
      rintro e x1 ⟨rfl, hb⟩
      have X1 := Aside0.mk (below_step B9.out hb)
      have Y7 := Aside0.mk (blk_below K7.out hb)
      have YS := Aside0.mk (blk_below KS.out hb)
      clear hb
      go_wp2_with ((with_reducible refine gate_dst (N := 92) rfl ?_); refine load_want rfl 27 (.tmp 7) rfl g7 rfl 27 _ (0, 0) _ Y7.out Try.underlying27 rfl info_prod ?_)
      refine (check_late { plainP with late := [[366, 5]], count := 2, kind := 1, times := 12, grace := 0, rate := 60000000, penalty := 100000000, over := 1, cap := 0, roll := 1 } gs _ _ rfl rfl rfl _ (HG.out.below X1.out) YS.out rfl rfl (by decide) _ bd_9_1_1).mono ?_
      rintro e x2 ⟨rfl, hb⟩
      have X2 := Aside0.mk (below_step X1.out hb)
      clear hb
      go_wp2_with fail
      go_ret
      exact ⟨rfl, X2.out⟩

end Go.Proofs.Ytcbebbiedegjlaa.Pd
