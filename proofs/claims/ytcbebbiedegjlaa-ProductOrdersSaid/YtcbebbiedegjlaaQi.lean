/- The law ProductOrders, walked. -/
import Derived.Test.YtcbebbiedegjlaaQg
import Derived.Lib.Hide
namespace Go.Proofs.Ytcbebbiedegjlaa.Pd
open Go.RowKit Go.Proofs.YtcbebbiedegjlaaW.PrintWords Go.Proofs.YtcbebbiedegjlaaW.PrintLast Go.Proofs.YtcbebbiedegjlaaW.PrintMore Go.Proofs.Ytcbebbiedegjlaa.HW
open Pm
set_option linter.unusedVariables false
set_option linter.unusedSimpArgs false
/-- The plain product with another order. -/
def ordP (a b c d : Int) : Prod := { plainP with o1 := a, o2 := b, o3 := c, o4 := d }
abbrev ordC (a b c d : Int) : Array Value :=
  #[.string ⟨#[104, 111, 109, 101]⟩, .int .i64 2, .int .i64 1, .int .i64 1, .int .i64 1, .int .i64 12, .int .i64 0, .int .i64 60000000, .slice none 0 0, .int .i64 100000000, .int .i64 a, .int .i64 b, .int .i64 c, .int .i64 d, .int .i64 1, .slice none 0 0, .int .i64 0, .int .i64 1, .slice none 0 0]
theorem small_ord (a b c d : Int) : Small (ordP a b c d) := ⟨by show (4 : Nat) ≤ _; decide, by show (0 : Nat) ≤ _; decide, by show (0 : Nat) ≤ _; decide, by show (0 : Nat) ≤ _; decide⟩
theorem err_ord (a b c d : Int) : err (ordP a b c d) = if orderOk a b c d = true then 0 else 9 := by
  have h1 : shapeOk (ordP a b c d) = true := by show shapeOk plainP = true; decide +kernel
  have h2 : ratesOk (ordP a b c d) = true := by show ratesOk plainP = true; decide +kernel
  have h3 : lateOk (ordP a b c d) = true := by show lateOk plainP = true; decide +kernel
  have h4 : daysOk (ordP a b c d) = true := by show daysOk plainP = true; decide +kernel
  have h5 : ordOk (ordP a b c d) = orderOk a b c d := by
    show (orderOk a b c d && decide ((1 : Int) ≤ 1 ∧ (1 : Int) ≤ 3)) = _
    simp
  unfold err ok
  rw [h1, h2, h3, h4, h5]
  simp
theorem check_ord (a b c d : Int) (r : Bool) (h : orderOk a b c d = r) (w : World) (hg : GV w) : Calls Try.prog 15 #[.agg (ordC a b c d)] w fun e w' => e = .returned (.int .i64 (if r = true then 0 else 9)) ∧ Below w.heap.size w w' := by
  have h1 := check_any (ordP a b c d) none 0 none 0 none 0 w hg (nilAt rfl rfl rfl) (small_ord a b c d)
  rw [err_ord, h] at h1
  exact h1
/-- The plain product, rolled to the next day. -/
def rollP (re : List (List Int)) (la : List (List Int)) (ho : List Int) (ro : Int) : Prod := { plainP with resets := re, late := la, hol := ho, roll := ro }
abbrev rollC (s1 s2 s3 : Value) (ro : Int) : Array Value :=
  #[.string ⟨#[104, 111, 109, 101]⟩, .int .i64 2, .int .i64 1, .int .i64 1, .int .i64 1, .int .i64 12, .int .i64 0, .int .i64 60000000, s1, .int .i64 100000000, .int .i64 1, .int .i64 2, .int .i64 3, .int .i64 4, .int .i64 1, s2, .int .i64 0, .int .i64 ro, s3]
theorem check_roll (p : Prod) (A1 : Option Addr) (c1 : Nat) (A2 : Option Addr) (c2 : Nat) (A3 : Option Addr) (c3 : Nat) (w : World) (hg : GV w) (hp : ProdAt w p A1 c1 A2 c2 A3 c3) (hs : p.name.size ≤ 1000 ∧ p.resets.length ≤ 1000 ∧ p.late.length ≤ 1000 ∧ p.hol.length ≤ 1000) (he : err p = 9) :
    Calls Try.prog 15 #[pv p A1 c1 A2 c2 A3 c3] w fun e w' => e = .returned (.int .i64 9) ∧ Below w.heap.size w w' := by
  have h1 := check_any p A1 c1 A2 c2 A3 c3 w hg hp ⟨by omega, by omega, by omega, by omega⟩
  rw [he] at h1
  exact h1
theorem eql_six (x : Int) : ∃ i : Nat, i < 6 ∧ Int.tmod (IntKind.u64.wrap x) 6 = (i : Int) ∧ IntKind.u64.wrap x % 6 = (i : Int) := by
  have h := Int.emod_nonneg x (show (18446744073709551616 : Int) ≠ 0 by omega)
  have e : IntKind.u64.wrap x = x % 18446744073709551616 := rfl
  rw [e, Int.tmod_eq_emod_of_nonneg h]
  exact ⟨(x % 18446744073709551616 % 6).toNat, by omega, by omega, by omega⟩
set_option maxRecDepth 100000 in
set_option maxHeartbeats 4000000 in
theorem productOrders_walk (a0 a1 a2 a3 a4 : Int) (w : World) (w0 : (Lit.int .i64 a0).wf = true) (w1 : (Lit.int .i64 a1).wf = true) (w2 : (Lit.int .i64 a2).wf = true) (w3 : (Lit.int .i64 a3).wf = true) (w4 : (Lit.int .i64 a4).wf = true) (hgv : GV w) :
    Calls Try.prog 5 #[.int .i64 a0, .int .i64 a1, .int .i64 a2, .int .i64 a3, .int .i64 a4] w fun e w' => e = .returned (.bool true) ∧ Below w.heap.size w w' := by
  have HG := Aside0.mk hgv
  obtain ⟨r, hr⟩ : ∃ r, orderOk a0 a1 a2 a3 = r := ⟨_, rfl⟩
  have HR := Aside0.mk hr
  obtain ⟨j, hj, ej, ej2⟩ := eql_six a4
  have EJ := Aside0.mk (And.intro ej ej2)
  clear hgv hr w0 w1 w2 w3 w4 ej ej2
  go_enter Try.func5, Try.ntmps5
  go_wp2_with fail
  refine (plain_any _).mono ?_
  rintro e v1 ⟨rfl, hb⟩
  have B1 := Aside0.mk hb
  clear hb
  go_wp2_with (first
    | ((with_reducible refine gate_dst (N := 11) rfl ?_); refine copy_event rfl (N := 11) rfl rfl rfl (t := 27) (v := .tmp 14) rfl (cs := plainC) (zs := pzs) ?hr rfl rfl info_prod ?hz plainC_one ?_; (case hr => first | (go_simp; done) | (go_simp; rfl)); (case hz => rfl); intro g11 hg v2 hb0 hbl0; have g11ge := (show w.heap.size ≤ g11 by rw [hg]; exact B1.out.size); have H11 := Aside0.mk hb0; have BX := Aside0.mk (below_step B1.out hbl0); clear hg hb0 hbl0)
    | ((with_reducible refine gate_store (t := 23) (p := 20) rfl ?_); refine puts_event rfl (t := 23) (p := 20) (v := .tmp 19) rfl rfl (g := g11) (i := 10) (cs := plainC) (cs' := ordC a0 a1 a2 a3) (vs := #[.int .i64 a0, .int .i64 a1, .int .i64 a2, .int .i64 a3]) rfl rfl H11.out (by simp) (by kernel_rfl) (by simp [Value.oneCell']) rfl ?_; intro v3 hb hbut; have H11 := Aside0.mk hb; have B3 := Aside0.mk (hbut.below BX.out g11ge BX.out.size); obtain ⟨-, -, -, -, -, -, -, -, -, -, q10, q11, q12, q13, -⟩ := pc_cells (p := ordP a0 a1 a2 a3) (A1 := none) (c1 := 0) (A2 := none) (c2 := 0) (A3 := none) (c3 := 0) hb; clear hb hbut BX))
  refine (rorder_any a0 a1 a2 a3 _).mono ?_
  rw [HR.out]
  rintro e v4 ⟨rfl, hb⟩
  have B4 := Aside0.mk (below_step B3.out hb)
  have K11 := Aside0.mk (blk_below H11.out hb)
  clear hb q10 q11 q12 q13 B3 H11
  go_wp2_with fail
  refine (plain_any _).mono ?_
  rintro e v5 ⟨rfl, hb⟩
  have B5 := Aside0.mk (below_step B4.out hb)
  have L11 := Aside0.mk (blk_below K11.out hb)
  clear hb B4 K11
  go_wp2_with (first
    | ((with_reducible refine gate_dst (N := 13) rfl ?_); refine copy_event rfl (N := 13) rfl rfl rfl (t := 27) (v := .tmp 24) rfl (cs := plainC) (zs := pzs) ?hr rfl rfl info_prod ?hz plainC_one ?_; (case hr => first | (go_simp; done) | (go_simp; rfl)); (case hz => rfl); intro g13 hg v6 hb0 hbl0; have g13ge := (show w.heap.size ≤ g13 by rw [hg]; exact B5.out.size); have H13 := Aside0.mk hb0; have BX := Aside0.mk (below_step B5.out hbl0); have M11 := Aside0.mk (blk_below L11.out hbl0); have gne : g11 ≠ g13 := (by have h1 := blk_lt L11.out; omega); have c17 := (blk_cell hb0 17).trans rfl; have f17 := frozen_of_row v6 g13 17 _ _ hb0; clear hg hb0 hbl0 L11)
    | ((with_reducible refine gate_store (t := 3) (p := 25) rfl ?_); refine put_event rfl (t := 3) (p := 25) (v := .const (.int .i64 2)) rfl rfl (g := g13) (i := 17) (cs := plainC) (cs' := rollC (.slice none 0 0) (.slice none 0 0) (.slice none 0 0) 2) (x := .int .i64 2) ?hr H13.out rfl ?_; (case hr => first | (go_simp; done) | (go_simp; rfl)); intro v7 hb hbut; have N13 := Aside0.mk hb; have B7 := Aside0.mk (hbut.below BX.out g13ge BX.out.size); have N11 := Aside0.mk (hbut.blk M11.out gne); clear hb hbut BX M11 H13 c17 f17)
    | ((with_reducible refine gate_dst (N := 33) rfl ?_); refine Hid.out ?_))
  refine Lib.hid ?_
  obtain ⟨ej, ej2⟩ := EJ.out
  rw [ej]
  clear ej ej2
  rcases (by omega : j = 0 ∨ j = 1 ∨ j = 2 ∨ j = 3 ∨ j = 4 ∨ j = 5) with rfl | rfl | rfl | rfl | rfl | rfl
  · go_wp2_with (first
    | ((with_reducible refine gate_dst (N := 36) rfl ?_); refine lit_event rfl (N := 36) rfl (cs := #[.int .i64 3, .int .i64 0, .int .i64 3, .int .i64 0]) (t := 31) (n := 2) ?hr ?_; (case hr => first | (go_simp; done) | (go_simp; rfl)); intro gs hg v8 hbs hbl; have S8 := Aside0.mk hbs; have B8 := Aside0.mk (below_step B7.out hbl); have O13 := Aside0.mk (blk_below N13.out hbl); have O11 := Aside0.mk (blk_below N11.out hbl); have gs1 : gs ≠ g13 := (by have h1 := blk_lt N13.out; omega); have cq := (blk_cell (blk_below N13.out hbl) 8).trans rfl; have fq := frozen_of_row v8 g13 8 _ _ (blk_below N13.out hbl); clear hg hbs hbl N13 N11)
    | ((with_reducible refine gate_store (t := 22) (p := 37) rfl ?_); refine put_event rfl (t := 22) (p := 37) (v := .tmp 36) rfl rfl (g := g13) (i := 8) (cs := rollC (.slice none 0 0) (.slice none 0 0) (.slice none 0 0) 2) (cs' := rollC (.slice (some ⟨gs, 0, none⟩) 2 2) (.slice none 0 0) (.slice none 0 0) 2) (x := .slice (some ⟨gs, 0, none⟩) 2 2) ?hr O13.out rfl ?_; (case hr => first | (go_simp; done) | (go_simp; rfl)); clear cq fq; intro v9 hb hbut; have P13 := Aside0.mk hb; have B9 := Aside0.mk (hbut.below B8.out g13ge B8.out.size); have P11 := Aside0.mk (hbut.blk O11.out gne); have S9 := Aside0.mk (hbut.blk S8.out gs1); clear hb hbut))
    refine (prod_awake _ (HG.out.below B9.out)).mono ?_
    rintro e x1 ⟨rfl, hb⟩
    have X1 := Aside0.mk (below_step B9.out hb)
    have Y11 := Aside0.mk (blk_below P11.out hb)
    have Y13 := Aside0.mk (blk_below P13.out hb)
    have YS := Aside0.mk (blk_below S9.out hb)
    clear hb
    go_wp2_with ((with_reducible refine gate_dst (N := 61) rfl ?_); refine load_want rfl 27 (.tmp 11) rfl g11 rfl 27 _ (0, 0) _ Y11.out Try.underlying27 rfl info_prod ?_)
    refine (check_ord a0 a1 a2 a3 r HR.out _ (HG.out.below X1.out)).mono ?_
    rintro e x2 ⟨rfl, hb⟩
    have X2 := Aside0.mk (below_step X1.out hb)
    have Z13 := Aside0.mk (blk_below Y13.out hb)
    have ZS := Aside0.mk (blk_below YS.out hb)
    clear hb
    cases r
    all_goals
      go_wp2_with ((with_reducible refine gate_dst (N := 68) rfl ?_); refine load_want rfl 27 (.tmp 13) rfl g13 rfl 27 _ (0, 0) _ Z13.out Try.underlying27 rfl info_prod ?_)
      refine (check_roll (rollP [[3, 0], [3, 0]] [] [] 2) (some ⟨gs, 0, none⟩) 2 none 0 none 0 _ (HG.out.below X2.out) (⟨rows_two ZS.out rfl rfl rfl rfl, Nat.le_refl _, fun h => by (cases h), nilRows _, Nat.le_refl _, fun _ => rfl, Kd.C_nil _ _, Nat.le_refl _, fun _ => rfl⟩) (by decide +kernel) (by decide +kernel)).mono ?_
      rintro e x3 ⟨rfl, hb⟩
      have X3 := Aside0.mk (below_step X2.out hb)
      clear hb
      go_wp2_with fail
      go_ret
      exact ⟨rfl, X3.out⟩
  · go_wp2_with (first
    | ((with_reducible refine gate_dst (N := 41) rfl ?_); refine lit_event rfl (N := 41) rfl (cs := #[.int .i64 12, .int .i64 0]) (t := 31) (n := 1) ?hr ?_; (case hr => first | (go_simp; done) | (go_simp; rfl)); intro gs hg v8 hbs hbl; have S8 := Aside0.mk hbs; have B8 := Aside0.mk (below_step B7.out hbl); have O13 := Aside0.mk (blk_below N13.out hbl); have O11 := Aside0.mk (blk_below N11.out hbl); have gs1 : gs ≠ g13 := (by have h1 := blk_lt N13.out; omega); have cq := (blk_cell (blk_below N13.out hbl) 8).trans rfl; have fq := frozen_of_row v8 g13 8 _ _ (blk_below N13.out hbl); clear hg hbs hbl N13 N11)
    | ((with_reducible refine gate_store (t := 22) (p := 42) rfl ?_); refine put_event rfl (t := 22) (p := 42) (v := .tmp 41) rfl rfl (g := g13) (i := 8) (cs := rollC (.slice none 0 0) (.slice none 0 0) (.slice none 0 0) 2) (cs' := rollC (.slice (some ⟨gs, 0, none⟩) 1 1) (.slice none 0 0) (.slice none 0 0) 2) (x := .slice (some ⟨gs, 0, none⟩) 1 1) ?hr O13.out rfl ?_; (case hr => first | (go_simp; done) | (go_simp; rfl)); clear cq fq; intro v9 hb hbut; have P13 := Aside0.mk hb; have B9 := Aside0.mk (hbut.below B8.out g13ge B8.out.size); have P11 := Aside0.mk (hbut.blk O11.out gne); have S9 := Aside0.mk (hbut.blk S8.out gs1); clear hb hbut))
    refine (prod_awake _ (HG.out.below B9.out)).mono ?_
    rintro e x1 ⟨rfl, hb⟩
    have X1 := Aside0.mk (below_step B9.out hb)
    have Y11 := Aside0.mk (blk_below P11.out hb)
    have Y13 := Aside0.mk (blk_below P13.out hb)
    have YS := Aside0.mk (blk_below S9.out hb)
    clear hb
    go_wp2_with ((with_reducible refine gate_dst (N := 61) rfl ?_); refine load_want rfl 27 (.tmp 11) rfl g11 rfl 27 _ (0, 0) _ Y11.out Try.underlying27 rfl info_prod ?_)
    refine (check_ord a0 a1 a2 a3 r HR.out _ (HG.out.below X1.out)).mono ?_
    rintro e x2 ⟨rfl, hb⟩
    have X2 := Aside0.mk (below_step X1.out hb)
    have Z13 := Aside0.mk (blk_below Y13.out hb)
    have ZS := Aside0.mk (blk_below YS.out hb)
    clear hb
    cases r
    all_goals
      go_wp2_with ((with_reducible refine gate_dst (N := 68) rfl ?_); refine load_want rfl 27 (.tmp 13) rfl g13 rfl 27 _ (0, 0) _ Z13.out Try.underlying27 rfl info_prod ?_)
      refine (check_roll (rollP [[12, 0]] [] [] 2) (some ⟨gs, 0, none⟩) 1 none 0 none 0 _ (HG.out.below X2.out) (⟨rows_one ZS.out rfl rfl, Nat.le_refl _, fun h => by (cases h), nilRows _, Nat.le_refl _, fun _ => rfl, Kd.C_nil _ _, Nat.le_refl _, fun _ => rfl⟩) (by decide +kernel) (by decide +kernel)).mono ?_
      rintro e x3 ⟨rfl, hb⟩
      have X3 := Aside0.mk (below_step X2.out hb)
      clear hb
      go_wp2_with fail
      go_ret
      exact ⟨rfl, X3.out⟩
  · go_wp2_with (first
    | ((with_reducible refine gate_dst (N := 47) rfl ?_); refine lit_event rfl (N := 47) rfl (cs := #[.int .i64 5, .int .i64 9, .int .i64 6, .int .i64 8]) (t := 34) (n := 2) ?hr ?_; (case hr => first | (go_simp; done) | (go_simp; rfl)); intro gs hg v8 hbs hbl; have S8 := Aside0.mk hbs; have B8 := Aside0.mk (below_step B7.out hbl); have O13 := Aside0.mk (blk_below N13.out hbl); have O11 := Aside0.mk (blk_below N11.out hbl); have gs1 : gs ≠ g13 := (by have h1 := blk_lt N13.out; omega); have cq := (blk_cell (blk_below N13.out hbl) 15).trans rfl; have fq := frozen_of_row v8 g13 15 _ _ (blk_below N13.out hbl); clear hg hbs hbl N13 N11)
    | ((with_reducible refine gate_store (t := 24) (p := 48) rfl ?_); refine put_event rfl (t := 24) (p := 48) (v := .tmp 47) rfl rfl (g := g13) (i := 15) (cs := rollC (.slice none 0 0) (.slice none 0 0) (.slice none 0 0) 2) (cs' := rollC (.slice none 0 0) (.slice (some ⟨gs, 0, none⟩) 2 2) (.slice none 0 0) 2) (x := .slice (some ⟨gs, 0, none⟩) 2 2) ?hr O13.out rfl ?_; (case hr => first | (go_simp; done) | (go_simp; rfl)); clear cq fq; intro v9 hb hbut; have P13 := Aside0.mk hb; have B9 := Aside0.mk (hbut.below B8.out g13ge B8.out.size); have P11 := Aside0.mk (hbut.blk O11.out gne); have S9 := Aside0.mk (hbut.blk S8.out gs1); clear hb hbut))
    refine (prod_awake _ (HG.out.below B9.out)).mono ?_
    rintro e x1 ⟨rfl, hb⟩
    have X1 := Aside0.mk (below_step B9.out hb)
    have Y11 := Aside0.mk (blk_below P11.out hb)
    have Y13 := Aside0.mk (blk_below P13.out hb)
    have YS := Aside0.mk (blk_below S9.out hb)
    clear hb
    go_wp2_with ((with_reducible refine gate_dst (N := 61) rfl ?_); refine load_want rfl 27 (.tmp 11) rfl g11 rfl 27 _ (0, 0) _ Y11.out Try.underlying27 rfl info_prod ?_)
    refine (check_ord a0 a1 a2 a3 r HR.out _ (HG.out.below X1.out)).mono ?_
    rintro e x2 ⟨rfl, hb⟩
    have X2 := Aside0.mk (below_step X1.out hb)
    have Z13 := Aside0.mk (blk_below Y13.out hb)
    have ZS := Aside0.mk (blk_below YS.out hb)
    clear hb
    cases r
    all_goals
      go_wp2_with ((with_reducible refine gate_dst (N := 68) rfl ?_); refine load_want rfl 27 (.tmp 13) rfl g13 rfl 27 _ (0, 0) _ Z13.out Try.underlying27 rfl info_prod ?_)
      refine (check_roll (rollP [] [[5, 9], [6, 8]] [] 2) none 0 (some ⟨gs, 0, none⟩) 2 none 0 _ (HG.out.below X2.out) (⟨nilRows _, Nat.le_refl _, fun _ => rfl, rows_two ZS.out rfl rfl rfl rfl, Nat.le_refl _, fun h => by (cases h), Kd.C_nil _ _, Nat.le_refl _, fun _ => rfl⟩) (by decide +kernel) (by decide +kernel)).mono ?_
      rintro e x3 ⟨rfl, hb⟩
      have X3 := Aside0.mk (below_step X2.out hb)
      clear hb
      go_wp2_with fail
      go_ret
      exact ⟨rfl, X3.out⟩
  · go_wp2_with (first
    | ((with_reducible refine gate_dst (N := 53) rfl ?_); refine lit_event rfl (N := 53) rfl (cs := #[.int .i64 5, .int .i64 9, .int .i64 5, .int .i64 9]) (t := 34) (n := 2) ?hr ?_; (case hr => first | (go_simp; done) | (go_simp; rfl)); intro gs hg v8 hbs hbl; have S8 := Aside0.mk hbs; have B8 := Aside0.mk (below_step B7.out hbl); have O13 := Aside0.mk (blk_below N13.out hbl); have O11 := Aside0.mk (blk_below N11.out hbl); have gs1 : gs ≠ g13 := (by have h1 := blk_lt N13.out; omega); have cq := (blk_cell (blk_below N13.out hbl) 15).trans rfl; have fq := frozen_of_row v8 g13 15 _ _ (blk_below N13.out hbl); clear hg hbs hbl N13 N11)
    | ((with_reducible refine gate_store (t := 24) (p := 54) rfl ?_); refine put_event rfl (t := 24) (p := 54) (v := .tmp 53) rfl rfl (g := g13) (i := 15) (cs := rollC (.slice none 0 0) (.slice none 0 0) (.slice none 0 0) 2) (cs' := rollC (.slice none 0 0) (.slice (some ⟨gs, 0, none⟩) 2 2) (.slice none 0 0) 2) (x := .slice (some ⟨gs, 0, none⟩) 2 2) ?hr O13.out rfl ?_; (case hr => first | (go_simp; done) | (go_simp; rfl)); clear cq fq; intro v9 hb hbut; have P13 := Aside0.mk hb; have B9 := Aside0.mk (hbut.below B8.out g13ge B8.out.size); have P11 := Aside0.mk (hbut.blk O11.out gne); have S9 := Aside0.mk (hbut.blk S8.out gs1); clear hb hbut))
    refine (prod_awake _ (HG.out.below B9.out)).mono ?_
    rintro e x1 ⟨rfl, hb⟩
    have X1 := Aside0.mk (below_step B9.out hb)
    have Y11 := Aside0.mk (blk_below P11.out hb)
    have Y13 := Aside0.mk (blk_below P13.out hb)
    have YS := Aside0.mk (blk_below S9.out hb)
    clear hb
    go_wp2_with ((with_reducible refine gate_dst (N := 61) rfl ?_); refine load_want rfl 27 (.tmp 11) rfl g11 rfl 27 _ (0, 0) _ Y11.out Try.underlying27 rfl info_prod ?_)
    refine (check_ord a0 a1 a2 a3 r HR.out _ (HG.out.below X1.out)).mono ?_
    rintro e x2 ⟨rfl, hb⟩
    have X2 := Aside0.mk (below_step X1.out hb)
    have Z13 := Aside0.mk (blk_below Y13.out hb)
    have ZS := Aside0.mk (blk_below YS.out hb)
    clear hb
    cases r
    all_goals
      go_wp2_with ((with_reducible refine gate_dst (N := 68) rfl ?_); refine load_want rfl 27 (.tmp 13) rfl g13 rfl 27 _ (0, 0) _ Z13.out Try.underlying27 rfl info_prod ?_)
      refine (check_roll (rollP [] [[5, 9], [5, 9]] [] 2) none 0 (some ⟨gs, 0, none⟩) 2 none 0 _ (HG.out.below X2.out) (⟨nilRows _, Nat.le_refl _, fun _ => rfl, rows_two ZS.out rfl rfl rfl rfl, Nat.le_refl _, fun h => by (cases h), Kd.C_nil _ _, Nat.le_refl _, fun _ => rfl⟩) (by decide +kernel) (by decide +kernel)).mono ?_
      rintro e x3 ⟨rfl, hb⟩
      have X3 := Aside0.mk (below_step X2.out hb)
      clear hb
      go_wp2_with fail
      go_ret
      exact ⟨rfl, X3.out⟩
  · go_wp2_with (first
    | ((with_reducible refine gate_dst (N := 57) rfl ?_); refine lit_event rfl (N := 57) rfl (cs := #[.int .i64 5, .int .i64 5]) (t := 3) (n := 2) ?hr ?_; (case hr => first | (go_simp; done) | (go_simp; rfl)); intro gs hg v8 hbs hbl; have S8 := Aside0.mk hbs; have B8 := Aside0.mk (below_step B7.out hbl); have O13 := Aside0.mk (blk_below N13.out hbl); have O11 := Aside0.mk (blk_below N11.out hbl); have gs1 : gs ≠ g13 := (by have h1 := blk_lt N13.out; omega); have cq := (blk_cell (blk_below N13.out hbl) 18).trans rfl; have fq := frozen_of_row v8 g13 18 _ _ (blk_below N13.out hbl); clear hg hbs hbl N13 N11)
    | ((with_reducible refine gate_store (t := 25) (p := 58) rfl ?_); refine put_event rfl (t := 25) (p := 58) (v := .tmp 57) rfl rfl (g := g13) (i := 18) (cs := rollC (.slice none 0 0) (.slice none 0 0) (.slice none 0 0) 2) (cs' := rollC (.slice none 0 0) (.slice none 0 0) (.slice (some ⟨gs, 0, none⟩) 2 2) 2) (x := .slice (some ⟨gs, 0, none⟩) 2 2) ?hr O13.out rfl ?_; (case hr => first | (go_simp; done) | (go_simp; rfl)); clear cq fq; intro v9 hb hbut; have P13 := Aside0.mk hb; have B9 := Aside0.mk (hbut.below B8.out g13ge B8.out.size); have P11 := Aside0.mk (hbut.blk O11.out gne); have S9 := Aside0.mk (hbut.blk S8.out gs1); clear hb hbut))
    refine (prod_awake _ (HG.out.below B9.out)).mono ?_
    rintro e x1 ⟨rfl, hb⟩
    have X1 := Aside0.mk (below_step B9.out hb)
    have Y11 := Aside0.mk (blk_below P11.out hb)
    have Y13 := Aside0.mk (blk_below P13.out hb)
    have YS := Aside0.mk (blk_below S9.out hb)
    clear hb
    go_wp2_with ((with_reducible refine gate_dst (N := 61) rfl ?_); refine load_want rfl 27 (.tmp 11) rfl g11 rfl 27 _ (0, 0) _ Y11.out Try.underlying27 rfl info_prod ?_)
    refine (check_ord a0 a1 a2 a3 r HR.out _ (HG.out.below X1.out)).mono ?_
    rintro e x2 ⟨rfl, hb⟩
    have X2 := Aside0.mk (below_step X1.out hb)
    have Z13 := Aside0.mk (blk_below Y13.out hb)
    have ZS := Aside0.mk (blk_below YS.out hb)
    clear hb
    cases r
    all_goals
      go_wp2_with ((with_reducible refine gate_dst (N := 68) rfl ?_); refine load_want rfl 27 (.tmp 13) rfl g13 rfl 27 _ (0, 0) _ Z13.out Try.underlying27 rfl info_prod ?_)
      refine (check_roll (rollP [] [] [5, 5] 2) none 0 none 0 (some ⟨gs, 0, none⟩) 2 _ (HG.out.below X2.out) (⟨nilRows _, Nat.le_refl _, fun _ => rfl, nilRows _, Nat.le_refl _, fun _ => rfl, hols_blk [5, 5] ZS.out (by decide), Nat.le_refl _, fun h => by (cases h)⟩) (by decide +kernel) (by decide +kernel)).mono ?_
      rintro e x3 ⟨rfl, hb⟩
      have X3 := Aside0.mk (below_step X2.out hb)
      clear hb
      go_wp2_with fail
      go_ret
      exact ⟨rfl, X3.out⟩
  · go_wp2_with (first
    | ((with_reducible refine gate_dst (N := 29) rfl ?_); refine lit_event rfl (N := 29) rfl (cs := #[.int .i64 5]) (t := 3) (n := 1) ?hr ?_; (case hr => first | (go_simp; done) | (go_simp; rfl)); intro gs hg v8 hbs hbl; have S8 := Aside0.mk hbs; have B8 := Aside0.mk (below_step B7.out hbl); have O13 := Aside0.mk (blk_below N13.out hbl); have O11 := Aside0.mk (blk_below N11.out hbl); have gs1 : gs ≠ g13 := (by have h1 := blk_lt N13.out; omega); have cq := (blk_cell (blk_below N13.out hbl) 17).trans rfl; have fq := frozen_of_row v8 g13 17 _ _ (blk_below N13.out hbl); clear hg hbs hbl N13 N11)
    | ((with_reducible refine gate_store (t := 3) (p := 30) rfl ?_); refine put_event rfl (t := 3) (p := 30) (v := .const (.int .i64 1)) rfl rfl (g := g13) (i := 17) (cs := rollC (.slice none 0 0) (.slice none 0 0) (.slice none 0 0) 2) (cs' := rollC (.slice none 0 0) (.slice none 0 0) (.slice none 0 0) 1) (x := .int .i64 1) ?hr O13.out rfl ?_; (case hr => first | (go_simp; done) | (go_simp; rfl)); clear cq fq; intro v9 hb hbut; have P13 := Aside0.mk hb; have B9 := Aside0.mk (hbut.below B8.out g13ge B8.out.size); have P11 := Aside0.mk (hbut.blk O11.out gne); have S9 := Aside0.mk (hbut.blk S8.out gs1); have cq := (blk_cell hb 18).trans rfl; have fq := frozen_of_row v9 g13 18 _ _ hb; clear hb hbut)
    | ((with_reducible refine gate_store (t := 25) (p := 31) rfl ?_); refine put_event rfl (t := 25) (p := 31) (v := .tmp 29) rfl rfl (g := g13) (i := 18) (cs := rollC (.slice none 0 0) (.slice none 0 0) (.slice none 0 0) 1) (cs' := rollC (.slice none 0 0) (.slice none 0 0) (.slice (some ⟨gs, 0, none⟩) 1 1) 1) (x := .slice (some ⟨gs, 0, none⟩) 1 1) ?hr P13.out rfl ?_; (case hr => first | (go_simp; done) | (go_simp; rfl)); clear cq fq; intro v10 hb hbut; have R13 := Aside0.mk hb; have B10 := Aside0.mk (hbut.below B9.out g13ge B9.out.size); have R11 := Aside0.mk (hbut.blk P11.out gne); have S10 := Aside0.mk (hbut.blk S9.out gs1); clear hb hbut))
    refine (prod_awake _ (HG.out.below B10.out)).mono ?_
    rintro e x1 ⟨rfl, hb⟩
    have X1 := Aside0.mk (below_step B10.out hb)
    have Y11 := Aside0.mk (blk_below R11.out hb)
    have Y13 := Aside0.mk (blk_below R13.out hb)
    have YS := Aside0.mk (blk_below S10.out hb)
    clear hb
    go_wp2_with ((with_reducible refine gate_dst (N := 61) rfl ?_); refine load_want rfl 27 (.tmp 11) rfl g11 rfl 27 _ (0, 0) _ Y11.out Try.underlying27 rfl info_prod ?_)
    refine (check_ord a0 a1 a2 a3 r HR.out _ (HG.out.below X1.out)).mono ?_
    rintro e x2 ⟨rfl, hb⟩
    have X2 := Aside0.mk (below_step X1.out hb)
    have Z13 := Aside0.mk (blk_below Y13.out hb)
    have ZS := Aside0.mk (blk_below YS.out hb)
    clear hb
    cases r
    all_goals
      go_wp2_with ((with_reducible refine gate_dst (N := 68) rfl ?_); refine load_want rfl 27 (.tmp 13) rfl g13 rfl 27 _ (0, 0) _ Z13.out Try.underlying27 rfl info_prod ?_)
      refine (check_roll (rollP [] [] [5] 1) none 0 none 0 (some ⟨gs, 0, none⟩) 1 _ (HG.out.below X2.out) (⟨nilRows _, Nat.le_refl _, fun _ => rfl, nilRows _, Nat.le_refl _, fun _ => rfl, hols_blk [5] ZS.out (by decide), Nat.le_refl _, fun h => by (cases h)⟩) (by decide +kernel) (by decide +kernel)).mono ?_
      rintro e x3 ⟨rfl, hb⟩
      have X3 := Aside0.mk (below_step X2.out hb)
      clear hb
      go_wp2_with fail
      go_ret
      exact ⟨rfl, X3.out⟩
end Go.Proofs.Ytcbebbiedegjlaa.Pd
