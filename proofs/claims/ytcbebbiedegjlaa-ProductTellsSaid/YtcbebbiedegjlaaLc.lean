/- Contracts by hand: what a program that does nothing does not answer (late fees); rows of a literal. -/
import Derived.Test.YtcbebbiedegjlaaLb
namespace Go.Proofs.Ytcbebbiedegjlaa.Pd
open Go.RowKit Go.Proofs.YtcbebbiedegjlaaW.PrintWords Go.Proofs.YtcbebbiedegjlaaW.PrintLast Go.Proofs.YtcbebbiedegjlaaW.PrintMore Go.Proofs.Ytcbebbiedegjlaa.HW
open Pm
set_option linter.unusedVariables false
set_option linter.unusedSimpArgs false
theorem flatten_at {sz : Nat} : ∀ (rows : List (List Int)) (i j : Nat) (r : List Int) (x : Int), (∀ r ∈ rows, r.length = sz) → rows[i]? = some r → r[j]? = some x → rows.flatten[i * sz + j]? = some x
  | [], i, j, r, x, _, h, _ => by simp at h
  | a :: l, 0, j, r, x, hl, h, hx => by
    obtain rfl : a = r := by simpa using h
    have hj := (List.getElem?_eq_some_iff.1 hx).1
    rw [List.flatten_cons, Nat.zero_mul, Nat.zero_add, List.getElem?_append_left hj]
    exact hx
  | a :: l, i + 1, j, r, x, hl, h, hx => by
    have ha := hl a (by simp)
    have e : (i + 1) * sz + j = a.length + (i * sz + j) := by rw [ha, Nat.add_mul]; omega
    rw [List.flatten_cons, e, List.getElem?_append_right (by omega), Nat.add_sub_cancel_left]
    exact flatten_at l i j r x (fun r hr => hl r (List.mem_cons_of_mem _ hr)) (by simpa using h) hx
theorem rows_blk {W : World} {g sz : Nat} {T : TypeId} (rows : List (List Int)) (h : W.heap[g]? = some (.cells (rows.flatten.map (Value.int .i64)).toArray T (0, 0))) (hl : ∀ r ∈ rows, r.length = sz) (hw : ∀ r ∈ rows, ∀ x ∈ r, (Lit.int .i64 x).wf = true) : Op.IntRows W (some ⟨g, 0, none⟩) sz rows := by
  refine ⟨fun r hr => ⟨hl r hr, hw r hr⟩, fun i r hi => ⟨_, rfl, fun j x hj => ?_⟩⟩
  rw [Addr.add_mid, Nat.zero_add, blk_cell h, List.getElem?_toArray, List.getElem?_map, flatten_at rows i j r x hl hi hj]
  rfl
/-- The plain product with tiers. -/
def lateP (rows : List (List Int)) (cp : Int) : Prod := { plainP with late := rows, cap := cp }
abbrev lateC (s2 : Value) (cp : Int) : Array Value :=
  #[.string ⟨#[104, 111, 109, 101]⟩, .int .i64 2, .int .i64 1, .int .i64 1, .int .i64 1, .int .i64 12, .int .i64 0, .int .i64 60000000, .slice none 0 0, .int .i64 100000000, .int .i64 1, .int .i64 2, .int .i64 3, .int .i64 4, .int .i64 1, s2, .int .i64 cp, .int .i64 1, .slice none 0 0]
theorem lateP_small {rows : List (List Int)} {cp : Int} (h : rows.length ≤ 1000) : Small (lateP rows cp) := ⟨by show (4 : Nat) ≤ _; decide, by show (0 : Nat) ≤ _; decide, by show rows.length ≤ _; omega, by show (0 : Nat) ≤ _; decide⟩
theorem lateP_at {W : World} {A2 : Option Addr} {c2 : Nat} {rows : List (List Int)} {cp : Int} (h : Op.IntRows W A2 2 rows) (hc : rows.length ≤ c2) (hn : A2 = none → c2 = 0) : ProdAt W (lateP rows cp) none 0 A2 c2 none 0 :=
  ⟨nilRows W, Nat.le_refl _, fun _ => rfl, h, hc, hn, Kd.C_nil _ W, Nat.le_refl _, fun _ => rfl⟩
theorem on_late (rows : List (List Int)) (cp : Int) (A2 : Option Addr) (c2 n : Nat) (hn2 : rows.length = n) (A : Option Addr) (c m : Nat) (dues : List (List Int)) (hm2 : dues.length = m) (day sofar : Int) (w : World) (hg : GV w) (h : Op.IntRows w A2 2 rows) (hc : rows.length ≤ c2) (hn : A2 = none → c2 = 0) (hs : rows.length ≤ 1000) (hd : Op.IntRows w A 4 dues) (hm : dues.length ≤ 1000000) (wd : (Lit.int .i64 day).wf = true) (r : Int × Int) (hr : lateOn (lateP rows cp) dues day sofar = r) :
    Calls Try.prog 28 #[.agg (lateC (.slice A2 n c2) cp), .slice A m c, .int .i64 day, .int .i64 sofar] w fun e w' => e = .returned (.tuple #[.int .i64 r.1, .int .i64 r.2]) ∧ Below w.heap.size w w' := by
  have h1 := on_any (lateP rows cp) none 0 A2 c2 none 0 A c dues day sofar w hg (lateP_at h hc hn) (lateP_small hs) hd hm wd
  rw [hr] at h1
  subst hn2 hm2
  exact h1
set_option maxRecDepth 100000 in
set_option maxHeartbeats 1000000 in
theorem late_awake (w : World) (hgv : GV w) : Calls Try.prog 25 #[] w fun e w' => e = .returned (.bool true) ∧ Below w.heap.size w w' := by
  have HG := Aside0.mk hgv
  clear hgv
  go_enter Try.func25, Try.ntmps25
  go_wp2_with fail
  refine (plain_any _).mono ?_
  rintro e v1 ⟨rfl, hb⟩
  have B1 := Aside0.mk hb
  clear hb
  go_wp2_with (first
    | ((with_reducible refine gate_dst (N := 1) rfl ?_); refine copy_event rfl (N := 1) rfl rfl rfl (t := 27) (v := .tmp 4) rfl (cs := plainC) (zs := pzs) ?hr rfl rfl info_prod ?hz plainC_one ?_; (case hr => first | (go_simp; done) | (go_simp; rfl)); (case hz => rfl); intro g1 hg v2 hb0 hbl0; have g1ge := (show w.heap.size ≤ g1 by rw [hg]; exact B1.out.size); have H0 := Aside0.mk hb0; have B2 := Aside0.mk (below_step B1.out hbl0); clear hg hb0 hbl0)
    | ((with_reducible refine gate_dst (N := 6) rfl ?_); refine lit_event rfl (N := 6) rfl (cs := #[.int .i64 10, .int .i64 1500]) (t := 34) (n := 1) ?hr ?_; (case hr => first | (go_simp; done) | (go_simp; rfl)); intro gs hg v3 hbs hbl; have S0 := Aside0.mk hbs; have B3 := Aside0.mk (below_step B2.out hbl); have H1 := Aside0.mk (blk_below H0.out hbl); have h07 := blk_lt H0.out; have gsne : gs ≠ g1 := (by omega); have q15 := (blk_cell H1.out 15).trans rfl; have f15 := frozen_of_row v3 g1 15 _ _ H1.out; clear hg hbs hbl h07)
    | ((with_reducible refine gate_store (t := 24) (p := 7) rfl ?_); refine put_event rfl (t := 24) (p := 7) (v := .tmp 6) rfl rfl (g := g1) (i := 15) (cs := plainC) (cs' := lateC (.slice (some ⟨gs, 0, none⟩) 1 1) 0) (x := .slice (some ⟨gs, 0, none⟩) 1 1) ?hr H1.out rfl ?_; (case hr => first | (go_simp; done) | (go_simp; rfl)); clear q15 f15; intro v8 hb hbut; have H7 := Aside0.mk hb; have B8 := Aside0.mk (hbut.below B3.out g1ge B3.out.size); have HS := Aside0.mk (hbut.blk S0.out gsne); have q16 := (blk_cell hb 16).trans rfl; have f16 := frozen_of_row v8 g1 16 _ _ hb; clear hb hbut)
    | ((with_reducible refine gate_store (t := 2) (p := 8) rfl ?_); refine put_event rfl (t := 2) (p := 8) (v := .const (.int .i64 10000)) rfl rfl (g := g1) (i := 16) (cs := lateC (.slice (some ⟨gs, 0, none⟩) 1 1) 0) (cs' := lateC (.slice (some ⟨gs, 0, none⟩) 1 1) 10000) (x := .int .i64 10000) ?hr H7.out rfl ?_; (case hr => first | (go_simp; done) | (go_simp; rfl)); clear q16 f16; intro v9 hb hbut; have K7 := Aside0.mk hb; have B9 := Aside0.mk (hbut.below B8.out g1ge B8.out.size); have KS := Aside0.mk (hbut.blk HS.out gsne); clear hb hbut)
    | ((with_reducible refine gate_dst (N := 10) rfl ?_); refine wpList_load_row rfl 27 (.tmp 1) rfl g1 rfl 27 _ (0, 0) _ K7.out Try.underlying27 rfl info_prod ?_)
    | ((with_reducible refine gate_dst (N := 12) rfl ?_); refine lit_event rfl (N := 12) rfl (cs := #[.int .i64 1, .int .i64 5, .int .i64 1, .int .i64 0]) (t := 56) (n := 1) ?hr ?_; (case hr => first | (go_simp; done) | (go_simp; rfl)); intro gd hg va hbs hbl; have D0 := Aside0.mk hbs; have BA := Aside0.mk (below_step B9.out hbl); have LS := Aside0.mk (blk_below KS.out hbl); clear hg hbs hbl))
  refine (on_late [[10, 1500]] 10000 (some ⟨gs, 0, none⟩) 1 1 rfl (some ⟨gd, 0, none⟩) 1 1 [[1, 5, 1, 0]] rfl 15 9500 _ (HG.out.below BA.out) (rows_one LS.out rfl rfl) (Nat.le_refl _) (fun h => by cases h) (by decide) (rows_blk [[1, 5, 1, 0]] D0.out (by decide) (by decide)) (by decide) rfl (500, 0) (by decide +kernel)).mono ?_
  rintro e x1 ⟨rfl, hb⟩
  have X1 := Aside0.mk (below_step BA.out hb)
  clear hb
  go_wp2_with fail
  go_ret
  exact ⟨rfl, X1.out⟩
end Go.Proofs.Ytcbebbiedegjlaa.Pd
