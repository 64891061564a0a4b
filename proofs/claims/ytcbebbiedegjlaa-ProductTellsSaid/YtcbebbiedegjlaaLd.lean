/- The law LatefeeRefuses, walked. -/
import Derived.Test.YtcbebbiedegjlaaLc
namespace Go.Proofs.Ytcbebbiedegjlaa.Pd
open Go.RowKit Go.Proofs.YtcbebbiedegjlaaW.PrintWords Go.Proofs.YtcbebbiedegjlaaW.PrintLast Go.Proofs.YtcbebbiedegjlaaW.PrintMore Go.Proofs.Ytcbebbiedegjlaa.HW
open Pm
set_option linter.unusedVariables false
set_option linter.unusedSimpArgs false
theorem onR_nil (day : Int) : ∀ dues : List (List Int), onR [] day 0 0 dues = 0
  | [] => rfl
  | r :: l => by
    have h := onR_nil day l
    unfold onR
    split
    · rw [show min ((0 : Int) + look (day - r.getD 1 0) []) 0 = 0 by simp [look]]; exact h
    · exact h
theorem plain_up : ok plainP = true := by decide +kernel
def badT : Prod := { plainP with times := 0 }
theorem badT_no : ok badT = false := by decide +kernel
theorem late_bad (dues : List (List Int)) (day s : Int) : lateOn badT dues day s = (0, 9) := by unfold lateOn; rw [badT_no]; rfl
theorem late_neg (dues : List (List Int)) (day : Int) : lateOn plainP dues day (-1) = (0, 1) := by
  unfold lateOn
  rw [plain_up, if_pos rfl, if_neg (by omega)]
theorem late_top (dues : List (List Int)) (day : Int) : lateOn plainP dues day 1000000000000001 = (0, 1) := by
  unfold lateOn
  rw [plain_up, if_pos rfl, if_neg (by omega)]
theorem late_none (dues : List (List Int)) (day s : Int) (h0 : 0 ≤ s) (h1 : s < 1000) : lateOn plainP dues day s = (0, 0) := by
  unfold lateOn
  rw [plain_up, if_pos rfl, if_pos (by omega)]
  show (onR [] day (max (0 - s) 0) 0 dues, (0 : Int)) = _
  rw [show max (0 - s) 0 = (0 : Int) by omega, onR_nil]
abbrev badC : Array Value :=
  #[.string ⟨#[104, 111, 109, 101]⟩, .int .i64 2, .int .i64 1, .int .i64 1, .int .i64 1, .int .i64 0, .int .i64 0, .int .i64 60000000, .slice none 0 0, .int .i64 100000000, .int .i64 1, .int .i64 2, .int .i64 3, .int .i64 4, .int .i64 1, .slice none 0 0, .int .i64 0, .int .i64 1, .slice none 0 0]
theorem on_nils (p : Prod) (cs : Array Value) (hcs : pcs p none 0 none 0 none 0 = cs) (h1 : p.resets = []) (h2 : p.late = []) (h3 : p.hol = []) (hs : Small p) (A : Option Addr) (c m : Nat) (dues : List (List Int)) (hm2 : dues.length = m) (day sofar : Int) (w : World) (hg : GV w) (hd : Op.IntRows w A 4 dues) (hm : dues.length ≤ 1000000) (wd : (Lit.int .i64 day).wf = true) (r : Int × Int) (hr : lateOn p dues day sofar = r) :
    Calls Try.prog 28 #[.agg cs, .slice A m c, .int .i64 day, .int .i64 sofar] w fun e w' => e = .returned (.tuple #[.int .i64 r.1, .int .i64 r.2]) ∧ Below w.heap.size w w' := by
  have h := on_any p none 0 none 0 none 0 A c dues day sofar w hg (nilAt h1 h2 h3) hs hd hm wd
  rw [hr] at h
  subst hm2 hcs
  exact h
theorem thou (x : Int) : ∃ j : Nat, j < 1000 ∧ Int.tmod (IntKind.u64.wrap x) 1000 = (j : Int) := by
  have h := Int.emod_nonneg x (show (18446744073709551616 : Int) ≠ 0 by omega)
  have e : IntKind.u64.wrap x = x % 18446744073709551616 := rfl
  rw [e, Int.tmod_eq_emod_of_nonneg h]
  exact ⟨(x % 18446744073709551616 % 1000).toNat, by omega, by omega⟩
set_option maxRecDepth 100000 in
set_option maxHeartbeats 1000000 in
theorem latefeeRefuses_walk (A : Option Addr) (c : Nat) (l : List (List Int)) (a1 a2 : Int) (w : World) (hr : Op.IntRows w A 4 l) (hc : l.length ≤ c) (hn : A = none → c = 0) (hm : c ≤ maxLen) (w1 : (Lit.int .i64 a1).wf = true) (w2 : (Lit.int .i64 a2).wf = true) (hgv : GV w) :
    Calls Try.prog 10 #[.slice A l.length c, .int .i64 a1, .int .i64 a2] w fun e w' => e = .returned (.bool true) ∧ Below w.heap.size w w' := by
  have HG := Aside0.mk hgv
  have HR := Aside0.mk hr
  have W1 := Aside0.mk w1
  obtain ⟨j, hj, ej⟩ := thou a2
  clear hgv hr hc hn hm w1 w2
  by_cases h60 : 60 < l.length
  · go_enter Try.func10, Try.ntmps10
    go_wp2_with fail
    refine (late_awake _ HG.out).mono ?_
    rintro e x1 ⟨rfl, hb⟩
    have X1 := Aside0.mk hb
    clear hb
    go_wp2_with fail
    go_ret
    exact ⟨rfl, X1.out⟩
  · have L60 := Aside0.mk (show l.length ≤ 1000000 by omega)
    go_enter Try.func10, Try.ntmps10
    go_wp2_with fail
    refine (plain_any _).mono ?_
    rintro e v1 ⟨rfl, hb⟩
    have B1 := Aside0.mk hb
    clear hb
    go_wp2_with (first
      | ((with_reducible refine gate_dst (N := 7) rfl ?_); refine copy_event rfl (N := 7) rfl rfl rfl (t := 27) (v := .tmp 21) rfl (cs := plainC) (zs := pzs) ?hr rfl rfl info_prod ?hz plainC_one ?_; (case hr => first | (go_simp; done) | (go_simp; rfl)); (case hz => rfl); intro g7 hg v2 hb0 hbl0; have g7ge := (show w.heap.size ≤ g7 by rw [hg]; exact B1.out.size); have H0 := Aside0.mk hb0; have B2 := Aside0.mk (below_step B1.out hbl0); clear hg hb0 hbl0)
      | ((with_reducible refine gate_dst (N := 22) rfl ?_); refine wpList_load_row rfl 27 (.tmp 7) rfl g7 rfl 27 _ (0, 0) _ H0.out Try.underlying27 rfl info_prod ?_)
      | ((with_reducible refine gate_dst (N := 8) rfl ?_); refine copy_event rfl (N := 8) rfl rfl rfl (t := 27) (v := .tmp 22) rfl (cs := plainC) (zs := pzs) ?hr rfl rfl info_prod ?hz plainC_one ?_; (case hr => first | (go_simp; done) | (go_simp; rfl)); (case hz => rfl); intro g8 hg v3 hb0 hbl0; have g8ge := (show w.heap.size ≤ g8 by rw [hg]; exact B2.out.size); have H07 := blk_lt H0.out; have gne : g7 ≠ g8 := (by omega); have H8 := Aside0.mk hb0; have H1 := Aside0.mk (blk_below H0.out hbl0); have B3 := Aside0.mk (below_step B2.out hbl0); have q5 := (blk_cell hb0 5).trans rfl; have f5 := frozen_of_row v3 g8 5 _ _ hb0; clear hg hb0 hbl0 H07)
      | ((with_reducible refine gate_store (t := 3) (p := 23) rfl ?_); refine put_event rfl (t := 3) (p := 23) (v := .const (.int .i64 0)) rfl rfl (g := g8) (i := 5) (cs := plainC) (cs' := badC) (x := .int .i64 0) ?hr H8.out rfl ?_; (case hr => first | (go_simp; done) | (go_simp; rfl)); clear q5 f5; intro v4 hb hbut; have K8 := Aside0.mk hb; have B4 := Aside0.mk (hbut.below B3.out g8ge B3.out.size); have K7 := Aside0.mk (hbut.blk H1.out gne); clear hb hbut)
      | ((with_reducible refine gate_dst (N := 25) rfl ?_); refine wpList_load_row rfl 27 (.tmp 8) rfl g8 rfl 27 _ (0, 0) _ K8.out Try.underlying27 rfl info_prod ?_))
    refine (on_nils badT badC rfl rfl rfl rfl ⟨by decide, by decide, by decide, by decide⟩ A c _ l rfl a1 0 _ (HG.out.below B4.out) (HR.out.below B4.out) L60.out W1.out (0, 9) (late_bad _ _ _)).mono ?_
    rintro e x1 ⟨rfl, hb⟩
    have X1 := Aside0.mk (below_step B4.out hb)
    have J1 := Aside0.mk (blk_below K7.out hb)
    clear hb
    go_wp2_with ((with_reducible refine gate_dst (N := 32) rfl ?_); refine wpList_load_row rfl 27 (.tmp 7) rfl g7 rfl 27 _ (0, 0) _ J1.out Try.underlying27 rfl info_prod ?_)
    refine (on_nils plainP plainC rfl rfl rfl rfl small_plain A c _ l rfl a1 (-1) _ (HG.out.below X1.out) (HR.out.below X1.out) L60.out W1.out (0, 1) (late_neg _ _)).mono ?_
    rintro e x2 ⟨rfl, hb⟩
    have X2 := Aside0.mk (below_step X1.out hb)
    have J2 := Aside0.mk (blk_below J1.out hb)
    clear hb
    go_wp2_with ((with_reducible refine gate_dst (N := 39) rfl ?_); refine wpList_load_row rfl 27 (.tmp 7) rfl g7 rfl 27 _ (0, 0) _ J2.out Try.underlying27 rfl info_prod ?_)
    refine (on_nils plainP plainC rfl rfl rfl rfl small_plain A c _ l rfl a1 1000000000000001 _ (HG.out.below X2.out) (HR.out.below X2.out) L60.out W1.out (0, 1) (late_top _ _)).mono ?_
    rintro e x3 ⟨rfl, hb⟩
    have X3 := Aside0.mk (below_step X2.out hb)
    have J3 := Aside0.mk (blk_below J2.out hb)
    clear hb
    have ew : IntKind.i64.wrap (Int.tmod (IntKind.u64.wrap a2) 1000) = (j : Int) := by rw [ej]; exact IntWalk.i64_in _ (by omega)
    clear ej
    go_wp2_with ((with_reducible refine gate_dst (N := 46) rfl ?_); refine wpList_load_row rfl 27 (.tmp 7) rfl g7 rfl 27 _ (0, 0) _ J3.out Try.underlying27 rfl info_prod ?_)
    refine (on_nils plainP plainC rfl rfl rfl rfl small_plain A c _ l rfl a1 j _ (HG.out.below X3.out) (HR.out.below X3.out) L60.out W1.out (0, 0) (late_none _ _ _ (by omega) (by omega))).mono ?_
    rintro e x4 ⟨rfl, hb⟩
    have X4 := Aside0.mk (below_step X3.out hb)
    clear hb ew
    go_wp2_with fail
    refine (late_awake _ (HG.out.below X4.out)).mono ?_
    rintro e x5 ⟨rfl, hb⟩
    have X5 := Aside0.mk (below_step X4.out hb)
    clear hb
    go_wp2_with fail
    go_ret
    exact ⟨rfl, X5.out⟩
end Go.Proofs.Ytcbebbiedegjlaa.Pd
