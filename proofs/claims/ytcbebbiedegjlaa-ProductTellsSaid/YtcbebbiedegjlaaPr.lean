/- Contracts by hand: a product's rates are looked at. -/
import Derived.Test.YtcbebbiedegjlaaRw
import Derived.Deep.LoopGhost
import Derived.IntWalk
namespace Go.Proofs.Ytcbebbiedegjlaa.Pd
open Go.RowKit Go.Proofs.YtcbebbiedegjlaaW.PrintWords Go.Proofs.YtcbebbiedegjlaaW.PrintLast Go.Proofs.YtcbebbiedegjlaaW.PrintMore Go.Proofs.Ytcbebbiedegjlaa.HW
open Pm
set_option linter.unusedVariables false
set_option linter.unusedSimpArgs false

set_option maxRecDepth 100000 in
set_option maxHeartbeats 2000000 in
theorem rates_1 (p : Prod) (A1 : Option Addr) (c1 : Nat) (A2 : Option Addr) (c2 : Nat) (A3 : Option Addr) (c3 : Nat) (w : World) (ha : decide (0 ≤ p.rate ∧ p.rate ≤ 1000000000) = false) :
    Calls Try.prog 33 #[pv p A1 c1 A2 c2 A3 c3] w (fun e w' => e = refusedE ∧ Below w.heap.size w w') := by
  have HA := Aside0.mk ha
  clear ha
  go_enter Try.func33, Try.ntmps33
  go_wp2_with (first
    | ((with_reducible refine gate_dst (N := 1) rfl ?_); refine box_event ?hg (N := 1) ?hd (cs := pcs p A1 c1 A2 c2 A3 c3) (t := 68) ?hr ?_; (case hd => rfl); (case hg => rfl); (case hr => first | (go_simp; done) | (go_simp; rfl)); intro g1 hg w1 hb1 hbl1; clear hg)
    | ((with_reducible refine gate_dst (N := 6) rfl ?_); refine wpList_load_row rfl 27 (.tmp 5) rfl g1 rfl 68 _ (0, 0) _ hb1 Try.underlying27 rfl info_prod ?_)
    | ((with_reducible refine gate_dst (N := 2) rfl ?_); refine copy_event rfl (N := 2) rfl rfl rfl (t := 27) (v := .tmp 6) rfl (cs := pcs p A1 c1 A2 c2 A3 c3) (zs := pzs) ?hr rfl rfl info_prod ?hz (pcs_one _ _ _ _ _ _ _) ?_; (case hr => first | (go_simp; done) | (go_simp; rfl)); (case hz => rfl); intro g2 hg w2 hb2 hbl2; have g2lt := blk_lt hb2; have g2ge := (show w.heap.size ≤ g2 by rw [hg]; exact hbl1.size); clear hg; have HB2 := Aside0.mk hb2; have BL2 := Aside0.mk (below_step hbl1 hbl2); clear hb1 hbl1 hbl2; have QQ := Aside0.mk (pc_cells hb2); clear hb2; obtain ⟨-, -, -, -, -, q5, -, q7, q8, q9, -⟩ := QQ.out))
  go_wp2_with fail
  refine (within_l_is HA.out _).mono ?_
  rintro e w' ⟨rfl, rfl⟩
  go_wp2_with fail
  refine (must_no _).mono ?_
  rintro e w' ⟨rfl, rfl⟩
  exact ⟨rfl, rfl, BL2.out⟩

set_option maxRecDepth 100000 in
set_option maxHeartbeats 2000000 in
theorem rates_2 (p : Prod) (A1 : Option Addr) (c1 : Nat) (A2 : Option Addr) (c2 : Nat) (A3 : Option Addr) (c3 : Nat) (w : World) (ha : decide (0 ≤ p.rate ∧ p.rate ≤ 1000000000) = true) (hb : decide (0 ≤ p.penalty ∧ p.penalty ≤ 1000000000) = false) :
    Calls Try.prog 33 #[pv p A1 c1 A2 c2 A3 c3] w (fun e w' => e = refusedE ∧ Below w.heap.size w w') := by
  have HA := Aside0.mk ha
  have HB := Aside0.mk hb
  clear ha hb
  go_enter Try.func33, Try.ntmps33
  go_wp2_with (first
    | ((with_reducible refine gate_dst (N := 1) rfl ?_); refine box_event ?hg (N := 1) ?hd (cs := pcs p A1 c1 A2 c2 A3 c3) (t := 68) ?hr ?_; (case hd => rfl); (case hg => rfl); (case hr => first | (go_simp; done) | (go_simp; rfl)); intro g1 hg w1 hb1 hbl1; clear hg)
    | ((with_reducible refine gate_dst (N := 6) rfl ?_); refine wpList_load_row rfl 27 (.tmp 5) rfl g1 rfl 68 _ (0, 0) _ hb1 Try.underlying27 rfl info_prod ?_)
    | ((with_reducible refine gate_dst (N := 2) rfl ?_); refine copy_event rfl (N := 2) rfl rfl rfl (t := 27) (v := .tmp 6) rfl (cs := pcs p A1 c1 A2 c2 A3 c3) (zs := pzs) ?hr rfl rfl info_prod ?hz (pcs_one _ _ _ _ _ _ _) ?_; (case hr => first | (go_simp; done) | (go_simp; rfl)); (case hz => rfl); intro g2 hg w2 hb2 hbl2; have g2lt := blk_lt hb2; have g2ge := (show w.heap.size ≤ g2 by rw [hg]; exact hbl1.size); clear hg; have HB2 := Aside0.mk hb2; have BL2 := Aside0.mk (below_step hbl1 hbl2); clear hb1 hbl1 hbl2; have QQ := Aside0.mk (pc_cells hb2); clear hb2; obtain ⟨-, -, -, -, -, q5, -, q7, q8, q9, -⟩ := QQ.out))
  go_wp2_with fail
  refine (within_l_is HA.out _).mono ?_
  rintro e w' ⟨rfl, rfl⟩
  go_wp2_with fail
  refine (within_l_is HB.out _).mono ?_
  rintro e w' ⟨rfl, rfl⟩
  go_wp2_with fail
  refine (must_no _).mono ?_
  rintro e w' ⟨rfl, rfl⟩
  exact ⟨rfl, rfl, BL2.out⟩

set_option maxRecDepth 100000 in
set_option maxHeartbeats 2000000 in
theorem rates_3 (p : Prod) (A1 : Option Addr) (c1 : Nat) (A2 : Option Addr) (c2 : Nat) (A3 : Option Addr) (c3 : Nat) (w : World) (ha : decide (0 ≤ p.rate ∧ p.rate ≤ 1000000000) = true) (hb : decide (0 ≤ p.penalty ∧ p.penalty ≤ 1000000000) = true) (hn : 20 < p.resets.length) (hm : p.resets.length ≤ 1000000) :
    Calls Try.prog 33 #[pv p A1 c1 A2 c2 A3 c3] w (fun e w' => e = refusedE ∧ Below w.heap.size w w') := by
  have HA := Aside0.mk ha
  have HB := Aside0.mk hb
  clear ha hb
  go_enter Try.func33, Try.ntmps33
  go_wp2_with (first
    | ((with_reducible refine gate_dst (N := 1) rfl ?_); refine box_event ?hg (N := 1) ?hd (cs := pcs p A1 c1 A2 c2 A3 c3) (t := 68) ?hr ?_; (case hd => rfl); (case hg => rfl); (case hr => first | (go_simp; done) | (go_simp; rfl)); intro g1 hg w1 hb1 hbl1; clear hg)
    | ((with_reducible refine gate_dst (N := 6) rfl ?_); refine wpList_load_row rfl 27 (.tmp 5) rfl g1 rfl 68 _ (0, 0) _ hb1 Try.underlying27 rfl info_prod ?_)
    | ((with_reducible refine gate_dst (N := 2) rfl ?_); refine copy_event rfl (N := 2) rfl rfl rfl (t := 27) (v := .tmp 6) rfl (cs := pcs p A1 c1 A2 c2 A3 c3) (zs := pzs) ?hr rfl rfl info_prod ?hz (pcs_one _ _ _ _ _ _ _) ?_; (case hr => first | (go_simp; done) | (go_simp; rfl)); (case hz => rfl); intro g2 hg w2 hb2 hbl2; have g2lt := blk_lt hb2; have g2ge := (show w.heap.size ≤ g2 by rw [hg]; exact hbl1.size); clear hg; have HB2 := Aside0.mk hb2; have BL2 := Aside0.mk (below_step hbl1 hbl2); clear hb1 hbl1 hbl2; have QQ := Aside0.mk (pc_cells hb2); clear hb2; obtain ⟨-, -, -, -, -, q5, -, q7, q8, q9, -⟩ := QQ.out))
  go_wp2_with fail
  refine (within_l_is HA.out _).mono ?_
  rintro e w' ⟨rfl, rfl⟩
  go_wp2_with fail
  refine (within_l_is HB.out _).mono ?_
  rintro e w' ⟨rfl, rfl⟩
  go_wp2_with fail
  refine (must_no_of (decide_eq_false (by omega)) _).mono ?_
  rintro e w' ⟨rfl, rfl⟩
  exact ⟨rfl, rfl, BL2.out⟩

set_option maxRecDepth 100000 in
set_option maxHeartbeats 2000000 in
theorem rates_4 (p : Prod) (A1 : Option Addr) (c1 : Nat) (A2 : Option Addr) (c2 : Nat) (A3 : Option Addr) (c3 : Nat) (w : World) (ha : decide (0 ≤ p.rate ∧ p.rate ≤ 1000000000) = true) (hb : decide (0 ≤ p.penalty ∧ p.penalty ≤ 1000000000) = true) (hn : p.resets.length ≤ 20) (t1 : 1 ≤ p.times) (t2 : p.times ≤ 600) (hr : Op.IntRows w A1 2 p.resets) (bb : Bool) (hbb : resetsOk p.times 0 p.resets = bb) :
    Calls Try.prog 33 #[pv p A1 c1 A2 c2 A3 c3] w (LookE bb w) := by
  have HA := Aside0.mk ha
  have HB := Aside0.mk hb
  have HR := Aside0.mk hr
  have HBB := Aside0.mk hbb
  clear ha hb hr hbb
  go_enter Try.func33, Try.ntmps33
  go_wp2_with (first
    | ((with_reducible refine gate_dst (N := 1) rfl ?_); refine box_event ?hg (N := 1) ?hd (cs := pcs p A1 c1 A2 c2 A3 c3) (t := 68) ?hr ?_; (case hd => rfl); (case hg => rfl); (case hr => first | (go_simp; done) | (go_simp; rfl)); intro g1 hg w1 hb1 hbl1; clear hg)
    | ((with_reducible refine gate_dst (N := 6) rfl ?_); refine wpList_load_row rfl 27 (.tmp 5) rfl g1 rfl 68 _ (0, 0) _ hb1 Try.underlying27 rfl info_prod ?_)
    | ((with_reducible refine gate_dst (N := 2) rfl ?_); refine copy_event rfl (N := 2) rfl rfl rfl (t := 27) (v := .tmp 6) rfl (cs := pcs p A1 c1 A2 c2 A3 c3) (zs := pzs) ?hr rfl rfl info_prod ?hz (pcs_one _ _ _ _ _ _ _) ?_; (case hr => first | (go_simp; done) | (go_simp; rfl)); (case hz => rfl); intro g2 hg w2 hb2 hbl2; have g2lt := blk_lt hb2; have g2ge := (show w.heap.size ≤ g2 by rw [hg]; exact hbl1.size); clear hg; have HB2 := Aside0.mk hb2; have BL2 := Aside0.mk (below_step hbl1 hbl2); clear hb1 hbl1 hbl2; have QQ := Aside0.mk (pc_cells hb2); clear hb2; obtain ⟨-, -, -, -, -, q5, -, q7, q8, q9, -⟩ := QQ.out))
  go_wp2_with fail
  refine (within_l_is HA.out _).mono ?_
  rintro e w' ⟨rfl, rfl⟩
  go_wp2_with fail
  refine (within_l_is HB.out _).mono ?_
  rintro e w' ⟨rfl, rfl⟩
  go_wp2_with fail
  refine (must_yes_of (decide_eq_true (by omega)) _).mono ?_
  rintro e w' ⟨rfl, rfl⟩
  go_wp2_with fail
  go_loopg [25] (p.resets.length + 1) (fun gq i w' => ∃ (k : Nat), k ≤ p.resets.length ∧ i = .int .i64 k ∧ Aside0 (gq = p.resets.length + 1 - k) ∧ Aside0 (resetsOk p.times (prevOf 0 0 p.resets k) (p.resets.drop k) = bb) ∧ Aside0 (Below w.heap.size w w' ∧ Below w2.heap.size w2 w'))
  case atStart => exact ⟨0, Nat.zero_le _, rfl, ⟨rfl⟩, ⟨by rw [← HBB.out]; rfl⟩, ⟨BL2.out, Below.refl _ _⟩⟩
  case round =>
    obtain ⟨k, hk, rfl, hgq, hq, hbl⟩ := hrel
    by_cases hlt : k < p.resets.length
    · obtain ⟨ad, x, y, e0, hrow, q0', q1', wx, wy⟩ := two_at (HR.out.below hbl.out.1) k hlt
      subst e0
      have hcs := hq.out
      rw [drop_row hrow] at hcs
      simp only [resetsOk] at hcs
      simp only [List.getD_cons_zero, List.getD_cons_succ] at hcs
      have hprev := prevOf_succ (d := 0) (j := 0) hrow
      simp only [List.getD_cons_zero] at hprev
      have HPREV := Aside0.mk hprev
      have adlt := cell_ltR q0'
      obtain ⟨bx0, bx1⟩ := wf_bd wx
      obtain ⟨by0, by1⟩ := wf_bd wy
      have HB3 := Aside0.mk (blk_below HB2.out hbl.out.2)
      have g2l := blk_lt HB3.out
      have kk0 : (0 : Int) ≤ (k : Int) := by omega
      have kk1 : (k : Int) < (p.resets.length : Int) := by omega
      have QP : Aside0 (0 < k → ∃ x' y', p.resets[k - 1]? = some [x', y'] ∧ wr.cell? (ad.add ((k - 1) * 2)) = some (.int .i64 x')) := ⟨fun h0 => by
        obtain ⟨ad', x', y', e', hrow', c', _⟩ := two_at (HR.out.below hbl.out.1) (k - 1) (by omega)
        obtain rfl : ad = ad' := Option.some.inj e'
        exact ⟨x', y', hrow', c'⟩⟩
      clear hq hrow hprev wx wy q5 q7 q8 q9
      go_wp2_with ((with_reducible refine gate_dst (N := 4) rfl ?_); refine copy_event3 rfl (N := 4) rfl rfl rfl rfl (t := 31) (v := .tmp 29) rfl (cs := #[.int .i64 x, .int .i64 y]) (zs := #[.int .i64 0, .int .i64 0]) (vm := .int .i64 k) ?hr ?hrm rfl rfl info_reset ?hz (two_one _ _) ?_; (case hr => first | (go_simp; done) | (go_simp; rfl)); (case hrm => intro W'; first | (go_simp; done) | (go_simp; rfl)); (case hz => rfl); intro g4 hg w4 hb4 hbl4; have g4lt := blk_lt hb4; clear hg)
      go_frame
      have z0 : w4.cell? ⟨g4, 0, none⟩ = some (.int .i64 x) := (blk_cell hb4 0).trans rfl
      have z1 : w4.cell? ⟨g4, 1, none⟩ = some (.int .i64 y) := (blk_cell hb4 1).trans rfl
      have HB5 := Aside0.mk (blk_below HB3.out hbl4)
      obtain ⟨-, -, -, -, -, q5, -, -, q8, -⟩ := pc_cells HB5.out
      have QP4 : Aside0 (0 < k → ∃ x' y', p.resets[k - 1]? = some [x', y'] ∧ w4.cell? (ad.add ((k - 1) * 2)) = some (.int .i64 x')) := ⟨fun h0 => by
        obtain ⟨x', y', h1, h2⟩ := QP.out h0
        exact ⟨x', y', h1, by rw [hbl4.cell (cell_ltR h2)]; exact h2⟩⟩
      have BL4 := Aside0.mk (And.intro (below_step hbl.out.1 hbl4) (below_step hbl.out.2 hbl4))
      clear hb4 hbl4 hbl HB3 QP q0' q1'
      have ew1 : IntKind.i64.wrap (p.times - 1) = p.times - 1 := IntWalk.i64_in _ (by omega)
      by_cases h1 : 1 ≤ x ∧ x ≤ p.times - 1
      · have H1 := Aside0.mk (decide_eq_true h1)
        by_cases h2 : 0 ≤ y ∧ y ≤ 1000000000
        · have H2 := Aside0.mk (decide_eq_true h2)
          by_cases h0 : k = 0
          · have hb2 : resetsOk p.times x (p.resets.drop (k + 1)) = bb := by
              rw [← hcs, decide_eq_true (show 1 ≤ x ∧ x ≤ p.times - 1 ∧ 0 ≤ y ∧ y ≤ 1000000000 ∧ prevOf 0 0 p.resets k < x from ⟨h1.1, h1.2, h2.1, h2.2, by have := h1.1; unfold prevOf; rw [if_pos h0]; omega⟩), Bool.true_and]
            have HB2' := Aside0.mk hb2
            have kz : ((k : Int) == 0) = true := by rw [h0]; rfl
            clear hcs hb2 h1 h2 h0
            go_quiet ((first
              | (go_at_call 50; refine (within_i_is H1.out _).mono ?_; rintro e w' ⟨rfl, rfl⟩; exact ⟨rfl, _, rfl⟩)
              | (go_at_call 51; refine (within_l_is H2.out _).mono ?_; rintro e w' ⟨rfl, rfl⟩; exact ⟨rfl, _, rfl⟩)
              | (go_at_call 49; refine (must_yes _).mono ?_; rintro e w' ⟨rfl, rfl⟩; exact ⟨rfl, _, rfl⟩)))
            go_wp2_with fail
            go_roundg (p.resets.length + 1 - (k + 1))
            case measure => have := hgq.out; omega
            case rel => exact ⟨k + 1, by omega, by simp, ⟨rfl⟩, ⟨by rw [HPREV.out]; exact HB2'.out⟩, ⟨pw_below_drewN BL4.out.1 _, pw_below_drewN BL4.out.2 _⟩⟩
          · obtain ⟨x', y', hrow', c'⟩ := QP4.out (by omega)
            have hpv := prevOf_pos (d := 0) (j := 0) (Nat.pos_of_ne_zero h0) hrow'
            simp only [List.getD_cons_zero] at hpv
            have kz : ((k : Int) == 0) = false := by rw [beq_eq_false_iff_ne]; omega
            have ew2 : IntKind.i64.wrap ((k : Int) - 1) = (k : Int) - 1 := IntWalk.i64_in _ (by omega)
            have kk2 : (0 : Int) ≤ (k : Int) - 1 := by omega
            have kk3 : (k : Int) - 1 < (p.resets.length : Int) := by omega
            have kk4 : (1 : Int) ≤ (k : Int) := by omega
            have ek : ((k : Int) - 1).toNat = k - 1 := by omega
            by_cases h3 : x' < x
            · have hb2 : resetsOk p.times x (p.resets.drop (k + 1)) = bb := by
                rw [← hcs, decide_eq_true (show 1 ≤ x ∧ x ≤ p.times - 1 ∧ 0 ≤ y ∧ y ≤ 1000000000 ∧ prevOf 0 0 p.resets k < x from ⟨h1.1, h1.2, h2.1, h2.2, by rw [hpv]; exact h3⟩), Bool.true_and]
              have HB2' := Aside0.mk hb2
              clear hcs hb2 h1 h2 h0 hpv hrow'
              go_quiet ((first
                | (go_at_call 50; refine (within_i_is H1.out _).mono ?_; rintro e w' ⟨rfl, rfl⟩; exact ⟨rfl, _, rfl⟩)
                | (go_at_call 51; refine (within_l_is H2.out _).mono ?_; rintro e w' ⟨rfl, rfl⟩; exact ⟨rfl, _, rfl⟩)
                | (go_at_call 49; refine (must_yes _).mono ?_; rintro e w' ⟨rfl, rfl⟩; exact ⟨rfl, _, rfl⟩)))
              clear ew1 ew2 ek
              go_wp2_with fail
              go_roundg (p.resets.length + 1 - (k + 1))
              case measure => have := hgq.out; omega
              case rel => exact ⟨k + 1, by omega, by simp, ⟨rfl⟩, ⟨by rw [HPREV.out]; exact HB2'.out⟩, ⟨pw_below_drewN BL4.out.1 _, pw_below_drewN BL4.out.2 _⟩⟩
            · have hbf : bb = false := by
                rw [← hcs, decide_eq_false (fun h => h3 (by have := h.2.2.2.2; rw [hpv] at this; exact this)), Bool.false_and]
              subst hbf
              have h4 : x ≤ x' := by omega
              have h5 : decide (x' < x) = false := decide_eq_false h3
              clear hcs h1 h2 h0 hpv hrow' h3
              refine wp_region_still_tail 27 (by kernel_rfl) (by kernel_rfl) ?_
              simp only [List.take_succ_cons, List.take_zero, List.drop_succ_cons, List.drop_zero]
              iterate 5 ((with_reducible refine wpStill_step (fun K hK => ?_)); go_simp; (try simp only [undef, reduceCtorEq, if_false]); (with_reducible refine hK _ ?_); clear hK K)
              still_call (within_i0 H1.out _)
              iterate 3 ((with_reducible refine wpStill_step (fun K hK => ?_)); go_simp; (try simp only [undef, reduceCtorEq, if_false]); (with_reducible refine hK _ ?_); clear hK K)
              still_call (within_l0 H2.out _)
              iterate 17 ((with_reducible refine wpStill_step (fun K hK => ?_)); go_simp; (try simp only [undef, reduceCtorEq, if_false]); (with_reducible refine hK _ ?_); clear hK K)
              (with_reducible refine wpStill_nil ?_)
              go_wp2_with ((go_at_call 49; refine (must_no _).mono ?_; rintro e w' ⟨rfl, rfl⟩))
              exact ⟨rfl, LookE.no ⟨rfl, BL4.out.1.drew⟩⟩
        · have hbf : bb = false := by
            rw [← hcs, decide_eq_false (fun h => h2 ⟨h.2.2.1, h.2.2.2.1⟩), Bool.false_and]
          subst hbf
          have H2 := Aside0.mk (decide_eq_false h2)
          clear hcs h1 h2
          refine wp_region_still_tail 27 (by kernel_rfl) (by kernel_rfl) ?_
          simp only [List.take_succ_cons, List.take_zero, List.drop_succ_cons, List.drop_zero]
          iterate 5 ((with_reducible refine wpStill_step (fun K hK => ?_)); go_simp; (try simp only [undef, reduceCtorEq, if_false]); (with_reducible refine hK _ ?_); clear hK K)
          still_call (within_i0 H1.out _)
          iterate 3 ((with_reducible refine wpStill_step (fun K hK => ?_)); go_simp; (try simp only [undef, reduceCtorEq, if_false]); (with_reducible refine hK _ ?_); clear hK K)
          still_call (within_l0 H2.out _)
          iterate 17 ((with_reducible refine wpStill_step (fun K hK => ?_)); go_simp; (try simp only [undef, reduceCtorEq, if_false]); (with_reducible refine hK _ ?_); clear hK K)
          (with_reducible refine wpStill_nil ?_)
          go_wp2_with ((go_at_call 49; refine (must_no _).mono ?_; rintro e w' ⟨rfl, rfl⟩))
          exact ⟨rfl, LookE.no ⟨rfl, BL4.out.1.drew⟩⟩
      · have hbf : bb = false := by
          rw [← hcs, decide_eq_false (fun h => h1 ⟨h.1, h.2.1⟩), Bool.false_and]
        subst hbf
        have H1 := Aside0.mk (decide_eq_false h1)
        clear hcs h1
        refine wp_region_still_tail 27 (by kernel_rfl) (by kernel_rfl) ?_
        simp only [List.take_succ_cons, List.take_zero, List.drop_succ_cons, List.drop_zero]
        iterate 5 ((with_reducible refine wpStill_step (fun K hK => ?_)); go_simp; (try simp only [undef, reduceCtorEq, if_false]); (with_reducible refine hK _ ?_); clear hK K)
        still_call (within_i0 H1.out _)
        iterate 21 ((with_reducible refine wpStill_step (fun K hK => ?_)); go_simp; (try simp only [undef, reduceCtorEq, if_false]); (with_reducible refine hK _ ?_); clear hK K)
        (with_reducible refine wpStill_nil ?_)
        go_wp2_with ((go_at_call 49; refine (must_no _).mono ?_; rintro e w' ⟨rfl, rfl⟩))
        exact ⟨rfl, LookE.no ⟨rfl, BL4.out.1.drew⟩⟩
    · have hk2 : k = p.resets.length := by omega
      subst hk2
      have hcs := hq.out
      rw [List.drop_length] at hcs
      obtain rfl : true = bb := hcs
      clear hq
      go_wp2_with fail
      go_end0
      exact LookE.yes ⟨rfl, hbl.out.1⟩
/-- A product's rates are looked at. -/
theorem rates_any (p : Prod) (A1 : Option Addr) (c1 : Nat) (A2 : Option Addr) (c2 : Nat) (A3 : Option Addr) (c3 : Nat) (w : World) (t1 : 1 ≤ p.times) (t2 : p.times ≤ 600) (hr : Op.IntRows w A1 2 p.resets) (hm : p.resets.length ≤ 1000000) :
    Calls Try.prog 33 #[pv p A1 c1 A2 c2 A3 c3] w (LookE (ratesOk p) w) := by
  unfold ratesOk
  by_cases ha : 0 ≤ p.rate ∧ p.rate ≤ 1000000000
  case neg =>
    rw [decide_eq_false (fun h => ha h.1), Bool.false_and]
    exact (rates_1 p A1 c1 A2 c2 A3 c3 w (decide_eq_false ha)).mono fun e w' h => LookE.no h
  by_cases hb : 0 ≤ p.penalty ∧ p.penalty ≤ 1000000000
  case neg =>
    rw [decide_eq_false (fun h => hb h.2.1), Bool.false_and]
    exact (rates_2 p A1 c1 A2 c2 A3 c3 w (decide_eq_true ha) (decide_eq_false hb)).mono fun e w' h => LookE.no h
  by_cases hn : p.resets.length ≤ 20
  case neg =>
    rw [decide_eq_false (fun h => hn h.2.2), Bool.false_and]
    exact (rates_3 p A1 c1 A2 c2 A3 c3 w (decide_eq_true ha) (decide_eq_true hb) (by omega) hm).mono fun e w' h => LookE.no h
  rw [decide_eq_true (show _ from ⟨ha, hb, hn⟩), Bool.true_and]
  exact rates_4 p A1 c1 A2 c2 A3 c3 w (decide_eq_true ha) (decide_eq_true hb) hn t1 t2 hr _ rfl
end Go.Proofs.Ytcbebbiedegjlaa.Pd
