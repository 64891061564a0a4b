/- Contracts by hand: a product's late fees are looked at. -/
import Derived.Test.YtcbebbiedegjlaaRw
import Derived.Deep.LoopGhost
import Derived.IntWalk
namespace Go.Proofs.Ytcbebbiedegjlaa.Pd
open Go.RowKit Go.Proofs.YtcbebbiedegjlaaW.PrintWords Go.Proofs.YtcbebbiedegjlaaW.PrintLast Go.Proofs.YtcbebbiedegjlaaW.PrintMore Go.Proofs.Ytcbebbiedegjlaa.HW
open Pm
set_option linter.unusedVariables false
set_option linter.unusedSimpArgs false


set_option maxRecDepth 100000 in
set_option maxHeartbeats 2000000 in
theorem late_1 (p : Prod) (A1 : Option Addr) (c1 : Nat) (A2 : Option Addr) (c2 : Nat) (A3 : Option Addr) (c3 : Nat) (w : World) (q8 : decide ((p.late.length : Int) ≤ 8) = false) :
    Calls Try.prog 35 #[pv p A1 c1 A2 c2 A3 c3] w (fun e w' => e = refusedE ∧ Below w.heap.size w w') := by
  go_enter Try.func35, Try.ntmps35
  go_wp2_with (first
    | ((with_reducible refine gate_dst (N := 1) rfl ?_); refine box_event ?hg (N := 1) ?hd (cs := pcs p A1 c1 A2 c2 A3 c3) (t := 68) ?hr ?_; (case hd => rfl); (case hg => rfl); (case hr => first | (go_simp; done) | (go_simp; rfl)); intro g1 hg w1 hb1 hbl1; clear hg)
    | ((with_reducible refine gate_dst (N := 6) rfl ?_); refine wpList_load_row rfl 27 (.tmp 5) rfl g1 rfl 68 _ (0, 0) _ hb1 Try.underlying27 rfl info_prod ?_)
    | ((with_reducible refine gate_dst (N := 2) rfl ?_); refine copy_event rfl (N := 2) rfl rfl rfl (t := 27) (v := .tmp 6) rfl (cs := pcs p A1 c1 A2 c2 A3 c3) (zs := pzs) ?hr rfl rfl info_prod ?hz (pcs_one _ _ _ _ _ _ _) ?_; (case hr => first | (go_simp; done) | (go_simp; rfl)); (case hz => rfl); intro g2 hg w2 hb2 hbl2; have g2lt := blk_lt hb2; have g2ge := (show w.heap.size ≤ g2 by rw [hg]; exact hbl1.size); clear hg; have HB2 := Aside0.mk hb2; have BL2 := Aside0.mk (below_step hbl1 hbl2); clear hb1 hbl1 hbl2; have QQ := Aside0.mk (pc_cells hb2); clear hb2; obtain ⟨-, -, -, -, -, -, -, -, -, -, -, -, -, -, -, q15, q16, -⟩ := QQ.out))
  go_wp2_with fail
  refine (must_no _).mono ?_
  rintro e w' ⟨rfl, rfl⟩
  exact ⟨rfl, rfl, BL2.out⟩

set_option maxRecDepth 100000 in
set_option maxHeartbeats 2000000 in
theorem late_2 (p : Prod) (A1 : Option Addr) (c1 : Nat) (A2 : Option Addr) (c2 : Nat) (A3 : Option Addr) (c3 : Nat) (w : World) (q8 : decide ((p.late.length : Int) ≤ 8) = true) (hn : p.late.length ≤ 8) (ha : decide (0 ≤ p.cap ∧ p.cap ≤ 10000000000000) = false) :
    Calls Try.prog 35 #[pv p A1 c1 A2 c2 A3 c3] w (fun e w' => e = refusedE ∧ Below w.heap.size w w') := by
  have HA := Aside0.mk ha
  clear ha
  go_enter Try.func35, Try.ntmps35
  go_wp2_with (first
    | ((with_reducible refine gate_dst (N := 1) rfl ?_); refine box_event ?hg (N := 1) ?hd (cs := pcs p A1 c1 A2 c2 A3 c3) (t := 68) ?hr ?_; (case hd => rfl); (case hg => rfl); (case hr => first | (go_simp; done) | (go_simp; rfl)); intro g1 hg w1 hb1 hbl1; clear hg)
    | ((with_reducible refine gate_dst (N := 6) rfl ?_); refine wpList_load_row rfl 27 (.tmp 5) rfl g1 rfl 68 _ (0, 0) _ hb1 Try.underlying27 rfl info_prod ?_)
    | ((with_reducible refine gate_dst (N := 2) rfl ?_); refine copy_event rfl (N := 2) rfl rfl rfl (t := 27) (v := .tmp 6) rfl (cs := pcs p A1 c1 A2 c2 A3 c3) (zs := pzs) ?hr rfl rfl info_prod ?hz (pcs_one _ _ _ _ _ _ _) ?_; (case hr => first | (go_simp; done) | (go_simp; rfl)); (case hz => rfl); intro g2 hg w2 hb2 hbl2; have g2lt := blk_lt hb2; have g2ge := (show w.heap.size ≤ g2 by rw [hg]; exact hbl1.size); clear hg; have HB2 := Aside0.mk hb2; have BL2 := Aside0.mk (below_step hbl1 hbl2); clear hb1 hbl1 hbl2; have QQ := Aside0.mk (pc_cells hb2); clear hb2; obtain ⟨-, -, -, -, -, -, -, -, -, -, -, -, -, -, -, q15, q16, -⟩ := QQ.out))
  go_wp2_with fail
  refine (within_l_is HA.out _).mono ?_
  rintro e w' ⟨rfl, rfl⟩
  go_wp2_with fail
  refine (must_no _).mono ?_
  rintro e w' ⟨rfl, rfl⟩
  exact ⟨rfl, rfl, BL2.out⟩

set_option maxRecDepth 100000 in
set_option maxHeartbeats 2000000 in
theorem late_3 (p : Prod) (A1 : Option Addr) (c1 : Nat) (A2 : Option Addr) (c2 : Nat) (A3 : Option Addr) (c3 : Nat) (w : World) (q8 : decide ((p.late.length : Int) ≤ 8) = true) (hn : p.late.length ≤ 8) (ha : decide (0 ≤ p.cap ∧ p.cap ≤ 10000000000000) = true) (q0 : p.late.length = 0) (q1 : (p.cap == 0) = false) :
    Calls Try.prog 35 #[pv p A1 c1 A2 c2 A3 c3] w (fun e w' => e = refusedE ∧ Below w.heap.size w w') := by
  have HA := Aside0.mk ha
  have HQ0 := Aside0.mk q0
  clear ha q0
  go_enter Try.func35, Try.ntmps35
  go_wp2_with (first
    | ((with_reducible refine gate_dst (N := 1) rfl ?_); refine box_event ?hg (N := 1) ?hd (cs := pcs p A1 c1 A2 c2 A3 c3) (t := 68) ?hr ?_; (case hd => rfl); (case hg => rfl); (case hr => first | (go_simp; done) | (go_simp; rfl)); intro g1 hg w1 hb1 hbl1; clear hg)
    | ((with_reducible refine gate_dst (N := 6) rfl ?_); refine wpList_load_row rfl 27 (.tmp 5) rfl g1 rfl 68 _ (0, 0) _ hb1 Try.underlying27 rfl info_prod ?_)
    | ((with_reducible refine gate_dst (N := 2) rfl ?_); refine copy_event rfl (N := 2) rfl rfl rfl (t := 27) (v := .tmp 6) rfl (cs := pcs p A1 c1 A2 c2 A3 c3) (zs := pzs) ?hr rfl rfl info_prod ?hz (pcs_one _ _ _ _ _ _ _) ?_; (case hr => first | (go_simp; done) | (go_simp; rfl)); (case hz => rfl); intro g2 hg w2 hb2 hbl2; have g2lt := blk_lt hb2; have g2ge := (show w.heap.size ≤ g2 by rw [hg]; exact hbl1.size); clear hg; have HB2 := Aside0.mk hb2; have BL2 := Aside0.mk (below_step hbl1 hbl2); clear hb1 hbl1 hbl2; have QQ := Aside0.mk (pc_cells hb2); clear hb2; obtain ⟨-, -, -, -, -, -, -, -, -, -, -, -, -, -, -, q15, q16, -⟩ := QQ.out))
  go_wp2_with fail
  refine (within_l_is HA.out _).mono ?_
  rintro e w' ⟨rfl, rfl⟩
  have q0 := HQ0.out
  go_wp2_with fail
  refine (must_no _).mono ?_
  rintro e w' ⟨rfl, rfl⟩
  exact ⟨rfl, rfl, BL2.out⟩

set_option maxRecDepth 100000 in
set_option maxHeartbeats 2000000 in
theorem late_4 (p : Prod) (A1 : Option Addr) (c1 : Nat) (A2 : Option Addr) (c2 : Nat) (A3 : Option Addr) (c3 : Nat) (w : World) (q8 : decide ((p.late.length : Int) ≤ 8) = true) (hn : p.late.length ≤ 8) (ha : decide (0 ≤ p.cap ∧ p.cap ≤ 10000000000000) = true) (q0 : 0 < p.late.length) (hr : Op.IntRows w A2 2 p.late) (bb : Bool) (hbb : tiersOk 0 0 p.late = bb) :
    Calls Try.prog 35 #[pv p A1 c1 A2 c2 A3 c3] w (LookE bb w) := by
  have HA := Aside0.mk ha
  have HR := Aside0.mk hr
  have HBB := Aside0.mk hbb
  clear ha hr hbb
  go_enter Try.func35, Try.ntmps35
  go_wp2_with (first
    | ((with_reducible refine gate_dst (N := 1) rfl ?_); refine box_event ?hg (N := 1) ?hd (cs := pcs p A1 c1 A2 c2 A3 c3) (t := 68) ?hr ?_; (case hd => rfl); (case hg => rfl); (case hr => first | (go_simp; done) | (go_simp; rfl)); intro g1 hg w1 hb1 hbl1; clear hg)
    | ((with_reducible refine gate_dst (N := 6) rfl ?_); refine wpList_load_row rfl 27 (.tmp 5) rfl g1 rfl 68 _ (0, 0) _ hb1 Try.underlying27 rfl info_prod ?_)
    | ((with_reducible refine gate_dst (N := 2) rfl ?_); refine copy_event rfl (N := 2) rfl rfl rfl (t := 27) (v := .tmp 6) rfl (cs := pcs p A1 c1 A2 c2 A3 c3) (zs := pzs) ?hr rfl rfl info_prod ?hz (pcs_one _ _ _ _ _ _ _) ?_; (case hr => first | (go_simp; done) | (go_simp; rfl)); (case hz => rfl); intro g2 hg w2 hb2 hbl2; have g2lt := blk_lt hb2; have g2ge := (show w.heap.size ≤ g2 by rw [hg]; exact hbl1.size); clear hg; have HB2 := Aside0.mk hb2; have BL2 := Aside0.mk (below_step hbl1 hbl2); clear hb1 hbl1 hbl2; have QQ := Aside0.mk (pc_cells hb2); clear hb2; obtain ⟨-, -, -, -, -, -, -, -, -, -, -, -, -, -, -, q15, q16, -⟩ := QQ.out))
  go_wp2_with fail
  refine (within_l_is HA.out _).mono ?_
  rintro e w' ⟨rfl, rfl⟩
  all_goals
    go_wp2_with fail
    refine (must_yes _).mono ?_
    rintro e w' ⟨rfl, rfl⟩
    go_wp2_with fail
    go_loopg [31] (p.late.length + 1) (fun gq i w' => ∃ (k : Nat), k ≤ p.late.length ∧ i = .int .i64 k ∧ Aside0 (gq = p.late.length + 1 - k) ∧ Aside0 (tiersOk (prevOf 0 0 p.late k) (prevOf 0 1 p.late k) (p.late.drop k) = bb) ∧ Aside0 (Below w.heap.size w w' ∧ Below w2.heap.size w2 w'))
    case atStart => exact ⟨0, Nat.zero_le _, rfl, ⟨rfl⟩, ⟨by rw [← HBB.out]; rfl⟩, ⟨BL2.out, Below.refl _ _⟩⟩
    case round =>
      obtain ⟨k, hk, rfl, hgq, hq, hbl⟩ := hrel
      by_cases hlt : k < p.late.length
      · obtain ⟨ad, x, y, e0, hrow, q0', q1', wx, wy⟩ := two_at (HR.out.below hbl.out.1) k hlt
        subst e0
        have hcs := hq.out
        rw [drop_row hrow] at hcs
        simp only [tiersOk] at hcs
        simp only [List.getD_cons_zero, List.getD_cons_succ] at hcs
        have hprev := prevOf_succ (d := 0) (j := 0) hrow
        have hprev1 := prevOf_succ (d := 0) (j := 1) hrow
        simp only [List.getD_cons_zero, List.getD_cons_succ] at hprev hprev1
        have HPREV := Aside0.mk hprev
        have HPREV1 := Aside0.mk hprev1
        have adlt := cell_ltR q0'
        obtain ⟨bx0, bx1⟩ := wf_bd wx
        obtain ⟨by0, by1⟩ := wf_bd wy
        have HB3 := Aside0.mk (blk_below HB2.out hbl.out.2)
        have g2l := blk_lt HB3.out
        have kk0 : (0 : Int) ≤ (k : Int) := by omega
        have kk1 : (k : Int) < (p.late.length : Int) := by omega
        have QP : Aside0 (0 < k → ∃ x' y', p.late[k - 1]? = some [x', y'] ∧ wr.cell? (ad.add ((k - 1) * 2)) = some (.int .i64 x') ∧ wr.cell? ⟨(ad.add ((k - 1) * 2)).block, (ad.add ((k - 1) * 2)).off + 1, none⟩ = some (.int .i64 y')) := ⟨fun h0 => by
          obtain ⟨ad', x', y', e', hrow', c', d', _⟩ := two_at (HR.out.below hbl.out.1) (k - 1) (by omega)
          obtain rfl : ad = ad' := Option.some.inj e'
          exact ⟨x', y', hrow', c', d'⟩⟩
        clear hq hrow hprev hprev1 wx wy q15 q16
        by_cases h1 : 1 ≤ x ∧ x ≤ 365
        · have H1 := Aside0.mk (decide_eq_true h1)
          by_cases h2 : 0 ≤ y ∧ y ≤ 10000000000000
          · have H2 := Aside0.mk (decide_eq_true h2)
            go_wp2_with (first
              | ((with_reducible refine gate_dst (N := 4) rfl ?_); refine copy_event3 rfl (N := 4) rfl rfl rfl rfl (t := 34) (v := .tmp 35) rfl (cs := #[.int .i64 x, .int .i64 y]) (zs := #[.int .i64 0, .int .i64 0]) (vm := .int .i64 k) ?hr ?hrm rfl rfl info_tier ?hz (two_one _ _) ?_; (case hr => first | (go_simp; done) | (go_simp; rfl)); (case hrm => intro W'; first | (go_simp; done) | (go_simp; rfl)); (case hz => rfl); intro g4 hg w4 hb4 hbl4; have g4lt := blk_lt hb4; clear hg; have z0 : w4.cell? ⟨g4, 0, none⟩ = some (.int .i64 x) := (blk_cell hb4 0).trans rfl; have z1 : w4.cell? ⟨g4, 1, none⟩ = some (.int .i64 y) := (blk_cell hb4 1).trans rfl; have HB5 := Aside0.mk (blk_below HB3.out hbl4); have BL4 := Aside0.mk (And.intro (below_step hbl.out.1 hbl4) (below_step hbl.out.2 hbl4)); have HBL4 := Aside0.mk hbl4; clear hb4 hbl4)
              | (go_at_call 50; refine (within_i_is H1.out _).mono ?_; rintro e w' ⟨rfl, rfl⟩)
              | (go_at_call 51; refine (within_l_is H2.out _).mono ?_; rintro e w' ⟨rfl, rfl⟩)
              | (go_at_call 49; refine (must_yes _).mono ?_; rintro e w' ⟨rfl, rfl⟩))
            obtain ⟨-, -, -, -, -, -, -, -, -, -, -, -, -, -, -, q15, -⟩ := pc_cells HB5.out
            by_cases h0 : k = 0
            · have hb2 : tiersOk x y (p.late.drop (k + 1)) = bb := by
                rw [← hcs, decide_eq_true (show 1 ≤ x ∧ x ≤ 365 ∧ 0 ≤ y ∧ y ≤ 10000000000000 ∧ prevOf 0 0 p.late k < x ∧ prevOf 0 1 p.late k ≤ y from ⟨h1.1, h1.2, h2.1, h2.2, by have := h1.1; unfold prevOf; rw [if_pos h0]; omega, by have := h2.1; unfold prevOf; rw [if_pos h0]; omega⟩), Bool.true_and]
              have HB2' := Aside0.mk hb2
              have kz : ((k : Int) == 0) = true := by rw [h0]; rfl
              clear hcs hb2 h1 h2 h0
              go_quiet ((go_at_call 49; refine (must_yes _).mono ?_; rintro e w' ⟨rfl, rfl⟩; exact ⟨rfl, _, rfl⟩))
              go_wp2_with fail
              go_roundg (p.late.length + 1 - (k + 1))
              case measure => have := hgq.out; omega
              case rel => exact ⟨k + 1, by omega, by simp, ⟨rfl⟩, ⟨by rw [HPREV.out, HPREV1.out]; exact HB2'.out⟩, ⟨pw_below_drewN BL4.out.1 _, pw_below_drewN BL4.out.2 _⟩⟩
            · obtain ⟨x', y', hrow', c0', d0'⟩ := QP.out (by omega)
              have c' : w4.cell? (ad.add ((k - 1) * 2)) = some (.int .i64 x') := by rw [HBL4.out.cell (cell_ltR c0')]; exact c0'
              have d' : w4.cell? ⟨(ad.add ((k - 1) * 2)).block, (ad.add ((k - 1) * 2)).off + 1, none⟩ = some (.int .i64 y') := by rw [HBL4.out.cell (cell_ltR d0')]; exact d0'
              have hpv := prevOf_pos (d := 0) (j := 0) (Nat.pos_of_ne_zero h0) hrow'
              have hpw := prevOf_pos (d := 0) (j := 1) (Nat.pos_of_ne_zero h0) hrow'
              simp only [List.getD_cons_zero, List.getD_cons_succ] at hpv hpw
              have kz : ((k : Int) == 0) = false := by rw [beq_eq_false_iff_ne]; omega
              have ew2 : IntKind.i64.wrap ((k : Int) - 1) = (k : Int) - 1 := IntWalk.i64_in _ (by omega)
              have kk2 : (0 : Int) ≤ (k : Int) - 1 := by omega
              have kk3 : (k : Int) - 1 < (p.late.length : Int) := by omega
              have kk4 : (1 : Int) ≤ (k : Int) := by omega
              have ek : ((k : Int) - 1).toNat = k - 1 := by omega
              clear c0' d0'
              by_cases h3 : x' < x
              · have h3d : decide (x' < x) = true := decide_eq_true h3
                by_cases h4 : y' ≤ y
                · have h4d : decide (y' ≤ y) = true := decide_eq_true h4
                  have hb2 : tiersOk x y (p.late.drop (k + 1)) = bb := by
                    rw [← hcs, decide_eq_true (show 1 ≤ x ∧ x ≤ 365 ∧ 0 ≤ y ∧ y ≤ 10000000000000 ∧ prevOf 0 0 p.late k < x ∧ prevOf 0 1 p.late k ≤ y from ⟨h1.1, h1.2, h2.1, h2.2, by rw [hpv]; exact h3, by rw [hpw]; exact h4⟩), Bool.true_and]
                  have HB2' := Aside0.mk hb2
                  clear hcs hb2 h1 h2 h0 hpv hpw hrow'
                  go_quiet ((go_at_call 49; refine (must_yes _).mono ?_; rintro e w' ⟨rfl, rfl⟩; exact ⟨rfl, _, rfl⟩))
                  clear ew2 ek
                  go_wp2_with fail
                  go_roundg (p.late.length + 1 - (k + 1))
                  case measure => have := hgq.out; omega
                  case rel => exact ⟨k + 1, by omega, by simp, ⟨rfl⟩, ⟨by rw [HPREV.out, HPREV1.out]; exact HB2'.out⟩, ⟨pw_below_drewN BL4.out.1 _, pw_below_drewN BL4.out.2 _⟩⟩
                · have h4d : decide (y' ≤ y) = false := decide_eq_false h4
                  have hbf : bb = false := by
                    rw [← hcs, decide_eq_false (fun h => h4 (by have := h.2.2.2.2.2; rw [hpw] at this; exact this)), Bool.false_and]
                  subst hbf
                  have h5 : y < y' := by omega
                  clear hcs h1 h2 h0 hpv hpw hrow' h4
                  refine wp_region_still_tail 26 (by kernel_rfl) (by kernel_rfl) ?_
                  simp only [List.take_succ_cons, List.take_zero, List.drop_succ_cons, List.drop_zero]
                  iterate 26 ((with_reducible refine wpStill_step (fun K hK => ?_)); go_simp; (try simp only [undef, reduceCtorEq, if_false]); (with_reducible refine hK _ ?_); clear hK K)
                  (with_reducible refine wpStill_nil ?_)
                  go_wp2_with ((go_at_call 49; refine (must_no _).mono ?_; rintro e w' ⟨rfl, rfl⟩))
                  exact ⟨rfl, LookE.no ⟨rfl, BL4.out.1.drew⟩⟩
              · have h3d : decide (x' < x) = false := decide_eq_false h3
                have hbf : bb = false := by
                  rw [← hcs, decide_eq_false (fun h => h3 (by have := h.2.2.2.2.1; rw [hpv] at this; exact this)), Bool.false_and]
                subst hbf
                have h5 : x ≤ x' := by omega
                clear hcs h1 h2 h0 hpv hpw hrow' h3
                refine wp_region_still_tail 26 (by kernel_rfl) (by kernel_rfl) ?_
                simp only [List.take_succ_cons, List.take_zero, List.drop_succ_cons, List.drop_zero]
                iterate 26 ((with_reducible refine wpStill_step (fun K hK => ?_)); go_simp; (try simp only [undef, reduceCtorEq, if_false]); (with_reducible refine hK _ ?_); clear hK K)
                (with_reducible refine wpStill_nil ?_)
                go_wp2_with ((go_at_call 49; refine (must_no _).mono ?_; rintro e w' ⟨rfl, rfl⟩))
                exact ⟨rfl, LookE.no ⟨rfl, BL4.out.1.drew⟩⟩
          · have hbf : bb = false := by
              rw [← hcs, decide_eq_false (fun h => h2 ⟨h.2.2.1, h.2.2.2.1⟩), Bool.false_and]
            subst hbf
            have H2 := Aside0.mk (decide_eq_false h2)
            clear hcs h1 h2
            go_wp2_with (first
              | ((with_reducible refine gate_dst (N := 4) rfl ?_); refine copy_event3 rfl (N := 4) rfl rfl rfl rfl (t := 34) (v := .tmp 35) rfl (cs := #[.int .i64 x, .int .i64 y]) (zs := #[.int .i64 0, .int .i64 0]) (vm := .int .i64 k) ?hr ?hrm rfl rfl info_tier ?hz (two_one _ _) ?_; (case hr => first | (go_simp; done) | (go_simp; rfl)); (case hrm => intro W'; first | (go_simp; done) | (go_simp; rfl)); (case hz => rfl); intro g4 hg w4 hb4 hbl4; have g4lt := blk_lt hb4; clear hg; have z0 : w4.cell? ⟨g4, 0, none⟩ = some (.int .i64 x) := (blk_cell hb4 0).trans rfl; have z1 : w4.cell? ⟨g4, 1, none⟩ = some (.int .i64 y) := (blk_cell hb4 1).trans rfl; have HB5 := Aside0.mk (blk_below HB3.out hbl4); have BL4 := Aside0.mk (And.intro (below_step hbl.out.1 hbl4) (below_step hbl.out.2 hbl4)); have HBL4 := Aside0.mk hbl4; clear hb4 hbl4)
              | (go_at_call 50; refine (within_i_is H1.out _).mono ?_; rintro e w' ⟨rfl, rfl⟩)
              | (go_at_call 51; refine (within_l_is H2.out _).mono ?_; rintro e w' ⟨rfl, rfl⟩)
              | (go_at_call 49; refine (must_no _).mono ?_; rintro e w' ⟨rfl, rfl⟩))
            exact ⟨rfl, LookE.no ⟨rfl, BL4.out.1⟩⟩
        · have hbf : bb = false := by
            rw [← hcs, decide_eq_false (fun h => h1 ⟨h.1, h.2.1⟩), Bool.false_and]
          subst hbf
          have H1 := Aside0.mk (decide_eq_false h1)
          clear hcs h1
          go_wp2_with (first
            | ((with_reducible refine gate_dst (N := 4) rfl ?_); refine copy_event3 rfl (N := 4) rfl rfl rfl rfl (t := 34) (v := .tmp 35) rfl (cs := #[.int .i64 x, .int .i64 y]) (zs := #[.int .i64 0, .int .i64 0]) (vm := .int .i64 k) ?hr ?hrm rfl rfl info_tier ?hz (two_one _ _) ?_; (case hr => first | (go_simp; done) | (go_simp; rfl)); (case hrm => intro W'; first | (go_simp; done) | (go_simp; rfl)); (case hz => rfl); intro g4 hg w4 hb4 hbl4; have g4lt := blk_lt hb4; clear hg; have z0 : w4.cell? ⟨g4, 0, none⟩ = some (.int .i64 x) := (blk_cell hb4 0).trans rfl; have z1 : w4.cell? ⟨g4, 1, none⟩ = some (.int .i64 y) := (blk_cell hb4 1).trans rfl; have HB5 := Aside0.mk (blk_below HB3.out hbl4); have BL4 := Aside0.mk (And.intro (below_step hbl.out.1 hbl4) (below_step hbl.out.2 hbl4)); have HBL4 := Aside0.mk hbl4; clear hb4 hbl4)
            | (go_at_call 50; refine (within_i_is H1.out _).mono ?_; rintro e w' ⟨rfl, rfl⟩)
            | (go_at_call 51; refine (within_l_is H1.out _).mono ?_; rintro e w' ⟨rfl, rfl⟩)
            | (go_at_call 49; refine (must_no _).mono ?_; rintro e w' ⟨rfl, rfl⟩))
          exact ⟨rfl, LookE.no ⟨rfl, BL4.out.1⟩⟩
      · have hk2 : k = p.late.length := by omega
        subst hk2
        have hcs := hq.out
        rw [List.drop_length] at hcs
        obtain rfl : true = bb := hcs
        clear hq
        go_wp2_with fail
        go_end0
        exact LookE.yes ⟨rfl, hbl.out.1⟩

set_option maxRecDepth 100000 in
set_option maxHeartbeats 1000000 in
theorem late_5 (p : Prod) (A1 : Option Addr) (c1 : Nat) (A2 : Option Addr) (c2 : Nat) (A3 : Option Addr) (c3 : Nat) (w : World) (q8 : decide ((p.late.length : Int) ≤ 8) = true) (hn : p.late.length ≤ 8) (ha : decide (0 ≤ p.cap ∧ p.cap ≤ 10000000000000) = true) (q0 : p.late.length = 0) (q1 : (p.cap == 0) = true) :
    Calls Try.prog 35 #[pv p A1 c1 A2 c2 A3 c3] w (fun e w' => e = .returned (.tuple #[]) ∧ Below w.heap.size w w') := by
  have HA := Aside0.mk ha
  have HQ0 := Aside0.mk q0
  clear ha q0
  go_enter Try.func35, Try.ntmps35
  go_wp2_with (first
    | ((with_reducible refine gate_dst (N := 1) rfl ?_); refine box_event ?hg (N := 1) ?hd (cs := pcs p A1 c1 A2 c2 A3 c3) (t := 68) ?hr ?_; (case hd => rfl); (case hg => rfl); (case hr => first | (go_simp; done) | (go_simp; rfl)); intro g1 hg w1 hb1 hbl1; clear hg)
    | ((with_reducible refine gate_dst (N := 6) rfl ?_); refine wpList_load_row rfl 27 (.tmp 5) rfl g1 rfl 68 _ (0, 0) _ hb1 Try.underlying27 rfl info_prod ?_)
    | ((with_reducible refine gate_dst (N := 2) rfl ?_); refine copy_event rfl (N := 2) rfl rfl rfl (t := 27) (v := .tmp 6) rfl (cs := pcs p A1 c1 A2 c2 A3 c3) (zs := pzs) ?hr rfl rfl info_prod ?hz (pcs_one _ _ _ _ _ _ _) ?_; (case hr => first | (go_simp; done) | (go_simp; rfl)); (case hz => rfl); intro g2 hg w2 hb2 hbl2; have g2lt := blk_lt hb2; have g2ge := (show w.heap.size ≤ g2 by rw [hg]; exact hbl1.size); clear hg; have HB2 := Aside0.mk hb2; have BL2 := Aside0.mk (below_step hbl1 hbl2); clear hb1 hbl1 hbl2; have QQ := Aside0.mk (pc_cells hb2); clear hb2; obtain ⟨-, -, -, -, -, -, -, -, -, -, -, -, -, -, -, q15, q16, -⟩ := QQ.out))
  go_wp2_with fail
  refine (within_l_is HA.out _).mono ?_
  rintro e w' ⟨rfl, rfl⟩
  have q0 := HQ0.out
  go_wp2_with fail
  refine (must_yes _).mono ?_
  rintro e w' ⟨rfl, rfl⟩
  go_wp2_with fail
  go_loopg [31] 1 (fun gq i w' => i = .int .i64 0 ∧ w' = w2)
  case atStart => exact ⟨rfl, rfl⟩
  case round =>
    obtain ⟨rfl, rfl⟩ := hrel
    go_wp2_with fail
    go_end0
    exact ⟨rfl, BL2.out⟩
/-- A product's late fees are looked at. -/
theorem late_any (p : Prod) (A1 : Option Addr) (c1 : Nat) (A2 : Option Addr) (c2 : Nat) (A3 : Option Addr) (c3 : Nat) (w : World) (hr : Op.IntRows w A2 2 p.late) (hm : p.late.length ≤ 1000000) :
    Calls Try.prog 35 #[pv p A1 c1 A2 c2 A3 c3] w (LookE (lateOk p) w) := by
  unfold lateOk
  by_cases hn : p.late.length ≤ 8
  case neg =>
    rw [decide_eq_false (fun h => hn h.1), Bool.false_and]
    exact (late_1 p A1 c1 A2 c2 A3 c3 w (decide_eq_false (by omega))).mono fun e w' h => LookE.no h
  have hn' : decide ((p.late.length : Int) ≤ 8) = true := decide_eq_true (by omega)
  by_cases ha : 0 ≤ p.cap ∧ p.cap ≤ 10000000000000
  case neg =>
    rw [decide_eq_false (fun h => ha h.2.1), Bool.false_and]
    exact (late_2 p A1 c1 A2 c2 A3 c3 w hn' hn (decide_eq_false ha)).mono fun e w' h => LookE.no h
  by_cases hb : p.late = [] → p.cap = 0
  case neg =>
    rw [decide_eq_false (fun h => hb h.2.2), Bool.false_and]
    have h1 : p.late = [] := by
      cases hl : p.late with
      | nil => rfl
      | cons a l => exact absurd (fun h => by rw [hl] at h; cases h) hb
    have h2 : ¬ p.cap = 0 := fun h => hb (fun _ => h)
    exact (late_3 p A1 c1 A2 c2 A3 c3 w hn' hn (decide_eq_true ha) (by rw [h1]; rfl) (beqf h2)).mono fun e w' h => LookE.no h
  rw [decide_eq_true (show _ from ⟨hn, ha, hb⟩), Bool.true_and]
  by_cases h0 : p.late.length = 0
  · have h1 : p.late = [] := List.eq_nil_of_length_eq_zero h0
    have e1 : tiersOk 0 0 p.late = true := by rw [h1]; rfl
    rw [e1]
    exact (late_5 p A1 c1 A2 c2 A3 c3 w hn' hn (decide_eq_true ha) h0 (beqt (hb h1))).mono fun e w' h => LookE.yes h
  · exact late_4 p A1 c1 A2 c2 A3 c3 w hn' hn (decide_eq_true ha) (by omega) hr _ rfl
end Go.Proofs.Ytcbebbiedegjlaa.Pd
