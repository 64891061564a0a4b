/- Contracts by hand: the document's resets, tiers and holidays. -/
import Derived.Test.YtcbebbiedegjlaaQb
namespace Go.Proofs.Ytcbebbiedegjlaa.Pd
open Go.RowKit Go.Proofs.YtcbebbiedegjlaaW.PrintWords Go.Proofs.YtcbebbiedegjlaaW.PrintLast Go.Proofs.YtcbebbiedegjlaaW.PrintMore Go.Proofs.Ytcbebbiedegjlaa.HW
open Pm
set_option linter.unusedVariables false
set_option linter.unusedSimpArgs false

set_option maxRecDepth 100000 in
set_option maxHeartbeats 2000000 in
theorem rresets_1 (p : Prod) (A1 : Option Addr) (c1 : Nat) (A2 : Option Addr) (c2 : Nat) (A3 : Option Addr) (c3 : Nat) (w : World) (t1 : 1 ≤ p.times) (t2 : p.times ≤ 600) (hr : Op.IntRows w A1 2 p.resets) (hm : p.resets.length ≤ 140737488355328) (bb : Bool) (hbb : resetsOk p.times 0 p.resets = bb) :
    Calls Try.prog 39 #[pv p A1 c1 A2 c2 A3 c3] w fun e w' => e = .returned (.bool (bb && decide (p.resets.length ≤ 20))) ∧ Below w.heap.size w w' := by
  have HR := Aside0.mk hr
  have HBB := Aside0.mk hbb
  clear hr hbb
  go_enter Try.func39, Try.ntmps39
  go_wp2_with ((with_reducible refine gate_dst (N := 1) rfl ?_); refine box_event ?hg (N := 1) ?hd (cs := pcs p A1 c1 A2 c2 A3 c3) (t := 27) ?hr ?_; (case hd => rfl); (case hg => rfl); (case hr => first | (go_simp; done) | (go_simp; rfl)); intro g1 hg w1 hb1 hbl1; clear hg; have HB1 := Aside0.mk hb1; have BL1 := Aside0.mk hbl1; clear hb1 hbl1)
  go_loopg [3] (p.resets.length + 1) (fun gq i w' => ∃ (k : Nat), k ≤ p.resets.length ∧ i = .int .i64 k ∧ Aside0 (gq = p.resets.length + 1 - k) ∧ Aside0 (resetsOk p.times (prevOf 0 0 p.resets k) (p.resets.drop k) = bb) ∧ Aside0 (Below w.heap.size w w' ∧ Below w1.heap.size w1 w'))
  case atStart => exact ⟨0, Nat.zero_le _, rfl, ⟨rfl⟩, ⟨by rw [← HBB.out]; rfl⟩, ⟨BL1.out, Below.refl _ _⟩⟩
  case round =>
    obtain ⟨k, hk, rfl, hgq, hq, hbl⟩ := hrel
    have HB3 := Aside0.mk (blk_below HB1.out hbl.out.2)
    obtain ⟨-, -, -, -, -, q5, -, -, q8, -⟩ := pc_cells HB3.out
    by_cases hlt : k < p.resets.length
    · obtain ⟨ad, x, y, e0, hrow, q0', q1', wx, wy⟩ := two_at (HR.out.below hbl.out.1) k hlt
      subst e0
      have hcs := hq.out
      rw [drop_row hrow] at hcs
      simp only [resetsOk] at hcs
      simp only [List.getD_cons_zero, List.getD_cons_succ] at hcs
      have hprev := prevOf_succ (d := 0) (j := 0) hrow
      have hprev1 := prevOf_succ (d := 0) (j := 1) hrow
      simp only [List.getD_cons_zero, List.getD_cons_succ] at hprev hprev1
      have HPREV := Aside0.mk hprev
      have HPREV1 := Aside0.mk hprev1
      have adlt := cell_ltR q0'
      obtain ⟨bx0, bx1⟩ := wf_bd wx
      obtain ⟨by0, by1⟩ := wf_bd wy
      have g1l := blk_lt HB3.out
      have kk0 : (0 : Int) ≤ (k : Int) := by omega
      have kk1 : (k : Int) < (p.resets.length : Int) := by omega
      have QP : Aside0 (0 < k → ∃ x' y', p.resets[k - 1]? = some [x', y'] ∧ wr.cell? (ad.add ((k - 1) * 2)) = some (.int .i64 x') ∧ wr.cell? ⟨(ad.add ((k - 1) * 2)).block, (ad.add ((k - 1) * 2)).off + 1, none⟩ = some (.int .i64 y')) := ⟨fun h0 => by
        obtain ⟨ad', x', y', e', hrow', c', d', _⟩ := two_at (HR.out.below hbl.out.1) (k - 1) (by omega)
        obtain rfl : ad = ad' := Option.some.inj e'
        exact ⟨x', y', hrow', c', d'⟩⟩
      clear hq hrow hprev hprev1 wx wy
      go_wp2_with ((with_reducible refine gate_dst (N := 4) rfl ?_); refine copy_event rfl (N := 4) rfl rfl rfl (t := 31) (v := .tmp 16) rfl (cs := #[.int .i64 x, .int .i64 y]) (zs := #[.int .i64 0, .int .i64 0]) ?hr rfl rfl info_reset ?hz (two_one _ _) ?_; (case hr => first | (go_simp; done) | (go_simp; rfl)); (case hz => rfl); intro g4 hg w4 hb4 hbl4; have g4lt := blk_lt hb4; clear hg)
      go_frame
      have z0 : w4.cell? ⟨g4, 0, none⟩ = some (.int .i64 x) := (blk_cell hb4 0).trans rfl
      have z1 : w4.cell? ⟨g4, 1, none⟩ = some (.int .i64 y) := (blk_cell hb4 1).trans rfl
      have HB5 := Aside0.mk (blk_below HB3.out hbl4)
      have QP4 : Aside0 (0 < k → ∃ x' y', p.resets[k - 1]? = some [x', y'] ∧ w4.cell? (ad.add ((k - 1) * 2)) = some (.int .i64 x') ∧ w4.cell? ⟨(ad.add ((k - 1) * 2)).block, (ad.add ((k - 1) * 2)).off + 1, none⟩ = some (.int .i64 y')) := ⟨fun h0 => by
        obtain ⟨x', y', h1, h2, h3⟩ := QP.out h0
        exact ⟨x', y', h1, by rw [hbl4.cell (cell_ltR h2)]; exact h2, by rw [hbl4.cell (cell_ltR h3)]; exact h3⟩⟩
      have BL4 := Aside0.mk (And.intro (below_step hbl.out.1 hbl4) (below_step hbl.out.2 hbl4))
      clear hb4 hbl4 hbl HB3 QP q0' q1' q5 q8
      obtain ⟨-, -, -, -, -, q5, -, -, q8, -⟩ := pc_cells HB5.out
      have ew1 : IntKind.i64.wrap (p.times - 1) = p.times - 1 := IntWalk.i64_in _ (by omega)
      by_cases h1 : 1 ≤ x ∧ x ≤ p.times - 1
      · have H1 := Aside0.mk (decide_eq_true h1)
        by_cases h2 : 0 ≤ y ∧ y ≤ 1000000000
        · have H2 := Aside0.mk (decide_eq_true h2)
          by_cases h0 : k = 0
          · have hb2 : resetsOk p.times x (p.resets.drop (k + 1)) = bb := by
              rw [← hcs, decide_eq_true (show 1 ≤ x ∧ x ≤ p.times - 1 ∧ 0 ≤ y ∧ y ≤ 1000000000 ∧ prevOf 0 0 p.resets k < x from ⟨h1.1, h1.2, h2.1, h2.2, by have := h1.1; unfold prevOf; rw [if_pos h0]; omega⟩), Bool.true_and]
            have HB2' := Aside0.mk hb2
            have kz : decide (0 < k) = false := decide_eq_false (by omega)
            have kz2 : decide ((0 : Int) < (k : Int)) = false := decide_eq_false (by omega)
            clear hcs hb2 h1 h2 h0
            go_quiet ((first
              | (go_at_call 37; (with_reducible refine (within_r_is (v := x) H1.out _).mono ?_); rintro e w' ⟨rfl, rfl⟩; exact ⟨rfl, _, rfl⟩)
              | (go_at_call 37; (with_reducible refine (within_r_is (v := y) H2.out _).mono ?_); rintro e w' ⟨rfl, rfl⟩; exact ⟨rfl, _, rfl⟩)))
            go_wp2_with fail
            go_roundg (p.resets.length + 1 - (k + 1))
            case measure => have := hgq.out; omega
            case rel => exact ⟨k + 1, by omega, by simp, ⟨rfl⟩, ⟨by rw [HPREV.out]; exact HB2'.out⟩, ⟨pw_below_drewN BL4.out.1 _, pw_below_drewN BL4.out.2 _⟩⟩
          · obtain ⟨x', y', hrow', c', d'⟩ := QP4.out (by omega)
            have hpv := prevOf_pos (d := 0) (j := 0) (Nat.pos_of_ne_zero h0) hrow'
            simp only [List.getD_cons_zero] at hpv
            have kz : decide (0 < k) = true := decide_eq_true (by omega)
            have kz2 : decide ((0 : Int) < (k : Int)) = true := decide_eq_true (by omega)
            have ew2 : IntKind.i64.wrap ((k : Int) - 1) = (k : Int) - 1 := IntWalk.i64_in _ (by omega)
            have kk2 : (0 : Int) ≤ (k : Int) - 1 := by omega
            have kk3 : (k : Int) - 1 < (p.resets.length : Int) := by omega
            have kk4 : (1 : Int) ≤ (k : Int) := by omega
            have ek : ((k : Int) - 1).toNat = k - 1 := by omega
            by_cases h3 : x' < x
            · have hb2 : resetsOk p.times x (p.resets.drop (k + 1)) = bb := by
                rw [← hcs, decide_eq_true (show 1 ≤ x ∧ x ≤ p.times - 1 ∧ 0 ≤ y ∧ y ≤ 1000000000 ∧ prevOf 0 0 p.resets k < x from ⟨h1.1, h1.2, h2.1, h2.2, by rw [hpv]; exact h3⟩), Bool.true_and]
              have HB2' := Aside0.mk hb2
              have h5 : decide (x ≤ x') = false := decide_eq_false (by omega)
              clear hcs hb2 h1 h2 h0 hpv hrow'
              go_quiet ((first
                | (go_at_call 37; (with_reducible refine (within_r_is (v := x) H1.out _).mono ?_); rintro e w' ⟨rfl, rfl⟩; exact ⟨rfl, _, rfl⟩)
                | (go_at_call 37; (with_reducible refine (within_r_is (v := y) H2.out _).mono ?_); rintro e w' ⟨rfl, rfl⟩; exact ⟨rfl, _, rfl⟩)))
              clear ew1 ew2 ek
              go_wp2_with fail
              go_roundg (p.resets.length + 1 - (k + 1))
              case measure => have := hgq.out; omega
              case rel => exact ⟨k + 1, by omega, by simp, ⟨rfl⟩, ⟨by rw [HPREV.out]; exact HB2'.out⟩, ⟨pw_below_drewN BL4.out.1 _, pw_below_drewN BL4.out.2 _⟩⟩
            · have hbf : bb = false := by
                rw [← hcs, decide_eq_false (fun h => h3 (by have := h.2.2.2.2; rw [hpv] at this; exact this)), Bool.false_and]
              subst hbf
              have h5 : decide (x ≤ x') = true := decide_eq_true (by omega)
              clear hcs h1 h2 h0 hpv hrow' h3
              go_quiet ((first
                | (go_at_call 37; (with_reducible refine (within_r_is (v := x) H1.out _).mono ?_); rintro e w' ⟨rfl, rfl⟩; exact ⟨rfl, _, rfl⟩)
                | (go_at_call 37; (with_reducible refine (within_r_is (v := y) H2.out _).mono ?_); rintro e w' ⟨rfl, rfl⟩; exact ⟨rfl, _, rfl⟩)))
              clear ew1 ew2 ek
              go_wp2_with fail
              go_ret
              exact ⟨by simp, pw_below_drewN BL4.out.1 _⟩
        · have hbf : bb = false := by
            rw [← hcs, decide_eq_false (fun h => h2 ⟨h.2.2.1, h.2.2.2.1⟩), Bool.false_and]
          subst hbf
          have H2 := Aside0.mk (decide_eq_false h2)
          clear hcs h1 h2
          go_quiet ((first
            | (go_at_call 37; (with_reducible refine (within_r_is (v := x) H1.out _).mono ?_); rintro e w' ⟨rfl, rfl⟩; exact ⟨rfl, _, rfl⟩)
            | (go_at_call 37; (with_reducible refine (within_r_is (v := y) H2.out _).mono ?_); rintro e w' ⟨rfl, rfl⟩; exact ⟨rfl, _, rfl⟩)))
          go_wp2_with fail
          go_ret
          exact ⟨by simp, pw_below_drewN BL4.out.1 _⟩
      · have hbf : bb = false := by
          rw [← hcs, decide_eq_false (fun h => h1 ⟨h.1, h.2.1⟩), Bool.false_and]
        subst hbf
        have H1 := Aside0.mk (decide_eq_false h1)
        clear hcs h1
        go_quiet ((first
          | (go_at_call 37; (with_reducible refine (within_r_is (v := x) H1.out _).mono ?_); rintro e w' ⟨rfl, rfl⟩; exact ⟨rfl, _, rfl⟩)
          | (go_at_call 37; (with_reducible refine (within_r_is (v := x) H1.out _).mono ?_); rintro e w' ⟨rfl, rfl⟩; exact ⟨rfl, _, rfl⟩)))
        go_wp2_with fail
        go_ret
        exact ⟨by simp, pw_below_drewN BL4.out.1 _⟩
    · have hk2 : k = p.resets.length := by omega
      subst hk2
      have hcs := hq.out
      rw [List.drop_length] at hcs
      obtain rfl : true = bb := hcs
      clear hq
      go_wp2_with fail
      go_ret
      exact ⟨by simp; try omega, hbl.out.1⟩

set_option maxRecDepth 100000 in
set_option maxHeartbeats 2000000 in
theorem rtiers_1 (p : Prod) (A1 : Option Addr) (c1 : Nat) (A2 : Option Addr) (c2 : Nat) (A3 : Option Addr) (c3 : Nat) (w : World) (hr : Op.IntRows w A2 2 p.late) (hm : p.late.length ≤ 140737488355328) (bb : Bool) (hbb : tiersOk 0 0 p.late = bb) (r : Bool) (hrr : (decide (p.late.length ≤ 8 ∧ (0 ≤ p.cap ∧ p.cap ≤ 10000000000000) ∧ (p.late = [] → p.cap = 0)) && bb) = r) :
    Calls Try.prog 40 #[pv p A1 c1 A2 c2 A3 c3] w fun e w' => e = .returned (.bool r) ∧ Below w.heap.size w w' := by
  have HR := Aside0.mk hr
  have HBB := Aside0.mk hbb
  have HRR := Aside0.mk hrr
  clear hr hbb hrr
  go_enter Try.func40, Try.ntmps40
  go_wp2_with ((with_reducible refine gate_dst (N := 1) rfl ?_); refine box_event ?hg (N := 1) ?hd (cs := pcs p A1 c1 A2 c2 A3 c3) (t := 27) ?hr ?_; (case hd => rfl); (case hg => rfl); (case hr => first | (go_simp; done) | (go_simp; rfl)); intro g1 hg w1 hb1 hbl1; clear hg; have HB1 := Aside0.mk hb1; have BL1 := Aside0.mk hbl1; clear hb1 hbl1)
  go_loopg [3] (p.late.length + 1) (fun gq i w' => ∃ (k : Nat), k ≤ p.late.length ∧ i = .int .i64 k ∧ Aside0 (gq = p.late.length + 1 - k) ∧ Aside0 (tiersOk (prevOf 0 0 p.late k) (prevOf 0 1 p.late k) (p.late.drop k) = bb) ∧ Aside0 (Below w.heap.size w w' ∧ Below w1.heap.size w1 w'))
  case atStart => exact ⟨0, Nat.zero_le _, rfl, ⟨rfl⟩, ⟨by rw [← HBB.out]; rfl⟩, ⟨BL1.out, Below.refl _ _⟩⟩
  case round =>
    obtain ⟨k, hk, rfl, hgq, hq, hbl⟩ := hrel
    have HB3 := Aside0.mk (blk_below HB1.out hbl.out.2)
    obtain ⟨-, -, -, -, -, -, -, -, -, -, -, -, -, -, -, q15, q16, -⟩ := pc_cells HB3.out
    by_cases hlt : k < p.late.length
    · obtain ⟨ad, x, y, e0, hrow, q0', q1', wx, wy⟩ := two_at (HR.out.below hbl.out.1) k hlt
      subst e0
      have hcs := hq.out
      rw [drop_row hrow] at hcs
      simp only [tiersOk] at hcs
      simp only [List.getD_cons_zero, List.getD_cons_succ] at hcs
      have hprev := prevOf_succ (d := 0) (j := 0) hrow
      have hprev1 := prevOf_succ (d := 0) (j := 1) hrow
      simp only [List.getD_cons_zero, List.getD_cons_succ] at hprev hprev1
      have HPREV := Aside0.mk hprev
      have HPREV1 := Aside0.mk hprev1
      have adlt := cell_ltR q0'
      obtain ⟨bx0, bx1⟩ := wf_bd wx
      obtain ⟨by0, by1⟩ := wf_bd wy
      have g1l := blk_lt HB3.out
      have kk0 : (0 : Int) ≤ (k : Int) := by omega
      have kk1 : (k : Int) < (p.late.length : Int) := by omega
      have QP : Aside0 (0 < k → ∃ x' y', p.late[k - 1]? = some [x', y'] ∧ wr.cell? (ad.add ((k - 1) * 2)) = some (.int .i64 x') ∧ wr.cell? ⟨(ad.add ((k - 1) * 2)).block, (ad.add ((k - 1) * 2)).off + 1, none⟩ = some (.int .i64 y')) := ⟨fun h0 => by
        obtain ⟨ad', x', y', e', hrow', c', d', _⟩ := two_at (HR.out.below hbl.out.1) (k - 1) (by omega)
        obtain rfl : ad = ad' := Option.some.inj e'
        exact ⟨x', y', hrow', c', d'⟩⟩
      clear hq hrow hprev hprev1 wx wy
      go_wp2_with ((with_reducible refine gate_dst (N := 4) rfl ?_); refine copy_event rfl (N := 4) rfl rfl rfl (t := 34) (v := .tmp 16) rfl (cs := #[.int .i64 x, .int .i64 y]) (zs := #[.int .i64 0, .int .i64 0]) ?hr rfl rfl info_tier ?hz (two_one _ _) ?_; (case hr => first | (go_simp; done) | (go_simp; rfl)); (case hz => rfl); intro g4 hg w4 hb4 hbl4; have g4lt := blk_lt hb4; clear hg)
      go_frame
      have z0 : w4.cell? ⟨g4, 0, none⟩ = some (.int .i64 x) := (blk_cell hb4 0).trans rfl
      have z1 : w4.cell? ⟨g4, 1, none⟩ = some (.int .i64 y) := (blk_cell hb4 1).trans rfl
      have HB5 := Aside0.mk (blk_below HB3.out hbl4)
      have QP4 : Aside0 (0 < k → ∃ x' y', p.late[k - 1]? = some [x', y'] ∧ w4.cell? (ad.add ((k - 1) * 2)) = some (.int .i64 x') ∧ w4.cell? ⟨(ad.add ((k - 1) * 2)).block, (ad.add ((k - 1) * 2)).off + 1, none⟩ = some (.int .i64 y')) := ⟨fun h0 => by
        obtain ⟨x', y', h1, h2, h3⟩ := QP.out h0
        exact ⟨x', y', h1, by rw [hbl4.cell (cell_ltR h2)]; exact h2, by rw [hbl4.cell (cell_ltR h3)]; exact h3⟩⟩
      have BL4 := Aside0.mk (And.intro (below_step hbl.out.1 hbl4) (below_step hbl.out.2 hbl4))
      clear hb4 hbl4 hbl HB3 QP q0' q1' q15 q16
      obtain ⟨-, -, -, -, -, -, -, -, -, -, -, -, -, -, -, q15, q16, -⟩ := pc_cells HB5.out
      by_cases h1 : 1 ≤ x ∧ x ≤ 365
      · have H1 := Aside0.mk (decide_eq_true h1)
        by_cases h2 : 0 ≤ y ∧ y ≤ 10000000000000
        · have H2 := Aside0.mk (decide_eq_true h2)
          by_cases h0 : k = 0
          · have hb2 : tiersOk x y (p.late.drop (k + 1)) = bb := by
              rw [← hcs, decide_eq_true (show 1 ≤ x ∧ x ≤ 365 ∧ 0 ≤ y ∧ y ≤ 10000000000000 ∧ prevOf 0 0 p.late k < x ∧ prevOf 0 1 p.late k ≤ y from ⟨h1.1, h1.2, h2.1, h2.2, by have := h1.1; unfold prevOf; rw [if_pos h0]; omega, by have := h2.1; unfold prevOf; rw [if_pos h0]; omega⟩), Bool.true_and]
            have HB2' := Aside0.mk hb2
            have kz : decide (0 < k) = false := decide_eq_false (by omega)
            have kz2 : decide ((0 : Int) < (k : Int)) = false := decide_eq_false (by omega)
            clear hcs hb2 h1 h2 h0
            go_quiet ((first
              | (go_at_call 37; (with_reducible refine (within_r_is (v := x) H1.out _).mono ?_); rintro e w' ⟨rfl, rfl⟩; exact ⟨rfl, _, rfl⟩)
              | (go_at_call 37; (with_reducible refine (within_r_is (v := y) H2.out _).mono ?_); rintro e w' ⟨rfl, rfl⟩; exact ⟨rfl, _, rfl⟩)))
            go_wp2_with fail
            go_roundg (p.late.length + 1 - (k + 1))
            case measure => have := hgq.out; omega
            case rel => exact ⟨k + 1, by omega, by simp, ⟨rfl⟩, ⟨by rw [HPREV.out, HPREV1.out]; exact HB2'.out⟩, ⟨pw_below_drewN BL4.out.1 _, pw_below_drewN BL4.out.2 _⟩⟩
          · obtain ⟨x', y', hrow', c', d'⟩ := QP4.out (by omega)
            have hpv := prevOf_pos (d := 0) (j := 0) (Nat.pos_of_ne_zero h0) hrow'
            have hpw := prevOf_pos (d := 0) (j := 1) (Nat.pos_of_ne_zero h0) hrow'
            simp only [List.getD_cons_zero, List.getD_cons_succ] at hpv hpw
            have kz : decide (0 < k) = true := decide_eq_true (by omega)
            have kz2 : decide ((0 : Int) < (k : Int)) = true := decide_eq_true (by omega)
            have ew2 : IntKind.i64.wrap ((k : Int) - 1) = (k : Int) - 1 := IntWalk.i64_in _ (by omega)
            have kk2 : (0 : Int) ≤ (k : Int) - 1 := by omega
            have kk3 : (k : Int) - 1 < (p.late.length : Int) := by omega
            have kk4 : (1 : Int) ≤ (k : Int) := by omega
            have ek : ((k : Int) - 1).toNat = k - 1 := by omega
            by_cases h3 : x' < x
            · have h5 : decide (x ≤ x') = false := decide_eq_false (by omega)
              by_cases h4 : y' ≤ y
              · have h6 : decide (y < y') = false := decide_eq_false (by omega)
                have hb2 : tiersOk x y (p.late.drop (k + 1)) = bb := by
                  rw [← hcs, decide_eq_true (show 1 ≤ x ∧ x ≤ 365 ∧ 0 ≤ y ∧ y ≤ 10000000000000 ∧ prevOf 0 0 p.late k < x ∧ prevOf 0 1 p.late k ≤ y from ⟨h1.1, h1.2, h2.1, h2.2, by rw [hpv]; exact h3, by rw [hpw]; exact h4⟩), Bool.true_and]
                have HB2' := Aside0.mk hb2
                clear hcs hb2 h1 h2 h0 hpv hpw hrow'
                go_quiet ((first
                  | (go_at_call 37; (with_reducible refine (within_r_is (v := x) H1.out _).mono ?_); rintro e w' ⟨rfl, rfl⟩; exact ⟨rfl, _, rfl⟩)
                  | (go_at_call 37; (with_reducible refine (within_r_is (v := y) H2.out _).mono ?_); rintro e w' ⟨rfl, rfl⟩; exact ⟨rfl, _, rfl⟩)))
                clear ew2 ek
                go_wp2_with fail
                go_roundg (p.late.length + 1 - (k + 1))
                case measure => have := hgq.out; omega
                case rel => exact ⟨k + 1, by omega, by simp, ⟨rfl⟩, ⟨by rw [HPREV.out, HPREV1.out]; exact HB2'.out⟩, ⟨pw_below_drewN BL4.out.1 _, pw_below_drewN BL4.out.2 _⟩⟩
              · have h6 : decide (y < y') = true := decide_eq_true (by omega)
                have hbf : bb = false := by
                  rw [← hcs, decide_eq_false (fun h => h4 (by have := h.2.2.2.2.2; rw [hpw] at this; exact this)), Bool.false_and]
                subst hbf
                have hrf : r = false := by rw [← HRR.out, Bool.and_false]
                subst hrf
                clear hcs h1 h2 h0 hpv hpw hrow' h4
                go_quiet ((first
                  | (go_at_call 37; (with_reducible refine (within_r_is (v := x) H1.out _).mono ?_); rintro e w' ⟨rfl, rfl⟩; exact ⟨rfl, _, rfl⟩)
                  | (go_at_call 37; (with_reducible refine (within_r_is (v := y) H2.out _).mono ?_); rintro e w' ⟨rfl, rfl⟩; exact ⟨rfl, _, rfl⟩)))
                clear ew2 ek
                go_wp2_with fail
                go_ret
                exact ⟨rfl, pw_below_drewN BL4.out.1 _⟩
            · have hbf : bb = false := by
                rw [← hcs, decide_eq_false (fun h => h3 (by have := h.2.2.2.2.1; rw [hpv] at this; exact this)), Bool.false_and]
              have h5 : decide (x ≤ x') = true := decide_eq_true (by omega)
              subst hbf
              have hrf : r = false := by rw [← HRR.out, Bool.and_false]
              subst hrf
              clear hcs h1 h2 h0 hpv hpw hrow' h3
              go_quiet ((first
                | (go_at_call 37; (with_reducible refine (within_r_is (v := x) H1.out _).mono ?_); rintro e w' ⟨rfl, rfl⟩; exact ⟨rfl, _, rfl⟩)
                | (go_at_call 37; (with_reducible refine (within_r_is (v := y) H2.out _).mono ?_); rintro e w' ⟨rfl, rfl⟩; exact ⟨rfl, _, rfl⟩)))
              clear ew2 ek
              go_wp2_with fail
              go_ret
              exact ⟨rfl, pw_below_drewN BL4.out.1 _⟩
        · have hbf : bb = false := by
            rw [← hcs, decide_eq_false (fun h => h2 ⟨h.2.2.1, h.2.2.2.1⟩), Bool.false_and]
          have H2 := Aside0.mk (decide_eq_false h2)
          subst hbf
          have hrf : r = false := by rw [← HRR.out, Bool.and_false]
          subst hrf
          clear hcs h1 h2
          go_quiet ((first
            | (go_at_call 37; (with_reducible refine (within_r_is (v := x) H1.out _).mono ?_); rintro e w' ⟨rfl, rfl⟩; exact ⟨rfl, _, rfl⟩)
            | (go_at_call 37; (with_reducible refine (within_r_is (v := y) H2.out _).mono ?_); rintro e w' ⟨rfl, rfl⟩; exact ⟨rfl, _, rfl⟩)))
          go_wp2_with fail
          go_ret
          exact ⟨rfl, pw_below_drewN BL4.out.1 _⟩
      · have hbf : bb = false := by
          rw [← hcs, decide_eq_false (fun h => h1 ⟨h.1, h.2.1⟩), Bool.false_and]
        have H1 := Aside0.mk (decide_eq_false h1)
        subst hbf
        have hrf : r = false := by rw [← HRR.out, Bool.and_false]
        subst hrf
        clear hcs h1
        go_quiet ((first
          | (go_at_call 37; (with_reducible refine (within_r_is (v := x) H1.out _).mono ?_); rintro e w' ⟨rfl, rfl⟩; exact ⟨rfl, _, rfl⟩)
          | (go_at_call 37; (with_reducible refine (within_r_is (v := x) H1.out _).mono ?_); rintro e w' ⟨rfl, rfl⟩; exact ⟨rfl, _, rfl⟩)))
        go_wp2_with fail
        go_ret
        exact ⟨rfl, pw_below_drewN BL4.out.1 _⟩
    · have hk2 : k = p.late.length := by omega
      have hcs := hq.out
      rw [hk2, List.drop_length] at hcs
      obtain rfl : true = bb := hcs
      have hr2 := HRR.out
      rw [Bool.and_true] at hr2
      clear hq hk
      have q0' : decide (k < p.late.length) = false := decide_eq_false hlt
      by_cases hn : p.late.length ≤ 8
      · have n8 : decide ((p.late.length : Int) ≤ 8) = true := decide_eq_true (by omega)
        by_cases ha : 0 ≤ p.cap ∧ p.cap ≤ 10000000000000
        · have HA := Aside0.mk (decide_eq_true ha)
          by_cases h0 : p.cap = 0
          · have e1 : (p.cap == 0) = true := beqt h0
            rw [decide_eq_true (show _ from ⟨hn, ha, fun _ => h0⟩)] at hr2
            subst hr2
            clear ha h0 hk2
            go_wp2_with ((go_at_call 37; refine (within_r_is HA.out _).mono ?_; rintro e w' ⟨rfl, rfl⟩))
            go_ret
            exact ⟨rfl, hbl.out.1⟩
          · have e1 : (p.cap == 0) = false := beqf h0
            by_cases hz : 0 < p.late.length
            · have z1 : decide (0 < p.late.length) = true := decide_eq_true hz
              have z2 : decide ((0 : Int) < (p.late.length : Int)) = true := decide_eq_true (by omega)
              rw [decide_eq_true (show _ from ⟨hn, ha, fun h => by rw [h] at hz; exact absurd hz (Nat.lt_irrefl 0)⟩)] at hr2
              subst hr2
              clear ha h0 hk2
              go_wp2_with ((go_at_call 37; refine (within_r_is HA.out _).mono ?_; rintro e w' ⟨rfl, rfl⟩))
              go_ret
              exact ⟨rfl, hbl.out.1⟩
            · have z1 : decide (0 < p.late.length) = false := decide_eq_false hz
              have z2 : decide ((0 : Int) < (p.late.length : Int)) = false := decide_eq_false (by omega)
              rw [decide_eq_false (fun h => h0 (h.2.2 (List.eq_nil_of_length_eq_zero (by omega))))] at hr2
              subst hr2
              clear ha h0 hk2 hz
              go_wp2_with ((go_at_call 37; refine (within_r_is HA.out _).mono ?_; rintro e w' ⟨rfl, rfl⟩))
              go_ret
              exact ⟨by first | rfl | (simp; try omega), hbl.out.1⟩
        · have HA := Aside0.mk (decide_eq_false ha)
          rw [decide_eq_false (fun h => ha h.2.1)] at hr2
          subst hr2
          clear ha hk2
          go_wp2_with ((go_at_call 37; refine (within_r_is HA.out _).mono ?_; rintro e w' ⟨rfl, rfl⟩))
          go_ret
          exact ⟨rfl, hbl.out.1⟩
      · have n8 : decide ((p.late.length : Int) ≤ 8) = false := decide_eq_false (by omega)
        rw [decide_eq_false (fun h => hn h.1)] at hr2
        subst hr2
        clear hk2 hn
        go_wp2_with fail
        go_ret
        exact ⟨rfl, hbl.out.1⟩

set_option maxRecDepth 100000 in
set_option maxHeartbeats 1000000 in
theorem rright_1 (A : Option Addr) (c : Nat) (l : List Int) (w : World) (hr : Kd.C (Kd.int .i64) w A l.length l) (hm : l.length ≤ 140737488355328) (bb : Bool) (hbb : Nw.rises (-25568) l = bb) :
    Calls Try.prog 41 #[.slice A l.length c] w fun e w' => e = .returned (.bool (bb && decide (l.length ≤ 200))) ∧ Drawn0 w w' := by
  have HR := Aside0.mk hr
  have HBB := Aside0.mk hbb
  clear hr hbb
  go_enter Try.func41, Try.ntmps41
  go_wp2_with fail
  go_loopg [3] (l.length + 1) (fun gq i w' => ∃ (k : Nat) (q : Int), k ≤ l.length ∧ i = .int .i64 k ∧ Aside0 (gq = l.length + 1 - k) ∧ Aside0 (k = 0 ∧ q = -25568 ∨ 0 < k ∧ q = rd l ((k : Int) - 1)) ∧ Aside0 (Nw.rises q (l.drop k) = bb) ∧ Drawn0 w w')
  case atStart => exact ⟨0, -25568, Nat.zero_le _, rfl, ⟨rfl⟩, ⟨Or.inl ⟨rfl, rfl⟩⟩, ⟨by rw [← HBB.out]; rfl⟩, Drawn0.refl _⟩
  case round =>
    obtain ⟨k, q, hk, rfl, hg, hp, hq, ⟨m1, rfl⟩⟩ := hrel
    by_cases hlt : k < l.length
    · obtain ⟨ad, e0, hx0⟩ := Kd.at_int HR.out (k : Int) (by omega) (by omega)
      subst e0
      rw [Int.toNat_natCast] at hx0
      have hrc := hq.out
      rw [Nw.rd_cons l k hlt] at hrc
      simp only [Nw.rises] at hrc
      have HX : Aside0 (∀ j : Nat, j < l.length → w.cell? (ad.add j) = some (.int .i64 (rd l (j : Int)))) := ⟨fun j hj => by
        obtain ⟨ad', e', hx'⟩ := Kd.at_int HR.out (j : Int) (by omega) (by omega)
        obtain rfl : ad = ad' := Option.some.inj e'
        rw [Int.toNat_natCast] at hx'
        exact hx'⟩
      have kk0 : (0 : Int) ≤ (k : Int) := by omega
      have kk1 : (k : Int) < (l.length : Int) := by omega
      by_cases hd : Nw.isDay (rd l (k : Int))
      · have d1 := decide_eq_true hd
        rw [d1, Bool.true_and] at hrc
        have HD := Aside0.mk (show decide (-25567 ≤ rd l (k : Int) ∧ rd l (k : Int) ≤ 84370) = true from decide_eq_true hd)
        rcases (by omega : k = 0 ∨ 0 < k) with h0 | h0
        · have hp0 : q = -25568 := by rcases hp.out with h | h <;> omega
          have hlt2 : decide (q < rd l (k : Int)) = true := decide_eq_true (by have := hd.1; omega)
          rw [hlt2, Bool.true_and] at hrc
          have HQ := Aside0.mk hrc
          have kz : decide (0 < k) = false := decide_eq_false (by omega)
          have kz2 : decide ((0 : Int) < (k : Int)) = false := decide_eq_false (by omega)
          clear hrc hq hd hlt2 hp0 hp h0 d1
          go_wp2_with fail
          go_quiet ((go_at_call 53; refine (is_is HD.out _).mono ?_; rintro e w' ⟨rfl, rfl⟩; exact ⟨rfl, _, rfl⟩))
          go_wp2_with fail
          go_roundg (l.length + 1 - (k + 1))
          case measure => have := hg.out; omega
          case rel => exact ⟨k + 1, rd l (k : Int), by omega, by simp, ⟨rfl⟩, ⟨Or.inr ⟨by omega, by congr 1; omega⟩⟩, HQ, ⟨_, rfl⟩⟩
        · have hx1 := HX.out (k - 1) (by omega)
          have hp1 : q = rd l (((k - 1 : Nat) : Int)) := by
            rcases hp.out with h | h
            · omega
            · rw [h.2]; congr 1; omega
          have ecast : (((k - 1 : Nat) : Int)) = (k : Int) - 1 := by omega
          rw [ecast] at hx1 hp1
          have kz : decide (0 < k) = true := decide_eq_true (by omega)
          have kz2 : decide ((0 : Int) < (k : Int)) = true := decide_eq_true (by omega)
          have ew2 : IntKind.i64.wrap ((k : Int) - 1) = (k : Int) - 1 := IntWalk.i64_in _ (by omega)
          have kk2 : (0 : Int) ≤ (k : Int) - 1 := by omega
          have kk3 : (k : Int) - 1 < (l.length : Int) := by omega
          have kk4 : (1 : Int) ≤ (k : Int) := by omega
          have ek : ((k : Int) - 1).toNat = k - 1 := by omega
          by_cases hlt2 : q < rd l (k : Int)
          · rw [decide_eq_true hlt2, Bool.true_and] at hrc
            have HQ := Aside0.mk hrc
            have hle2 : decide (rd l (k : Int) ≤ rd l ((k : Int) - 1)) = false := decide_eq_false (by omega)
            clear hrc hq hd hlt2 hp1 hp d1 ecast
            go_wp2_with fail
            go_quiet ((go_at_call 53; refine (is_is HD.out _).mono ?_; rintro e w' ⟨rfl, rfl⟩; exact ⟨rfl, _, rfl⟩))
            clear ew2 ek
            go_wp2_with fail
            go_roundg (l.length + 1 - (k + 1))
            case measure => have := hg.out; omega
            case rel => exact ⟨k + 1, rd l (k : Int), by omega, by simp, ⟨rfl⟩, ⟨Or.inr ⟨by omega, by congr 1; omega⟩⟩, HQ, ⟨_, rfl⟩⟩
          · rw [decide_eq_false hlt2, Bool.false_and] at hrc
            subst hrc
            have hle2 : decide (rd l (k : Int) ≤ rd l ((k : Int) - 1)) = true := decide_eq_true (by omega)
            clear hq hd hlt2 hp1 hp d1 ecast
            go_wp2_with fail
            go_quiet ((go_at_call 53; refine (is_is HD.out _).mono ?_; rintro e w' ⟨rfl, rfl⟩; exact ⟨rfl, _, rfl⟩))
            clear ew2 ek
            go_wp2_with fail
            go_ret
            exact ⟨by simp, (show Drawn0 w (w.drewN m1) from ⟨m1, rfl⟩).step _⟩
      · have d1 := decide_eq_false hd
        rw [d1, Bool.false_and] at hrc
        subst hrc
        have HD := Aside0.mk (show decide (-25567 ≤ rd l (k : Int) ∧ rd l (k : Int) ≤ 84370) = false from decide_eq_false hd)
        clear hd hq d1
        go_wp2_with fail
        go_quiet ((go_at_call 53; refine (is_is HD.out _).mono ?_; rintro e w' ⟨rfl, rfl⟩; exact ⟨rfl, _, rfl⟩))
        go_wp2_with fail
        go_ret
        exact ⟨by simp, (show Drawn0 w (w.drewN m1) from ⟨m1, rfl⟩).step _⟩
    · have hk2 : k = l.length := by omega
      subst hk2
      have hrc := hq.out
      rw [List.drop_length] at hrc
      obtain rfl : true = bb := hrc
      clear hq
      go_wp2_with fail
      go_ret
      exact ⟨by simp; try omega, ⟨_, rfl⟩⟩
end Go.Proofs.Ytcbebbiedegjlaa.Pd
