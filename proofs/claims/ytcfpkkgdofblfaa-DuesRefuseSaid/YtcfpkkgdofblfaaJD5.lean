/- Texts of this claim, joined in build order. -/
import Derived.Deep.DeepCutAuto
import Derived.BigFrame
import Derived.Test.YtcfpkkgdofblfaaJD1
import Derived.Test.YtcfpkkgdofblfaaJD2
import Derived.Test.YtcfpkkgdofblfaaJD3
import Derived.Test.YtcfpkkgdofblfaaJD4
/- Contracts by hand: the document's resets, tiers and holidays. -/
namespace Go.Proofs.Ytcfpkkgdofblfaa.Pd
open Go.RowKit Go.Proofs.YtcfpkkgdofblfaaW.PrintWords Go.Proofs.YtcfpkkgdofblfaaW.PrintLast Go.Proofs.YtcfpkkgdofblfaaW.PrintMore Go.Proofs.Ytcfpkkgdofblfaa.HW
open Pm
set_option linter.unusedVariables false
set_option linter.unusedSimpArgs false

set_option maxRecDepth 100000 in
set_option maxHeartbeats 2000000 in
theorem rresets_1 (p : Prod) (A1 : Option Addr) (c1 : Nat) (A2 : Option Addr) (c2 : Nat) (A3 : Option Addr) (c3 : Nat) (w : World) (t1 : 1 ≤ p.times) (t2 : p.times ≤ 600) (hr : Op.IntRows w A1 2 p.resets) (hm : p.resets.length ≤ 140737488355328) (bb : Bool) (hbb : resetsOk p.times 0 p.resets = bb) :
    Calls Try.prog 55 #[pv p A1 c1 A2 c2 A3 c3] w fun e w' => e = .returned (.bool (bb && decide (p.resets.length ≤ 20))) ∧ Below w.heap.size w w' := by
  have HR := Aside0.mk hr
  have HBB := Aside0.mk hbb
  clear hr hbb
  go_enter Try.func55, Try.ntmps55
  go_wp2_with ((with_reducible refine gate_dst (N := 1) rfl ?_); refine box_event ?hg (N := 1) ?hd (cs := pcs p A1 c1 A2 c2 A3 c3) (t := 27) ?hr ?_; (case hd => rfl); (case hg => rfl); (case hr => first | (go_simp; done) | (go_simp; rfl)); intro g1 hg w1 hb1 hbl1; clear hg; have HB1 := Aside0.mk hb1; have BL1 := Aside0.mk hbl1; clear hb1 hbl1)
  go_loopg [3] (p.resets.length + 1) (fun gq i w' => ∃ (k : Nat), k ≤ p.resets.length ∧ i = .int .i64 k ∧ Aside0 (gq = p.resets.length + 1 - k) ∧ Aside0 (resetsOk p.times (prevOf 0 0 p.resets k) (p.resets.drop k) = bb) ∧ Aside0 (Below w.heap.size w w' ∧ Below w1.heap.size w1 w'))
  case atStart => exact ⟨0, Nat.zero_le _, rfl, ⟨rfl⟩, ⟨by rw [← HBB.out]; rfl⟩, ⟨BL1.out, Below.refl _ _⟩⟩
  case round =>
    obtain ⟨k, hk, rfl, hgq, hq, hbl⟩ := hrel
    have HB3 := Aside0.mk (blk_below HB1.out hbl.out.2)
    obtain ⟨-, -, -, -, -, q5, -, -, q8, -⟩ := pc_cells HB3.out
    by_cases hlt : k < p.resets.length
    · obtain ⟨ad, x, y, e0, hrow, q0', q1', wx, wy⟩ := two_at (HR.out.below hbl.out.1) k hlt
      subst e0
      have hcs := hq.out
      rw [drop_row hrow] at hcs
      simp only [resetsOk] at hcs
      simp only [List.getD_cons_zero, List.getD_cons_succ] at hcs
      have hprev := prevOf_succ (d := 0) (j := 0) hrow
      have hprev1 := prevOf_succ (d := 0) (j := 1) hrow
      simp only [List.getD_cons_zero, List.getD_cons_succ] at hprev hprev1
      have HPREV := Aside0.mk hprev
      have HPREV1 := Aside0.mk hprev1
      have adlt := cell_ltR q0'
      obtain ⟨bx0, bx1⟩ := wf_bd wx
      obtain ⟨by0, by1⟩ := wf_bd wy
      have g1l := blk_lt HB3.out
      have kk0 : (0 : Int) ≤ (k : Int) := by omega
      have kk1 : (k : Int) < (p.resets.length : Int) := by omega
      have QP : Aside0 (0 < k → ∃ x' y', p.resets[k - 1]? = some [x', y'] ∧ wr.cell? (ad.add ((k - 1) * 2)) = some (.int .i64 x') ∧ wr.cell? ⟨(ad.add ((k - 1) * 2)).block, (ad.add ((k - 1) * 2)).off + 1, none⟩ = some (.int .i64 y')) := ⟨fun h0 => by
        obtain ⟨ad', x', y', e', hrow', c', d', _⟩ := two_at (HR.out.below hbl.out.1) (k - 1) (by omega)
        obtain rfl : ad = ad' := Option.some.inj e'
        exact ⟨x', y', hrow', c', d'⟩⟩
      clear hq hrow hprev hprev1 wx wy
      go_wp2_with ((with_reducible refine gate_dst (N := 4) rfl ?_); refine copy_event rfl (N := 4) rfl rfl rfl (t := 116) (v := .tmp 16) rfl (cs := #[.int .i64 x, .int .i64 y]) (zs := #[.int .i64 0, .int .i64 0]) ?hr rfl rfl info_reset ?hz (two_one _ _) ?_; (case hr => first | (go_simp; done) | (go_simp; rfl)); (case hz => rfl); intro g4 hg w4 hb4 hbl4; have g4lt := blk_lt hb4; clear hg)
      go_frame
      have z0 : w4.cell? ⟨g4, 0, none⟩ = some (.int .i64 x) := (blk_cell hb4 0).trans rfl
      have z1 : w4.cell? ⟨g4, 1, none⟩ = some (.int .i64 y) := (blk_cell hb4 1).trans rfl
      have HB5 := Aside0.mk (blk_below HB3.out hbl4)
      have QP4 : Aside0 (0 < k → ∃ x' y', p.resets[k - 1]? = some [x', y'] ∧ w4.cell? (ad.add ((k - 1) * 2)) = some (.int .i64 x') ∧ w4.cell? ⟨(ad.add ((k - 1) * 2)).block, (ad.add ((k - 1) * 2)).off + 1, none⟩ = some (.int .i64 y')) := ⟨fun h0 => by
        obtain ⟨x', y', h1, h2, h3⟩ := QP.out h0
        exact ⟨x', y', h1, by rw [hbl4.cell (cell_ltR h2)]; exact h2, by rw [hbl4.cell (cell_ltR h3)]; exact h3⟩⟩
      have BL4 := Aside0.mk (And.intro (below_step hbl.out.1 hbl4) (below_step hbl.out.2 hbl4))
      clear hb4 hbl4 hbl HB3 QP q0' q1' q5 q8
      obtain ⟨-, -, -, -, -, q5, -, -, q8, -⟩ := pc_cells HB5.out
      have ew1 : IntKind.i64.wrap (p.times - 1) = p.times - 1 := IntWalk.i64_in _ (by omega)
      by_cases h1 : 1 ≤ x ∧ x ≤ p.times - 1
      · have H1 := Aside0.mk (decide_eq_true h1)
        by_cases h2 : 0 ≤ y ∧ y ≤ 1000000000
        · have H2 := Aside0.mk (decide_eq_true h2)
          by_cases h0 : k = 0
          · have hb2 : resetsOk p.times x (p.resets.drop (k + 1)) = bb := by
              rw [← hcs, decide_eq_true (show 1 ≤ x ∧ x ≤ p.times - 1 ∧ 0 ≤ y ∧ y ≤ 1000000000 ∧ prevOf 0 0 p.resets k < x from ⟨h1.1, h1.2, h2.1, h2.2, by have := h1.1; unfold prevOf; rw [if_pos h0]; omega⟩), Bool.true_and]
            have HB2' := Aside0.mk hb2
            have kz : decide (0 < k) = false := decide_eq_false (by omega)
            have kz2 : decide ((0 : Int) < (k : Int)) = false := decide_eq_false (by omega)
            clear hcs hb2 h1 h2 h0
            go_quiet ((first
              | (go_at_call 54; (with_reducible refine (within_r_is (v := x) H1.out _).mono ?_); rintro e w' ⟨rfl, rfl⟩; exact ⟨rfl, _, rfl⟩)
              | (go_at_call 54; (with_reducible refine (within_r_is (v := y) H2.out _).mono ?_); rintro e w' ⟨rfl, rfl⟩; exact ⟨rfl, _, rfl⟩)))
            go_wp2_with fail
            go_roundg (p.resets.length + 1 - (k + 1))
            case measure => have := hgq.out; omega
            case rel => exact ⟨k + 1, by omega, by simp, ⟨rfl⟩, ⟨by rw [HPREV.out]; exact HB2'.out⟩, ⟨pw_below_drewN BL4.out.1 _, pw_below_drewN BL4.out.2 _⟩⟩
          · obtain ⟨x', y', hrow', c', d'⟩ := QP4.out (by omega)
            have hpv := prevOf_pos (d := 0) (j := 0) (Nat.pos_of_ne_zero h0) hrow'
            simp only [List.getD_cons_zero] at hpv
            have kz : decide (0 < k) = true := decide_eq_true (by omega)
            have kz2 : decide ((0 : Int) < (k : Int)) = true := decide_eq_true (by omega)
            have ew2 : IntKind.i64.wrap ((k : Int) - 1) = (k : Int) - 1 := IntWalk.i64_in _ (by omega)
            have kk2 : (0 : Int) ≤ (k : Int) - 1 := by omega
            have kk3 : (k : Int) - 1 < (p.resets.length : Int) := by omega
            have kk4 : (1 : Int) ≤ (k : Int) := by omega
            have ek : ((k : Int) - 1).toNat = k - 1 := by omega
            by_cases h3 : x' < x
            · have hb2 : resetsOk p.times x (p.resets.drop (k + 1)) = bb := by
                rw [← hcs, decide_eq_true (show 1 ≤ x ∧ x ≤ p.times - 1 ∧ 0 ≤ y ∧ y ≤ 1000000000 ∧ prevOf 0 0 p.resets k < x from ⟨h1.1, h1.2, h2.1, h2.2, by rw [hpv]; exact h3⟩), Bool.true_and]
              have HB2' := Aside0.mk hb2
              have h5 : decide (x ≤ x') = false := decide_eq_false (by omega)
              clear hcs hb2 h1 h2 h0 hpv hrow'
              go_quiet ((first
                | (go_at_call 54; (with_reducible refine (within_r_is (v := x) H1.out _).mono ?_); rintro e w' ⟨rfl, rfl⟩; exact ⟨rfl, _, rfl⟩)
                | (go_at_call 54; (with_reducible refine (within_r_is (v := y) H2.out _).mono ?_); rintro e w' ⟨rfl, rfl⟩; exact ⟨rfl, _, rfl⟩)))
              clear ew1 ew2 ek
              go_wp2_with fail
              go_roundg (p.resets.length + 1 - (k + 1))
              case measure => have := hgq.out; omega
              case rel => exact ⟨k + 1, by omega, by simp, ⟨rfl⟩, ⟨by rw [HPREV.out]; exact HB2'.out⟩, ⟨pw_below_drewN BL4.out.1 _, pw_below_drewN BL4.out.2 _⟩⟩
            · have hbf : bb = false := by
                rw [← hcs, decide_eq_false (fun h => h3 (by have := h.2.2.2.2; rw [hpv] at this; exact this)), Bool.false_and]
              subst hbf
              have h5 : decide (x ≤ x') = true := decide_eq_true (by omega)
              clear hcs h1 h2 h0 hpv hrow' h3
              go_quiet ((first
                | (go_at_call 54; (with_reducible refine (within_r_is (v := x) H1.out _).mono ?_); rintro e w' ⟨rfl, rfl⟩; exact ⟨rfl, _, rfl⟩)
                | (go_at_call 54; (with_reducible refine (within_r_is (v := y) H2.out _).mono ?_); rintro e w' ⟨rfl, rfl⟩; exact ⟨rfl, _, rfl⟩)))
              clear ew1 ew2 ek
              go_wp2_with fail
              go_ret
              exact ⟨by simp, pw_below_drewN BL4.out.1 _⟩
        · have hbf : bb = false := by
            rw [← hcs, decide_eq_false (fun h => h2 ⟨h.2.2.1, h.2.2.2.1⟩), Bool.false_and]
          subst hbf
          have H2 := Aside0.mk (decide_eq_false h2)
          clear hcs h1 h2
          go_quiet ((first
            | (go_at_call 54; (with_reducible refine (within_r_is (v := x) H1.out _).mono ?_); rintro e w' ⟨rfl, rfl⟩; exact ⟨rfl, _, rfl⟩)
            | (go_at_call 54; (with_reducible refine (within_r_is (v := y) H2.out _).mono ?_); rintro e w' ⟨rfl, rfl⟩; exact ⟨rfl, _, rfl⟩)))
          go_wp2_with fail
          go_ret
          exact ⟨by simp, pw_below_drewN BL4.out.1 _⟩
      · have hbf : bb = false := by
          rw [← hcs, decide_eq_false (fun h => h1 ⟨h.1, h.2.1⟩), Bool.false_and]
        subst hbf
        have H1 := Aside0.mk (decide_eq_false h1)
        clear hcs h1
        go_quiet ((first
          | (go_at_call 54; (with_reducible refine (within_r_is (v := x) H1.out _).mono ?_); rintro e w' ⟨rfl, rfl⟩; exact ⟨rfl, _, rfl⟩)
          | (go_at_call 54; (with_reducible refine (within_r_is (v := x) H1.out _).mono ?_); rintro e w' ⟨rfl, rfl⟩; exact ⟨rfl, _, rfl⟩)))
        go_wp2_with fail
        go_ret
        exact ⟨by simp, pw_below_drewN BL4.out.1 _⟩
    · have hk2 : k = p.resets.length := by omega
      subst hk2
      have hcs := hq.out
      rw [List.drop_length] at hcs
      obtain rfl : true = bb := hcs
      clear hq
      go_wp2_with fail
      go_ret
      exact ⟨by simp; try omega, hbl.out.1⟩

set_option maxRecDepth 100000 in
set_option maxHeartbeats 2000000 in
theorem rtiers_1 (p : Prod) (A1 : Option Addr) (c1 : Nat) (A2 : Option Addr) (c2 : Nat) (A3 : Option Addr) (c3 : Nat) (w : World) (hr : Op.IntRows w A2 2 p.late) (hm : p.late.length ≤ 140737488355328) (bb : Bool) (hbb : tiersOk 0 0 p.late = bb) (r : Bool) (hrr : (decide (p.late.length ≤ 8 ∧ (0 ≤ p.cap ∧ p.cap ≤ 10000000000000) ∧ (p.late = [] → p.cap = 0)) && bb) = r) :
    Calls Try.prog 57 #[pv p A1 c1 A2 c2 A3 c3] w fun e w' => e = .returned (.bool r) ∧ Below w.heap.size w w' := by
  have HR := Aside0.mk hr
  have HBB := Aside0.mk hbb
  have HRR := Aside0.mk hrr
  clear hr hbb hrr
  go_enter Try.func57, Try.ntmps57
  go_wp2_with ((with_reducible refine gate_dst (N := 1) rfl ?_); refine box_event ?hg (N := 1) ?hd (cs := pcs p A1 c1 A2 c2 A3 c3) (t := 27) ?hr ?_; (case hd => rfl); (case hg => rfl); (case hr => first | (go_simp; done) | (go_simp; rfl)); intro g1 hg w1 hb1 hbl1; clear hg; have HB1 := Aside0.mk hb1; have BL1 := Aside0.mk hbl1; clear hb1 hbl1)
  go_loopg [3] (p.late.length + 1) (fun gq i w' => ∃ (k : Nat), k ≤ p.late.length ∧ i = .int .i64 k ∧ Aside0 (gq = p.late.length + 1 - k) ∧ Aside0 (tiersOk (prevOf 0 0 p.late k) (prevOf 0 1 p.late k) (p.late.drop k) = bb) ∧ Aside0 (Below w.heap.size w w' ∧ Below w1.heap.size w1 w'))
  case atStart => exact ⟨0, Nat.zero_le _, rfl, ⟨rfl⟩, ⟨by rw [← HBB.out]; rfl⟩, ⟨BL1.out, Below.refl _ _⟩⟩
  case round =>
    obtain ⟨k, hk, rfl, hgq, hq, hbl⟩ := hrel
    have HB3 := Aside0.mk (blk_below HB1.out hbl.out.2)
    obtain ⟨-, -, -, -, -, -, -, -, -, -, -, -, -, -, -, q15, q16, -⟩ := pc_cells HB3.out
    by_cases hlt : k < p.late.length
    · obtain ⟨ad, x, y, e0, hrow, q0', q1', wx, wy⟩ := two_at (HR.out.below hbl.out.1) k hlt
      subst e0
      have hcs := hq.out
      rw [drop_row hrow] at hcs
      simp only [tiersOk] at hcs
      simp only [List.getD_cons_zero, List.getD_cons_succ] at hcs
      have hprev := prevOf_succ (d := 0) (j := 0) hrow
      have hprev1 := prevOf_succ (d := 0) (j := 1) hrow
      simp only [List.getD_cons_zero, List.getD_cons_succ] at hprev hprev1
      have HPREV := Aside0.mk hprev
      have HPREV1 := Aside0.mk hprev1
      have adlt := cell_ltR q0'
      obtain ⟨bx0, bx1⟩ := wf_bd wx
      obtain ⟨by0, by1⟩ := wf_bd wy
      have g1l := blk_lt HB3.out
      have kk0 : (0 : Int) ≤ (k : Int) := by omega
      have kk1 : (k : Int) < (p.late.length : Int) := by omega
      have QP : Aside0 (0 < k → ∃ x' y', p.late[k - 1]? = some [x', y'] ∧ wr.cell? (ad.add ((k - 1) * 2)) = some (.int .i64 x') ∧ wr.cell? ⟨(ad.add ((k - 1) * 2)).block, (ad.add ((k - 1) * 2)).off + 1, none⟩ = some (.int .i64 y')) := ⟨fun h0 => by
        obtain ⟨ad', x', y', e', hrow', c', d', _⟩ := two_at (HR.out.below hbl.out.1) (k - 1) (by omega)
        obtain rfl : ad = ad' := Option.some.inj e'
        exact ⟨x', y', hrow', c', d'⟩⟩
      clear hq hrow hprev hprev1 wx wy
      go_wp2_with ((with_reducible refine gate_dst (N := 4) rfl ?_); refine copy_event rfl (N := 4) rfl rfl rfl (t := 118) (v := .tmp 16) rfl (cs := #[.int .i64 x, .int .i64 y]) (zs := #[.int .i64 0, .int .i64 0]) ?hr rfl rfl info_tier ?hz (two_one _ _) ?_; (case hr => first | (go_simp; done) | (go_simp; rfl)); (case hz => rfl); intro g4 hg w4 hb4 hbl4; have g4lt := blk_lt hb4; clear hg)
      go_frame
      have z0 : w4.cell? ⟨g4, 0, none⟩ = some (.int .i64 x) := (blk_cell hb4 0).trans rfl
      have z1 : w4.cell? ⟨g4, 1, none⟩ = some (.int .i64 y) := (blk_cell hb4 1).trans rfl
      have HB5 := Aside0.mk (blk_below HB3.out hbl4)
      have QP4 : Aside0 (0 < k → ∃ x' y', p.late[k - 1]? = some [x', y'] ∧ w4.cell? (ad.add ((k - 1) * 2)) = some (.int .i64 x') ∧ w4.cell? ⟨(ad.add ((k - 1) * 2)).block, (ad.add ((k - 1) * 2)).off + 1, none⟩ = some (.int .i64 y')) := ⟨fun h0 => by
        obtain ⟨x', y', h1, h2, h3⟩ := QP.out h0
        exact ⟨x', y', h1, by rw [hbl4.cell (cell_ltR h2)]; exact h2, by rw [hbl4.cell (cell_ltR h3)]; exact h3⟩⟩
      have BL4 := Aside0.mk (And.intro (below_step hbl.out.1 hbl4) (below_step hbl.out.2 hbl4))
      clear hb4 hbl4 hbl HB3 QP q0' q1' q15 q16
      obtain ⟨-, -, -, -, -, -, -, -, -, -, -, -, -, -, -, q15, q16, -⟩ := pc_cells HB5.out
      by_cases h1 : 1 ≤ x ∧ x ≤ 365
      · have H1 := Aside0.mk (decide_eq_true h1)
        by_cases h2 : 0 ≤ y ∧ y ≤ 10000000000000
        · have H2 := Aside0.mk (decide_eq_true h2)
          by_cases h0 : k = 0
          · have hb2 : tiersOk x y (p.late.drop (k + 1)) = bb := by
              rw [← hcs, decide_eq_true (show 1 ≤ x ∧ x ≤ 365 ∧ 0 ≤ y ∧ y ≤ 10000000000000 ∧ prevOf 0 0 p.late k < x ∧ prevOf 0 1 p.late k ≤ y from ⟨h1.1, h1.2, h2.1, h2.2, by have := h1.1; unfold prevOf; rw [if_pos h0]; omega, by have := h2.1; unfold prevOf; rw [if_pos h0]; omega⟩), Bool.true_and]
            have HB2' := Aside0.mk hb2
            have kz : decide (0 < k) = false := decide_eq_false (by omega)
            have kz2 : decide ((0 : Int) < (k : Int)) = false := decide_eq_false (by omega)
            clear hcs hb2 h1 h2 h0
            go_quiet ((first
              | (go_at_call 54; (with_reducible refine (within_r_is (v := x) H1.out _).mono ?_); rintro e w' ⟨rfl, rfl⟩; exact ⟨rfl, _, rfl⟩)
              | (go_at_call 54; (with_reducible refine (within_r_is (v := y) H2.out _).mono ?_); rintro e w' ⟨rfl, rfl⟩; exact ⟨rfl, _, rfl⟩)))
            go_wp2_with fail
            go_roundg (p.late.length + 1 - (k + 1))
            case measure => have := hgq.out; omega
            case rel => exact ⟨k + 1, by omega, by simp, ⟨rfl⟩, ⟨by rw [HPREV.out, HPREV1.out]; exact HB2'.out⟩, ⟨pw_below_drewN BL4.out.1 _, pw_below_drewN BL4.out.2 _⟩⟩
          · obtain ⟨x', y', hrow', c', d'⟩ := QP4.out (by omega)
            have hpv := prevOf_pos (d := 0) (j := 0) (Nat.pos_of_ne_zero h0) hrow'
            have hpw := prevOf_pos (d := 0) (j := 1) (Nat.pos_of_ne_zero h0) hrow'
            simp only [List.getD_cons_zero, List.getD_cons_succ] at hpv hpw
            have kz : decide (0 < k) = true := decide_eq_true (by omega)
            have kz2 : decide ((0 : Int) < (k : Int)) = true := decide_eq_true (by omega)
            have ew2 : IntKind.i64.wrap ((k : Int) - 1) = (k : Int) - 1 := IntWalk.i64_in _ (by omega)
            have kk2 : (0 : Int) ≤ (k : Int) - 1 := by omega
            have kk3 : (k : Int) - 1 < (p.late.length : Int) := by omega
            have kk4 : (1 : Int) ≤ (k : Int) := by omega
            have ek : ((k : Int) - 1).toNat = k - 1 := by omega
            by_cases h3 : x' < x
            · have h5 : decide (x ≤ x') = false := decide_eq_false (by omega)
              by_cases h4 : y' ≤ y
              · have h6 : decide (y < y') = false := decide_eq_false (by omega)
                have hb2 : tiersOk x y (p.late.drop (k + 1)) = bb := by
                  rw [← hcs, decide_eq_true (show 1 ≤ x ∧ x ≤ 365 ∧ 0 ≤ y ∧ y ≤ 10000000000000 ∧ prevOf 0 0 p.late k < x ∧ prevOf 0 1 p.late k ≤ y from ⟨h1.1, h1.2, h2.1, h2.2, by rw [hpv]; exact h3, by rw [hpw]; exact h4⟩), Bool.true_and]
                have HB2' := Aside0.mk hb2
                clear hcs hb2 h1 h2 h0 hpv hpw hrow'
                go_quiet ((first
                  | (go_at_call 54; (with_reducible refine (within_r_is (v := x) H1.out _).mono ?_); rintro e w' ⟨rfl, rfl⟩; exact ⟨rfl, _, rfl⟩)
                  | (go_at_call 54; (with_reducible refine (within_r_is (v := y) H2.out _).mono ?_); rintro e w' ⟨rfl, rfl⟩; exact ⟨rfl, _, rfl⟩)))
                clear ew2 ek
                go_wp2_with fail
                go_roundg (p.late.length + 1 - (k + 1))
                case measure => have := hgq.out; omega
                case rel => exact ⟨k + 1, by omega, by simp, ⟨rfl⟩, ⟨by rw [HPREV.out, HPREV1.out]; exact HB2'.out⟩, ⟨pw_below_drewN BL4.out.1 _, pw_below_drewN BL4.out.2 _⟩⟩
              · have h6 : decide (y < y') = true := decide_eq_true (by omega)
                have hbf : bb = false := by
                  rw [← hcs, decide_eq_false (fun h => h4 (by have := h.2.2.2.2.2; rw [hpw] at this; exact this)), Bool.false_and]
                subst hbf
                have hrf : r = false := by rw [← HRR.out, Bool.and_false]
                subst hrf
                clear hcs h1 h2 h0 hpv hpw hrow' h4
                go_quiet ((first
                  | (go_at_call 54; (with_reducible refine (within_r_is (v := x) H1.out _).mono ?_); rintro e w' ⟨rfl, rfl⟩; exact ⟨rfl, _, rfl⟩)
                  | (go_at_call 54; (with_reducible refine (within_r_is (v := y) H2.out _).mono ?_); rintro e w' ⟨rfl, rfl⟩; exact ⟨rfl, _, rfl⟩)))
                clear ew2 ek
                go_wp2_with fail
                go_ret
                exact ⟨rfl, pw_below_drewN BL4.out.1 _⟩
            · have hbf : bb = false := by
                rw [← hcs, decide_eq_false (fun h => h3 (by have := h.2.2.2.2.1; rw [hpv] at this; exact this)), Bool.false_and]
              have h5 : decide (x ≤ x') = true := decide_eq_true (by omega)
              subst hbf
              have hrf : r = false := by rw [← HRR.out, Bool.and_false]
              subst hrf
              clear hcs h1 h2 h0 hpv hpw hrow' h3
              go_quiet ((first
                | (go_at_call 54; (with_reducible refine (within_r_is (v := x) H1.out _).mono ?_); rintro e w' ⟨rfl, rfl⟩; exact ⟨rfl, _, rfl⟩)
                | (go_at_call 54; (with_reducible refine (within_r_is (v := y) H2.out _).mono ?_); rintro e w' ⟨rfl, rfl⟩; exact ⟨rfl, _, rfl⟩)))
              clear ew2 ek
              go_wp2_with fail
              go_ret
              exact ⟨rfl, pw_below_drewN BL4.out.1 _⟩
        · have hbf : bb = false := by
            rw [← hcs, decide_eq_false (fun h => h2 ⟨h.2.2.1, h.2.2.2.1⟩), Bool.false_and]
          have H2 := Aside0.mk (decide_eq_false h2)
          subst hbf
          have hrf : r = false := by rw [← HRR.out, Bool.and_false]
          subst hrf
          clear hcs h1 h2
          go_quiet ((first
            | (go_at_call 54; (with_reducible refine (within_r_is (v := x) H1.out _).mono ?_); rintro e w' ⟨rfl, rfl⟩; exact ⟨rfl, _, rfl⟩)
            | (go_at_call 54; (with_reducible refine (within_r_is (v := y) H2.out _).mono ?_); rintro e w' ⟨rfl, rfl⟩; exact ⟨rfl, _, rfl⟩)))
          go_wp2_with fail
          go_ret
          exact ⟨rfl, pw_below_drewN BL4.out.1 _⟩
      · have hbf : bb = false := by
          rw [← hcs, decide_eq_false (fun h => h1 ⟨h.1, h.2.1⟩), Bool.false_and]
        have H1 := Aside0.mk (decide_eq_false h1)
        subst hbf
        have hrf : r = false := by rw [← HRR.out, Bool.and_false]
        subst hrf
        clear hcs h1
        go_quiet ((first
          | (go_at_call 54; (with_reducible refine (within_r_is (v := x) H1.out _).mono ?_); rintro e w' ⟨rfl, rfl⟩; exact ⟨rfl, _, rfl⟩)
          | (go_at_call 54; (with_reducible refine (within_r_is (v := x) H1.out _).mono ?_); rintro e w' ⟨rfl, rfl⟩; exact ⟨rfl, _, rfl⟩)))
        go_wp2_with fail
        go_ret
        exact ⟨rfl, pw_below_drewN BL4.out.1 _⟩
    · have hk2 : k = p.late.length := by omega
      have hcs := hq.out
      rw [hk2, List.drop_length] at hcs
      obtain rfl : true = bb := hcs
      have hr2 := HRR.out
      rw [Bool.and_true] at hr2
      clear hq hk
      have q0' : decide (k < p.late.length) = false := decide_eq_false hlt
      by_cases hn : p.late.length ≤ 8
      · have n8 : decide ((p.late.length : Int) ≤ 8) = true := decide_eq_true (by omega)
        by_cases ha : 0 ≤ p.cap ∧ p.cap ≤ 10000000000000
        · have HA := Aside0.mk (decide_eq_true ha)
          by_cases h0 : p.cap = 0
          · have e1 : (p.cap == 0) = true := beqt h0
            rw [decide_eq_true (show _ from ⟨hn, ha, fun _ => h0⟩)] at hr2
            subst hr2
            clear ha h0 hk2
            go_wp2_with ((go_at_call 54; refine (within_r_is HA.out _).mono ?_; rintro e w' ⟨rfl, rfl⟩))
            go_ret
            exact ⟨rfl, hbl.out.1⟩
          · have e1 : (p.cap == 0) = false := beqf h0
            by_cases hz : 0 < p.late.length
            · have z1 : decide (0 < p.late.length) = true := decide_eq_true hz
              have z2 : decide ((0 : Int) < (p.late.length : Int)) = true := decide_eq_true (by omega)
              rw [decide_eq_true (show _ from ⟨hn, ha, fun h => by rw [h] at hz; exact absurd hz (Nat.lt_irrefl 0)⟩)] at hr2
              subst hr2
              clear ha h0 hk2
              go_wp2_with ((go_at_call 54; refine (within_r_is HA.out _).mono ?_; rintro e w' ⟨rfl, rfl⟩))
              go_ret
              exact ⟨rfl, hbl.out.1⟩
            · have z1 : decide (0 < p.late.length) = false := decide_eq_false hz
              have z2 : decide ((0 : Int) < (p.late.length : Int)) = false := decide_eq_false (by omega)
              rw [decide_eq_false (fun h => h0 (h.2.2 (List.eq_nil_of_length_eq_zero (by omega))))] at hr2
              subst hr2
              clear ha h0 hk2 hz
              go_wp2_with ((go_at_call 54; refine (within_r_is HA.out _).mono ?_; rintro e w' ⟨rfl, rfl⟩))
              go_ret
              exact ⟨by first | rfl | (simp; try omega), hbl.out.1⟩
        · have HA := Aside0.mk (decide_eq_false ha)
          rw [decide_eq_false (fun h => ha h.2.1)] at hr2
          subst hr2
          clear ha hk2
          go_wp2_with ((go_at_call 54; refine (within_r_is HA.out _).mono ?_; rintro e w' ⟨rfl, rfl⟩))
          go_ret
          exact ⟨rfl, hbl.out.1⟩
      · have n8 : decide ((p.late.length : Int) ≤ 8) = false := decide_eq_false (by omega)
        rw [decide_eq_false (fun h => hn h.1)] at hr2
        subst hr2
        clear hk2 hn
        go_wp2_with fail
        go_ret
        exact ⟨rfl, hbl.out.1⟩

set_option maxRecDepth 100000 in
set_option maxHeartbeats 1000000 in
theorem rright_1 (A : Option Addr) (c : Nat) (l : List Int) (w : World) (hr : Kd.C (Kd.int .i64) w A l.length l) (hm : l.length ≤ 140737488355328) (bb : Bool) (hbb : Nw.rises (-25568) l = bb) :
    Calls Try.prog 13 #[.slice A l.length c] w fun e w' => e = .returned (.bool (bb && decide (l.length ≤ 200))) ∧ Drawn0 w w' := by
  have HR := Aside0.mk hr
  have HBB := Aside0.mk hbb
  clear hr hbb
  go_enter Try.func13, Try.ntmps13
  go_wp2_with fail
  go_loopg [3] (l.length + 1) (fun gq i w' => ∃ (k : Nat) (q : Int), k ≤ l.length ∧ i = .int .i64 k ∧ Aside0 (gq = l.length + 1 - k) ∧ Aside0 (k = 0 ∧ q = -25568 ∨ 0 < k ∧ q = rd l ((k : Int) - 1)) ∧ Aside0 (Nw.rises q (l.drop k) = bb) ∧ Drawn0 w w')
  case atStart => exact ⟨0, -25568, Nat.zero_le _, rfl, ⟨rfl⟩, ⟨Or.inl ⟨rfl, rfl⟩⟩, ⟨by rw [← HBB.out]; rfl⟩, Drawn0.refl _⟩
  case round =>
    obtain ⟨k, q, hk, rfl, hg, hp, hq, ⟨m1, rfl⟩⟩ := hrel
    by_cases hlt : k < l.length
    · obtain ⟨ad, e0, hx0⟩ := Kd.at_int HR.out (k : Int) (by omega) (by omega)
      subst e0
      rw [Int.toNat_natCast] at hx0
      have hrc := hq.out
      rw [Nw.rd_cons l k hlt] at hrc
      simp only [Nw.rises] at hrc
      have HX : Aside0 (∀ j : Nat, j < l.length → w.cell? (ad.add j) = some (.int .i64 (rd l (j : Int)))) := ⟨fun j hj => by
        obtain ⟨ad', e', hx'⟩ := Kd.at_int HR.out (j : Int) (by omega) (by omega)
        obtain rfl : ad = ad' := Option.some.inj e'
        rw [Int.toNat_natCast] at hx'
        exact hx'⟩
      have kk0 : (0 : Int) ≤ (k : Int) := by omega
      have kk1 : (k : Int) < (l.length : Int) := by omega
      by_cases hd : Nw.isDay (rd l (k : Int))
      · have d1 := decide_eq_true hd
        rw [d1, Bool.true_and] at hrc
        have HD := Aside0.mk (show decide (-25567 ≤ rd l (k : Int) ∧ rd l (k : Int) ≤ 84370) = true from decide_eq_true hd)
        rcases (by omega : k = 0 ∨ 0 < k) with h0 | h0
        · have hp0 : q = -25568 := by rcases hp.out with h | h <;> omega
          have hlt2 : decide (q < rd l (k : Int)) = true := decide_eq_true (by have := hd.1; omega)
          rw [hlt2, Bool.true_and] at hrc
          have HQ := Aside0.mk hrc
          have kz : decide (0 < k) = false := decide_eq_false (by omega)
          have kz2 : decide ((0 : Int) < (k : Int)) = false := decide_eq_false (by omega)
          clear hrc hq hd hlt2 hp0 hp h0 d1
          go_wp2_with fail
          go_quiet ((go_at_call 31; refine (is_is HD.out _).mono ?_; rintro e w' ⟨rfl, rfl⟩; exact ⟨rfl, _, rfl⟩))
          go_wp2_with fail
          go_roundg (l.length + 1 - (k + 1))
          case measure => have := hg.out; omega
          case rel => exact ⟨k + 1, rd l (k : Int), by omega, by simp, ⟨rfl⟩, ⟨Or.inr ⟨by omega, by congr 1; omega⟩⟩, HQ, ⟨_, rfl⟩⟩
        · have hx1 := HX.out (k - 1) (by omega)
          have hp1 : q = rd l (((k - 1 : Nat) : Int)) := by
            rcases hp.out with h | h
            · omega
            · rw [h.2]; congr 1; omega
          have ecast : (((k - 1 : Nat) : Int)) = (k : Int) - 1 := by omega
          rw [ecast] at hx1 hp1
          have kz : decide (0 < k) = true := decide_eq_true (by omega)
          have kz2 : decide ((0 : Int) < (k : Int)) = true := decide_eq_true (by omega)
          have ew2 : IntKind.i64.wrap ((k : Int) - 1) = (k : Int) - 1 := IntWalk.i64_in _ (by omega)
          have kk2 : (0 : Int) ≤ (k : Int) - 1 := by omega
          have kk3 : (k : Int) - 1 < (l.length : Int) := by omega
          have kk4 : (1 : Int) ≤ (k : Int) := by omega
          have ek : ((k : Int) - 1).toNat = k - 1 := by omega
          by_cases hlt2 : q < rd l (k : Int)
          · rw [decide_eq_true hlt2, Bool.true_and] at hrc
            have HQ := Aside0.mk hrc
            have hle2 : decide (rd l (k : Int) ≤ rd l ((k : Int) - 1)) = false := decide_eq_false (by omega)
            clear hrc hq hd hlt2 hp1 hp d1 ecast
            go_wp2_with fail
            go_quiet ((go_at_call 31; refine (is_is HD.out _).mono ?_; rintro e w' ⟨rfl, rfl⟩; exact ⟨rfl, _, rfl⟩))
            clear ew2 ek
            go_wp2_with fail
            go_roundg (l.length + 1 - (k + 1))
            case measure => have := hg.out; omega
            case rel => exact ⟨k + 1, rd l (k : Int), by omega, by simp, ⟨rfl⟩, ⟨Or.inr ⟨by omega, by congr 1; omega⟩⟩, HQ, ⟨_, rfl⟩⟩
          · rw [decide_eq_false hlt2, Bool.false_and] at hrc
            subst hrc
            have hle2 : decide (rd l (k : Int) ≤ rd l ((k : Int) - 1)) = true := decide_eq_true (by omega)
            clear hq hd hlt2 hp1 hp d1 ecast
            go_wp2_with fail
            go_quiet ((go_at_call 31; refine (is_is HD.out _).mono ?_; rintro e w' ⟨rfl, rfl⟩; exact ⟨rfl, _, rfl⟩))
            clear ew2 ek
            go_wp2_with fail
            go_ret
            exact ⟨by simp, (show Drawn0 w (w.drewN m1) from ⟨m1, rfl⟩).step _⟩
      · have d1 := decide_eq_false hd
        rw [d1, Bool.false_and] at hrc
        subst hrc
        have HD := Aside0.mk (show decide (-25567 ≤ rd l (k : Int) ∧ rd l (k : Int) ≤ 84370) = false from decide_eq_false hd)
        clear hd hq d1
        go_wp2_with fail
        go_quiet ((go_at_call 31; refine (is_is HD.out _).mono ?_; rintro e w' ⟨rfl, rfl⟩; exact ⟨rfl, _, rfl⟩))
        go_wp2_with fail
        go_ret
        exact ⟨by simp, (show Drawn0 w (w.drewN m1) from ⟨m1, rfl⟩).step _⟩
    · have hk2 : k = l.length := by omega
      subst hk2
      have hrc := hq.out
      rw [List.drop_length] at hrc
      obtain rfl : true = bb := hrc
      clear hq
      go_wp2_with fail
      go_ret
      exact ⟨by simp; try omega, ⟨_, rfl⟩⟩
end Go.Proofs.Ytcfpkkgdofblfaa.Pd
/- Contracts by hand: the document's look at a product. -/
namespace Go.Proofs.Ytcfpkkgdofblfaa.Pd
open Go.RowKit Go.Proofs.YtcfpkkgdofblfaaW.PrintWords Go.Proofs.YtcfpkkgdofblfaaW.PrintLast Go.Proofs.YtcfpkkgdofblfaaW.PrintMore Go.Proofs.Ytcfpkkgdofblfaa.HW
open Pm
set_option linter.unusedVariables false
set_option linter.unusedSimpArgs false
theorem load_want {P : Program} {ops : Array Oper} {rest : List Oper} {o : Oper} {a : Act} {w : World} {Q : Exit → Act → World → Prop} (hw : Region.wanted o (yielded ops a.tmps) = true) (ty : TypeId) (x : Operand) (ho : o.op = .load ty x)
    (g : Nat) (hx : a.eval x = .pointer (some ⟨g, 0, none⟩)) (t : TypeId) (cs : Array Value) (fr : Nat × Nat) (d : TypeDesc) (hg : w.heap[g]? = some (.cells cs t fr))
    (hu : P.underlying ty = some d) (hd : (match d with | .struct _ | .array _ _ => true | _ => false) = true) (hi : (P.info? ty).map (·.size) = some cs.size)
    (h : wpList P ops Q rest (a.put o.dst (.agg cs)) w) : wpList P ops Q (o :: rest) a w :=
  Go.BigFrame.wpList_want hw fun _ hK => wp_load_row ty x ho g hx t cs fr d hg hu hd hi (hK _ _ h)
theorem in_six (g : Nat) (c : Nat) (x : Int) (r : Bool) (h : [(1 : Int), 2, 3, 4, 6, 12].contains x = r) (w : World) (hb : w.heap[g]? = some (.cells #[.int .i64 1, .int .i64 2, .int .i64 3, .int .i64 4, .int .i64 6, .int .i64 12] 3 (0, 0))) :
    Calls Try.prog 44 #[.slice (some ⟨g, 0, none⟩) 6 c, .int .i64 x] w fun e w' => e = .returned (.bool r) ∧ w = w' := by
  have := in_int g [1, 2, 3, 4, 6, 12] c 3 x w hb (by decide)
  rw [h] at this
  exact this

theorem times_b2 {b1 : Bool} {p : Prod} (h : true = (b1 && [(1 : Int), 2, 3, 4, 6, 12].contains p.every && decide (1 ≤ p.times ∧ p.times ≤ 600) && decide (0 ≤ p.grace ∧ p.grace ≤ p.times - 1) && decide (p.kind = 3 → p.grace = 0))) : 1 ≤ p.times ∧ p.times ≤ 600 := by
  have h := h.symm
  simp only [Bool.and_eq_true] at h
  exact of_decide_eq_true h.1.1.2

set_option maxRecDepth 100000 in
set_option maxHeartbeats 4000000 in
theorem rcheck_0 (p : Prod) (A1 : Option Addr) (c1 : Nat) (A2 : Option Addr) (c2 : Nat) (A3 : Option Addr) (c3 : Nat) (w : World) (hp : ProdAt w p A1 c1 A2 c2 A3 c3) (hs : p.name.size ≤ 140737488351232 ∧ p.resets.length ≤ 140737488355328 ∧ p.late.length ≤ 140737488355328 ∧ p.hol.length ≤ 140737488355328)
    (b1 b2 b3 b4 : Bool)
    (h1 : b1 = (nameOk p.name.data.toList && decide (1 ≤ p.count ∧ p.count ≤ 3) && decide (p.round = 1 ∨ p.round = 3) && decide (1 ≤ p.kind ∧ p.kind ≤ 3)))
    (h2 : b2 = (b1 && [(1 : Int), 2, 3, 4, 6, 12].contains p.every && decide (1 ≤ p.times ∧ p.times ≤ 600) && decide (0 ≤ p.grace ∧ p.grace ≤ p.times - 1) && decide (p.kind = 3 → p.grace = 0)))
    (h3 : b3 = (b2 && decide (0 ≤ p.rate ∧ p.rate ≤ 1000000000) && decide (0 ≤ p.penalty ∧ p.penalty ≤ 1000000000) && (resetsOk p.times 0 p.resets && decide (p.resets.length ≤ 20)) && orderOk p.o1 p.o2 p.o3 p.o4 && decide (1 ≤ p.over ∧ p.over ≤ 3) && lateOk p))
    (h4 : b4 = (b3 && decide (1 ≤ p.roll ∧ p.roll ≤ 4) && (Nw.rises (-25568) p.hol && decide (p.hol.length ≤ 200)) && decide (p.roll = 1 → p.hol = []))) :
    Calls Try.prog 30 #[pv p A1 c1 A2 c2 A3 c3] w fun e w' => e = .returned (.int .i64 (if b4 = true then 0 else 9)) ∧ Below w.heap.size w w' := by
  have HP := Aside0.mk hp
  have HS := Aside0.mk hs
  have K1 := Aside0.mk h1
  have K2 := Aside0.mk h2
  have K3 := Aside0.mk h3
  have K4 := Aside0.mk h4
  clear hp hs h1 h2 h3 h4
  go_enter Try.func30, Try.ntmps30
  go_upto_region 1 with ((with_reducible refine gate_dst (N := 1) rfl ?_); refine box_event ?hg (N := 1) ?hd (cs := pcs p A1 c1 A2 c2 A3 c3) (t := 27) ?hr ?_; (case hd => rfl); (case hg => rfl); (case hr => first | (go_simp; done) | (go_simp; rfl)); intro g1 hg w1 hb1 hbl1; clear hg; have HB1 := Aside0.mk hb1; have BL1 := Aside0.mk hbl1; clear hb1 hbl1)
  have BLx := Aside0.mk (Below.refl w1.heap.size w1)
  have HBx := HB1
  go_cut [3] (fun s3 wx => s3 = .bool b1 ∧ Aside0 (Below w1.heap.size w1 wx))
  case first =>
    obtain ⟨q0, q1, q2, q3, -⟩ := pc_cells HBx.out
    have g1l := blk_lt HBx.out
    cases hn : nameOk p.name.data.toList with
    | false =>
      obtain rfl : b1 = false := by rw [K1.out, hn]; rfl
      have HN := Aside0.mk hn
      clear hn
      go_wp2_with (first
        | (go_at_call 53; refine (rname_any p.name _ HS.out.1).mono ?_; rw [HN.out]; rintro e w' ⟨rfl, hb⟩; have BLx := Aside0.mk (below_step BLx.out hb); have HBx := Aside0.mk (blk_below HBx.out hb); clear hb; obtain ⟨q0, q1, q2, q3, -⟩ := pc_cells HBx.out))
      go_meet
      case rel => exact ⟨rfl, ⟨by first | exact BLx.out | exact BLx.out.alloc BLx.out.size _⟩⟩
    | true =>
      have HN := Aside0.mk hn
      cases ha : decide (1 ≤ p.count ∧ p.count ≤ 3) with
      | false =>
        obtain rfl : b1 = false := by rw [K1.out, ha]; simp
        have HA := Aside0.mk ha
        clear hn ha
        go_wp2_with (first
          | (go_at_call 53; refine (rname_any p.name _ HS.out.1).mono ?_; rw [HN.out]; rintro e w' ⟨rfl, hb⟩; have BLx := Aside0.mk (below_step BLx.out hb); have HBx := Aside0.mk (blk_below HBx.out hb); clear hb; obtain ⟨q0, q1, q2, q3, -⟩ := pc_cells HBx.out)
          | (go_at_call 54; (with_reducible refine (within_r_is (v := p.count) HA.out _).mono ?_); rintro e w' ⟨rfl, rfl⟩))
        go_meet
        case rel => exact ⟨rfl, ⟨by first | exact BLx.out | exact BLx.out.alloc BLx.out.size _⟩⟩
      | true =>
        have HA := Aside0.mk ha
        by_cases hr : p.round = 1 ∨ p.round = 3
        · cases hb : decide (1 ≤ p.kind ∧ p.kind ≤ 3) with
          | false =>
            obtain rfl : b1 = false := by rw [K1.out, hb]; simp
            have HB := Aside0.mk hb
            clear hn ha hb
            rcases hr with hr | hr
            · have r1 := beqt hr
              clear hr
              go_wp2_with (first
                | (go_at_call 53; refine (rname_any p.name _ HS.out.1).mono ?_; rw [HN.out]; rintro e w' ⟨rfl, hb⟩; have BLx := Aside0.mk (below_step BLx.out hb); have HBx := Aside0.mk (blk_below HBx.out hb); clear hb; obtain ⟨q0, q1, q2, q3, -⟩ := pc_cells HBx.out)
                | (go_at_call 54; (with_reducible refine (within_r_is (v := p.count) HA.out _).mono ?_); rintro e w' ⟨rfl, rfl⟩)
                | (go_at_call 54; (with_reducible refine (within_r_is (v := p.kind) HB.out _).mono ?_); rintro e w' ⟨rfl, rfl⟩))
              go_meet
              case rel => exact ⟨rfl, ⟨by first | exact BLx.out | exact BLx.out.alloc BLx.out.size _⟩⟩
            · have r1 : (p.round == 1) = false := beqf (by omega)
              have r3 := beqt hr
              clear hr
              go_wp2_with (first
                | (go_at_call 53; refine (rname_any p.name _ HS.out.1).mono ?_; rw [HN.out]; rintro e w' ⟨rfl, hb⟩; have BLx := Aside0.mk (below_step BLx.out hb); have HBx := Aside0.mk (blk_below HBx.out hb); clear hb; obtain ⟨q0, q1, q2, q3, -⟩ := pc_cells HBx.out)
                | (go_at_call 54; (with_reducible refine (within_r_is (v := p.count) HA.out _).mono ?_); rintro e w' ⟨rfl, rfl⟩)
                | (go_at_call 54; (with_reducible refine (within_r_is (v := p.kind) HB.out _).mono ?_); rintro e w' ⟨rfl, rfl⟩))
              go_meet
              case rel => exact ⟨rfl, ⟨by first | exact BLx.out | exact BLx.out.alloc BLx.out.size _⟩⟩
          | true =>
            obtain rfl : b1 = true := by rw [K1.out, hn, ha, hb, decide_eq_true hr]; rfl
            have HB := Aside0.mk hb
            clear hn ha hb
            rcases hr with hr | hr
            · have r1 := beqt hr
              clear hr
              go_wp2_with (first
                | (go_at_call 53; refine (rname_any p.name _ HS.out.1).mono ?_; rw [HN.out]; rintro e w' ⟨rfl, hb⟩; have BLx := Aside0.mk (below_step BLx.out hb); have HBx := Aside0.mk (blk_below HBx.out hb); clear hb; obtain ⟨q0, q1, q2, q3, -⟩ := pc_cells HBx.out)
                | (go_at_call 54; (with_reducible refine (within_r_is (v := p.count) HA.out _).mono ?_); rintro e w' ⟨rfl, rfl⟩)
                | (go_at_call 54; (with_reducible refine (within_r_is (v := p.kind) HB.out _).mono ?_); rintro e w' ⟨rfl, rfl⟩))
              go_meet
              case rel => exact ⟨rfl, ⟨by first | exact BLx.out | exact BLx.out.alloc BLx.out.size _⟩⟩
            · have r1 : (p.round == 1) = false := beqf (by omega)
              have r3 := beqt hr
              clear hr
              go_wp2_with (first
                | (go_at_call 53; refine (rname_any p.name _ HS.out.1).mono ?_; rw [HN.out]; rintro e w' ⟨rfl, hb⟩; have BLx := Aside0.mk (below_step BLx.out hb); have HBx := Aside0.mk (blk_below HBx.out hb); clear hb; obtain ⟨q0, q1, q2, q3, -⟩ := pc_cells HBx.out)
                | (go_at_call 54; (with_reducible refine (within_r_is (v := p.count) HA.out _).mono ?_); rintro e w' ⟨rfl, rfl⟩)
                | (go_at_call 54; (with_reducible refine (within_r_is (v := p.kind) HB.out _).mono ?_); rintro e w' ⟨rfl, rfl⟩))
              go_meet
              case rel => exact ⟨rfl, ⟨by first | exact BLx.out | exact BLx.out.alloc BLx.out.size _⟩⟩
        · obtain rfl : b1 = false := by rw [K1.out, decide_eq_false hr]; simp
          have r1 : (p.round == 1) = false := beqf (fun h => hr (Or.inl h))
          have r3 : (p.round == 3) = false := beqf (fun h => hr (Or.inr h))
          clear hn ha hr
          go_wp2_with (first
            | (go_at_call 53; refine (rname_any p.name _ HS.out.1).mono ?_; rw [HN.out]; rintro e w' ⟨rfl, hb⟩; have BLx := Aside0.mk (below_step BLx.out hb); have HBx := Aside0.mk (blk_below HBx.out hb); clear hb; obtain ⟨q0, q1, q2, q3, -⟩ := pc_cells HBx.out)
            | (go_at_call 54; (with_reducible refine (within_r_is (v := p.count) HA.out _).mono ?_); rintro e w' ⟨rfl, rfl⟩))
          go_meet
          case rel => exact ⟨rfl, ⟨by first | exact BLx.out | exact BLx.out.alloc BLx.out.size _⟩⟩
  case rest =>
    obtain ⟨rfl, BLy⟩ := hcut
    clear HBx BLx
    have BLx := BLy
    clear BLy
    have HBx := Aside0.mk (blk_below HB1.out BLx.out)
    go_upto_region 2 with fail
    go_cut [3] (fun s3 wx => s3 = .bool b2 ∧ Aside0 (Below w1.heap.size w1 wx))
    case first =>
      obtain ⟨-, -, -, q3, q4, q5, q6, -⟩ := pc_cells HBx.out
      have g1l := blk_lt HBx.out
      cases b1 with
      | false =>
        obtain rfl : b2 = false := by rw [K2.out]; rfl
        go_wp2_with fail
        go_meet
        case rel => exact ⟨rfl, ⟨by first | exact BLx.out | exact BLx.out.alloc BLx.out.size _⟩⟩
      | true =>
        cases he : [(1 : Int), 2, 3, 4, 6, 12].contains p.every with
        | false =>
          obtain rfl : b2 = false := by rw [K2.out, he]; simp
          have HE := Aside0.mk he
          clear he
          go_wp2_with (first
            | (go_at_call 44; refine (in_six _ _ _ _ HE.out _ (heap_alloc_new _ _)).mono ?_; rintro e w' ⟨rfl, rfl⟩))
          go_meet
          case rel => exact ⟨rfl, ⟨by first | exact BLx.out | exact BLx.out.alloc BLx.out.size _⟩⟩
        | true =>
          have HE := Aside0.mk he
          cases hc : decide (1 ≤ p.times ∧ p.times ≤ 600) with
          | false =>
            obtain rfl : b2 = false := by rw [K2.out, hc]; simp
            have HC := Aside0.mk hc
            clear he hc
            go_wp2_with (first
              | (go_at_call 44; refine (in_six _ _ _ _ HE.out _ (heap_alloc_new _ _)).mono ?_; rintro e w' ⟨rfl, rfl⟩)
              | (go_at_call 54; (with_reducible refine (within_r_is (v := p.times) HC.out _).mono ?_); rintro e w' ⟨rfl, rfl⟩))
            go_meet
            case rel => exact ⟨rfl, ⟨by first | exact BLx.out | exact BLx.out.alloc BLx.out.size _⟩⟩
          | true =>
            obtain ⟨t1, t2⟩ := of_decide_eq_true hc
            have HC := Aside0.mk hc
            cases hd : decide (0 ≤ p.grace ∧ p.grace ≤ p.times - 1) with
            | false =>
              obtain rfl : b2 = false := by rw [K2.out, hd]; simp
              have HD := Aside0.mk hd
              clear he hc hd
              go_wp2_with (first
                | (go_at_call 44; refine (in_six _ _ _ _ HE.out _ (heap_alloc_new _ _)).mono ?_; rintro e w' ⟨rfl, rfl⟩)
                | (go_at_call 54; (with_reducible refine (within_r_is (v := p.times) HC.out _).mono ?_); rintro e w' ⟨rfl, rfl⟩)
                | (go_at_call 54; (with_reducible refine (within_r_is (v := p.grace) HD.out _).mono ?_); rintro e w' ⟨rfl, rfl⟩))
              go_meet
              case rel => exact ⟨rfl, ⟨by first | exact BLx.out | exact BLx.out.alloc BLx.out.size _⟩⟩
            | true =>
              have HD := Aside0.mk hd
              by_cases hk : p.kind = 3
              · have k1 : (p.kind != 3) = false := by rw [hk]; rfl
                by_cases h0 : p.grace = 0
                · have g0 := beqt h0
                  obtain rfl : b2 = true := by rw [K2.out, he, hc, hd, decide_eq_true (fun _ => h0)]; rfl
                  clear he hc hd hk h0
                  go_wp2_with (first
                    | (go_at_call 44; refine (in_six _ _ _ _ HE.out _ (heap_alloc_new _ _)).mono ?_; rintro e w' ⟨rfl, rfl⟩)
                    | (go_at_call 54; (with_reducible refine (within_r_is (v := p.times) HC.out _).mono ?_); rintro e w' ⟨rfl, rfl⟩)
                    | (go_at_call 54; (with_reducible refine (within_r_is (v := p.grace) HD.out _).mono ?_); rintro e w' ⟨rfl, rfl⟩))
                  go_meet
                  case rel => exact ⟨rfl, ⟨by first | exact BLx.out | exact BLx.out.alloc BLx.out.size _⟩⟩
                · have g0 := beqf h0
                  obtain rfl : b2 = false := by rw [K2.out, decide_eq_false (p := p.kind = 3 → p.grace = 0) (fun h => h0 (h hk))]; simp
                  clear he hc hd hk h0
                  go_wp2_with (first
                    | (go_at_call 44; refine (in_six _ _ _ _ HE.out _ (heap_alloc_new _ _)).mono ?_; rintro e w' ⟨rfl, rfl⟩)
                    | (go_at_call 54; (with_reducible refine (within_r_is (v := p.times) HC.out _).mono ?_); rintro e w' ⟨rfl, rfl⟩)
                    | (go_at_call 54; (with_reducible refine (within_r_is (v := p.grace) HD.out _).mono ?_); rintro e w' ⟨rfl, rfl⟩))
                  go_meet
                  case rel => exact ⟨rfl, ⟨by first | exact BLx.out | exact BLx.out.alloc BLx.out.size _⟩⟩
              · have k1 : (p.kind != 3) = true := by simpa using hk
                obtain rfl : b2 = true := by rw [K2.out, he, hc, hd, decide_eq_true (fun h => absurd h hk)]; rfl
                clear he hc hd hk
                go_wp2_with (first
                  | (go_at_call 44; refine (in_six _ _ _ _ HE.out _ (heap_alloc_new _ _)).mono ?_; rintro e w' ⟨rfl, rfl⟩)
                  | (go_at_call 54; (with_reducible refine (within_r_is (v := p.times) HC.out _).mono ?_); rintro e w' ⟨rfl, rfl⟩)
                  | (go_at_call 54; (with_reducible refine (within_r_is (v := p.grace) HD.out _).mono ?_); rintro e w' ⟨rfl, rfl⟩))
                go_meet
                case rel => exact ⟨rfl, ⟨by first | exact BLx.out | exact BLx.out.alloc BLx.out.size _⟩⟩
    case rest =>
      obtain ⟨rfl, BLy⟩ := hcut
      clear HBx BLx
      have BLx := BLy
      clear BLy
      have HBx := Aside0.mk (blk_below HB1.out BLx.out)
      go_upto_region 3 with fail
      go_cut [3] (fun s3 wx => s3 = .bool b3 ∧ Aside0 (Below w1.heap.size w1 wx))
      case first =>
        obtain ⟨-, -, -, -, -, -, -, q7, q8, q9, q10, q11, q12, q13, q14, q15, -⟩ := pc_cells HBx.out
        have g1l := blk_lt HBx.out
        cases b2 with
        | false =>
          obtain rfl : b3 = false := by rw [K3.out]; rfl
          go_wp2_with fail
          go_meet
          case rel => exact ⟨rfl, ⟨by first | exact BLx.out | exact BLx.out.alloc BLx.out.size _⟩⟩
        | true =>
          have HT := Aside0.mk (times_b2 K2.out)
          cases ha : decide (0 ≤ p.rate ∧ p.rate ≤ 1000000000) with
          | false =>
            obtain rfl : b3 = false := by rw [K3.out, ha]; simp
            have HA := Aside0.mk ha
            clear ha
            go_wp2_with (first
              | (go_at_call 54; (with_reducible refine (within_r_is (v := p.rate) HA.out _).mono ?_); rintro e w' ⟨rfl, rfl⟩))
            go_meet
            case rel => exact ⟨rfl, ⟨by first | exact BLx.out | exact BLx.out.alloc BLx.out.size _⟩⟩
          | true =>
            have HA := Aside0.mk ha
            cases hb : decide (0 ≤ p.penalty ∧ p.penalty ≤ 1000000000) with
            | false =>
              obtain rfl : b3 = false := by rw [K3.out, hb]; simp
              have HB := Aside0.mk hb
              clear ha hb
              go_wp2_with (first
                | (go_at_call 54; (with_reducible refine (within_r_is (v := p.rate) HA.out _).mono ?_); rintro e w' ⟨rfl, rfl⟩)
                | (go_at_call 54; (with_reducible refine (within_r_is (v := p.penalty) HB.out _).mono ?_); rintro e w' ⟨rfl, rfl⟩))
              go_meet
              case rel => exact ⟨rfl, ⟨by first | exact BLx.out | exact BLx.out.alloc BLx.out.size _⟩⟩
            | true =>
              have HB := Aside0.mk hb
              cases hre : (resetsOk p.times 0 p.resets && decide (p.resets.length ≤ 20)) with
              | false =>
                obtain rfl : b3 = false := by rw [K3.out, hre]; simp
                have HRE := Aside0.mk hre
                clear ha hb hre
                go_wp2_with (first
                  | (go_at_call 54; (with_reducible refine (within_r_is (v := p.rate) HA.out _).mono ?_); rintro e w' ⟨rfl, rfl⟩)
                  | (go_at_call 54; (with_reducible refine (within_r_is (v := p.penalty) HB.out _).mono ?_); rintro e w' ⟨rfl, rfl⟩)
                  | ((with_reducible refine gate_dst (N := 69) rfl ?_); refine load_want rfl 27 (.tmp 1) rfl g1 rfl 27 _ (0, 0) _ HBx.out Try.underlying27 rfl info_prod ?_)
                  | (go_at_call 55; refine (rresets_1 p A1 c1 A2 c2 A3 c3 _ HT.out.1 HT.out.2 (HP.out.below (below_step BL1.out BLx.out)).r1 HS.out.2.1 _ rfl).mono ?_; rw [HRE.out]; rintro e w' ⟨rfl, hb⟩; have BLx := Aside0.mk (below_step BLx.out hb); have HBx := Aside0.mk (blk_below HBx.out hb); clear hb; obtain ⟨-, -, -, -, -, -, -, q7, q8, q9, q10, q11, q12, q13, q14, q15, -⟩ := pc_cells HBx.out))
                go_meet
                case rel => exact ⟨rfl, ⟨by first | exact BLx.out | exact BLx.out.alloc BLx.out.size _⟩⟩
              | true =>
                have HRE := Aside0.mk hre
                cases ho : orderOk p.o1 p.o2 p.o3 p.o4 with
                | false =>
                  obtain rfl : b3 = false := by rw [K3.out, ho]; simp
                  have HO := Aside0.mk ho
                  clear ha hb hre ho
                  go_wp2_with (first
                    | (go_at_call 54; (with_reducible refine (within_r_is (v := p.rate) HA.out _).mono ?_); rintro e w' ⟨rfl, rfl⟩)
                    | (go_at_call 54; (with_reducible refine (within_r_is (v := p.penalty) HB.out _).mono ?_); rintro e w' ⟨rfl, rfl⟩)
                    | ((with_reducible refine gate_dst (N := 69) rfl ?_); refine load_want rfl 27 (.tmp 1) rfl g1 rfl 27 _ (0, 0) _ HBx.out Try.underlying27 rfl info_prod ?_)
                    | (go_at_call 55; refine (rresets_1 p A1 c1 A2 c2 A3 c3 _ HT.out.1 HT.out.2 (HP.out.below (below_step BL1.out BLx.out)).r1 HS.out.2.1 _ rfl).mono ?_; rw [HRE.out]; rintro e w' ⟨rfl, hb⟩; have BLx := Aside0.mk (below_step BLx.out hb); have HBx := Aside0.mk (blk_below HBx.out hb); clear hb; obtain ⟨-, -, -, -, -, -, -, q7, q8, q9, q10, q11, q12, q13, q14, q15, -⟩ := pc_cells HBx.out)
                    | (go_at_call 56; refine (rorder_any p.o1 p.o2 p.o3 p.o4 _).mono ?_; rw [HO.out]; rintro e w' ⟨rfl, hb⟩; have BLx := Aside0.mk (below_step BLx.out hb); have HBx := Aside0.mk (blk_below HBx.out hb); clear hb; obtain ⟨-, -, -, -, -, -, -, q7, q8, q9, q10, q11, q12, q13, q14, q15, -⟩ := pc_cells HBx.out))
                  go_meet
                  case rel => exact ⟨rfl, ⟨by first | exact BLx.out | exact BLx.out.alloc BLx.out.size _⟩⟩
                | true =>
                  have HO := Aside0.mk ho
                  cases hv : decide (1 ≤ p.over ∧ p.over ≤ 3) with
                  | false =>
                    obtain rfl : b3 = false := by rw [K3.out, hv]; simp
                    have HV := Aside0.mk hv
                    clear ha hb hre ho hv
                    go_wp2_with (first
                      | (go_at_call 54; (with_reducible refine (within_r_is (v := p.rate) HA.out _).mono ?_); rintro e w' ⟨rfl, rfl⟩)
                      | (go_at_call 54; (with_reducible refine (within_r_is (v := p.penalty) HB.out _).mono ?_); rintro e w' ⟨rfl, rfl⟩)
                      | ((with_reducible refine gate_dst (N := 69) rfl ?_); refine load_want rfl 27 (.tmp 1) rfl g1 rfl 27 _ (0, 0) _ HBx.out Try.underlying27 rfl info_prod ?_)
                      | (go_at_call 55; refine (rresets_1 p A1 c1 A2 c2 A3 c3 _ HT.out.1 HT.out.2 (HP.out.below (below_step BL1.out BLx.out)).r1 HS.out.2.1 _ rfl).mono ?_; rw [HRE.out]; rintro e w' ⟨rfl, hb⟩; have BLx := Aside0.mk (below_step BLx.out hb); have HBx := Aside0.mk (blk_below HBx.out hb); clear hb; obtain ⟨-, -, -, -, -, -, -, q7, q8, q9, q10, q11, q12, q13, q14, q15, -⟩ := pc_cells HBx.out)
                      | (go_at_call 56; refine (rorder_any p.o1 p.o2 p.o3 p.o4 _).mono ?_; rw [HO.out]; rintro e w' ⟨rfl, hb⟩; have BLx := Aside0.mk (below_step BLx.out hb); have HBx := Aside0.mk (blk_below HBx.out hb); clear hb; obtain ⟨-, -, -, -, -, -, -, q7, q8, q9, q10, q11, q12, q13, q14, q15, -⟩ := pc_cells HBx.out)
                      | (go_at_call 54; (with_reducible refine (within_r_is (v := p.over) HV.out _).mono ?_); rintro e w' ⟨rfl, rfl⟩))
                    go_meet
                    case rel => exact ⟨rfl, ⟨by first | exact BLx.out | exact BLx.out.alloc BLx.out.size _⟩⟩
                  | true =>
                    have HV := Aside0.mk hv
                    obtain ⟨r, hti⟩ : ∃ r, lateOk p = r := ⟨_, rfl⟩
                    have HTI := Aside0.mk (show (decide (p.late.length ≤ 8 ∧ (0 ≤ p.cap ∧ p.cap ≤ 10000000000000) ∧ (p.late = [] → p.cap = 0)) && tiersOk 0 0 p.late) = r from hti)
                    obtain rfl : b3 = r := by rw [K3.out, ha, hb, hre, ho, hv, hti]; rfl
                    clear ha hb hre ho hv hti
                    go_wp2_with (first
                      | (go_at_call 54; (with_reducible refine (within_r_is (v := p.rate) HA.out _).mono ?_); rintro e w' ⟨rfl, rfl⟩)
                      | (go_at_call 54; (with_reducible refine (within_r_is (v := p.penalty) HB.out _).mono ?_); rintro e w' ⟨rfl, rfl⟩)
                      | ((with_reducible refine gate_dst (N := 69) rfl ?_); refine load_want rfl 27 (.tmp 1) rfl g1 rfl 27 _ (0, 0) _ HBx.out Try.underlying27 rfl info_prod ?_)
                      | (go_at_call 55; refine (rresets_1 p A1 c1 A2 c2 A3 c3 _ HT.out.1 HT.out.2 (HP.out.below (below_step BL1.out BLx.out)).r1 HS.out.2.1 _ rfl).mono ?_; rw [HRE.out]; rintro e w' ⟨rfl, hb⟩; have BLx := Aside0.mk (below_step BLx.out hb); have HBx := Aside0.mk (blk_below HBx.out hb); clear hb; obtain ⟨-, -, -, -, -, -, -, q7, q8, q9, q10, q11, q12, q13, q14, q15, -⟩ := pc_cells HBx.out)
                      | (go_at_call 56; refine (rorder_any p.o1 p.o2 p.o3 p.o4 _).mono ?_; rw [HO.out]; rintro e w' ⟨rfl, hb⟩; have BLx := Aside0.mk (below_step BLx.out hb); have HBx := Aside0.mk (blk_below HBx.out hb); clear hb; obtain ⟨-, -, -, -, -, -, -, q7, q8, q9, q10, q11, q12, q13, q14, q15, -⟩ := pc_cells HBx.out)
                      | (go_at_call 54; (with_reducible refine (within_r_is (v := p.over) HV.out _).mono ?_); rintro e w' ⟨rfl, rfl⟩)
                      | ((with_reducible refine gate_dst (N := 83) rfl ?_); refine load_want rfl 27 (.tmp 1) rfl g1 rfl 27 _ (0, 0) _ HBx.out Try.underlying27 rfl info_prod ?_)
                      | (go_at_call 57; refine (rtiers_1 p A1 c1 A2 c2 A3 c3 _ (HP.out.below (below_step BL1.out BLx.out)).r2 HS.out.2.2.1 _ rfl _ HTI.out).mono ?_; rintro e w' ⟨rfl, hb⟩; have BLx := Aside0.mk (below_step BLx.out hb); have HBx := Aside0.mk (blk_below HBx.out hb); clear hb; obtain ⟨-, -, -, -, -, -, -, q7, q8, q9, q10, q11, q12, q13, q14, q15, -⟩ := pc_cells HBx.out))
                    go_meet
                    case rel => exact ⟨rfl, ⟨by first | exact BLx.out | exact BLx.out.alloc BLx.out.size _⟩⟩
      case rest =>
        obtain ⟨rfl, BLy⟩ := hcut
        clear HBx BLx
        have BLx := BLy
        clear BLy
        have HBx := Aside0.mk (blk_below HB1.out BLx.out)
        go_upto_region 4 with fail
        go_cut [3] (fun s3 wx => s3 = .bool b4 ∧ Aside0 (Below w1.heap.size w1 wx))
        case first =>
          obtain ⟨-, -, -, -, -, -, -, -, -, -, -, -, -, -, -, -, -, q17, q18⟩ := pc_cells HBx.out
          have g1l := blk_lt HBx.out
          cases b3 with
          | false =>
            obtain rfl : b4 = false := by rw [K4.out]; rfl
            go_wp2_with fail
            go_meet
            case rel => exact ⟨rfl, ⟨by first | exact BLx.out | exact BLx.out.alloc BLx.out.size _⟩⟩
          | true =>
            cases ha : decide (1 ≤ p.roll ∧ p.roll ≤ 4) with
            | false =>
              obtain rfl : b4 = false := by rw [K4.out, ha]; simp
              have HA := Aside0.mk ha
              clear ha
              go_wp2_with (first
                | (go_at_call 54; (with_reducible refine (within_r_is (v := p.roll) HA.out _).mono ?_); rintro e w' ⟨rfl, rfl⟩))
              go_meet
              case rel => exact ⟨rfl, ⟨by first | exact BLx.out | exact BLx.out.alloc BLx.out.size _⟩⟩
            | true =>
              have HA := Aside0.mk ha
              cases hri : (Nw.rises (-25568) p.hol && decide (p.hol.length ≤ 200)) with
              | false =>
                obtain rfl : b4 = false := by rw [K4.out, hri]; simp
                have HRI := Aside0.mk hri
                clear ha hri
                go_wp2_with (first
                  | (go_at_call 54; (with_reducible refine (within_r_is (v := p.roll) HA.out _).mono ?_); rintro e w' ⟨rfl, rfl⟩)
                  | (go_at_call 13; refine (rright_1 A3 c3 p.hol _ (HP.out.below (below_step BL1.out BLx.out)).r3 HS.out.2.2.2 _ rfl).mono ?_; rw [HRI.out]; rintro e w' ⟨rfl, hd⟩; have hb := hd.below; clear hd; have BLx := Aside0.mk (below_step BLx.out hb); have HBx := Aside0.mk (blk_below HBx.out hb); clear hb; obtain ⟨-, -, -, -, -, -, -, -, -, -, -, -, -, -, -, -, -, q17, q18⟩ := pc_cells HBx.out))
                go_meet
                case rel => exact ⟨rfl, ⟨by first | exact BLx.out | exact BLx.out.alloc BLx.out.size _⟩⟩
              | true =>
                have HRI := Aside0.mk hri
                by_cases h1 : p.roll = 1
                · have r1 : (p.roll != 1) = false := by rw [h1]; rfl
                  obtain ⟨r, hz⟩ : ∃ r, ((p.hol.length : Int) == 0) = r := ⟨_, rfl⟩
                  obtain rfl : b4 = r := by
                    rw [K4.out, ha, hri, ← hz]
                    by_cases h0 : p.hol.length = 0
                    · rw [decide_eq_true (fun _ => List.eq_nil_of_length_eq_zero h0), beqt (by omega)]; rfl
                    · rw [decide_eq_false (fun h => h0 (by rw [h h1]; rfl)), beqf (by omega)]; rfl
                  clear ha hri h1
                  go_wp2_with (first
                    | (go_at_call 54; (with_reducible refine (within_r_is (v := p.roll) HA.out _).mono ?_); rintro e w' ⟨rfl, rfl⟩)
                    | (go_at_call 13; refine (rright_1 A3 c3 p.hol _ (HP.out.below (below_step BL1.out BLx.out)).r3 HS.out.2.2.2 _ rfl).mono ?_; rw [HRI.out]; rintro e w' ⟨rfl, hd⟩; have hb := hd.below; clear hd; have BLx := Aside0.mk (below_step BLx.out hb); have HBx := Aside0.mk (blk_below HBx.out hb); clear hb; obtain ⟨-, -, -, -, -, -, -, -, -, -, -, -, -, -, -, -, -, q17, q18⟩ := pc_cells HBx.out))
                  go_meet
                  case rel => exact ⟨rfl, ⟨by first | exact BLx.out | exact BLx.out.alloc BLx.out.size _⟩⟩
                · have r1 : (p.roll != 1) = true := by simpa using h1
                  obtain rfl : b4 = true := by rw [K4.out, ha, hri, decide_eq_true (fun h => absurd h h1)]; rfl
                  clear ha hri h1
                  go_wp2_with (first
                    | (go_at_call 54; (with_reducible refine (within_r_is (v := p.roll) HA.out _).mono ?_); rintro e w' ⟨rfl, rfl⟩)
                    | (go_at_call 13; refine (rright_1 A3 c3 p.hol _ (HP.out.below (below_step BL1.out BLx.out)).r3 HS.out.2.2.2 _ rfl).mono ?_; rw [HRI.out]; rintro e w' ⟨rfl, hd⟩; have hb := hd.below; clear hd; have BLx := Aside0.mk (below_step BLx.out hb); have HBx := Aside0.mk (blk_below HBx.out hb); clear hb; obtain ⟨-, -, -, -, -, -, -, -, -, -, -, -, -, -, -, -, -, q17, q18⟩ := pc_cells HBx.out))
                  go_meet
                  case rel => exact ⟨rfl, ⟨by first | exact BLx.out | exact BLx.out.alloc BLx.out.size _⟩⟩
        case rest =>
          obtain ⟨rfl, BLy⟩ := hcut
          clear HBx BLx
          have BLx := BLy
          clear BLy
          have HBx := Aside0.mk (blk_below HB1.out BLx.out)
          cases b4 with
          | false =>
            go_wp2_with fail
            go_ret
            exact ⟨rfl, below_step BL1.out BLx.out⟩
          | true =>
            go_wp2_with fail
            go_ret
            exact ⟨rfl, below_step BL1.out BLx.out⟩

end Go.Proofs.Ytcfpkkgdofblfaa.Pd
/- Contracts by hand: the document's look at a product, in plain words; the plain product. -/
namespace Go.Proofs.Ytcfpkkgdofblfaa.Pd
open Go.RowKit Go.Proofs.YtcfpkkgdofblfaaW.PrintWords Go.Proofs.YtcfpkkgdofblfaaW.PrintLast Go.Proofs.YtcfpkkgdofblfaaW.PrintMore Go.Proofs.Ytcfpkkgdofblfaa.HW
open Pm
set_option linter.unusedVariables false
set_option linter.unusedSimpArgs false
/-- Not longer than what a machine holds. -/
structure Held (p : Prod) : Prop where
  name : p.name.size ≤ 140737488351232
  s1 : p.resets.length ≤ 140737488355328
  s2 : p.late.length ≤ 140737488355328
  s3 : p.hol.length ≤ 140737488355328
theorem Small.held {p : Prod} (h : Small p) : Held p := ⟨Nat.le_trans h.name (by decide), Nat.le_trans h.s1 (by decide), Nat.le_trans h.s2 (by decide), Nat.le_trans h.s3 (by decide)⟩
theorem every_in (x : Int) : [(1 : Int), 2, 3, 4, 6, 12].contains x = decide (x = 1 ∨ x = 2 ∨ x = 3 ∨ x = 4 ∨ x = 6 ∨ x = 12) := by
  rw [Bool.eq_iff_iff, List.contains_iff_mem, decide_eq_true_iff]
  simp only [List.mem_cons, List.not_mem_nil, or_false]
theorem rcheck_any (p : Prod) (A1 : Option Addr) (c1 : Nat) (A2 : Option Addr) (c2 : Nat) (A3 : Option Addr) (c3 : Nat) (w : World) (hp : ProdAt w p A1 c1 A2 c2 A3 c3) (hs : Held p) :
    Calls Try.prog 30 #[pv p A1 c1 A2 c2 A3 c3] w fun e w' => e = .returned (.int .i64 (err p)) ∧ Below w.heap.size w w' := by
  have h := rcheck_0 p A1 c1 A2 c2 A3 c3 w hp ⟨hs.name, hs.s1, hs.s2, hs.s3⟩ _ _ _ _ rfl rfl rfl rfl
  refine h.mono ?_
  rintro e w1 ⟨rfl, hb⟩
  refine ⟨?_, hb⟩
  congr 2
  unfold err
  have key : ∀ x y : Bool, x = y → (if x = true then (0 : Int) else 9) = (if y = true then 0 else 9) := fun x y h => by rw [h]
  apply key
  rw [Nw.rises_pm, every_in, Bool.eq_iff_iff]
  have e1 : ok p = true ↔ ((((nameOk p.name.data.toList = true ∧ ((1 ≤ p.count ∧ p.count ≤ 3) ∧ (p.round = 1 ∨ p.round = 3) ∧ (1 ≤ p.kind ∧ p.kind ≤ 3) ∧ (p.every = 1 ∨ p.every = 2 ∨ p.every = 3 ∨ p.every = 4 ∨ p.every = 6 ∨ p.every = 12) ∧ (1 ≤ p.times ∧ p.times ≤ 600) ∧ (0 ≤ p.grace ∧ p.grace ≤ p.times - 1) ∧ (p.kind = 3 → p.grace = 0))) ∧ (((0 ≤ p.rate ∧ p.rate ≤ 1000000000) ∧ (0 ≤ p.penalty ∧ p.penalty ≤ 1000000000) ∧ p.resets.length ≤ 20) ∧ resetsOk p.times 0 p.resets = true)) ∧ (orderOk p.o1 p.o2 p.o3 p.o4 = true ∧ (1 ≤ p.over ∧ p.over ≤ 3))) ∧ lateOk p = true) ∧ ((p.hol.length ≤ 200 ∧ (1 ≤ p.roll ∧ p.roll ≤ 4) ∧ (p.roll = 1 → p.hol = [])) ∧ holsOk (-25568) p.hol = true) := by
    simp only [ok, shapeOk, ratesOk, ordOk, daysOk, Bool.and_eq_true, decide_eq_true_eq]
  rw [e1]
  simp only [Bool.and_eq_true, decide_eq_true_eq]
  constructor
  · rintro ⟨⟨⟨⟨⟨⟨⟨⟨⟨⟨⟨⟨⟨⟨⟨⟨N, C⟩, R⟩, K⟩, E⟩, T⟩, G⟩, KG⟩, Ra⟩, Pe⟩, RS, L20⟩, O⟩, Ov⟩, LT⟩, Ro⟩, H, L200⟩, RH⟩
    exact ⟨⟨⟨⟨⟨N, C, R, K, E, T, G, KG⟩, ⟨Ra, Pe, L20⟩, RS⟩, O, Ov⟩, LT⟩, ⟨L200, Ro, RH⟩, H⟩
  · rintro ⟨⟨⟨⟨⟨N, C, R, K, E, T, G, KG⟩, ⟨Ra, Pe, L20⟩, RS⟩, O, Ov⟩, LT⟩, ⟨L200, Ro, RH⟩, H⟩
    exact ⟨⟨⟨⟨⟨⟨⟨⟨⟨⟨⟨⟨⟨⟨⟨⟨N, C⟩, R⟩, K⟩, E⟩, T⟩, G⟩, KG⟩, Ra⟩, Pe⟩, RS, L20⟩, O⟩, Ov⟩, LT⟩, Ro⟩, H, L200⟩, RH⟩
/-- The plain product. -/
def plainP : Prod := { name := ⟨#[104, 111, 109, 101]⟩, count := 2, round := 1, kind := 1, every := 1, times := 12, grace := 0, rate := 60000000, resets := [], penalty := 100000000, o1 := 1, o2 := 2, o3 := 3, o4 := 4, over := 1, late := [], cap := 0, roll := 1, hol := [] }
/-- Nothing. -/
def zeroP : Prod := { name := ⟨#[]⟩, count := 0, round := 0, kind := 0, every := 0, times := 0, grace := 0, rate := 0, resets := [], penalty := 0, o1 := 0, o2 := 0, o3 := 0, o4 := 0, over := 0, late := [], cap := 0, roll := 0, hol := [] }
abbrev plainC : Array Value :=
  #[.string ⟨#[104, 111, 109, 101]⟩, .int .i64 2, .int .i64 1, .int .i64 1, .int .i64 1, .int .i64 12, .int .i64 0, .int .i64 60000000, .slice none 0 0, .int .i64 100000000, .int .i64 1, .int .i64 2, .int .i64 3, .int .i64 4, .int .i64 1, .slice none 0 0, .int .i64 0, .int .i64 1, .slice none 0 0]
theorem plain_ok : err plainP = 0 := by decide +kernel
theorem zero_no : err zeroP = 9 := by decide +kernel
theorem nilRows (w : World) : Op.IntRows w none 2 [] := ⟨fun r h => by (cases h), fun i r h => by (simp at h)⟩
theorem nilAt {w : World} {p : Prod} (h1 : p.resets = []) (h2 : p.late = []) (h3 : p.hol = []) : ProdAt w p none 0 none 0 none 0 := by
  refine ⟨by rw [h1]; exact nilRows w, by rw [h1]; exact Nat.le_refl _, fun _ => rfl, by rw [h2]; exact nilRows w, by rw [h2]; exact Nat.le_refl _, fun _ => rfl, ?_, by rw [h3]; exact Nat.le_refl _, fun _ => rfl⟩
  rw [h3]; exact Kd.C_nil _ w
theorem small_plain : Small plainP := ⟨by decide, by decide, by decide, by decide⟩
theorem small_zero : Small zeroP := ⟨by decide, by decide, by decide, by decide⟩
theorem built_plain : Try.prog.built 27 [(0, .string ⟨#[104, 111, 109, 101]⟩), (1, .int .i64 2), (2, .int .i64 1), (3, .int .i64 1), (4, .int .i64 1), (5, .int .i64 12), (7, .int .i64 60000000), (9, .int .i64 100000000), (10, .agg #[.int .i64 1, .int .i64 2, .int .i64 3, .int .i64 4]), (11, .int .i64 1), (14, .int .i64 1)] = some plainC := by kernel_rfl
theorem plainC_one : plainC.all (·.oneCell') = true := by simp [Value.oneCell']
theorem below_setRowP {B : Nat} {w W : World} {g : Nat} (h : Below B w W) (hg : B ≤ g) (cs : Array Value) : Below B w (W.setRow g cs) :=
  ⟨h.os, h.tape, h.output, by rw [size_setRow]; exact h.size, fun k hk => by rw [setRow_other W g k cs (by omega)]; exact h.block k hk⟩
def PlainE (w : World) (e : Ending) (w' : World) : Prop := e = .returned (.agg plainC) ∧ Below w.heap.size w w'
theorem plain_any (w : World) : Calls Try.prog 22 #[] w (PlainE w) := by
  go_enter Try.func22, Try.ntmps22
  go_wp2_with (first
    | ((with_reducible refine gate_dst (N := 0) rfl ?_); refine box_event ?hg (N := 0) ?hd (cs := pzs) (t := 27) ?hr ?_; (case hd => rfl); (case hg => rfl); (case hr => first | (go_simp; done) | (go_simp; rfl)); intro g1 hg w1 hb1 hbl1; have g1ge := (show w.heap.size ≤ g1 by rw [hg]; exact Nat.le_refl _); clear hg; have HB1 := Aside0.mk hb1; have BL1 := Aside0.mk hbl1; clear hb1 hbl1)
    | ((with_reducible refine gate_dst (N := 2) rfl ?_); refine build_event rfl (t := 27) rfl (cs := plainC) ?hb ?_; (case hb => simp only [List.map_toArray, List.map_cons, List.map_nil]; exact built_plain))
    | ((with_reducible refine gate_store (t := 27) (p := 0) rfl ?_); refine Hid.out ?_))
  refine Lib.hid ?_
  refine wpList_store_row rfl 27 (.tmp 0) (.tmp 2) rfl g1 plainC rfl rfl 27 pzs HB1.out info_prod rfl plainC_one ?_
  have hb2 := setRow_heap w1 g1 _ plainC _ _ HB1.out
  have bl2 := below_setRowP (g := g1) BL1.out g1ge plainC
  obtain ⟨w2, hw2⟩ : ∃ w2, w2 = w1.setRow g1 plainC := ⟨_, rfl⟩
  rw [← hw2] at hb2 bl2 ⊢
  have HB2 := Aside0.mk hb2
  have BL2 := Aside0.mk bl2
  clear hw2 hb2 bl2
  go_frame
  go_wp2_with fail
  exact bodyPost_ret (v := .agg plainC) (results_cell_row (g := g1) Try.results22 _ _ _ _ _ _ rfl HB2.out Try.underlying27 rfl info_prod) rfl ⟨rfl, BL2.out⟩
end Go.Proofs.Ytcfpkkgdofblfaa.Pd
/- dues.Days whole; dues.Parts where there are no days; awake; days that are none. -/
namespace Go.Proofs.Ytcfpkkgdofblfaa.Du
open Go.RowKit Go.Proofs.YtcfpkkgdofblfaaW.PrintWords Go.Proofs.YtcfpkkgdofblfaaW.PrintLast Go.Proofs.YtcfpkkgdofblfaaW.PrintMore Go.Proofs.Ytcfpkkgdofblfaa.HW
open Go.Proofs.Ytcfpkkgdofblfaa.Math Go.Proofs.Ytcfpkkgdofblfaa.H Go.Proofs.Ytcfpkkgdofblfaa.Pd Pm
set_option linter.unusedVariables false
set_option linter.unusedSimpArgs false
theorem days_any (p : Prod) (A1 : Option Addr) (c1 : Nat) (A2 : Option Addr) (c2 : Nat) (A3 : Option Addr) (c3 : Nat) (start : Int) (w : World) (hg : GV w) (hp : ProdAt w p A1 c1 A2 c2 A3 c3) (hs : Small p) :
    Calls Try.prog 14 #[pv p A1 c1 A2 c2 A3 c3, .int .i64 start] w (Listed (daysP p start) w) := by
  cases ho : ok p with
  | false => exact days_refused p A1 c1 A2 c2 A3 c3 start w hg hp hs ho
  | true =>
    by_cases hd : (datesP start p.every p.times).2 = 0
    · have e : daysP p start = risen start (rollAll p.hol p.roll (datesP start p.every p.times).1) := by
        unfold daysP risen
        rw [if_pos ho, if_pos hd]
      rw [e]
      exact days_main p A1 c1 A2 c2 A3 c3 start w hg hp hs ho _ (by rw [← hd])
    · exact days_none p A1 c1 A2 c2 A3 c3 start w hg hp hs ho hd
set_option maxRecDepth 100000 in
set_option maxHeartbeats 2000000 in
theorem parts_err (p : Prod) (A1 : Option Addr) (c1 : Nat) (A2 : Option Addr) (c2 : Nat) (A3 : Option Addr) (c3 : Nat) (start : Int) (w : World) (hg : GV w) (hp : ProdAt w p A1 c1 A2 c2 A3 c3) (hs : Small p) (e0 : Int) (h0 : e0 ≠ 0) (hd : daysP p start = ([], e0)) :
    Calls Try.prog 16 #[pv p A1 c1 A2 c2 A3 c3, .int .i64 start] w fun e w' => e = .returned (.tuple #[.slice none 0 0, .int .i64 e0]) ∧ Below w.heap.size w w' := by
  have HG := Aside0.mk hg
  have HP := Aside0.mk hp
  have DA := Aside0.mk (fun w1 (hb : Below w.heap.size w w1) => show Calls Try.prog 14 #[pv p A1 c1 A2 c2 A3 c3, .int .i64 start] w1 fun e w' => (∃ v, e = .returned (.tuple #[v, .int .i64 e0])) ∧ Below w1.heap.size w1 w' from (days_any p A1 c1 A2 c2 A3 c3 start w1 (HG.out.below hb) (HP.out.below hb) hs).mono fun e w' h => by rw [hd] at h; obtain ⟨v, he, -, hb⟩ := h; exact ⟨⟨v, he⟩, hb⟩)
  have hn : (e0 != 0) = true := by simpa using h0
  clear hg hp hd h0 hs
  go_enter Try.func16, Try.ntmps16
  go_wp2_with ((with_reducible refine gate_dst (N := 2) rfl ?_); refine box_event ?hg (N := 2) ?hd (cs := pcs p A1 c1 A2 c2 A3 c3) (t := 27) ?hr ?_; (case hd => rfl); (case hg => rfl); (case hr => first | (go_simp; done) | (go_simp; rfl)); intro g2 hg v0 hb1 hbl1; clear hg; have G2 := Aside0.mk hb1; have HB := Aside0.mk hbl1; clear hb1 hbl1; refine Hid.out ?_)
  refine Lib.hid ?_
  go_wp2_with (first
    | ((with_reducible refine gate_dst (N := 14) rfl ?_); refine wpList_load_row rfl 27 (.tmp 2) rfl g2 rfl 27 _ (0, 0) _ G2.out Try.underlying27 rfl info_prod ?_)
    | (go_at_call 14; (with_reducible refine (DA.out _ HB.out).mono ?_); rintro e w2 ⟨⟨v, rfl⟩, hb⟩; have HB := Aside0.mk (below_step HB.out hb); have G2 := Aside0.mk (Pd.blk_below G2.out hb); clear hb))
  go_ret2
  exact ⟨rfl, HB.out⟩
theorem plain_days : daysP plainP 19723 = ([19754, 19783, 19814, 19844, 19875, 19905, 19936, 19967, 19997, 20028, 20058, 20089], 0) := by decide +kernel
theorem dues_awake (w : World) (hg : GV w) : Calls Try.prog 11 #[] w fun e w' => e = .returned (.bool true) ∧ Below w.heap.size w w' := by
  have HG := Aside0.mk hg
  have DA := Aside0.mk (fun w1 (hb : Below w.heap.size w w1) => show Calls Try.prog 14 #[.agg plainC, .int .i64 19723] w1 (Listed1 [19754, 19783, 19814, 19844, 19875, 19905, 19936, 19967, 19997, 20028, 20058, 20089] w1) from (days_any plainP none 0 none 0 none 0 19723 w1 (HG.out.below hb) (nilAt rfl rfl rfl) small_plain).mono fun e w' h => by rw [plain_days] at h; exact h.one (by decide))
  clear hg
  go_enter Try.func11, Try.ntmps11
  go_wp2_with (first
    | (go_at_call 22; (with_reducible refine (plain_any _).mono ?_); rintro e w2 ⟨rfl, hb⟩; have HB := Aside0.mk hb; clear hb)
    | (go_at_call 14; (with_reducible refine (DA.out _ HB.out).mono ?_); rintro e w3 ⟨g, c, t, rfl, hge, hc, hbk, hb⟩; have HB := Aside0.mk (below_step HB.out hb); have q0 : w3.cell? ⟨g, 0, none⟩ = some (.int .i64 19754) := (hbk.cell 0).trans rfl; clear hb hbk))
  go_ret
  exact ⟨rfl, HB.out⟩
end Go.Proofs.Ytcfpkkgdofblfaa.Du
/- Plain: days behind the last year; holidays that leave no day between two instalments. -/
namespace Go.Proofs.Ytcfpkkgdofblfaa.Du
open Go.RowKit Go.Proofs.YtcfpkkgdofblfaaW.PrintWords Go.Proofs.YtcfpkkgdofblfaaW.PrintLast Go.Proofs.YtcfpkkgdofblfaaW.PrintMore Go.Proofs.Ytcfpkkgdofblfaa.HW
open Go.Proofs.Ytcfpkkgdofblfaa.Math Go.Proofs.Ytcfpkkgdofblfaa.H Go.Proofs.Ytcfpkkgdofblfaa.Pd Pm
set_option linter.unusedVariables false
set_option linter.unusedSimpArgs false
theorem number_kinds (y m d : Int) : (number y m d).2 = 0 ∨ number y m d = (0, 5) := by
  unfold number
  split
  · exact Or.inl rfl
  · exact Or.inr rfl
theorem add_kinds (n k : Int) : (add n k).2 = 0 ∨ add n k = (0, 5) := by
  unfold add
  split
  · split
    · exact Or.inr rfl
    · exact number_kinds _ _ _
  · exact Or.inr rfl
theorem dates_kinds : ∀ (m : Nat) (n e i : Int) (l : List Int), (dates m n e i l).2 = 0 ∨ dates m n e i l = ([], 5)
  | 0, n, e, i, l => Or.inl rfl
  | m + 1, n, e, i, l => by
    unfold dates
    split
    · exact dates_kinds m n e (i + 1) _
    · rename_i h
      rcases add_kinds n ((i + 1) * e) with h1 | h1
      · exact absurd h1 h
      · rw [h1]; exact Or.inr rfl
theorem dates_zero : ∀ (m : Nat) (n e i : Int) (l : List Int), (dates m n e i l).2 = 0 → ∀ j : Int, i < j → j ≤ i + m → (add n (j * e)).2 = 0
  | 0, n, e, i, l => fun _ j h1 h2 => by omega
  | m + 1, n, e, i, l => by
    unfold dates
    split
    · rename_i h
      intro h0 j h1 h2
      by_cases hj : j = i + 1
      · rw [hj]; exact h
      · exact dates_zero m n e (i + 1) _ h0 j (by omega) (by omega)
    · rename_i h; intro h0; exact absurd h0 h
/-- Three hundred instalments. -/
def lateP : Prod := { plainP with times := 300 }
theorem late_ok : ok lateP = true := by decide +kernel
theorem late_days {j : Int} (h0 : 0 ≤ j) (h1 : j < 3000) : daysP lateP (84370 - j) = ([], 5) := by
  have hd : isDay (84370 - j) := ⟨by omega, by omega⟩
  have e : datesP (84370 - j) 1 300 = ([], 5) := by
    unfold datesP
    rw [if_pos (by omega)]
    rcases dates_kinds (Int.toNat 300) (84370 - j) 1 0 [] with h | h
    · exfalso
      have hz := dates_zero _ _ _ _ _ h 300 (by omega) (by decide)
      have hi : idx (84370 - j) + 300 > 26411 := by
        obtain ⟨y1, y2, y3, y4⟩ := yearOf_spec hd
        obtain ⟨_, m1, m2, _⟩ := date_ok hd
        have ei : idx (84370 - j) = 12 * yearOf (84370 - j) + monthOf (84370 - j) - 1 := rfl
        unfold opens at y4
        omega
      rw [show (300 : Int) * 1 = 300 by rfl, add_no hd (by omega)] at hz
      cases hz
    · exact h
  show daysP lateP (84370 - j) = _
  unfold daysP
  rw [if_pos late_ok]
  show (if (datesP (84370 - j) 1 300).2 = 0 then _ else ([], (datesP (84370 - j) 1 300).2)) = _
  rw [e]
  rfl
/-- Rolled to the next day of business; so many holidays. -/
def restP (l : List Int) : Prod := { plainP with roll := 2, hol := l }
def row45 (f : Int) (k : Nat) : List Int := (List.range k).map fun i : Nat => f + (i : Int)
theorem row45_len (f : Int) (k : Nat) : (row45 f k).length = k := by simp [row45]
theorem row45_succ (f : Int) (k : Nat) : row45 f (k + 1) = row45 f k ++ [f + (k : Int)] := by simp [row45, List.range_succ]
theorem rest_days {m : Int} (h0 : 0 ≤ m) (h1 : m < 3) : daysP (restP (row45 (19748 + m) 45)) 19723 = ([], 11) := by
  rcases (by omega : m = 0 ∨ m = 1 ∨ m = 2) with rfl | rfl | rfl <;> decide +kernel
theorem small_late : Small lateP := ⟨by decide, by decide, by decide, by decide⟩
theorem small_rest {l : List Int} (h : l.length ≤ 45) : Small (restP l) := ⟨small_plain.name, small_plain.s1, small_plain.s2, by show l.length ≤ _; omega⟩
theorem mod_is (x : Int) (n : Int) (h1 : 1 ≤ n) (h2 : n ≤ 100000) : ∃ j, 0 ≤ j ∧ j < n ∧ IntKind.i64.wrap (Int.tmod (IntKind.u64.wrap x) n) = j := by
  have e : IntKind.u64.wrap x = x % 18446744073709551616 := rfl
  have h := Int.emod_nonneg x (show (18446744073709551616 : Int) ≠ 0 by omega)
  have ha := Int.emod_nonneg (x % 18446744073709551616) (show n ≠ 0 by omega)
  have hb := Int.emod_lt_of_pos (x % 18446744073709551616) (show 0 < n by omega)
  refine ⟨x % 18446744073709551616 % n, ha, hb, ?_⟩
  rw [e, Int.tmod_eq_emod_of_nonneg h]
  generalize x % 18446744073709551616 % n = j at *
  rw [i64_w]
  exact w64 (x := j) (by omega) (by omega)
theorem days_zero (p : Prod) (A1 : Option Addr) (c1 : Nat) (A2 : Option Addr) (c2 : Nat) (A3 : Option Addr) (c3 : Nat) (start : Int) (w : World) (hg : GV w) (hp : ProdAt w p A1 c1 A2 c2 A3 c3) (hs : Small p) (e0 : Int) (hd : daysP p start = ([], e0)) :
    Calls Try.prog 14 #[pv p A1 c1 A2 c2 A3 c3, .int .i64 start] w fun e w' => (∃ A c, e = .returned (.tuple #[.slice A 0 c, .int .i64 e0])) ∧ Below w.heap.size w w' := by
  refine (days_any p A1 c1 A2 c2 A3 c3 start w hg hp hs).mono ?_
  intro e w' h
  rw [hd] at h
  obtain ⟨v, he, hr, hb⟩ := h
  rcases hr with ⟨rfl, -⟩ | ⟨g, c, t, rfl, -⟩
  · exact ⟨⟨_, _, he⟩, hb⟩
  · exact ⟨⟨_, _, he⟩, hb⟩
end Go.Proofs.Ytcfpkkgdofblfaa.Du
/- The law DuesRefuse, walked. -/
namespace Go.Proofs.Ytcfpkkgdofblfaa.Du
open Go.RowKit Go.Proofs.YtcfpkkgdofblfaaW.PrintWords Go.Proofs.YtcfpkkgdofblfaaW.PrintLast Go.Proofs.YtcfpkkgdofblfaaW.PrintMore Go.Proofs.Ytcfpkkgdofblfaa.HW
open Go.Proofs.Ytcfpkkgdofblfaa.Math Go.Proofs.Ytcfpkkgdofblfaa.H Go.Proofs.Ytcfpkkgdofblfaa.Pd Pm
set_option linter.unusedVariables false
set_option linter.unusedSimpArgs false
theorem built_zero2 : Try.prog.built 27 [] = some pzs := by kernel_rfl
theorem zero_days : daysP zeroP 19723 = ([], 9) := by decide +kernel
theorem R_slice {W : World} {B : Nat} {ok : Nat → Prop} {v : Value} {l : List Int} (h : Kd.R (Kd.int .i64) 3 W B ok v l) (hl : l ≠ []) : ∃ g c, v = .slice (some ⟨g, 0, none⟩) l.length c := by
  rcases row_of_R h with ⟨-, e⟩ | ⟨g, c, t, e, -⟩
  · exact absurd e hl
  · exact ⟨g, c, e⟩
theorem restAt {W : World} {B : Nat} {ok : Nat → Prop} {A : Option Addr} {c : Nat} {l : List Int} (h : Kd.R (Kd.int .i64) 3 W B ok (.slice A l.length c) l) (hl : 0 < l.length) (hm : l.length ≤ 45) : ProdAt W (restP l) none 0 none 0 A c := by
  rcases row_of_R h with ⟨-, e⟩ | ⟨g, c2, t, e, -, hc, hk⟩
  · rw [e] at hl; simp at hl
  · injection e with e1 e2 e3
    subst e1; subst e3
    exact ⟨nilRows W, Nat.le_refl _, fun _ => rfl, nilRows W, Nat.le_refl _, fun _ => rfl, Blk.reads hk (by show l.length ≤ _; omega), hc, fun h => by cases h⟩
set_option maxRecDepth 100000 in
set_option maxHeartbeats 8000000 in
theorem duesRefuse_walk (a b : Int) (w : World) (wa : (Lit.int .i64 a).wf = true) (wb : (Lit.int .i64 b).wf = true) (hgv : GV w) :
    Calls Try.prog 5 #[.int .i64 a, .int .i64 b] w fun e w' => e = .returned (.bool true) ∧ Below w.heap.size w w' := by
  have HG := Aside0.mk hgv
  clear hgv wa wb
  obtain ⟨j, j0, j1, ej⟩ := mod_is a 3000 (by omega) (by omega)
  obtain ⟨m, m0, m1, em⟩ := mod_is b 3 (by omega) (by omega)
  have HB := Aside0.mk (Below.refl w.heap.size w)
  have DZ := Aside0.mk (fun W (hb : Below w.heap.size w W) => show Calls Try.prog 14 #[.agg pzs, .int .i64 19723] W fun e w' => (∃ A c, e = .returned (.tuple #[.slice A 0 c, .int .i64 9])) ∧ Below W.heap.size W w' from days_zero zeroP none 0 none 0 none 0 19723 W (HG.out.below hb) (nilAt rfl rfl rfl) small_zero 9 zero_days)
  have DL := Aside0.mk (fun W (hb : Below w.heap.size w W) => days_zero lateP none 0 none 0 none 0 (84370 - j) W (HG.out.below hb) (nilAt rfl rfl rfl) small_late 5 (late_days j0 j1))
  have AW := Aside0.mk (fun W (hb : Below w.heap.size w W) => dues_awake W (HG.out.below hb))
  go_enter Try.func5, Try.ntmps5
  go_wp2_with (first
    | (go_at_call 22; (with_reducible refine (plain_any _).mono ?_); rintro e w2 ⟨rfl, hb⟩; have HB := Aside0.mk (below_step HB.out hb); clear hb)
    | ((with_reducible refine gate_dst (N := 5) rfl ?_); refine copy_event rfl (N := 5) rfl rfl rfl (t := 27) (v := .tmp 17) rfl (cs := plainC) (zs := pzs) ?hr rfl rfl info_prod ?hz plainC_one ?_; (case hr => first | (go_simp; done) | (go_simp; rfl)); (case hz => rfl); intro g5 hg w5 hb0 hb; have ge5 := (show w.heap.size ≤ g5 by rw [hg]; exact HB.out.size); clear hg; have B5 := Aside0.mk hb0; have HB := Aside0.mk (below_step HB.out hb); clear hb0 hb; have u5 := (blk_cell B5.out 5).trans rfl; have f5 := frozen_of_row w5 g5 5 _ _ B5.out)
    | ((with_reducible refine gate_dst (N := 25) rfl ?_); refine wpList_load_row rfl 27 (.tmp 5) rfl g5 rfl 27 _ (0, 0) _ (show (w5.setCell ⟨g5, 5, none⟩ (.int .i64 300)).heap[g5]? = some (.cells (pcs lateP none 0 none 0 none 0) 27 (0, 0)) from (heap_setCell_same _ g5 5 _ _ _ B5.out).trans rfl) Try.underlying27 rfl info_prod ?_)
    | (go_at_call 14; (with_reducible refine (DL.out _ (But.below HB.out HB.out.size ge5 ((But.of (Below.refl w5.heap.size w5)).setCell (p := ⟨g5, 5, none⟩) (Or.inl rfl) _))).mono ?_); rintro e w6 ⟨⟨A0, c0, rfl⟩, hb⟩; have HB := Aside0.mk (below_step (But.below HB.out HB.out.size ge5 ((But.of (Below.refl w5.heap.size w5)).setCell (p := ⟨g5, 5, none⟩) (Or.inl rfl) _)) hb); clear hb)
    | ((with_reducible refine gate_dst (N := 9) rfl ?_); refine copy_event rfl (N := 9) rfl rfl rfl (t := 27) (v := .tmp 30) rfl (cs := plainC) (zs := pzs) ?hr rfl rfl info_prod ?hz plainC_one ?_; (case hr => first | (go_simp; done) | (go_simp; rfl)); (case hz => rfl); intro g9 hg w9 hb0 hb; have ge9 := (show w.heap.size ≤ g9 by rw [hg]; exact HB.out.size); clear hg; have B9 := Aside0.mk hb0; have HB := Aside0.mk (below_step HB.out hb); clear hb0 hb; have u17 := (blk_cell B9.out 17).trans rfl; have f17 := frozen_of_row w9 g9 17 _ _ B9.out))
  have H9 : (w9.setCell ⟨g9, 17, none⟩ (.int .i64 2)).heap[g9]? = some (.cells (pcs (restP []) none 0 none 0 none 0) 27 (0, 0)) := (heap_setCell_same _ g9 17 _ _ _ B9.out).trans rfl
  have HB9 := (But.below HB.out HB.out.size ge9 ((But.of (Below.refl w9.heap.size w9)).setCell (p := ⟨g9, 17, none⟩) (Or.inl rfl) (.int .i64 2)))
  have hlt9 := blk_lt H9
  generalize w9.setCell ⟨g9, 17, none⟩ (.int .i64 2) = W0 at *
  have H9 := Aside0.mk H9
  have HB := Aside0.mk HB9
  clear u5 f5 u17 f17 B5 B9 HB9 DL
  go_loopg [10] 46 (fun gq iv w' => ∃ (k : Nat) (l : List Int) (A : Option Addr) (c : Nat), k ≤ 45 ∧ iv = .int .i64 (k : Int) ∧ Aside0 (l.length = k) ∧ Aside0 (gq = 46 - k) ∧ Aside0 (l = row45 (19748 + m) k) ∧ Aside0 (Kd.R (Kd.int .i64) 3 w' w.heap.size (fun b => b ≠ g9) (.slice A l.length c) l) ∧ Aside0 (w'.heap[g9]? = some (.cells (pcs (restP l) none 0 none 0 A c) 27 (0, 0))) ∧ Aside0 (Below w.heap.size w w'))
  case atStart => exact ⟨0, [], none, 0, by omega, rfl, ⟨rfl⟩, ⟨rfl⟩, ⟨rfl⟩, ⟨Kd.R_nil _ _ _ _ _⟩, H9, HB⟩
  case round =>
    obtain ⟨k, l, A, c, hk, rfl, hlen, hgq, hl, hr, hb9, hbel⟩ := hrel
    by_cases hlt : k < 45
    · have u18 : wr.cell? ⟨g9, 18, none⟩ = some (.slice A l.length c) := (blk_cell hb9.out 18).trans rfl
      have hk45 : (k : Int) < 45 := by omega
      have g9lt := blk_lt hb9.out
      have gsz := hbel.out.size
      have hx0 : 0 ≤ 19748 + m + (k : Int) := by omega
      go_wp2_with ((with_reducible refine gate_builtin (b := .append) (xs := #[.tmp 42, .tmp 46]) rfl ?_); at_builtin; refine Kd.R_append (Kd.int .i64) (w0 := w) w.heap.size rfl (.tmp 42) (.tmp 46) 25 3 (.int .i64 0) 8 rfl Try.underlying25 info_int rfl (by decide) (by omega) (.slice A l.length c) l (19748 + m + (k : Int)) [.int .i64 (19748 + m + (k : Int))] (fun b => b ≠ g9) (fun _ => False) rfl rfl ?aP (fun _ hk => hk.elim) ?aF ?aO ?aB ?aS ?aL ?_; (case aP => exact rfl); (case aF => exact fun b hb => by omega); (case aO => exact hr.out); (case aB => exact hbel.out); (case aS => exact gsz); (case aL => have := hlen.out; omega); intro v1 w11 hr1 hb1 hg1 hat1; obtain ⟨l2, hl2⟩ : ∃ l2, l2 = l ++ [19748 + m + (k : Int)] := ⟨_, rfl⟩; rw [← hl2] at hr1; obtain ⟨gn, cn, rfl⟩ := R_slice hr1 (by rw [hl2]; simp); have L2 := Aside0.mk hl2; clear hl2; have R1 := Aside0.mk hr1; have HB1 := Aside0.mk hb1; have HK := Aside0.mk ((hg1.block g9 g9lt (fun e => hr.out.1 g9 e.symm rfl)).trans hb9.out); clear hr1 hb1 hg1 hat1; have v18 : w11.cell? ⟨g9, 18, none⟩ = some (.slice A l.length c) := (blk_cell HK.out 18).trans rfl; have f18 := frozen_of_row w11 g9 18 _ _ HK.out)
      have hlen2 : l2.length = k + 1 := by rw [L2.out, List.length_append, hlen.out]; rfl
      have L3 := Aside0.mk hlen2
      clear hlen2
      go_roundg (46 - (k + 1))
      case measure => have := hgq.out; omega
      case rel => exact ⟨k + 1, l2, some ⟨gn, 0, none⟩, cn, by omega, by simp, L3, ⟨rfl⟩, ⟨by rw [L2.out, hl.out, row45_succ]⟩, ⟨Kd.R_far R1.out (fun b hb => hb) _⟩, ⟨(heap_setCell_same _ g9 18 _ _ _ HK.out).trans rfl⟩, ⟨But.below HB1.out HB1.out.size ge9 ((But.of (Below.refl w11.heap.size w11)).setCell (p := ⟨g9, 18, none⟩) (Or.inl rfl) _)⟩⟩
    · obtain rfl : k = 45 := by omega
      have hl45 := hl.out
      have hln := hlen.out
      have DQ := Aside0.mk (fun W (hb : Below wr.heap.size wr W) => days_zero (restP l) none 0 none 0 A c 19723 W (HG.out.below (below_step hbel.out hb)) ((restAt hr.out (by omega) (by omega)).below hb) (small_rest (by omega)) 11 (by rw [hl45]; exact rest_days m0 m1))
      have PQ := Aside0.mk (fun W (hb : Below wr.heap.size wr W) => parts_err (restP l) none 0 none 0 A c 19723 W (HG.out.below (below_step hbel.out hb)) ((restAt hr.out (by omega) (by omega)).below hb) (small_rest (by omega)) 11 (by decide) (by rw [hl45]; exact rest_days m0 m1))
      have U := Aside0.mk (Below.refl wr.heap.size wr)
      have G9 := hb9
      clear hl45 hln hl hlen hr hgq H9 hb9
      go_wp2_with (first
        | ((with_reducible refine gate_dst (N := 50) rfl ?_); refine wpList_load_row rfl 27 (.tmp 9) rfl g9 rfl 27 _ (0, 0) _ G9.out Try.underlying27 rfl info_prod ?_)
        | (go_at_call 14; first
          | ((with_reducible refine (DQ.out _ U.out).mono ?_); rintro e w12 ⟨⟨A1, c1, rfl⟩, hb⟩; have U := Aside0.mk (below_step U.out hb); have G9 := Aside0.mk (Pd.blk_below G9.out hb); clear hb)
          | ((with_reducible refine (DZ.out _ (below_step hbel.out U.out)).mono ?_); rintro e w13 ⟨⟨A2, c2, rfl⟩, hb⟩; have U := Aside0.mk (below_step U.out hb); have G9 := Aside0.mk (Pd.blk_below G9.out hb); clear hb))
        | ((with_reducible refine gate_dst (N := 55) rfl ?_); refine build_event rfl (t := 27) rfl (cs := pzs) ?hb ?_; (case hb => simp only [List.map_toArray, List.map_cons, List.map_nil]; exact built_zero2))
        | ((with_reducible refine gate_dst (N := 60) rfl ?_); refine wpList_load_row rfl 27 (.tmp 9) rfl g9 rfl 27 _ (0, 0) _ G9.out Try.underlying27 rfl info_prod ?_)
        | (go_at_call 16; (with_reducible refine (PQ.out _ U.out).mono ?_); rintro e w14 ⟨rfl, hb⟩; have U := Aside0.mk (below_step U.out hb); clear hb)
        | (go_at_call 11; (with_reducible refine (AW.out _ (below_step hbel.out U.out)).mono ?_); rintro e w15 ⟨rfl, hb⟩; have U := Aside0.mk (below_step U.out hb); clear hb))
      go_ret
      exact ⟨rfl, below_step hbel.out U.out⟩
end Go.Proofs.Ytcfpkkgdofblfaa.Du
