/- Texts of this claim, joined in build order. -/
import Derived.Below
import Derived.Deep.Draws
import Derived.Deep.AppendLies
import Derived.Maps.AppendAt
import Derived.OwnWalk
import Derived.Laws.BytesArg
import Derived.Laws.MakeOwn
import Derived.Laws.OwnMore
import Derived.Tactics
import Derived.Lib.ConvBytes
import Derived.Laws.Slices
import Derived.WalkKit
import Derived.KernelRfl
import Derived.RowKit3
import Derived.Deep.LoopGhost
import Derived.Deep.QuietTactic
import Derived.BigQuiet
import Derived.WideLaws
import Derived.Deep.DeepCutAuto
import Derived.Deep.CutBlock
import Derived.Deep.RegionHeld3
import Derived.Lib.AppendStr
import Derived.ArgAppend
import Derived.Laws.IdiomCopy
import Derived.RowKit
import Derived.OrdersHeld
import Derived.Laws.BitsLemmas
import Derived.Test.YtfmkdledofbhdaaProg
import Derived.Laws.StructEq
import Derived.WalkLawsBesides
import Derived.WalkSpells
import Derived.IntWalk
import Derived.Lib.IndexMore
import Derived.Deep.Slices
import Derived.Deep.Fields
import Derived.ChangeSame
import Derived.Lib.SmallJoins
import Derived.ProofKit
import Derived.Defers
import Derived.Laws.Tables
import Derived.Deep.WholeRow
import Derived.Recover
import Derived.StillTailTactics
import Derived.Shelf.Small.Bits
import Derived.Shelf.Strconv.Itoa0
import Derived.Shelf.Strings.Search1
import Derived.Shelf.Strings.Search2
import Derived.Shelf.Strings.Search3
import Derived.Shelf.LaysM
import Derived.Shelf.Strings.Shaped
import Derived.Shelf.Bits.Mul64
import Derived.Lib.SlBytesConst
import Derived.Deep.RegionWith
import Derived.Lib.Hide
import Derived.BigFrame
import Derived.Lib.BitFns
import Derived.Laws.BitsAllLaws
import Derived.Laws.Externs
import Derived.RegionTactic
import Derived.Deep.MidRow
import Derived.OpenShut
import Derived.ShutString
import Derived.ChangeOld
import Derived.Laws.IdiomArrays
import Derived.SizedLaws
import Derived.HandedShaped
import Derived.Shelf.Vars
import Derived.Test.YtfmkdledofbhdaaJL1
import Derived.Test.YtfmkdledofbhdaaJL2
import Derived.Test.YtfmkdledofbhdaaJL3
import Derived.Test.YtfmkdledofbhdaaJL4
set_option linter.unusedVariables false
set_option linter.unusedSimpArgs false
/- Contracts by hand: a product's late fees are looked at. -/
namespace Go.Proofs.Ytfmkdledofbhdaa.Pd
open Go.RowKit Go.Proofs.YtfmkdledofbhdaaW.PrintWords Go.Proofs.YtfmkdledofbhdaaW.PrintLast Go.Proofs.YtfmkdledofbhdaaW.PrintMore Go.Proofs.Ytfmkdledofbhdaa.HW
open Pm
set_option linter.unusedVariables false
set_option linter.unusedSimpArgs false


set_option maxRecDepth 100000 in
set_option maxHeartbeats 2000000 in
theorem late_1 (p : Prod) (A1 : Option Addr) (c1 : Nat) (A2 : Option Addr) (c2 : Nat) (A3 : Option Addr) (c3 : Nat) (w : World) (q8 : decide ((p.late.length : Int) ≤ 8) = false) :
    Calls Try.prog 64 #[pv p A1 c1 A2 c2 A3 c3] w (fun e w' => e = refusedE ∧ Below w.heap.size w w') := by
  go_enter Try.func64, Try.ntmps64
  go_wp2_with (first
    | ((with_reducible refine gate_dst (N := 1) rfl ?_); refine box_event ?hg (N := 1) ?hd (cs := pcs p A1 c1 A2 c2 A3 c3) (t := 103) ?hr ?_; (case hd => rfl); (case hg => rfl); (case hr => first | (go_simp; done) | (go_simp; rfl)); intro g1 hg w1 hb1 hbl1; clear hg)
    | ((with_reducible refine gate_dst (N := 6) rfl ?_); refine wpList_load_row rfl 27 (.tmp 5) rfl g1 rfl 103 _ (0, 0) _ hb1 Try.underlying27 rfl info_prod ?_)
    | ((with_reducible refine gate_dst (N := 2) rfl ?_); refine copy_event rfl (N := 2) rfl rfl rfl (t := 27) (v := .tmp 6) rfl (cs := pcs p A1 c1 A2 c2 A3 c3) (zs := pzs) ?hr rfl rfl info_prod ?hz (pcs_one _ _ _ _ _ _ _) ?_; (case hr => first | (go_simp; done) | (go_simp; rfl)); (case hz => rfl); intro g2 hg w2 hb2 hbl2; have g2lt := blk_lt hb2; have g2ge := (show w.heap.size ≤ g2 by rw [hg]; exact hbl1.size); clear hg; have HB2 := Aside0.mk hb2; have BL2 := Aside0.mk (below_step hbl1 hbl2); clear hb1 hbl1 hbl2; have QQ := Aside0.mk (pc_cells hb2); clear hb2; obtain ⟨-, -, -, -, -, -, -, -, -, -, -, -, -, -, -, q15, q16, -⟩ := QQ.out))
  go_wp2_with fail
  refine (must_no _).mono ?_
  rintro e w' ⟨rfl, rfl⟩
  exact ⟨rfl, rfl, BL2.out⟩

set_option maxRecDepth 100000 in
set_option maxHeartbeats 2000000 in
theorem late_2 (p : Prod) (A1 : Option Addr) (c1 : Nat) (A2 : Option Addr) (c2 : Nat) (A3 : Option Addr) (c3 : Nat) (w : World) (q8 : decide ((p.late.length : Int) ≤ 8) = true) (hn : p.late.length ≤ 8) (ha : decide (0 ≤ p.cap ∧ p.cap ≤ 10000000000000) = false) :
    Calls Try.prog 64 #[pv p A1 c1 A2 c2 A3 c3] w (fun e w' => e = refusedE ∧ Below w.heap.size w w') := by
  have HA := Aside0.mk ha
  clear ha
  go_enter Try.func64, Try.ntmps64
  go_wp2_with (first
    | ((with_reducible refine gate_dst (N := 1) rfl ?_); refine box_event ?hg (N := 1) ?hd (cs := pcs p A1 c1 A2 c2 A3 c3) (t := 103) ?hr ?_; (case hd => rfl); (case hg => rfl); (case hr => first | (go_simp; done) | (go_simp; rfl)); intro g1 hg w1 hb1 hbl1; clear hg)
    | ((with_reducible refine gate_dst (N := 6) rfl ?_); refine wpList_load_row rfl 27 (.tmp 5) rfl g1 rfl 103 _ (0, 0) _ hb1 Try.underlying27 rfl info_prod ?_)
    | ((with_reducible refine gate_dst (N := 2) rfl ?_); refine copy_event rfl (N := 2) rfl rfl rfl (t := 27) (v := .tmp 6) rfl (cs := pcs p A1 c1 A2 c2 A3 c3) (zs := pzs) ?hr rfl rfl info_prod ?hz (pcs_one _ _ _ _ _ _ _) ?_; (case hr => first | (go_simp; done) | (go_simp; rfl)); (case hz => rfl); intro g2 hg w2 hb2 hbl2; have g2lt := blk_lt hb2; have g2ge := (show w.heap.size ≤ g2 by rw [hg]; exact hbl1.size); clear hg; have HB2 := Aside0.mk hb2; have BL2 := Aside0.mk (below_step hbl1 hbl2); clear hb1 hbl1 hbl2; have QQ := Aside0.mk (pc_cells hb2); clear hb2; obtain ⟨-, -, -, -, -, -, -, -, -, -, -, -, -, -, -, q15, q16, -⟩ := QQ.out))
  go_wp2_with fail
  refine (within_l_is HA.out _).mono ?_
  rintro e w' ⟨rfl, rfl⟩
  go_wp2_with fail
  refine (must_no _).mono ?_
  rintro e w' ⟨rfl, rfl⟩
  exact ⟨rfl, rfl, BL2.out⟩

set_option maxRecDepth 100000 in
set_option maxHeartbeats 2000000 in
theorem late_3 (p : Prod) (A1 : Option Addr) (c1 : Nat) (A2 : Option Addr) (c2 : Nat) (A3 : Option Addr) (c3 : Nat) (w : World) (q8 : decide ((p.late.length : Int) ≤ 8) = true) (hn : p.late.length ≤ 8) (ha : decide (0 ≤ p.cap ∧ p.cap ≤ 10000000000000) = true) (q0 : p.late.length = 0) (q1 : (p.cap == 0) = false) :
    Calls Try.prog 64 #[pv p A1 c1 A2 c2 A3 c3] w (fun e w' => e = refusedE ∧ Below w.heap.size w w') := by
  have HA := Aside0.mk ha
  have HQ0 := Aside0.mk q0
  clear ha q0
  go_enter Try.func64, Try.ntmps64
  go_wp2_with (first
    | ((with_reducible refine gate_dst (N := 1) rfl ?_); refine box_event ?hg (N := 1) ?hd (cs := pcs p A1 c1 A2 c2 A3 c3) (t := 103) ?hr ?_; (case hd => rfl); (case hg => rfl); (case hr => first | (go_simp; done) | (go_simp; rfl)); intro g1 hg w1 hb1 hbl1; clear hg)
    | ((with_reducible refine gate_dst (N := 6) rfl ?_); refine wpList_load_row rfl 27 (.tmp 5) rfl g1 rfl 103 _ (0, 0) _ hb1 Try.underlying27 rfl info_prod ?_)
    | ((with_reducible refine gate_dst (N := 2) rfl ?_); refine copy_event rfl (N := 2) rfl rfl rfl (t := 27) (v := .tmp 6) rfl (cs := pcs p A1 c1 A2 c2 A3 c3) (zs := pzs) ?hr rfl rfl info_prod ?hz (pcs_one _ _ _ _ _ _ _) ?_; (case hr => first | (go_simp; done) | (go_simp; rfl)); (case hz => rfl); intro g2 hg w2 hb2 hbl2; have g2lt := blk_lt hb2; have g2ge := (show w.heap.size ≤ g2 by rw [hg]; exact hbl1.size); clear hg; have HB2 := Aside0.mk hb2; have BL2 := Aside0.mk (below_step hbl1 hbl2); clear hb1 hbl1 hbl2; have QQ := Aside0.mk (pc_cells hb2); clear hb2; obtain ⟨-, -, -, -, -, -, -, -, -, -, -, -, -, -, -, q15, q16, -⟩ := QQ.out))
  go_wp2_with fail
  refine (within_l_is HA.out _).mono ?_
  rintro e w' ⟨rfl, rfl⟩
  have q0 := HQ0.out
  go_wp2_with fail
  refine (must_no _).mono ?_
  rintro e w' ⟨rfl, rfl⟩
  exact ⟨rfl, rfl, BL2.out⟩

set_option maxRecDepth 100000 in
set_option maxHeartbeats 2000000 in
theorem late_4 (p : Prod) (A1 : Option Addr) (c1 : Nat) (A2 : Option Addr) (c2 : Nat) (A3 : Option Addr) (c3 : Nat) (w : World) (q8 : decide ((p.late.length : Int) ≤ 8) = true) (hn : p.late.length ≤ 8) (ha : decide (0 ≤ p.cap ∧ p.cap ≤ 10000000000000) = true) (q0 : 0 < p.late.length) (hr : Op.IntRows w A2 2 p.late) (bb : Bool) (hbb : tiersOk 0 0 p.late = bb) :
    Calls Try.prog 64 #[pv p A1 c1 A2 c2 A3 c3] w (LookE bb w) := by
  have HA := Aside0.mk ha
  have HR := Aside0.mk hr
  have HBB := Aside0.mk hbb
  clear ha hr hbb
  go_enter Try.func64, Try.ntmps64
  go_wp2_with (first
    | ((with_reducible refine gate_dst (N := 1) rfl ?_); refine box_event ?hg (N := 1) ?hd (cs := pcs p A1 c1 A2 c2 A3 c3) (t := 103) ?hr ?_; (case hd => rfl); (case hg => rfl); (case hr => first | (go_simp; done) | (go_simp; rfl)); intro g1 hg w1 hb1 hbl1; clear hg)
    | ((with_reducible refine gate_dst (N := 6) rfl ?_); refine wpList_load_row rfl 27 (.tmp 5) rfl g1 rfl 103 _ (0, 0) _ hb1 Try.underlying27 rfl info_prod ?_)
    | ((with_reducible refine gate_dst (N := 2) rfl ?_); refine copy_event rfl (N := 2) rfl rfl rfl (t := 27) (v := .tmp 6) rfl (cs := pcs p A1 c1 A2 c2 A3 c3) (zs := pzs) ?hr rfl rfl info_prod ?hz (pcs_one _ _ _ _ _ _ _) ?_; (case hr => first | (go_simp; done) | (go_simp; rfl)); (case hz => rfl); intro g2 hg w2 hb2 hbl2; have g2lt := blk_lt hb2; have g2ge := (show w.heap.size ≤ g2 by rw [hg]; exact hbl1.size); clear hg; have HB2 := Aside0.mk hb2; have BL2 := Aside0.mk (below_step hbl1 hbl2); clear hb1 hbl1 hbl2; have QQ := Aside0.mk (pc_cells hb2); clear hb2; obtain ⟨-, -, -, -, -, -, -, -, -, -, -, -, -, -, -, q15, q16, -⟩ := QQ.out))
  go_wp2_with fail
  refine (within_l_is HA.out _).mono ?_
  rintro e w' ⟨rfl, rfl⟩
  all_goals
    go_wp2_with fail
    refine (must_yes _).mono ?_
    rintro e w' ⟨rfl, rfl⟩
    go_wp2_with fail
    go_loopg [31] (p.late.length + 1) (fun gq i w' => ∃ (k : Nat), k ≤ p.late.length ∧ i = .int .i64 k ∧ Aside0 (gq = p.late.length + 1 - k) ∧ Aside0 (tiersOk (prevOf 0 0 p.late k) (prevOf 0 1 p.late k) (p.late.drop k) = bb) ∧ Aside0 (Below w.heap.size w w' ∧ Below w2.heap.size w2 w'))
    case atStart => exact ⟨0, Nat.zero_le _, rfl, ⟨rfl⟩, ⟨by rw [← HBB.out]; rfl⟩, ⟨BL2.out, Below.refl _ _⟩⟩
    case round =>
      obtain ⟨k, hk, rfl, hgq, hq, hbl⟩ := hrel
      by_cases hlt : k < p.late.length
      · obtain ⟨ad, x, y, e0, hrow, q0', q1', wx, wy⟩ := two_at (HR.out.below hbl.out.1) k hlt
        subst e0
        have hcs := hq.out
        rw [drop_row hrow] at hcs
        simp only [tiersOk] at hcs
        simp only [List.getD_cons_zero, List.getD_cons_succ] at hcs
        have hprev := prevOf_succ (d := 0) (j := 0) hrow
        have hprev1 := prevOf_succ (d := 0) (j := 1) hrow
        simp only [List.getD_cons_zero, List.getD_cons_succ] at hprev hprev1
        have HPREV := Aside0.mk hprev
        have HPREV1 := Aside0.mk hprev1
        have adlt := cell_ltR q0'
        obtain ⟨bx0, bx1⟩ := wf_bd wx
        obtain ⟨by0, by1⟩ := wf_bd wy
        have HB3 := Aside0.mk (blk_below HB2.out hbl.out.2)
        have g2l := blk_lt HB3.out
        have kk0 : (0 : Int) ≤ (k : Int) := by omega
        have kk1 : (k : Int) < (p.late.length : Int) := by omega
        have QP : Aside0 (0 < k → ∃ x' y', p.late[k - 1]? = some [x', y'] ∧ wr.cell? (ad.add ((k - 1) * 2)) = some (.int .i64 x') ∧ wr.cell? ⟨(ad.add ((k - 1) * 2)).block, (ad.add ((k - 1) * 2)).off + 1, none⟩ = some (.int .i64 y')) := ⟨fun h0 => by
          obtain ⟨ad', x', y', e', hrow', c', d', _⟩ := two_at (HR.out.below hbl.out.1) (k - 1) (by omega)
          obtain rfl : ad = ad' := Option.some.inj e'
          exact ⟨x', y', hrow', c', d'⟩⟩
        clear hq hrow hprev hprev1 wx wy q15 q16
        by_cases h1 : 1 ≤ x ∧ x ≤ 365
        · have H1 := Aside0.mk (decide_eq_true h1)
          by_cases h2 : 0 ≤ y ∧ y ≤ 10000000000000
          · have H2 := Aside0.mk (decide_eq_true h2)
            go_wp2_with (first
              | ((with_reducible refine gate_dst (N := 4) rfl ?_); refine copy_event3 rfl (N := 4) rfl rfl rfl rfl (t := 131) (v := .tmp 35) rfl (cs := #[.int .i64 x, .int .i64 y]) (zs := #[.int .i64 0, .int .i64 0]) (vm := .int .i64 k) ?hr ?hrm rfl rfl info_tier ?hz (two_one _ _) ?_; (case hr => first | (go_simp; done) | (go_simp; rfl)); (case hrm => intro W'; first | (go_simp; done) | (go_simp; rfl)); (case hz => rfl); intro g4 hg w4 hb4 hbl4; have g4lt := blk_lt hb4; clear hg; have z0 : w4.cell? ⟨g4, 0, none⟩ = some (.int .i64 x) := (blk_cell hb4 0).trans rfl; have z1 : w4.cell? ⟨g4, 1, none⟩ = some (.int .i64 y) := (blk_cell hb4 1).trans rfl; have HB5 := Aside0.mk (blk_below HB3.out hbl4); have BL4 := Aside0.mk (And.intro (below_step hbl.out.1 hbl4) (below_step hbl.out.2 hbl4)); have HBL4 := Aside0.mk hbl4; clear hb4 hbl4)
              | (go_at_call 87; refine (within_i_is H1.out _).mono ?_; rintro e w' ⟨rfl, rfl⟩)
              | (go_at_call 88; refine (within_l_is H2.out _).mono ?_; rintro e w' ⟨rfl, rfl⟩)
              | (go_at_call 85; refine (must_yes _).mono ?_; rintro e w' ⟨rfl, rfl⟩))
            obtain ⟨-, -, -, -, -, -, -, -, -, -, -, -, -, -, -, q15, -⟩ := pc_cells HB5.out
            by_cases h0 : k = 0
            · have hb2 : tiersOk x y (p.late.drop (k + 1)) = bb := by
                rw [← hcs, decide_eq_true (show 1 ≤ x ∧ x ≤ 365 ∧ 0 ≤ y ∧ y ≤ 10000000000000 ∧ prevOf 0 0 p.late k < x ∧ prevOf 0 1 p.late k ≤ y from ⟨h1.1, h1.2, h2.1, h2.2, by have := h1.1; unfold prevOf; rw [if_pos h0]; omega, by have := h2.1; unfold prevOf; rw [if_pos h0]; omega⟩), Bool.true_and]
              have HB2' := Aside0.mk hb2
              have kz : ((k : Int) == 0) = true := by rw [h0]; rfl
              clear hcs hb2 h1 h2 h0
              go_quiet ((go_at_call 85; refine (must_yes _).mono ?_; rintro e w' ⟨rfl, rfl⟩; exact ⟨rfl, _, rfl⟩))
              go_wp2_with fail
              go_roundg (p.late.length + 1 - (k + 1))
              case measure => have := hgq.out; omega
              case rel => exact ⟨k + 1, by omega, by simp, ⟨rfl⟩, ⟨by rw [HPREV.out, HPREV1.out]; exact HB2'.out⟩, ⟨pw_below_drewN BL4.out.1 _, pw_below_drewN BL4.out.2 _⟩⟩
            · obtain ⟨x', y', hrow', c0', d0'⟩ := QP.out (by omega)
              have c' : w4.cell? (ad.add ((k - 1) * 2)) = some (.int .i64 x') := by rw [HBL4.out.cell (cell_ltR c0')]; exact c0'
              have d' : w4.cell? ⟨(ad.add ((k - 1) * 2)).block, (ad.add ((k - 1) * 2)).off + 1, none⟩ = some (.int .i64 y') := by rw [HBL4.out.cell (cell_ltR d0')]; exact d0'
              have hpv := prevOf_pos (d := 0) (j := 0) (Nat.pos_of_ne_zero h0) hrow'
              have hpw := prevOf_pos (d := 0) (j := 1) (Nat.pos_of_ne_zero h0) hrow'
              simp only [List.getD_cons_zero, List.getD_cons_succ] at hpv hpw
              have kz : ((k : Int) == 0) = false := by rw [beq_eq_false_iff_ne]; omega
              have ew2 : IntKind.i64.wrap ((k : Int) - 1) = (k : Int) - 1 := IntWalk.i64_in _ (by omega)
              have kk2 : (0 : Int) ≤ (k : Int) - 1 := by omega
              have kk3 : (k : Int) - 1 < (p.late.length : Int) := by omega
              have kk4 : (1 : Int) ≤ (k : Int) := by omega
              have ek : ((k : Int) - 1).toNat = k - 1 := by omega
              clear c0' d0'
              by_cases h3 : x' < x
              · have h3d : decide (x' < x) = true := decide_eq_true h3
                by_cases h4 : y' ≤ y
                · have h4d : decide (y' ≤ y) = true := decide_eq_true h4
                  have hb2 : tiersOk x y (p.late.drop (k + 1)) = bb := by
                    rw [← hcs, decide_eq_true (show 1 ≤ x ∧ x ≤ 365 ∧ 0 ≤ y ∧ y ≤ 10000000000000 ∧ prevOf 0 0 p.late k < x ∧ prevOf 0 1 p.late k ≤ y from ⟨h1.1, h1.2, h2.1, h2.2, by rw [hpv]; exact h3, by rw [hpw]; exact h4⟩), Bool.true_and]
                  have HB2' := Aside0.mk hb2
                  clear hcs hb2 h1 h2 h0 hpv hpw hrow'
                  go_quiet ((go_at_call 85; refine (must_yes _).mono ?_; rintro e w' ⟨rfl, rfl⟩; exact ⟨rfl, _, rfl⟩))
                  clear ew2 ek
                  go_wp2_with fail
                  go_roundg (p.late.length + 1 - (k + 1))
                  case measure => have := hgq.out; omega
                  case rel => exact ⟨k + 1, by omega, by simp, ⟨rfl⟩, ⟨by rw [HPREV.out, HPREV1.out]; exact HB2'.out⟩, ⟨pw_below_drewN BL4.out.1 _, pw_below_drewN BL4.out.2 _⟩⟩
                · have h4d : decide (y' ≤ y) = false := decide_eq_false h4
                  have hbf : bb = false := by
                    rw [← hcs, decide_eq_false (fun h => h4 (by have := h.2.2.2.2.2; rw [hpw] at this; exact this)), Bool.false_and]
                  subst hbf
                  have h5 : y < y' := by omega
                  clear hcs h1 h2 h0 hpv hpw hrow' h4
                  refine wp_region_still_tail 26 (by kernel_rfl) (by kernel_rfl) ?_
                  simp only [List.take_succ_cons, List.take_zero, List.drop_succ_cons, List.drop_zero]
                  iterate 26 ((with_reducible refine wpStill_step (fun K hK => ?_)); go_simp; (try simp only [undef, reduceCtorEq, if_false]); (with_reducible refine hK _ ?_); clear hK K)
                  (with_reducible refine wpStill_nil ?_)
                  go_wp2_with ((go_at_call 85; refine (must_no _).mono ?_; rintro e w' ⟨rfl, rfl⟩))
                  exact ⟨rfl, LookE.no ⟨rfl, BL4.out.1.drew⟩⟩
              · have h3d : decide (x' < x) = false := decide_eq_false h3
                have hbf : bb = false := by
                  rw [← hcs, decide_eq_false (fun h => h3 (by have := h.2.2.2.2.1; rw [hpv] at this; exact this)), Bool.false_and]
                subst hbf
                have h5 : x ≤ x' := by omega
                clear hcs h1 h2 h0 hpv hpw hrow' h3
                refine wp_region_still_tail 26 (by kernel_rfl) (by kernel_rfl) ?_
                simp only [List.take_succ_cons, List.take_zero, List.drop_succ_cons, List.drop_zero]
                iterate 26 ((with_reducible refine wpStill_step (fun K hK => ?_)); go_simp; (try simp only [undef, reduceCtorEq, if_false]); (with_reducible refine hK _ ?_); clear hK K)
                (with_reducible refine wpStill_nil ?_)
                go_wp2_with ((go_at_call 85; refine (must_no _).mono ?_; rintro e w' ⟨rfl, rfl⟩))
                exact ⟨rfl, LookE.no ⟨rfl, BL4.out.1.drew⟩⟩
          · have hbf : bb = false := by
              rw [← hcs, decide_eq_false (fun h => h2 ⟨h.2.2.1, h.2.2.2.1⟩), Bool.false_and]
            subst hbf
            have H2 := Aside0.mk (decide_eq_false h2)
            clear hcs h1 h2
            go_wp2_with (first
              | ((with_reducible refine gate_dst (N := 4) rfl ?_); refine copy_event3 rfl (N := 4) rfl rfl rfl rfl (t := 131) (v := .tmp 35) rfl (cs := #[.int .i64 x, .int .i64 y]) (zs := #[.int .i64 0, .int .i64 0]) (vm := .int .i64 k) ?hr ?hrm rfl rfl info_tier ?hz (two_one _ _) ?_; (case hr => first | (go_simp; done) | (go_simp; rfl)); (case hrm => intro W'; first | (go_simp; done) | (go_simp; rfl)); (case hz => rfl); intro g4 hg w4 hb4 hbl4; have g4lt := blk_lt hb4; clear hg; have z0 : w4.cell? ⟨g4, 0, none⟩ = some (.int .i64 x) := (blk_cell hb4 0).trans rfl; have z1 : w4.cell? ⟨g4, 1, none⟩ = some (.int .i64 y) := (blk_cell hb4 1).trans rfl; have HB5 := Aside0.mk (blk_below HB3.out hbl4); have BL4 := Aside0.mk (And.intro (below_step hbl.out.1 hbl4) (below_step hbl.out.2 hbl4)); have HBL4 := Aside0.mk hbl4; clear hb4 hbl4)
              | (go_at_call 87; refine (within_i_is H1.out _).mono ?_; rintro e w' ⟨rfl, rfl⟩)
              | (go_at_call 88; refine (within_l_is H2.out _).mono ?_; rintro e w' ⟨rfl, rfl⟩)
              | (go_at_call 85; refine (must_no _).mono ?_; rintro e w' ⟨rfl, rfl⟩))
            exact ⟨rfl, LookE.no ⟨rfl, BL4.out.1⟩⟩
        · have hbf : bb = false := by
            rw [← hcs, decide_eq_false (fun h => h1 ⟨h.1, h.2.1⟩), Bool.false_and]
          subst hbf
          have H1 := Aside0.mk (decide_eq_false h1)
          clear hcs h1
          go_wp2_with (first
            | ((with_reducible refine gate_dst (N := 4) rfl ?_); refine copy_event3 rfl (N := 4) rfl rfl rfl rfl (t := 131) (v := .tmp 35) rfl (cs := #[.int .i64 x, .int .i64 y]) (zs := #[.int .i64 0, .int .i64 0]) (vm := .int .i64 k) ?hr ?hrm rfl rfl info_tier ?hz (two_one _ _) ?_; (case hr => first | (go_simp; done) | (go_simp; rfl)); (case hrm => intro W'; first | (go_simp; done) | (go_simp; rfl)); (case hz => rfl); intro g4 hg w4 hb4 hbl4; have g4lt := blk_lt hb4; clear hg; have z0 : w4.cell? ⟨g4, 0, none⟩ = some (.int .i64 x) := (blk_cell hb4 0).trans rfl; have z1 : w4.cell? ⟨g4, 1, none⟩ = some (.int .i64 y) := (blk_cell hb4 1).trans rfl; have HB5 := Aside0.mk (blk_below HB3.out hbl4); have BL4 := Aside0.mk (And.intro (below_step hbl.out.1 hbl4) (below_step hbl.out.2 hbl4)); have HBL4 := Aside0.mk hbl4; clear hb4 hbl4)
            | (go_at_call 87; refine (within_i_is H1.out _).mono ?_; rintro e w' ⟨rfl, rfl⟩)
            | (go_at_call 88; refine (within_l_is H1.out _).mono ?_; rintro e w' ⟨rfl, rfl⟩)
            | (go_at_call 85; refine (must_no _).mono ?_; rintro e w' ⟨rfl, rfl⟩))
          exact ⟨rfl, LookE.no ⟨rfl, BL4.out.1⟩⟩
      · have hk2 : k = p.late.length := by omega
        subst hk2
        have hcs := hq.out
        rw [List.drop_length] at hcs
        obtain rfl : true = bb := hcs
        clear hq
        go_wp2_with fail
        go_end0
        exact LookE.yes ⟨rfl, hbl.out.1⟩

set_option maxRecDepth 100000 in
set_option maxHeartbeats 1000000 in
theorem late_5 (p : Prod) (A1 : Option Addr) (c1 : Nat) (A2 : Option Addr) (c2 : Nat) (A3 : Option Addr) (c3 : Nat) (w : World) (q8 : decide ((p.late.length : Int) ≤ 8) = true) (hn : p.late.length ≤ 8) (ha : decide (0 ≤ p.cap ∧ p.cap ≤ 10000000000000) = true) (q0 : p.late.length = 0) (q1 : (p.cap == 0) = true) :
    Calls Try.prog 64 #[pv p A1 c1 A2 c2 A3 c3] w (fun e w' => e = .returned (.tuple #[]) ∧ Below w.heap.size w w') := by
  have HA := Aside0.mk ha
  have HQ0 := Aside0.mk q0
  clear ha q0
  go_enter Try.func64, Try.ntmps64
  go_wp2_with (first
    | ((with_reducible refine gate_dst (N := 1) rfl ?_); refine box_event ?hg (N := 1) ?hd (cs := pcs p A1 c1 A2 c2 A3 c3) (t := 103) ?hr ?_; (case hd => rfl); (case hg => rfl); (case hr => first | (go_simp; done) | (go_simp; rfl)); intro g1 hg w1 hb1 hbl1; clear hg)
    | ((with_reducible refine gate_dst (N := 6) rfl ?_); refine wpList_load_row rfl 27 (.tmp 5) rfl g1 rfl 103 _ (0, 0) _ hb1 Try.underlying27 rfl info_prod ?_)
    | ((with_reducible refine gate_dst (N := 2) rfl ?_); refine copy_event rfl (N := 2) rfl rfl rfl (t := 27) (v := .tmp 6) rfl (cs := pcs p A1 c1 A2 c2 A3 c3) (zs := pzs) ?hr rfl rfl info_prod ?hz (pcs_one _ _ _ _ _ _ _) ?_; (case hr => first | (go_simp; done) | (go_simp; rfl)); (case hz => rfl); intro g2 hg w2 hb2 hbl2; have g2lt := blk_lt hb2; have g2ge := (show w.heap.size ≤ g2 by rw [hg]; exact hbl1.size); clear hg; have HB2 := Aside0.mk hb2; have BL2 := Aside0.mk (below_step hbl1 hbl2); clear hb1 hbl1 hbl2; have QQ := Aside0.mk (pc_cells hb2); clear hb2; obtain ⟨-, -, -, -, -, -, -, -, -, -, -, -, -, -, -, q15, q16, -⟩ := QQ.out))
  go_wp2_with fail
  refine (within_l_is HA.out _).mono ?_
  rintro e w' ⟨rfl, rfl⟩
  have q0 := HQ0.out
  go_wp2_with fail
  refine (must_yes _).mono ?_
  rintro e w' ⟨rfl, rfl⟩
  go_wp2_with fail
  go_loopg [31] 1 (fun gq i w' => i = .int .i64 0 ∧ w' = w2)
  case atStart => exact ⟨rfl, rfl⟩
  case round =>
    obtain ⟨rfl, rfl⟩ := hrel
    go_wp2_with fail
    go_end0
    exact ⟨rfl, BL2.out⟩
/-- A product's late fees are looked at. -/
theorem late_any (p : Prod) (A1 : Option Addr) (c1 : Nat) (A2 : Option Addr) (c2 : Nat) (A3 : Option Addr) (c3 : Nat) (w : World) (hr : Op.IntRows w A2 2 p.late) (hm : p.late.length ≤ 1000000) :
    Calls Try.prog 64 #[pv p A1 c1 A2 c2 A3 c3] w (LookE (lateOk p) w) := by
  unfold lateOk
  by_cases hn : p.late.length ≤ 8
  case neg =>
    rw [decide_eq_false (fun h => hn h.1), Bool.false_and]
    exact (late_1 p A1 c1 A2 c2 A3 c3 w (decide_eq_false (by omega))).mono fun e w' h => LookE.no h
  have hn' : decide ((p.late.length : Int) ≤ 8) = true := decide_eq_true (by omega)
  by_cases ha : 0 ≤ p.cap ∧ p.cap ≤ 10000000000000
  case neg =>
    rw [decide_eq_false (fun h => ha h.2.1), Bool.false_and]
    exact (late_2 p A1 c1 A2 c2 A3 c3 w hn' hn (decide_eq_false ha)).mono fun e w' h => LookE.no h
  by_cases hb : p.late = [] → p.cap = 0
  case neg =>
    rw [decide_eq_false (fun h => hb h.2.2), Bool.false_and]
    have h1 : p.late = [] := by
      cases hl : p.late with
      | nil => rfl
      | cons a l => exact absurd (fun h => by rw [hl] at h; cases h) hb
    have h2 : ¬ p.cap = 0 := fun h => hb (fun _ => h)
    exact (late_3 p A1 c1 A2 c2 A3 c3 w hn' hn (decide_eq_true ha) (by rw [h1]; rfl) (beqf h2)).mono fun e w' h => LookE.no h
  rw [decide_eq_true (show _ from ⟨hn, ha, hb⟩), Bool.true_and]
  by_cases h0 : p.late.length = 0
  · have h1 : p.late = [] := List.eq_nil_of_length_eq_zero h0
    have e1 : tiersOk 0 0 p.late = true := by rw [h1]; rfl
    rw [e1]
    exact (late_5 p A1 c1 A2 c2 A3 c3 w hn' hn (decide_eq_true ha) h0 (beqt (hb h1))).mono fun e w' h => LookE.yes h
  · exact late_4 p A1 c1 A2 c2 A3 c3 w hn' hn (decide_eq_true ha) (by omega) hr _ rfl
end Go.Proofs.Ytfmkdledofbhdaa.Pd
/- Contracts by hand: a product's days are looked at. -/
namespace Go.Proofs.Ytfmkdledofbhdaa.Pd
open Go.RowKit Go.Proofs.YtfmkdledofbhdaaW.PrintWords Go.Proofs.YtfmkdledofbhdaaW.PrintLast Go.Proofs.YtfmkdledofbhdaaW.PrintMore Go.Proofs.Ytfmkdledofbhdaa.HW
open Pm
set_option linter.unusedVariables false
set_option linter.unusedSimpArgs false


set_option maxRecDepth 100000 in
set_option maxHeartbeats 2000000 in
theorem days_1 (p : Prod) (A1 : Option Addr) (c1 : Nat) (A2 : Option Addr) (c2 : Nat) (A3 : Option Addr) (c3 : Nat) (w : World) (hr : Kd.C (Kd.int .i64) w A3 p.hol.length p.hol) (hl : p.hol.length ≤ c3) (hn0 : A3 = none → c3 = 0) (hm : p.hol.length ≤ 1000000) (he : (if (decide (p.hol.length ≤ 200) && holsOk (-25568) p.hol) = true then (0 : Int) else 1) = 1) :
    Calls Try.prog 65 #[pv p A1 c1 A2 c2 A3 c3] w fun e w' => e = refusedE ∧ Below w.heap.size w w' := by
  have HR := Aside0.mk hr
  have HE := Aside0.mk he
  clear hr he
  go_enter Try.func65, Try.ntmps65
  go_wp2_with ((with_reducible refine gate_dst (N := 1) rfl ?_); refine box_event ?hg (N := 1) ?hd (cs := pcs p A1 c1 A2 c2 A3 c3) (t := 103) ?hr ?_; (case hd => rfl); (case hg => rfl); (case hr => first | (go_simp; done) | (go_simp; rfl)); intro g1 hg w1 hb1 hbl1; have g1lt := blk_lt hb1; clear hg; have HB1 := Aside0.mk hb1; have BL1 := Aside0.mk hbl1; clear hbl1; have q18 := (pc_cells hb1).2.2.2.2.2.2.2.2.2.2.2.2.2.2.2.2.2.2; clear hb1)
  refine (Nw.new_any A3 c3 p.hol _ (Kd.C_below HR.out BL1.out) hl hn0 hm).mono ?_
  rintro e w3 ⟨hb, q, rfl⟩
  rw [HE.out]
  have BL3 := Aside0.mk (below_step BL1.out hb)
  obtain ⟨-, -, -, -, -, -, -, -, -, -, -, -, -, -, -, -, -, q17, q18'⟩ := pc_cells (blk_below HB1.out hb)
  clear hb BL1 HB1 q18
  go_wp2_with fail
  refine (must_no _).mono ?_
  rintro e w' ⟨rfl, rfl⟩
  exact ⟨rfl, rfl, BL3.out⟩

set_option maxRecDepth 100000 in
set_option maxHeartbeats 2000000 in
theorem days_2 (p : Prod) (A1 : Option Addr) (c1 : Nat) (A2 : Option Addr) (c2 : Nat) (A3 : Option Addr) (c3 : Nat) (w : World) (hr : Kd.C (Kd.int .i64) w A3 p.hol.length p.hol) (hl : p.hol.length ≤ c3) (hn0 : A3 = none → c3 = 0) (hm : p.hol.length ≤ 1000000) (he : (if (decide (p.hol.length ≤ 200) && holsOk (-25568) p.hol) = true then (0 : Int) else 1) = 0) (ha : decide (1 ≤ p.roll ∧ p.roll ≤ 4) = false) :
    Calls Try.prog 65 #[pv p A1 c1 A2 c2 A3 c3] w fun e w' => e = refusedE ∧ Below w.heap.size w w' := by
  have HR := Aside0.mk hr
  have HE := Aside0.mk he
  have HA := Aside0.mk ha
  clear hr he ha
  go_enter Try.func65, Try.ntmps65
  go_wp2_with ((with_reducible refine gate_dst (N := 1) rfl ?_); refine box_event ?hg (N := 1) ?hd (cs := pcs p A1 c1 A2 c2 A3 c3) (t := 103) ?hr ?_; (case hd => rfl); (case hg => rfl); (case hr => first | (go_simp; done) | (go_simp; rfl)); intro g1 hg w1 hb1 hbl1; have g1lt := blk_lt hb1; clear hg; have HB1 := Aside0.mk hb1; have BL1 := Aside0.mk hbl1; clear hbl1; have q18 := (pc_cells hb1).2.2.2.2.2.2.2.2.2.2.2.2.2.2.2.2.2.2; clear hb1)
  refine (Nw.new_any A3 c3 p.hol _ (Kd.C_below HR.out BL1.out) hl hn0 hm).mono ?_
  rintro e w3 ⟨hb, q, rfl⟩
  rw [HE.out]
  have BL3 := Aside0.mk (below_step BL1.out hb)
  obtain ⟨-, -, -, -, -, -, -, -, -, -, -, -, -, -, -, -, -, q17, q18'⟩ := pc_cells (blk_below HB1.out hb)
  clear hb BL1 HB1 q18
  go_wp2_with fail
  refine (within_i_is HA.out _).mono ?_
  rintro e w' ⟨rfl, rfl⟩
  go_wp2_with fail
  refine (must_no _).mono ?_
  rintro e w' ⟨rfl, rfl⟩
  exact ⟨rfl, rfl, BL3.out⟩

set_option maxRecDepth 100000 in
set_option maxHeartbeats 2000000 in
theorem days_3 (p : Prod) (A1 : Option Addr) (c1 : Nat) (A2 : Option Addr) (c2 : Nat) (A3 : Option Addr) (c3 : Nat) (w : World) (hr : Kd.C (Kd.int .i64) w A3 p.hol.length p.hol) (hl : p.hol.length ≤ c3) (hn0 : A3 = none → c3 = 0) (hm : p.hol.length ≤ 1000000) (he : (if (decide (p.hol.length ≤ 200) && holsOk (-25568) p.hol) = true then (0 : Int) else 1) = 0) (ha : decide (1 ≤ p.roll ∧ p.roll ≤ 4) = true) (r1 : (p.roll != 1) = true) :
    Calls Try.prog 65 #[pv p A1 c1 A2 c2 A3 c3] w fun e w' => e = .returned (.tuple #[]) ∧ Below w.heap.size w w' := by
  have HR := Aside0.mk hr
  have HE := Aside0.mk he
  have HA := Aside0.mk ha
  clear hr he ha
  go_enter Try.func65, Try.ntmps65
  go_wp2_with ((with_reducible refine gate_dst (N := 1) rfl ?_); refine box_event ?hg (N := 1) ?hd (cs := pcs p A1 c1 A2 c2 A3 c3) (t := 103) ?hr ?_; (case hd => rfl); (case hg => rfl); (case hr => first | (go_simp; done) | (go_simp; rfl)); intro g1 hg w1 hb1 hbl1; have g1lt := blk_lt hb1; clear hg; have HB1 := Aside0.mk hb1; have BL1 := Aside0.mk hbl1; clear hbl1; have q18 := (pc_cells hb1).2.2.2.2.2.2.2.2.2.2.2.2.2.2.2.2.2.2; clear hb1)
  refine (Nw.new_any A3 c3 p.hol _ (Kd.C_below HR.out BL1.out) hl hn0 hm).mono ?_
  rintro e w3 ⟨hb, q, rfl⟩
  rw [HE.out]
  have BL3 := Aside0.mk (below_step BL1.out hb)
  obtain ⟨-, -, -, -, -, -, -, -, -, -, -, -, -, -, -, -, -, q17, q18'⟩ := pc_cells (blk_below HB1.out hb)
  clear hb BL1 HB1 q18
  go_wp2_with fail
  refine (within_i_is HA.out _).mono ?_
  rintro e w' ⟨rfl, rfl⟩
  go_wp2_with fail
  refine (must_yes _).mono ?_
  rintro e w' ⟨rfl, rfl⟩
  go_wp2_with fail
  go_end0
  exact ⟨rfl, BL3.out⟩

set_option maxRecDepth 100000 in
set_option maxHeartbeats 2000000 in
theorem days_4 (p : Prod) (A1 : Option Addr) (c1 : Nat) (A2 : Option Addr) (c2 : Nat) (A3 : Option Addr) (c3 : Nat) (w : World) (hr : Kd.C (Kd.int .i64) w A3 p.hol.length p.hol) (hl : p.hol.length ≤ c3) (hn0 : A3 = none → c3 = 0) (hm : p.hol.length ≤ 1000000) (he : (if (decide (p.hol.length ≤ 200) && holsOk (-25568) p.hol) = true then (0 : Int) else 1) = 0) (ha : decide (1 ≤ p.roll ∧ p.roll ≤ 4) = true) (r1 : (p.roll != 1) = false) (hz : p.hol.length = 0) :
    Calls Try.prog 65 #[pv p A1 c1 A2 c2 A3 c3] w fun e w' => e = .returned (.tuple #[]) ∧ Below w.heap.size w w' := by
  have HR := Aside0.mk hr
  have HE := Aside0.mk he
  have HA := Aside0.mk ha
  have HZ := Aside0.mk hz
  clear hr he ha hz
  go_enter Try.func65, Try.ntmps65
  go_wp2_with ((with_reducible refine gate_dst (N := 1) rfl ?_); refine box_event ?hg (N := 1) ?hd (cs := pcs p A1 c1 A2 c2 A3 c3) (t := 103) ?hr ?_; (case hd => rfl); (case hg => rfl); (case hr => first | (go_simp; done) | (go_simp; rfl)); intro g1 hg w1 hb1 hbl1; have g1lt := blk_lt hb1; clear hg; have HB1 := Aside0.mk hb1; have BL1 := Aside0.mk hbl1; clear hbl1; have q18 := (pc_cells hb1).2.2.2.2.2.2.2.2.2.2.2.2.2.2.2.2.2.2; clear hb1)
  refine (Nw.new_any A3 c3 p.hol _ (Kd.C_below HR.out BL1.out) hl hn0 hm).mono ?_
  rintro e w3 ⟨hb, q, rfl⟩
  rw [HE.out]
  have BL3 := Aside0.mk (below_step BL1.out hb)
  obtain ⟨-, -, -, -, -, -, -, -, -, -, -, -, -, -, -, -, -, q17, q18'⟩ := pc_cells (blk_below HB1.out hb)
  clear hb BL1 HB1 q18
  go_wp2_with fail
  refine (within_i_is HA.out _).mono ?_
  rintro e w' ⟨rfl, rfl⟩
  have hz := HZ.out
  go_wp2_with fail
  refine (must_yes _).mono ?_
  rintro e w' ⟨rfl, rfl⟩
  go_wp2_with fail
  go_end0
  exact ⟨rfl, BL3.out⟩

set_option maxRecDepth 100000 in
set_option maxHeartbeats 2000000 in
theorem days_5 (p : Prod) (A1 : Option Addr) (c1 : Nat) (A2 : Option Addr) (c2 : Nat) (A3 : Option Addr) (c3 : Nat) (w : World) (hr : Kd.C (Kd.int .i64) w A3 p.hol.length p.hol) (hl : p.hol.length ≤ c3) (hn0 : A3 = none → c3 = 0) (hm : p.hol.length ≤ 1000000) (he : (if (decide (p.hol.length ≤ 200) && holsOk (-25568) p.hol) = true then (0 : Int) else 1) = 0) (ha : decide (1 ≤ p.roll ∧ p.roll ≤ 4) = true) (r1 : (p.roll != 1) = false) (hz : ((p.hol.length : Int) == 0) = false) :
    Calls Try.prog 65 #[pv p A1 c1 A2 c2 A3 c3] w fun e w' => e = refusedE ∧ Below w.heap.size w w' := by
  have HR := Aside0.mk hr
  have HE := Aside0.mk he
  have HA := Aside0.mk ha
  have HZ := Aside0.mk hz
  clear hr he ha hz
  go_enter Try.func65, Try.ntmps65
  go_wp2_with ((with_reducible refine gate_dst (N := 1) rfl ?_); refine box_event ?hg (N := 1) ?hd (cs := pcs p A1 c1 A2 c2 A3 c3) (t := 103) ?hr ?_; (case hd => rfl); (case hg => rfl); (case hr => first | (go_simp; done) | (go_simp; rfl)); intro g1 hg w1 hb1 hbl1; have g1lt := blk_lt hb1; clear hg; have HB1 := Aside0.mk hb1; have BL1 := Aside0.mk hbl1; clear hbl1; have q18 := (pc_cells hb1).2.2.2.2.2.2.2.2.2.2.2.2.2.2.2.2.2.2; clear hb1)
  refine (Nw.new_any A3 c3 p.hol _ (Kd.C_below HR.out BL1.out) hl hn0 hm).mono ?_
  rintro e w3 ⟨hb, q, rfl⟩
  rw [HE.out]
  have BL3 := Aside0.mk (below_step BL1.out hb)
  obtain ⟨-, -, -, -, -, -, -, -, -, -, -, -, -, -, -, -, -, q17, q18'⟩ := pc_cells (blk_below HB1.out hb)
  clear hb BL1 HB1 q18
  go_wp2_with fail
  refine (within_i_is HA.out _).mono ?_
  rintro e w' ⟨rfl, rfl⟩
  have hz := HZ.out
  go_wp2_with fail
  refine (must_no _).mono ?_
  rintro e w' ⟨rfl, rfl⟩
  exact ⟨rfl, rfl, BL3.out⟩

/-- A product's days are looked at. -/
theorem days_any (p : Prod) (A1 : Option Addr) (c1 : Nat) (A2 : Option Addr) (c2 : Nat) (A3 : Option Addr) (c3 : Nat) (w : World) (hr : Kd.C (Kd.int .i64) w A3 p.hol.length p.hol) (hl : p.hol.length ≤ c3) (hn : A3 = none → c3 = 0) (hm : p.hol.length ≤ 1000000) :
    Calls Try.prog 65 #[pv p A1 c1 A2 c2 A3 c3] w (LookE (daysOk p) w) := by
  cases hb : (decide (p.hol.length ≤ 200) && holsOk (-25568) p.hol) with
  | false =>
    have e1 : daysOk p = false := by
      rw [Bool.and_eq_false_iff] at hb
      unfold daysOk
      rcases hb with h | h
      · rw [decide_eq_false (fun h2 => by rw [decide_eq_true h2.1] at h; cases h), Bool.false_and]
      · rw [h, Bool.and_false]
    rw [e1]
    exact (days_1 p A1 c1 A2 c2 A3 c3 w hr hl hn hm (by rw [hb]; rfl)).mono fun e w' h => LookE.no h
  | true =>
    have he : (if (decide (p.hol.length ≤ 200) && holsOk (-25568) p.hol) = true then (0 : Int) else 1) = 0 := by rw [hb]; rfl
    rw [Bool.and_eq_true] at hb
    have h200 := of_decide_eq_true hb.1
    unfold daysOk
    rw [hb.2, Bool.and_true]
    by_cases ha : 1 ≤ p.roll ∧ p.roll ≤ 4
    case neg =>
      rw [decide_eq_false (fun h => ha h.2.1)]
      exact (days_2 p A1 c1 A2 c2 A3 c3 w hr hl hn hm he (decide_eq_false ha)).mono fun e w' h => LookE.no h
    by_cases h1 : p.roll = 1
    · have r1 : (p.roll != 1) = false := by rw [h1]; rfl
      by_cases hz : p.hol.length = 0
      · rw [decide_eq_true (show _ from ⟨h200, ha, fun _ => List.eq_nil_of_length_eq_zero hz⟩)]
        exact (days_4 p A1 c1 A2 c2 A3 c3 w hr hl hn hm he (decide_eq_true ha) r1 hz).mono fun e w' h => LookE.yes h
      · rw [decide_eq_false (fun h => hz (by rw [h.2.2 h1]; rfl))]
        exact (days_5 p A1 c1 A2 c2 A3 c3 w hr hl hn hm he (decide_eq_true ha) r1 (beqf (by omega))).mono fun e w' h => LookE.no h
    · rw [decide_eq_true (show _ from ⟨h200, ha, fun h => absurd h h1⟩)]
      exact (days_3 p A1 c1 A2 c2 A3 c3 w hr hl hn hm he (decide_eq_true ha) (by simpa using h1)).mono fun e w' h => LookE.yes h
end Go.Proofs.Ytfmkdledofbhdaa.Pd
/- Contracts by hand: a product is looked at. -/
namespace Go.Proofs.Ytfmkdledofbhdaa.Pd
open Go.RowKit Go.Proofs.YtfmkdledofbhdaaW.PrintWords Go.Proofs.YtfmkdledofbhdaaW.PrintLast Go.Proofs.YtfmkdledofbhdaaW.PrintMore Go.Proofs.Ytfmkdledofbhdaa.HW
open Pm
set_option linter.unusedVariables false
set_option linter.unusedSimpArgs false
/-- What does not recover is walked as1 ever. -/
theorem rest_plainP {P : Program} {c : Code} {Q0 : Exit → Act → List Frame → World → Prop} {a : Act} {cs : List Frame} {w : World}
    (h : ∀ Q : Exit → Act → World → Prop, Aside0 (∀ e a' w', Q0 e a' cs w' → Q e a' w') → c.wp P Q a w) : c.wpS P Q0 a cs w :=
  wpS_of_wp (h _ ⟨fun _ _ _ x => x⟩)
theorem check_idle (pe : Addr) (w : World) :
    CallsD Try.prog 60 #[.pointer (some pe)] .returning w fun e u' w' => e = .returned (.tuple #[]) ∧ u' = .returning ∧ w' = w := by
  refine callsD_of_wpS Try.func60 rfl fun c₀ cs hu => ?_
  simp only [Try.ntmps60, List.size_toArray, List.length_cons, List.length_nil, Nat.reduceAdd, Nat.reduceSub, Array.replicate_succ, Array.replicate_zero, List.push_toArray, List.append_toArray, List.nil_append, List.cons_append]
  apply wpS_seq
  apply wpS_region
  simp [wpOpsS, go_sem, recoverD, hu, Exit.thenS]
  refine rest_plainP fun Q HQ => ?_
  go_wp2
  refine HQ.out _ _ _ ?_
  clear HQ
  simp [bodyPostS, results, Try.results60, hu]
  cases c₀
  simp_all
theorem check_thrown (pe : Addr) (y : Int) (older : List PanicEntry) (w : World) (hy : w.cell? pe = some (.int .i64 y)) (fy : w.frozen? pe = false) :
    CallsD Try.prog 60 #[.pointer (some pe)] (.panicking ({ v := .iface 101 (.agg #[]), recovered := false } :: older)) w fun e u' w' =>
      e = .returned (.tuple #[]) ∧ u' = .panicking ({ v := .iface 101 (.agg #[]), recovered := true } :: older) ∧ w' = (w.alloc (.cells #[] 101)).setCell pe (.int .i64 9) := by
  refine callsD_of_wpS Try.func60 rfl fun c₀ cs hu => ?_
  simp only [Try.ntmps60, List.size_toArray, List.length_cons, List.length_nil, Nat.reduceAdd, Nat.reduceSub, Array.replicate_succ, Array.replicate_zero, List.push_toArray, List.append_toArray, List.nil_append, List.cons_append]
  apply wpS_seq
  apply wpS_region
  simp [wpOpsS, go_sem, recoverD, hu, Exit.thenS]
  refine rest_plainP fun Q HQ => ?_
  have hta : ∀ w, (Instr.typeAssert (.iface 101 (.agg #[])) 20 101 true).run Try.prog w = .ok (.tuple #[.agg #[], .bool true]) w := fun _ => by kernel_rfl
  have hlt := cell_ltR hy
  have hb := (Below.refl w.heap.size w).alloc (Nat.le_refl _) (.cells #[] 101)
  have hy2 : (w.alloc (.cells #[] 101)).cell? pe = some (.int .i64 y) := by rw [hb.cell hlt]; exact hy
  have fy2 : (w.alloc (.cells #[] 101)).frozen? pe = false := by rw [hb.frozen hlt]; exact fy
  clear hb
  go_wp2
  refine HQ.out _ _ _ ?_
  clear HQ
  simp [bodyPostS, results, Try.results60, hu]
/-- The result's cell. -/
structure Res1 (w W : World) (g : Nat) (x : Value) : Prop where
  below : Below w.heap.size w W
  ge : w.heap.size ≤ g
  c0 : W.cell? ⟨g, 0, none⟩ = some x
  f0 : W.frozen? ⟨g, 0, none⟩ = false
theorem Res1.lt {w W : World} {g : Nat} {x : Value} (h : Res1 w W g x) : g < W.heap.size := cell_ltR h.c0
theorem Res1.step {w W W' : World} {g : Nat} {x : Value} (h : Res1 w W g x) (hb : Below W.heap.size W W') : Res1 w W' g x :=
  ⟨below_step h.below hb, h.ge, by rw [hb.cell (by exact h.lt)]; exact h.c0, by rw [hb.frozen (by exact h.lt)]; exact h.f0⟩
theorem Res1.of {w W : World} {g : Nat} {cs : Array Value} {x : Value} {t : TypeId} (hb : Below w.heap.size w W) (hg : w.heap.size ≤ g) (h : W.heap[g]? = some (.cells cs t (0, 0))) (hx : cs[0]? = some x) : Res1 w W g x :=
  ⟨hb, hg, (blk_cell h 0).trans hx, frozen_of_row W g 0 _ _ h⟩
theorem built_looks (p : Prod) (A1 : Option Addr) (c1 : Nat) (A2 : Option Addr) (c2 : Nat) (A3 : Option Addr) (c3 : Nat) :
    Try.prog.built 103 [(0, .agg (pcs p A1 c1 A2 c2 A3 c3))] = some (pcs p A1 c1 A2 c2 A3 c3) := by kernel_rfl
section
variable {P : Program} {ops : Array Oper} {rest : List Oper} {a : Act} {Q : Exit → Act → World → Prop}
theorem build_event {W : World} {o : Oper} (hg : o.guard = none) {t : TypeId} {parts : Array (Nat × Operand)} (ho : o.op = .build t parts) {cs : Array Value}
    (hb : P.built t ((parts.map fun (i, x) => (i, a.eval x)).toList) = some cs) (h : wpList P ops Q rest (a.put o.dst (.agg cs)) W) : wpList P ops Q (o :: rest) a W :=
  wpList_build hg t parts ho (by rw [hb]; rfl) (by rw [hb]; exact h)
end
end Go.Proofs.Ytfmkdledofbhdaa.Pd
/- Contracts by hand: a product is looked at, all of it. -/
namespace Go.Proofs.Ytfmkdledofbhdaa.Pd
open Go.RowKit Go.Proofs.YtfmkdledofbhdaaW.PrintWords Go.Proofs.YtfmkdledofbhdaaW.PrintLast Go.Proofs.YtfmkdledofbhdaaW.PrintMore Go.Proofs.Ytfmkdledofbhdaa.HW
open Pm
set_option linter.unusedVariables false
set_option linter.unusedSimpArgs false
theorem times_of {p : Prod} (h : shapeOk p = true) : 1 ≤ p.times ∧ p.times ≤ 600 := by
  unfold shapeOk at h
  rw [Bool.and_eq_true] at h
  exact (of_decide_eq_true h.2).2.2.2.2.1
theorem put_cell {w W : World} {g : Nat} {x : Value} (R : Res1 w W g x) (v : Value) (t : TypeId) : ((W.alloc (.cells #[] t)).setCell ⟨g, 0, none⟩ v).cell? ⟨g, 0, none⟩ = some v :=
  World.cell?_setCell_same _ _ _ (by rw [((Below.refl W.heap.size W).alloc (Nat.le_refl _) (.cells #[] t)).cell (by exact R.lt)]; exact R.c0)
theorem put_below {w W : World} {g : Nat} {x : Value} (R : Res1 w W g x) (v : Value) (t : TypeId) : Below w.heap.size w ((W.alloc (.cells #[] t)).setCell ⟨g, 0, none⟩ v) :=
  (R.below.alloc R.below.size _).setCell (by exact R.ge) _
/-- The looks, one behind the other. -/
abbrev lookC (p : Prod) (A1 : Option Addr) (c1 : Nat) (A2 : Option Addr) (c2 : Nat) (A3 : Option Addr) (c3 : Nat) : Array Value :=
  #[.func (.func 61) #[.agg (pcs p A1 c1 A2 c2 A3 c3)] #[], .func (.func 62) #[.agg (pcs p A1 c1 A2 c2 A3 c3)] #[], .func (.func 63) #[.agg (pcs p A1 c1 A2 c2 A3 c3)] #[], .func (.func 64) #[.agg (pcs p A1 c1 A2 c2 A3 c3)] #[], .func (.func 65) #[.agg (pcs p A1 c1 A2 c2 A3 c3)] #[]]
set_option maxRecDepth 100000 in
set_option maxHeartbeats 2000000 in
theorem check_any (p : Prod) (A1 : Option Addr) (c1 : Nat) (A2 : Option Addr) (c2 : Nat) (A3 : Option Addr) (c3 : Nat) (w : World) (hg : GV w) (hp : ProdAt w p A1 c1 A2 c2 A3 c3) (hs : Small p) :
    Calls Try.prog 33 #[pv p A1 c1 A2 c2 A3 c3] w fun e w' => e = .returned (.int .i64 (err p)) ∧ Below w.heap.size w w' := by
  have HG := Aside0.mk hg
  have HP := Aside0.mk hp
  have HS := Aside0.mk hs
  clear hg hp hs
  go_enter_defers Try.func33, Try.ntmps33
  go_wp2_with (first
    | ((with_reducible refine gate_dst (N := 1) rfl ?_); refine box_event ?hg (N := 1) ?hd (cs := pcs p A1 c1 A2 c2 A3 c3) (t := 27) ?hr ?_; (case hd => rfl); (case hg => rfl); (case hr => first | (go_simp; done) | (go_simp; rfl)); intro g1 hg w1 hb1 hbl1; clear hg; have HB1 := Aside0.mk hb1; have BL1 := Aside0.mk hbl1; clear hb1 hbl1)
    | ((with_reducible refine gate_dst (N := 2) rfl ?_); refine box_event ?hg (N := 2) ?hd (cs := #[.int .i64 0]) (t := 31) ?hr ?_; (case hd => rfl); (case hg => rfl); (case hr => first | (go_simp; done) | (go_simp; rfl)); intro g2 hg w2 hb2 hbl2; have g2ge := (show w.heap.size ≤ g2 by rw [hg]; exact BL1.out.size); clear hg; have R2 := Aside0.mk (Res1.of (below_step BL1.out hbl2) g2ge hb2 rfl); have HB2 := blk_below HB1.out hbl2; clear HB1 BL1 hb2 hbl2)
    | ((with_reducible refine gate_dst (N := 7) rfl ?_); refine wpList_load_row rfl 27 (.tmp 1) rfl g1 rfl 27 _ (0, 0) _ HB2 Try.underlying27 rfl info_prod ?_; clear HB2)
    | ((with_reducible refine gate_dst (N := 8) rfl ?_); refine build_event rfl (t := 103) rfl (cs := pcs p A1 c1 A2 c2 A3 c3) ?hb ?_; (case hb => simp only [List.map_toArray, List.map_cons, List.map_nil]; exact built_looks p A1 c1 A2 c2 A3 c3))
    | ((with_reducible refine gate_dst (N := 3) rfl ?_); refine copy_event rfl (N := 3) rfl rfl rfl (t := 103) (v := .tmp 8) rfl (cs := pcs p A1 c1 A2 c2 A3 c3) (zs := pzs) ?hr rfl rfl info_looks ?hz (pcs_one _ _ _ _ _ _ _) ?_; (case hr => first | (go_simp; done) | (go_simp; rfl)); (case hz => rfl); intro g3 hg w3 HB3 hbl3; clear hg; have R3 := Aside0.mk (R2.out.step hbl3); clear hbl3 R2)
    | ((with_reducible refine gate_dst (N := 9) rfl ?_); refine wpList_load_row rfl 103 (.tmp 3) rfl g3 rfl 103 _ (0, 0) _ HB3 Try.underlying103 rfl info_looks ?_)
    | ((with_reducible refine gate_dst (N := 11) rfl ?_); refine wpList_load_row rfl 103 (.tmp 3) rfl g3 rfl 103 _ (0, 0) _ HB3 Try.underlying103 rfl info_looks ?_)
    | ((with_reducible refine gate_dst (N := 13) rfl ?_); refine wpList_load_row rfl 103 (.tmp 3) rfl g3 rfl 103 _ (0, 0) _ HB3 Try.underlying103 rfl info_looks ?_)
    | ((with_reducible refine gate_dst (N := 15) rfl ?_); refine wpList_load_row rfl 103 (.tmp 3) rfl g3 rfl 103 _ (0, 0) _ HB3 Try.underlying103 rfl info_looks ?_)
    | ((with_reducible refine gate_dst (N := 17) rfl ?_); refine wpList_load_row rfl 103 (.tmp 3) rfl g3 rfl 103 _ (0, 0) _ HB3 Try.underlying103 rfl info_looks ?_)
    | ((with_reducible refine gate_dst (N := 19) rfl ?_); refine Hid.out ?_))
  refine Lib.hid ?_
  clear HB3
  refine Kd.event_run rfl (v := .slice (some ⟨w3.heap.size, 0, none⟩) 5 5) (w1 := w3.alloc (.cells (lookC p A1 c1 A2 c2 A3 c3) 1 (0, 0))) ?hr ?_
  case hr => first | (go_simp; done) | (go_simp; rfl)
  go_frame
  obtain ⟨g4, w4, hg4, hw4⟩ : ∃ g4 w4, g4 = w3.heap.size ∧ w4 = w3.alloc (.cells (lookC p A1 c1 A2 c2 A3 c3) 1 (0, 0)) := ⟨_, _, rfl, rfl⟩
  rw [← hg4, ← hw4]
  have hb4 : w4.heap[g4]? = some (.cells (lookC p A1 c1 A2 c2 A3 c3) 1 (0, 0)) := by rw [hg4, hw4]; exact heap_alloc_new _ _
  have hbl4 : Below w3.heap.size w3 w4 := by rw [hw4]; exact (Below.refl _ _).alloc (Nat.le_refl _) _
  have R := Aside0.mk (R3.out.step hbl4)
  have HB := Aside0.mk hb4
  have q0 : w4.cell? ⟨g4, 0, none⟩ = some (.func (.func 61) #[.agg (pcs p A1 c1 A2 c2 A3 c3)] #[]) := (blk_cell hb4 0).trans rfl
  clear hg4 hw4 hb4 hbl4 R3
  go_wp2_with fail
  refine wp_loop_rounds 6 ?_
  rw [rounds_succ]
  go_wp2_with fail
  refine (shape_any p A1 c1 A2 c2 A3 c3 _ (HG.out.below R.out.below)).mono ?_
  rintro e v0 ⟨hy, hn, hb⟩
  have RN := Aside0.mk (R.out.step hb)
  have HBN := Aside0.mk (blk_below HB.out hb)
  clear R HB
  have R := RN
  have HB := HBN
  clear RN HBN hb q0
  cases hk0 : shapeOk p with
  | false =>
    obtain rfl := hn hk0
    clear hy hn
    have c0 := R.out.c0
    have f0 := R.out.f0
    have e9 : err p = 9 := by unfold err ok; rw [hk0]; simp
    have E9 := Aside0.mk e9
    clear e9
    refine leaves_cons (f := 60) (args := #[.pointer (some ⟨g2, 0, none⟩)]) (by simp) (by simp [go_sem]) ?_
    refine (check_thrown ⟨g2, 0, none⟩ 0 [] _ c0 f0).mono ?_
    rintro e u' w'' ⟨rfl, rfl, rfl⟩
    have c9 := put_cell R.out (.int .i64 9) 101
    simp [Leaves, settle, results, Try.results33, go_sem, c9, E9.out]
    exact put_below R.out _ _
  | true =>
    obtain rfl := hy hk0
    clear hy hn
    have q1 : v0.cell? ⟨g4, 1, none⟩ = some (.func (.func 62) #[.agg (pcs p A1 c1 A2 c2 A3 c3)] #[]) := (blk_cell HB.out 1).trans rfl
    obtain ⟨t1, t2⟩ := times_of hk0
    go_wp2_with fail
    rw [rounds_succ]
    go_wp2_with fail
    refine (rates_any p A1 c1 A2 c2 A3 c3 _ t1 t2 (HP.out.below R.out.below).r1 HS.out.s1).mono ?_
    rintro e v1 ⟨hy, hn, hb⟩
    have RN := Aside0.mk (R.out.step hb)
    have HBN := Aside0.mk (blk_below HB.out hb)
    clear R HB
    have R := RN
    have HB := HBN
    clear RN HBN hb q1
    cases hk1 : ratesOk p with
    | false =>
      obtain rfl := hn hk1
      clear hy hn
      have c0 := R.out.c0
      have f0 := R.out.f0
      have e9 : err p = 9 := by unfold err ok; rw [hk1]; simp
      have E9 := Aside0.mk e9
      clear e9
      refine leaves_cons (f := 60) (args := #[.pointer (some ⟨g2, 0, none⟩)]) (by simp) (by simp [go_sem]) ?_
      refine (check_thrown ⟨g2, 0, none⟩ 0 [] _ c0 f0).mono ?_
      rintro e u' w'' ⟨rfl, rfl, rfl⟩
      have c9 := put_cell R.out (.int .i64 9) 101
      simp [Leaves, settle, results, Try.results33, go_sem, c9, E9.out]
      exact put_below R.out _ _
    | true =>
      obtain rfl := hy hk1
      clear hy hn
      have q2 : v1.cell? ⟨g4, 2, none⟩ = some (.func (.func 63) #[.agg (pcs p A1 c1 A2 c2 A3 c3)] #[]) := (blk_cell HB.out 2).trans rfl
      go_wp2_with fail
      rw [rounds_succ]
      go_wp2_with fail
      refine (order_any p A1 c1 A2 c2 A3 c3 _).mono ?_
      rintro e v2 ⟨hy, hn, hb⟩
      have RN := Aside0.mk (R.out.step hb)
      have HBN := Aside0.mk (blk_below HB.out hb)
      clear R HB
      have R := RN
      have HB := HBN
      clear RN HBN hb q2
      cases hk2 : ordOk p with
      | false =>
        obtain rfl := hn hk2
        clear hy hn
        have c0 := R.out.c0
        have f0 := R.out.f0
        have e9 : err p = 9 := by unfold err ok; rw [hk2]; simp
        have E9 := Aside0.mk e9
        clear e9
        refine leaves_cons (f := 60) (args := #[.pointer (some ⟨g2, 0, none⟩)]) (by simp) (by simp [go_sem]) ?_
        refine (check_thrown ⟨g2, 0, none⟩ 0 [] _ c0 f0).mono ?_
        rintro e u' w'' ⟨rfl, rfl, rfl⟩
        have c9 := put_cell R.out (.int .i64 9) 101
        simp [Leaves, settle, results, Try.results33, go_sem, c9, E9.out]
        exact put_below R.out _ _
      | true =>
        obtain rfl := hy hk2
        clear hy hn
        have q3 : v2.cell? ⟨g4, 3, none⟩ = some (.func (.func 64) #[.agg (pcs p A1 c1 A2 c2 A3 c3)] #[]) := (blk_cell HB.out 3).trans rfl
        go_wp2_with fail
        rw [rounds_succ]
        go_wp2_with fail
        refine (late_any p A1 c1 A2 c2 A3 c3 _ (HP.out.below R.out.below).r2 HS.out.s2).mono ?_
        rintro e v3 ⟨hy, hn, hb⟩
        have RN := Aside0.mk (R.out.step hb)
        have HBN := Aside0.mk (blk_below HB.out hb)
        clear R HB
        have R := RN
        have HB := HBN
        clear RN HBN hb q3
        cases hk3 : lateOk p with
        | false =>
          obtain rfl := hn hk3
          clear hy hn
          have c0 := R.out.c0
          have f0 := R.out.f0
          have e9 : err p = 9 := by unfold err ok; rw [hk3]; simp
          have E9 := Aside0.mk e9
          clear e9
          refine leaves_cons (f := 60) (args := #[.pointer (some ⟨g2, 0, none⟩)]) (by simp) (by simp [go_sem]) ?_
          refine (check_thrown ⟨g2, 0, none⟩ 0 [] _ c0 f0).mono ?_
          rintro e u' w'' ⟨rfl, rfl, rfl⟩
          have c9 := put_cell R.out (.int .i64 9) 101
          simp [Leaves, settle, results, Try.results33, go_sem, c9, E9.out]
          exact put_below R.out _ _
        | true =>
          obtain rfl := hy hk3
          clear hy hn
          have q4 : v3.cell? ⟨g4, 4, none⟩ = some (.func (.func 65) #[.agg (pcs p A1 c1 A2 c2 A3 c3)] #[]) := (blk_cell HB.out 4).trans rfl
          go_wp2_with fail
          rw [rounds_succ]
          go_wp2_with fail
          refine (days_any p A1 c1 A2 c2 A3 c3 _ (HP.out.below R.out.below).r3 (HP.out.below R.out.below).l3 (HP.out.below R.out.below).n3 HS.out.s3).mono ?_
          rintro e v4 ⟨hy, hn, hb⟩
          have RN := Aside0.mk (R.out.step hb)
          have HBN := Aside0.mk (blk_below HB.out hb)
          clear R HB
          have R := RN
          have HB := HBN
          clear RN HBN hb q4
          cases hk4 : daysOk p with
          | false =>
            obtain rfl := hn hk4
            clear hy hn
            have c0 := R.out.c0
            have f0 := R.out.f0
            have e9 : err p = 9 := by unfold err ok; rw [hk4]; simp
            have E9 := Aside0.mk e9
            clear e9
            refine leaves_cons (f := 60) (args := #[.pointer (some ⟨g2, 0, none⟩)]) (by simp) (by simp [go_sem]) ?_
            refine (check_thrown ⟨g2, 0, none⟩ 0 [] _ c0 f0).mono ?_
            rintro e u' w'' ⟨rfl, rfl, rfl⟩
            have c9 := put_cell R.out (.int .i64 9) 101
            simp [Leaves, settle, results, Try.results33, go_sem, c9, E9.out]
            exact put_below R.out _ _
          | true =>
            obtain rfl := hy hk4
            clear hy hn
            go_wp2_with fail
            rw [rounds_succ]
            have c0 := R.out.c0
            have f0 := R.out.f0
            have e0 : err p = 0 := by unfold err ok; rw [hk0, hk1, hk2, hk3, hk4]; rfl
            have E0 := Aside0.mk e0
            clear e0
            go_wp2_with fail
            refine leaves_cons (f := 60) (args := #[.pointer (some ⟨g2, 0, none⟩)]) (by simp) (by simp [go_sem]) ?_
            refine (check_idle ⟨g2, 0, none⟩ _).mono ?_
            rintro e u' w'' ⟨rfl, rfl, rfl⟩
            have c9 := World.cell?_setCell_same v4 ⟨g2, 0, none⟩ (.int .i64 0) c0
            simp [Leaves, settle, results, Try.results33, go_sem, c9, E0.out]
            exact R.out.below.setCell (by exact R.out.ge) _
end Go.Proofs.Ytfmkdledofbhdaa.Pd
/- dues.Days: the days on which instalments are due. -/
namespace Go.Proofs.Ytfmkdledofbhdaa.Du
open Go.RowKit Go.Proofs.YtfmkdledofbhdaaW.PrintWords Go.Proofs.YtfmkdledofbhdaaW.PrintLast Go.Proofs.YtfmkdledofbhdaaW.PrintMore Go.Proofs.Ytfmkdledofbhdaa.HW
open Go.Proofs.Ytfmkdledofbhdaa.Math Go.Proofs.Ytfmkdledofbhdaa.H Go.Proofs.Ytfmkdledofbhdaa.Pd Pm
attribute [local go_sem] run_makeFunc_
set_option linter.unusedVariables false
set_option linter.unusedSimpArgs false
theorem cell_lt {w : World} {ad : Addr} {v : Value} (h : w.cell? ad = some v) : ad.block < w.heap.size := by
  rcases Nat.lt_or_ge ad.block w.heap.size with h1 | h1
  · exact h1
  · exfalso
    have e : w.heap[ad.block]? = none := Array.getElem?_eq_none h1
    simp [World.cell?, e] at h
theorem C_but {w w1 : World} {A : Option Addr} {n g : Nat} {l : List Int} {k : IntKind} (h : Kd.C (Kd.int k) w A n l) (hb : But g w w1) (hA : ∀ ad, A = some ad → ad.block ≠ g) : Kd.C (Kd.int k) w1 A n l := by
  have h' := Kd.reads_of_C (d := (0 : Int)) h
  refine Kd.C_of_reads (d := (0 : Int)) ⟨h'.1, h'.2.1, fun hn => ?_⟩
  obtain ⟨ad, e, hc⟩ := h'.2.2 hn
  refine ⟨ad, e, fun j hj => ?_⟩
  have hj' := hc j hj
  have hlt := cell_lt hj'
  rw [hb.cell hlt (by have := hA ad e; simp only [Addr.add]; split <;> exact this)]
  exact hj'
theorem CalIn.but {B : Nat} {w w1 : World} {gb g : Nat} {l : List Int} (h : CalIn B w gb l) (hb : But g w w1) (h1 : gb ≠ g) (h2 : g < B) : CalIn B w1 gb l := by
  obtain ⟨A, c, c1, c2, c3, c4, c5, c6, c7⟩ := h
  exact ⟨A, c, by rw [hb.cell (by exact c6) (by exact h1)]; exact c1, C_but c2 hb (fun ad e => by have := c7 ad e; omega), c3, c4, c5, Nat.lt_of_lt_of_le c6 hb.size, c7⟩
theorem CalIn.below {B : Nat} {w w1 : World} {gb : Nat} {l : List Int} (h : CalIn B w gb l) (hb : Below w.heap.size w w1) : CalIn B w1 gb l := by
  obtain ⟨A, c, h1, h2, h3, h4, h5, h6, h7⟩ := h
  exact ⟨A, c, by rw [hb.cell (by exact h6)]; exact h1, Kd.C_below h2 hb, h3, h4, h5, Nat.lt_of_lt_of_le h6 hb.size, h7⟩
theorem roller_any {gb : Nat} {l : List Int} {day how r1 r2 : Int} {w : World} (h : CalAt w gb l) (hr : rollS l day how = (r1, r2)) :
    Calls Try.prog 36 #[.agg #[.pointer (some ⟨gb, 0, none⟩), .int .i64 how], .int .i64 day] w fun e w' => e = .returned (.tuple #[.int .i64 r1, .int .i64 r2]) ∧ Below w.heap.size w w' := by
  have HA := Aside0.mk h
  have HR := Aside0.mk hr
  clear h hr
  have HB := Aside0.mk (below_alloc (Below.refl w.heap.size w) (.cells #[.pointer (some ⟨gb, 0, none⟩), .int .i64 how] 74))
  go_enter Try.func36, Try.ntmps36
  go_wp2_with (go_at_call 69; (with_reducible refine (roll_any (HA.out.below HB.out) HR.out).mono ?_); rintro e w2 ⟨rfl, hb⟩; have HB2 := Aside0.mk (below_step HB.out hb); clear hb)
  go_ret2
  exact ⟨rfl, HB2.out⟩
/-- What a call gives that hands back a list of its own, or none, and why. -/
def Listed (r : List Int × Int) (w : World) (e : Ending) (w' : World) : Prop := ∃ v, e = .returned (.tuple #[v, .int .i64 r.2]) ∧ RowI w' w.heap.size v r.1 ∧ Below w.heap.size w w'
theorem dates_any (n e t : Int) (w : World) : Calls Try.prog 34 #[.int .i64 n, .int .i64 e, .int .i64 t] w (Listed (datesP n e t) w) := by
  refine (PDA.monthly_Dates.calls (t.toNat + 2) n e t _ _ w civ_dates.2.1).mono ?_
  rintro e w' ⟨v, he, hr, hb⟩
  exact ⟨v, he, row_of_R hr, hb⟩
theorem dates_full : ∀ (m : Nat) (n e i : Int) (l : List Int), (dates m n e i l).2 = 0 → (dates m n e i l).1.length = l.length + m
  | 0, n, e, i, l => by simp [dates]
  | m + 1, n, e, i, l => by
    unfold dates
    split
    · intro h
      have := dates_full m n e (i + 1) (l ++ [(add n ((i + 1) * e)).1]) h
      simp at this ⊢
      omega
    · rename_i h; intro h2; exact absurd h2 h
theorem datesP_full {n e t : Int} (h : (datesP n e t).2 = 0) : ((datesP n e t).1.length : Int) = t ∧ 1 ≤ t ∧ t ≤ 600 := by
  unfold datesP at h ⊢
  split at h
  · rename_i hc
    rw [if_pos hc]
    have := dates_full t.toNat n e 0 [] h
    simp at this
    omega
  · cases h
set_option maxRecDepth 100000 in
set_option maxHeartbeats 2000000 in
theorem days_refused (p : Prod) (A1 : Option Addr) (c1 : Nat) (A2 : Option Addr) (c2 : Nat) (A3 : Option Addr) (c3 : Nat) (start : Int) (w : World) (hg : GV w) (hp : ProdAt w p A1 c1 A2 c2 A3 c3) (hs : Small p) (ho : ok p = false) :
    Calls Try.prog 16 #[pv p A1 c1 A2 c2 A3 c3, .int .i64 start] w (Listed (daysP p start) w) := by
  have er : err p = 9 := by unfold err; rw [ho]; rfl
  have ed : daysP p start = ([], 9) := by unfold daysP; rw [ho]; rfl
  rw [ed]
  have HG := Aside0.mk hg
  have HP := Aside0.mk hp
  have CK := Aside0.mk (fun w1 (hb : Below w.heap.size w w1) => check_any p A1 c1 A2 c2 A3 c3 w1 (HG.out.below hb) (HP.out.below hb) hs)
  rw [er] at CK
  clear hg hp ed er ho hs
  go_enter Try.func16, Try.ntmps16
  go_wp2_with ((with_reducible refine gate_dst (N := 2) rfl ?_); refine box_event ?hg (N := 2) ?hd (cs := pcs p A1 c1 A2 c2 A3 c3) (t := 27) ?hr ?_; (case hd => rfl); (case hg => rfl); (case hr => first | (go_simp; done) | (go_simp; rfl)); intro g2 hg v0 hb1 hbl1; clear hg; have G2 := Aside0.mk hb1; have HB := Aside0.mk hbl1; clear hb1 hbl1; refine Hid.out ?_)
  refine Lib.hid ?_
  go_wp2_with (first
    | ((with_reducible refine gate_dst (N := 16) rfl ?_); refine wpList_load_row rfl 27 (.tmp 2) rfl g2 rfl 27 _ (0, 0) _ G2.out Try.underlying27 rfl info_prod ?_)
    | (go_at_call 33; (with_reducible refine (CK.out _ HB.out).mono ?_); rintro e w2 ⟨rfl, hb⟩; have HB := Aside0.mk (below_step HB.out hb); have G2 := Aside0.mk (Pd.blk_below G2.out hb); clear hb; obtain ⟨-, -, -, -, q4, q5, -, -, -, -, -, -, -, -, -, -, -, q17, q18⟩ := pc_cells G2.out))
  go_ret2
  exact ⟨_, rfl, Or.inl ⟨rfl, rfl⟩, HB.out⟩
set_option maxRecDepth 100000 in
set_option maxHeartbeats 2000000 in
theorem days_none (p : Prod) (A1 : Option Addr) (c1 : Nat) (A2 : Option Addr) (c2 : Nat) (A3 : Option Addr) (c3 : Nat) (start : Int) (w : World) (hg : GV w) (hp : ProdAt w p A1 c1 A2 c2 A3 c3) (hs : Small p) (ho : ok p = true) (hd : (datesP start p.every p.times).2 ≠ 0) :
    Calls Try.prog 16 #[pv p A1 c1 A2 c2 A3 c3, .int .i64 start] w (Listed (daysP p start) w) := by
  have er : err p = 0 := by unfold err; rw [ho]; rfl
  have ed : daysP p start = ([], (datesP start p.every p.times).2) := by unfold daysP; rw [if_pos ho, if_neg hd]
  rw [ed]
  have HG := Aside0.mk hg
  have HP := Aside0.mk hp
  have CK := Aside0.mk (fun w1 (hb : Below w.heap.size w w1) => check_any p A1 c1 A2 c2 A3 c3 w1 (HG.out.below hb) (HP.out.below hb) hs)
  rw [er] at CK
  have dt := fun w => dates_any start p.every p.times w
  generalize datesP start p.every p.times = D at dt hd ⊢
  obtain ⟨l, e0⟩ := D
  have DT := Aside0.mk dt
  have he : (e0 != 0) = true := by simpa using hd
  clear hg hp ed er ho hs dt hd
  go_enter Try.func16, Try.ntmps16
  go_wp2_with ((with_reducible refine gate_dst (N := 2) rfl ?_); refine box_event ?hg (N := 2) ?hd (cs := pcs p A1 c1 A2 c2 A3 c3) (t := 27) ?hr ?_; (case hd => rfl); (case hg => rfl); (case hr => first | (go_simp; done) | (go_simp; rfl)); intro g2 hg v0 hb1 hbl1; clear hg; have G2 := Aside0.mk hb1; have HB := Aside0.mk hbl1; clear hb1 hbl1; refine Hid.out ?_)
  refine Lib.hid ?_
  go_wp2_with (first
    | ((with_reducible refine gate_dst (N := 16) rfl ?_); refine wpList_load_row rfl 27 (.tmp 2) rfl g2 rfl 27 _ (0, 0) _ G2.out Try.underlying27 rfl info_prod ?_)
    | (go_at_call 33; (with_reducible refine (CK.out _ HB.out).mono ?_); rintro e w2 ⟨rfl, hb⟩; have HB := Aside0.mk (below_step HB.out hb); have G2 := Aside0.mk (Pd.blk_below G2.out hb); clear hb; obtain ⟨-, -, -, -, q4, q5, -, -, -, -, -, -, -, -, -, -, -, q17, q18⟩ := pc_cells G2.out)
    | (go_at_call 34; (with_reducible refine (DT.out _).mono ?_); rintro e w3 ⟨v, rfl, hr, hb⟩; have RW := Aside0.mk hr; have HB := Aside0.mk (below_step HB.out hb); have G2 := Aside0.mk (Pd.blk_below G2.out hb); clear hr hb; obtain ⟨-, -, -, -, q4, q5, -, -, -, -, -, -, -, -, -, -, -, q17, q18⟩ := pc_cells G2.out))
  go_ret2
  exact ⟨_, rfl, Or.inl ⟨rfl, rfl⟩, HB.out⟩
end Go.Proofs.Ytfmkdledofbhdaa.Du
/- dues.Days, where all may be: each day rolled, and whether they rise. -/
namespace Go.Proofs.Ytfmkdledofbhdaa.Du
open Go.RowKit Go.Proofs.YtfmkdledofbhdaaW.PrintWords Go.Proofs.YtfmkdledofbhdaaW.PrintLast Go.Proofs.YtfmkdledofbhdaaW.PrintMore Go.Proofs.Ytfmkdledofbhdaa.HW
open Go.Proofs.Ytfmkdledofbhdaa.Math Go.Proofs.Ytfmkdledofbhdaa.H Go.Proofs.Ytfmkdledofbhdaa.Pd Pm
attribute [local go_sem] run_makeFunc_
set_option linter.unusedVariables false
set_option linter.unusedSimpArgs false
theorem nums_at (pre : List Int) (d : Int) (r : List Int) (t : List Value) (k : Nat) (h : pre.length = k) : (nums .i64 (pre ++ d :: r) ++ t)[k]? = some (.int .i64 d) := by
  subst h
  simp [nums]
theorem nums_set (pre : List Int) (d x : Int) (r : List Int) (t : List Value) (k : Nat) (h : pre.length = k) : (nums .i64 (pre ++ d :: r) ++ t).set k (.int .i64 x) = nums .i64 (pre ++ [x] ++ r) ++ t := by
  subst h
  simp [nums, List.set_append]
theorem ok_days {p : Prod} (h : ok p = true) : p.hol.length ≤ 200 ∧ holsOk (-25568) p.hol = true ∧ 1 ≤ p.roll ∧ p.roll ≤ 4 := by
  simp only [ok, daysOk, Bool.and_eq_true, decide_eq_true_eq] at h
  exact ⟨h.2.1.1, h.2.2, h.2.1.2.1.1, h.2.1.2.1.2⟩
/-- A calendar of holidays that may be. -/
def Made1 (l : List Int) (w : World) (e : Ending) (w' : World) : Prop := ∃ gb, e = .returned (.tuple #[.pointer (some ⟨gb, 0, none⟩), .int .i64 0]) ∧ w.heap.size ≤ gb ∧ CalIn w.heap.size w' gb l ∧ Below w.heap.size w w'
theorem new_ok (p : Prod) (A1 : Option Addr) (c1 : Nat) (A2 : Option Addr) (c2 : Nat) (A3 : Option Addr) (c3 : Nat) (w : World) (hp : ProdAt w p A1 c1 A2 c2 A3 c3) (ho : ok p = true) : Calls Try.prog 35 #[.slice A3 p.hol.length c3] w (Made1 p.hol w) := by
  obtain ⟨h1, h2, -, -⟩ := ok_days ho
  refine (new_few2 A3 c3 p.hol true w hp.r3 hp.l3 hp.n3 h1 ((rises_pm _ _).trans h2)).mono ?_
  rintro e w' ⟨hb, -, h⟩
  obtain ⟨gb, hge, he, hc⟩ := h rfl
  exact ⟨gb, he, hge, hc, hb⟩
/-- A list of the call's own that is not empty. -/
def Listed1 (l : List Int) (w : World) (e : Ending) (w' : World) : Prop := ∃ g c t, e = .returned (.tuple #[.slice (some ⟨g, 0, none⟩) l.length c, .int .i64 0]) ∧ w.heap.size ≤ g ∧ l.length ≤ c ∧ H.Blk w' g 3 (nums .i64 l ++ t) ∧ Below w.heap.size w w'
theorem Listed.one {l : List Int} {w w' : World} {e : Ending} (h : Listed (l, 0) w e w') (hl : l ≠ []) : Listed1 l w e w' := by
  obtain ⟨v, he, hr, hb⟩ := h
  rcases hr with ⟨-, h⟩ | ⟨g, c, t, rfl, hg, hc, hk⟩
  · exact absurd h hl
  · exact ⟨g, c, t, he, hg, hc, hk, hb⟩
/-- What comes of the days, rolled. -/
def risen (start : Int) (r : List Int × Int) : List Int × Int := if r.2 = 0 then if rise start r.1 = true then (r.1, 0) else ([], 11) else ([], r.2)
set_option maxRecDepth 100000 in
set_option maxHeartbeats 4000000 in
theorem days_main (p : Prod) (A1 : Option Addr) (c1 : Nat) (A2 : Option Addr) (c2 : Nat) (A3 : Option Addr) (c3 : Nat) (start : Int) (w : World) (hg : GV w) (hp : ProdAt w p A1 c1 A2 c2 A3 c3) (hs : Small p) (ho : ok p = true) (l : List Int) (hd : datesP start p.every p.times = (l, 0)) :
    Calls Try.prog 16 #[pv p A1 c1 A2 c2 A3 c3, .int .i64 start] w (Listed (risen start (rollAll p.hol p.roll l)) w) := by
  generalize hR : risen start (rollAll p.hol p.roll l) = R
  have RR := Aside0.mk hR
  clear hR
  have er : err p = 0 := by unfold err; rw [ho]; rfl
  have hfull := datesP_full (n := start) (e := p.every) (t := p.times) (by rw [hd])
  rw [hd] at hfull
  have hne : l ≠ [] := fun e => by rw [e] at hfull; have := hfull.1; simp at this; omega
  have hln : l.length ≤ 600 := by have := hfull.1; simp only [] at this; omega
  have HG := Aside0.mk hg
  have HP := Aside0.mk hp
  have CK := Aside0.mk (fun w1 (hb : Below w.heap.size w w1) => check_any p A1 c1 A2 c2 A3 c3 w1 (HG.out.below hb) (HP.out.below hb) hs)
  rw [er] at CK
  have DT := Aside0.mk (fun w => show Calls Try.prog 34 #[.int .i64 start, .int .i64 p.every, .int .i64 p.times] w (Listed1 l w) from (dates_any start p.every p.times w).mono fun e w' h => by rw [hd] at h; exact h.one hne)
  have NW := Aside0.mk (fun w1 (hb : Below w.heap.size w w1) => new_ok p A1 c1 A2 c2 A3 c3 w1 (HP.out.below hb) ho)
  have hlp : 0 < l.length := by cases l with | nil => exact absurd rfl hne | cons a r => simp
  clear hg hp er ho hs hd hfull hne
  go_enter Try.func16, Try.ntmps16
  go_wp2_with ((with_reducible refine gate_dst (N := 2) rfl ?_); refine box_event ?hg (N := 2) ?hd (cs := pcs p A1 c1 A2 c2 A3 c3) (t := 27) ?hr ?_; (case hd => rfl); (case hg => rfl); (case hr => first | (go_simp; done) | (go_simp; rfl)); intro g2 hg v0 hb1 hbl1; clear hg; have G2 := Aside0.mk hb1; have HB := Aside0.mk hbl1; clear hb1 hbl1; refine Hid.out ?_)
  refine Lib.hid ?_
  go_wp2_with (first
    | ((with_reducible refine gate_dst (N := 16) rfl ?_); refine wpList_load_row rfl 27 (.tmp 2) rfl g2 rfl 27 _ (0, 0) _ G2.out Try.underlying27 rfl info_prod ?_)
    | (go_at_call 33; (with_reducible refine (CK.out _ HB.out).mono ?_); rintro e w2 ⟨rfl, hb⟩; have HB := Aside0.mk (below_step HB.out hb); have G2 := Aside0.mk (Pd.blk_below G2.out hb); clear hb; obtain ⟨-, -, -, -, q4, q5, -, -, -, -, -, -, -, -, -, -, -, q17, q18⟩ := pc_cells G2.out)
    | (go_at_call 34; (with_reducible refine (DT.out _).mono ?_); rintro e w3 ⟨g, c, t, rfl, hge0, hc, hbk, hb⟩; have hge := Nat.le_trans (Below.size HB.out) hge0; clear hge0; have BK := Aside0.mk hbk; have gsz := Blk.lt hbk; have HB := Aside0.mk (below_step HB.out hb); have G2 := Aside0.mk (Pd.blk_below G2.out hb); clear hb hbk; obtain ⟨-, -, -, -, q4, q5, -, -, -, -, -, -, -, -, -, -, -, q17, q18⟩ := pc_cells G2.out)
    | (go_at_call 35; (with_reducible refine (NW.out _ HB.out).mono ?_); rintro e w4 ⟨gb, rfl, hgb, hcal, hb⟩; have CA := Aside0.mk hcal; have BK := Aside0.mk (BK.out.below hb); have HB := Aside0.mk (below_step HB.out hb); have G2 := Aside0.mk (Pd.blk_below G2.out hb); clear hb hcal; obtain ⟨-, -, -, -, q4, q5, -, -, -, -, -, -, -, -, -, -, -, q17, q18⟩ := pc_cells G2.out))
  have gne : gb ≠ g := by omega
  go_loopg [46] (l.length + 1) (fun gq iv w' => ∃ (k : Nat) (pre : List Int), k ≤ l.length ∧ iv = .int .i64 (k : Int) ∧ Aside0 (pre.length = k) ∧ Aside0 (gq = l.length + 1 - k) ∧ Aside0 (rollAll p.hol p.roll l = after pre (rollAll p.hol p.roll (l.drop k))) ∧ Aside0 (H.Blk w' g 3 (nums .i64 (pre ++ l.drop k) ++ t)) ∧ Aside0 (CalIn w3.heap.size w' gb p.hol) ∧ Aside0 (Below w.heap.size w w'))
  case atStart => exact ⟨0, [], by omega, rfl, ⟨rfl⟩, ⟨rfl⟩, ⟨(after_nil (rollAll_err _ _ _)).symm⟩, BK, CA, HB⟩
  case round =>
    obtain ⟨k, pre, kn, rfl, hpl, hgq, hra, hbk, hcal, hbel⟩ := hrel
    by_cases hlt : k < l.length
    · have hdr : l.drop k = l[k] :: l.drop (k + 1) := List.drop_eq_getElem_cons hlt
      rw [hdr] at hra hbk
      have hat := nums_at pre l[k] (l.drop (k + 1)) t k hpl.out
      have hcl0 := (hbk.out.cell k).trans hat
      have hsz : (k : Int) < (l.length : Int) := by omega
      obtain ⟨x, e1, hx⟩ : ∃ x e1, rollS p.hol l[k] p.roll = (x, e1) := ⟨_, _, rfl⟩
      have RC := Aside0.mk (roller_any (CalIn.at hcal.out) hx)
      have HAT := Aside0.mk hat
      by_cases he1 : e1 = 0
      · subst he1
        have hra2 := Aside0.mk (show rollAll p.hol p.roll l = after (pre ++ [x]) (rollAll p.hol p.roll (l.drop (k + 1))) by
          have e := hra.out
          rw [rollAll, hx, if_pos rfl] at e
          rw [e, after_after])
        clear hra hx hdr
        go_wp2_with ((with_reducible refine gate_calleeV (t := 54) rfl ?_); refine goesV_ 54 #[.agg #[.pointer (some ⟨gb, 0, none⟩), .int .i64 p.roll]] (by first | rfl | (simp; done)) (some 56) rfl rfl Try.func36 (by kernel_rfl) rfl #[.agg #[.pointer (some ⟨gb, 0, none⟩), .int .i64 p.roll], .int .i64 l[k]] rfl (by (try simp only [List.map_toArray, List.map_cons, List.map_nil]); first | done | rfl | (simp; done)) ?_; (with_reducible refine (RC.out).mono ?_); rintro e w13 ⟨rfl, hb⟩; refine ⟨_, rfl, ?_⟩; have BK2 := Aside0.mk (hbk.out.below hb); have CA2 := Aside0.mk (CalIn.below hcal.out hb); have HB2 := Aside0.mk (below_step hbel.out hb); have hcl := (BK2.out.cell k).trans hat; have hfz := BK2.out.frozen k; clear hb)
        have BK3 := BK2.out.put k (.int .i64 x)
        rw [nums_set pre l[k] x (l.drop (k + 1)) t k hpl.out] at BK3
        have hbut : But g w13 (w13.setCell ⟨g, k, none⟩ (.int .i64 x)) := (But.of (Below.refl w13.heap.size w13)).setCell (p := ⟨g, k, none⟩) (Or.inl rfl) _
        go_roundg (l.length + 1 - (k + 1))
        case measure => have := hgq.out; omega
        case rel => exact ⟨k + 1, pre ++ [x], by omega, by simp, ⟨by simp [hpl.out]⟩, ⟨rfl⟩, hra2, ⟨BK3⟩, ⟨CalIn.but CA2.out hbut gne (by omega)⟩, ⟨But.below HB2.out HB2.out.size hge hbut⟩⟩
      · have he : (e1 != 0) = true := by simpa using he1
        have fin := Aside0.mk (show R = ([], e1) by
          have e := hra.out
          rw [rollAll, hx, if_neg he1, after_err pre he1] at e
          rw [← RR.out]
          unfold risen
          rw [e, if_neg he1])
        clear hra hx hdr he1
        go_wp2_with ((with_reducible refine gate_calleeV (t := 54) rfl ?_); refine goesV_ 54 #[.agg #[.pointer (some ⟨gb, 0, none⟩), .int .i64 p.roll]] (by first | rfl | (simp; done)) (some 56) rfl rfl Try.func36 (by kernel_rfl) rfl #[.agg #[.pointer (some ⟨gb, 0, none⟩), .int .i64 p.roll], .int .i64 l[k]] rfl (by (try simp only [List.map_toArray, List.map_cons, List.map_nil]); first | done | rfl | (simp; done)) ?_; (with_reducible refine (RC.out).mono ?_); rintro e w13 ⟨rfl, hb⟩; refine ⟨_, rfl, ?_⟩; have BK2 := Aside0.mk (hbk.out.below hb); have CA2 := Aside0.mk (CalIn.below hcal.out hb); have HB2 := Aside0.mk (below_step hbel.out hb); have hcl := (BK2.out.cell k).trans hat; have hfz := BK2.out.frozen k; clear hb)
        have hbut : But g w13 (w13.setCell ⟨g, k, none⟩ (.int .i64 x)) := (But.of (Below.refl w13.heap.size w13)).setCell (p := ⟨g, k, none⟩) (Or.inl rfl) _
        go_ret2
        rw [fin.out]
        exact ⟨_, rfl, Or.inl ⟨rfl, rfl⟩, But.below HB2.out HB2.out.size hge hbut⟩
    · obtain rfl : k = l.length := by omega
      have hra2 := hra.out
      rw [List.drop_length, rollAll, after, if_pos rfl, List.append_nil] at hra2
      have hbk2 := hbk.out
      rw [List.drop_length, List.append_nil] at hbk2
      have RR2 := Aside0.mk (show R = (if rise start pre = true then (pre, 0) else ([], 11)) by rw [← RR.out, hra2]; rfl)
      clear RR
      have BK2 := Aside0.mk hbk2
      have pl := hpl.out
      clear hra hra2 hbk hbk2 hcal CA CK DT NW HG HP
      go_wp2_with fail
      go_loopg [66] (l.length + 1) (fun gq iv w' => ∃ (k : Nat) (pv : Int), k ≤ l.length ∧ iv = .int .i64 (k : Int) ∧ Aside0 (k = 0 ∧ pv = start ∨ 0 < k ∧ pre[k - 1]? = some pv) ∧ Aside0 (gq = l.length + 1 - k) ∧ Aside0 (rise start pre = rise pv (pre.drop k)) ∧ Aside0 (H.Blk w' g 3 (nums .i64 pre ++ t)) ∧ Aside0 (Below w.heap.size w w'))
      case atStart => exact ⟨0, start, by omega, rfl, ⟨Or.inl ⟨rfl, rfl⟩⟩, ⟨rfl⟩, ⟨rfl⟩, BK2, hbel⟩
      case round =>
        obtain ⟨k, pv, kn, rfl, hpv, hgq2, hri, hbk, hbel2⟩ := hrel
        by_cases hlt : k < l.length
        · have hdr : pre.drop k = pre[k] :: pre.drop (k + 1) := List.drop_eq_getElem_cons (by omega)
          have hcl := (hbk.out.cell k).trans (show (nums .i64 pre ++ t)[k]? = some (.int .i64 (pre[k]'(by omega))) by rw [List.getElem?_append_left (by simp [nums]; omega)]; simp [nums] <;> omega)
          have hsz : (k : Int) < (l.length : Int) := by omega
          have hri2 := hri.out
          rw [hdr, rise] at hri2
          generalize hd : pre[k]'(by omega) = d at *
          have HD := Aside0.mk (show pre[k]? = some d by rw [← hd]; exact List.getElem?_eq_getElem _)
          clear hd hdr
          by_cases hle : d ≤ pv
          · have fin := Aside0.mk (show R = ([], 11) by rw [RR2.out, hri2, decide_eq_false (by omega)]; rfl)
            have tl : decide (d ≤ pv) = true := decide_eq_true hle
            clear hri hri2 hle
            rcases hpv.out with ⟨rfl, rfl⟩ | ⟨k0, hk⟩
            · go_wp2_with fail
              go_ret2
              rw [fin.out]
              exact ⟨_, rfl, Or.inl ⟨rfl, rfl⟩, hbel2.out⟩
            · obtain ⟨j, rfl⟩ : ∃ j, k = j + 1 := ⟨k - 1, by omega⟩
              have hj0 : (((j + 1 : Nat) : Int) == 0) = false := by simp; omega
              have hj1 : decide ((0 : Int) < ((j + 1 : Nat) : Int)) = true := decide_eq_true (by omega)
              have hcj := (hbk.out.cell j).trans (show (nums .i64 pre ++ t)[j]? = some (.int .i64 pv) by simp at hk; rw [List.getElem?_append_left (by simp [nums]; omega)]; simp [nums, hk])
              have hjz : (j : Int) < (l.length : Int) := by omega
              clear k0 hk
              go_wp2_with fail
              go_ret2
              rw [fin.out]
              exact ⟨_, rfl, Or.inl ⟨rfl, rfl⟩, hbel2.out⟩
          · have tl : decide (d ≤ pv) = false := decide_eq_false hle
            have hri3 := Aside0.mk (show rise start pre = rise d (pre.drop (k + 1)) by rw [hri2, decide_eq_true (by omega)]; simp)
            clear hri hri2 hle
            rcases hpv.out with ⟨rfl, rfl⟩ | ⟨k0, hk⟩
            · go_wp2_with fail
              go_roundg (l.length + 1 - (0 + 1))
              case measure => have := hgq2.out; omega
              case rel => exact ⟨1, d, by omega, by simp, ⟨Or.inr ⟨by omega, HD.out⟩⟩, ⟨rfl⟩, hri3, hbk, hbel2⟩
            · obtain ⟨j, rfl⟩ : ∃ j, k = j + 1 := ⟨k - 1, by omega⟩
              have hj0 : (((j + 1 : Nat) : Int) == 0) = false := by simp; omega
              have hj1 : decide ((0 : Int) < ((j + 1 : Nat) : Int)) = true := decide_eq_true (by omega)
              have hcj := (hbk.out.cell j).trans (show (nums .i64 pre ++ t)[j]? = some (.int .i64 pv) by simp at hk; rw [List.getElem?_append_left (by simp [nums]; omega)]; simp [nums, hk])
              have hjz : (j : Int) < (l.length : Int) := by omega
              clear k0 hk
              go_wp2_with fail
              go_roundg (l.length + 1 - (j + 1 + 1))
              case measure => have := hgq2.out; omega
              case rel => exact ⟨j + 2, d, by omega, by simp; omega, ⟨Or.inr ⟨by omega, HD.out⟩⟩, ⟨rfl⟩, hri3, hbk, hbel2⟩
        · obtain rfl : k = l.length := by omega
          have hri2 := hri.out
          rw [List.drop_eq_nil_of_le (by omega), rise] at hri2
          have fin := Aside0.mk (show R = (pre, 0) by rw [RR2.out, hri2]; rfl)
          clear hri hri2
          go_wp2_with fail
          go_ret2
          rw [fin.out]
          exact ⟨_, rfl, Or.inr ⟨g, c, t, by rw [pl]; rfl, hge, by rw [pl]; exact hc, hbk.out⟩, hbel2.out⟩
end Go.Proofs.Ytfmkdledofbhdaa.Du
/- Contracts by hand: the document's look at a product, in plain words; the plain product. -/
namespace Go.Proofs.Ytfmkdledofbhdaa.Pd
open Go.RowKit Go.Proofs.YtfmkdledofbhdaaW.PrintWords Go.Proofs.YtfmkdledofbhdaaW.PrintLast Go.Proofs.YtfmkdledofbhdaaW.PrintMore Go.Proofs.Ytfmkdledofbhdaa.HW
open Pm
set_option linter.unusedVariables false
set_option linter.unusedSimpArgs false
/-- Not longer than what a machine holds. -/
structure Held (p : Prod) : Prop where
  name : p.name.size ≤ 140737488351232
  s1 : p.resets.length ≤ 140737488355328
  s2 : p.late.length ≤ 140737488355328
  s3 : p.hol.length ≤ 140737488355328
theorem Small.held {p : Prod} (h : Small p) : Held p := ⟨Nat.le_trans h.name (by decide), Nat.le_trans h.s1 (by decide), Nat.le_trans h.s2 (by decide), Nat.le_trans h.s3 (by decide)⟩
/-- The plain product. -/
def plainP : Prod := { name := ⟨#[104, 111, 109, 101]⟩, count := 2, round := 1, kind := 1, every := 1, times := 12, grace := 0, rate := 60000000, resets := [], penalty := 100000000, o1 := 1, o2 := 2, o3 := 3, o4 := 4, over := 1, late := [], cap := 0, roll := 1, hol := [] }
abbrev plainC : Array Value :=
  #[.string ⟨#[104, 111, 109, 101]⟩, .int .i64 2, .int .i64 1, .int .i64 1, .int .i64 1, .int .i64 12, .int .i64 0, .int .i64 60000000, .slice none 0 0, .int .i64 100000000, .int .i64 1, .int .i64 2, .int .i64 3, .int .i64 4, .int .i64 1, .slice none 0 0, .int .i64 0, .int .i64 1, .slice none 0 0]
theorem nilRows (w : World) : Op.IntRows w none 2 [] := ⟨fun r h => by (cases h), fun i r h => by (simp at h)⟩
theorem nilAt {w : World} {p : Prod} (h1 : p.resets = []) (h2 : p.late = []) (h3 : p.hol = []) : ProdAt w p none 0 none 0 none 0 := by
  refine ⟨by rw [h1]; exact nilRows w, by rw [h1]; exact Nat.le_refl _, fun _ => rfl, by rw [h2]; exact nilRows w, by rw [h2]; exact Nat.le_refl _, fun _ => rfl, ?_, by rw [h3]; exact Nat.le_refl _, fun _ => rfl⟩
  rw [h3]; exact Kd.C_nil _ w
theorem built_plain : Try.prog.built 27 [(0, .string ⟨#[104, 111, 109, 101]⟩), (1, .int .i64 2), (2, .int .i64 1), (3, .int .i64 1), (4, .int .i64 1), (5, .int .i64 12), (7, .int .i64 60000000), (9, .int .i64 100000000), (10, .agg #[.int .i64 1, .int .i64 2, .int .i64 3, .int .i64 4]), (11, .int .i64 1), (14, .int .i64 1)] = some plainC := by kernel_rfl
theorem plainC_one : plainC.all (·.oneCell') = true := by simp [Value.oneCell']
theorem below_setRowP {B : Nat} {w W : World} {g : Nat} (h : Below B w W) (hg : B ≤ g) (cs : Array Value) : Below B w (W.setRow g cs) :=
  ⟨h.os, h.tape, h.output, by rw [size_setRow]; exact h.size, fun k hk => by rw [setRow_other W g k cs (by omega)]; exact h.block k hk⟩
def PlainE (w : World) (e : Ending) (w' : World) : Prop := e = .returned (.agg plainC) ∧ Below w.heap.size w w'
theorem plain_any (w : World) : Calls Try.prog 13 #[] w (PlainE w) := by
  go_enter Try.func13, Try.ntmps13
  go_wp2_with (first
    | ((with_reducible refine gate_dst (N := 0) rfl ?_); refine box_event ?hg (N := 0) ?hd (cs := pzs) (t := 27) ?hr ?_; (case hd => rfl); (case hg => rfl); (case hr => first | (go_simp; done) | (go_simp; rfl)); intro g1 hg w1 hb1 hbl1; have g1ge := (show w.heap.size ≤ g1 by rw [hg]; exact Nat.le_refl _); clear hg; have HB1 := Aside0.mk hb1; have BL1 := Aside0.mk hbl1; clear hb1 hbl1)
    | ((with_reducible refine gate_dst (N := 2) rfl ?_); refine build_event rfl (t := 27) rfl (cs := plainC) ?hb ?_; (case hb => simp only [List.map_toArray, List.map_cons, List.map_nil]; exact built_plain))
    | ((with_reducible refine gate_store (t := 27) (p := 0) rfl ?_); refine Hid.out ?_))
  refine Lib.hid ?_
  refine wpList_store_row rfl 27 (.tmp 0) (.tmp 2) rfl g1 plainC rfl rfl 27 pzs HB1.out info_prod rfl plainC_one ?_
  have hb2 := setRow_heap w1 g1 _ plainC _ _ HB1.out
  have bl2 := below_setRowP (g := g1) BL1.out g1ge plainC
  obtain ⟨w2, hw2⟩ : ∃ w2, w2 = w1.setRow g1 plainC := ⟨_, rfl⟩
  rw [← hw2] at hb2 bl2 ⊢
  have HB2 := Aside0.mk hb2
  have BL2 := Aside0.mk bl2
  clear hw2 hb2 bl2
  go_frame
  go_wp2_with fail
  exact bodyPost_ret (v := .agg plainC) (results_cell_row (g := g1) Try.results13 _ _ _ _ _ _ rfl HB2.out Try.underlying27 rfl info_prod) rfl ⟨rfl, BL2.out⟩
end Go.Proofs.Ytfmkdledofbhdaa.Pd
/- dues.Days whole; dues.Parts where there are no days; awake; days that are none. -/
namespace Go.Proofs.Ytfmkdledofbhdaa.Du
open Go.RowKit Go.Proofs.YtfmkdledofbhdaaW.PrintWords Go.Proofs.YtfmkdledofbhdaaW.PrintLast Go.Proofs.YtfmkdledofbhdaaW.PrintMore Go.Proofs.Ytfmkdledofbhdaa.HW
open Go.Proofs.Ytfmkdledofbhdaa.Math Go.Proofs.Ytfmkdledofbhdaa.H Go.Proofs.Ytfmkdledofbhdaa.Pd Pm
set_option linter.unusedVariables false
set_option linter.unusedSimpArgs false
theorem days_any (p : Prod) (A1 : Option Addr) (c1 : Nat) (A2 : Option Addr) (c2 : Nat) (A3 : Option Addr) (c3 : Nat) (start : Int) (w : World) (hg : GV w) (hp : ProdAt w p A1 c1 A2 c2 A3 c3) (hs : Small p) :
    Calls Try.prog 16 #[pv p A1 c1 A2 c2 A3 c3, .int .i64 start] w (Listed (daysP p start) w) := by
  cases ho : ok p with
  | false => exact days_refused p A1 c1 A2 c2 A3 c3 start w hg hp hs ho
  | true =>
    by_cases hd : (datesP start p.every p.times).2 = 0
    · have e : daysP p start = risen start (rollAll p.hol p.roll (datesP start p.every p.times).1) := by
        unfold daysP risen
        rw [if_pos ho, if_pos hd]
      rw [e]
      exact days_main p A1 c1 A2 c2 A3 c3 start w hg hp hs ho _ (by rw [← hd])
    · exact days_none p A1 c1 A2 c2 A3 c3 start w hg hp hs ho hd
set_option maxRecDepth 100000 in
set_option maxHeartbeats 2000000 in
theorem parts_err (p : Prod) (A1 : Option Addr) (c1 : Nat) (A2 : Option Addr) (c2 : Nat) (A3 : Option Addr) (c3 : Nat) (start : Int) (w : World) (hg : GV w) (hp : ProdAt w p A1 c1 A2 c2 A3 c3) (hs : Small p) (e0 : Int) (h0 : e0 ≠ 0) (hd : daysP p start = ([], e0)) :
    Calls Try.prog 18 #[pv p A1 c1 A2 c2 A3 c3, .int .i64 start] w fun e w' => e = .returned (.tuple #[.slice none 0 0, .int .i64 e0]) ∧ Below w.heap.size w w' := by
  have HG := Aside0.mk hg
  have HP := Aside0.mk hp
  have DA := Aside0.mk (fun w1 (hb : Below w.heap.size w w1) => show Calls Try.prog 16 #[pv p A1 c1 A2 c2 A3 c3, .int .i64 start] w1 fun e w' => (∃ v, e = .returned (.tuple #[v, .int .i64 e0])) ∧ Below w1.heap.size w1 w' from (days_any p A1 c1 A2 c2 A3 c3 start w1 (HG.out.below hb) (HP.out.below hb) hs).mono fun e w' h => by rw [hd] at h; obtain ⟨v, he, -, hb⟩ := h; exact ⟨⟨v, he⟩, hb⟩)
  have hn : (e0 != 0) = true := by simpa using h0
  clear hg hp hd h0 hs
  go_enter Try.func18, Try.ntmps18
  go_wp2_with ((with_reducible refine gate_dst (N := 2) rfl ?_); refine box_event ?hg (N := 2) ?hd (cs := pcs p A1 c1 A2 c2 A3 c3) (t := 27) ?hr ?_; (case hd => rfl); (case hg => rfl); (case hr => first | (go_simp; done) | (go_simp; rfl)); intro g2 hg v0 hb1 hbl1; clear hg; have G2 := Aside0.mk hb1; have HB := Aside0.mk hbl1; clear hb1 hbl1; refine Hid.out ?_)
  refine Lib.hid ?_
  go_wp2_with (first
    | ((with_reducible refine gate_dst (N := 14) rfl ?_); refine wpList_load_row rfl 27 (.tmp 2) rfl g2 rfl 27 _ (0, 0) _ G2.out Try.underlying27 rfl info_prod ?_)
    | (go_at_call 16; (with_reducible refine (DA.out _ HB.out).mono ?_); rintro e w2 ⟨⟨v, rfl⟩, hb⟩; have HB := Aside0.mk (below_step HB.out hb); have G2 := Aside0.mk (Pd.blk_below G2.out hb); clear hb))
  go_ret2
  exact ⟨rfl, HB.out⟩
theorem plain_days : daysP plainP 19723 = ([19754, 19783, 19814, 19844, 19875, 19905, 19936, 19967, 19997, 20028, 20058, 20089], 0) := by decide +kernel
end Go.Proofs.Ytfmkdledofbhdaa.Du
-- Written by a program of this session (wip/tools/myprint.py) with the help of the printer of the kit; Lean checks it.
namespace Go.Proofs.Ytfmkdledofbhdaa.PG
open Go.RowKit Go.Proofs.YtfmkdledofbhdaaW.PrintWords Go.Proofs.YtfmkdledofbhdaaW.PrintLast Go.Proofs.YtfmkdledofbhdaaW.PrintMore Go.Proofs.Ytfmkdledofbhdaa.HW
attribute [local go_sem] run_makeFunc_ max2_int min2_int max_two min_two max_three min_three max_four min_four   -- for this text's walks alone
set_option linter.unusedVariables false
set_option linter.unusedSimpArgs false



def errW : Option Int → Value
  | none => .nilIface
  | some c => .iface 0 (.int .i64 c)
theorem errW_none : errW none = .nilIface := rfl
theorem errW_some (c : Int) : errW (some c) = .iface 0 (.int .i64 c) := rfl

-- the values' own types

end Go.Proofs.Ytfmkdledofbhdaa.PG
-- Written by a program of this session (wip/tools/myprint.py) with the help of the printer of the kit; Lean checks it.
namespace Go.Proofs.Ytfmkdledofbhdaa.PG
open Go.RowKit Go.Proofs.YtfmkdledofbhdaaW.PrintWords Go.Proofs.YtfmkdledofbhdaaW.PrintLast Go.Proofs.YtfmkdledofbhdaaW.PrintMore Go.Proofs.Ytfmkdledofbhdaa.HW
attribute [local go_sem] run_makeFunc_ max2_int min2_int max_two min_two max_three min_three max_four min_four   -- for this text's walks alone
set_option linter.unusedVariables false
set_option linter.unusedSimpArgs false

/-! ### fraction_year: function 75 -/
def fraction_year.f (a0 : Int) : Option (Int) := if a0 = 1 then (some 360) else (if a0 = 2 then (some 365) else (if a0 = 3 then (some 133590) else (none)))
set_option maxHeartbeats 8000000 in
set_option maxRecDepth 100000 in
theorem fraction_year.calls (a0 : Int) (r : Int) (w : World) (h : fraction_year.f a0 = some r) :
    Calls Try.prog 75 #[.int .i64 a0] w fun e w' => e = .returned (.int .i64 r) ∧ Drawn0 w w' := by
  have H : (if a0 = 1 then (some 360) else (if a0 = 2 then (some 365) else (if a0 = 3 then (some 133590) else (none)))) = some r := h
  clear h
  by_cases c2 : a0 = 1
  · rw [if_pos c2] at H
    have c2b0 : (a0 == 1) = true := beq_iff_eq.mpr c2
    have c2b1 : (a0 != 1) = false := bne_eq_false_iff_eq.mpr c2
    clear c2
    obtain rfl := Option.some.inj H
    go_enter Try.func75, Try.ntmps75
    go_wp2
    go_ret
    exact ⟨by first | rfl | (simp; done) | (simp [*]; done), by repeat (first | exact Drawn0.refl _ | apply Drawn0.step)⟩
  · rw [if_neg c2] at H
    have c2b0 : (a0 == 1) = false := beq_eq_false_iff_ne.mpr c2
    have c2b1 : (a0 != 1) = true := bne_iff_ne.mpr c2
    by_cases c3 : a0 = 2
    · rw [if_pos c3] at H
      have c3b0 : (a0 == 2) = true := beq_iff_eq.mpr c3
      have c3b1 : (a0 != 2) = false := bne_eq_false_iff_eq.mpr c3
      clear c3
      obtain rfl := Option.some.inj H
      go_enter Try.func75, Try.ntmps75
      go_wp2
      go_ret
      exact ⟨by first | rfl | (simp; done) | (simp [*]; done), by repeat (first | exact Drawn0.refl _ | apply Drawn0.step)⟩
    · rw [if_neg c3] at H
      have c3b0 : (a0 == 2) = false := beq_eq_false_iff_ne.mpr c3
      have c3b1 : (a0 != 2) = true := bne_iff_ne.mpr c3
      by_cases c4 : a0 = 3
      · rw [if_pos c4] at H
        have c4b0 : (a0 == 3) = true := beq_iff_eq.mpr c4
        have c4b1 : (a0 != 3) = false := bne_eq_false_iff_eq.mpr c4
        clear c4
        obtain rfl := Option.some.inj H
        go_enter Try.func75, Try.ntmps75
        go_wp2
        go_ret
        exact ⟨by first | rfl | (simp; done) | (simp [*]; done), by repeat (first | exact Drawn0.refl _ | apply Drawn0.step)⟩
      · rw [if_neg c4] at H
        exact absurd H (by simp)

/-! ### fraction_place: function 76 -/
def fraction_place.f (a0 : Int) (a1 : Int) : Option (Int) := (Go.Proofs.Ytfmkdledofbhdaa.H.civil_Date.f a1).bind fun bt101 => (if bt101.2.2.2 = 0 then (if a0 = 1 then (some (wrap64 ((wrap64 ((wrap64 (360 * bt101.1)) + (wrap64 (30 * bt101.2.1)))) + (mn bt101.2.2.1 30)))) else (if a0 = 2 then (some a1) else ((Go.Proofs.Ytfmkdledofbhdaa.H.civil_Long.f bt101.1).bind fun t106 => (if t106 = true then ((Go.Proofs.Ytfmkdledofbhdaa.H.civil_Opens.f bt101.1).bind fun t107 => (some (wrap64 ((wrap64 ((wrap64 (bt101.1 * 365)) * 366)) + (wrap64 ((wrap64 (a1 - t107)) * 365)))))) else ((Go.Proofs.Ytfmkdledofbhdaa.H.civil_Opens.f bt101.1).bind fun t108 => (some (wrap64 ((wrap64 ((wrap64 (bt101.1 * 365)) * 366)) + (wrap64 ((wrap64 (a1 - t108)) * 366)))))))))) else (none))
set_option maxHeartbeats 8000000 in
set_option maxRecDepth 100000 in
theorem fraction_place.calls (a0 : Int) (a1 : Int) (r : Int) (w : World) (h : fraction_place.f a0 a1 = some r) :
    Calls Try.prog 76 #[.int .i64 a0, .int .i64 a1] w fun e w' => e = .returned (.int .i64 r) ∧ Below w.heap.size w w' := by
  have hu114 := Try.underlying114
  have HB := Aside0.mk (Below.refl w.heap.size w)
  have H : ((Go.Proofs.Ytfmkdledofbhdaa.H.civil_Date.f a1).bind fun bt101 => (if bt101.2.2.2 = 0 then (if a0 = 1 then (some (wrap64 ((wrap64 ((wrap64 (360 * bt101.1)) + (wrap64 (30 * bt101.2.1)))) + (mn bt101.2.2.1 30)))) else (if a0 = 2 then (some a1) else ((Go.Proofs.Ytfmkdledofbhdaa.H.civil_Long.f bt101.1).bind fun t106 => (if t106 = true then ((Go.Proofs.Ytfmkdledofbhdaa.H.civil_Opens.f bt101.1).bind fun t107 => (some (wrap64 ((wrap64 ((wrap64 (bt101.1 * 365)) * 366)) + (wrap64 ((wrap64 (a1 - t107)) * 365)))))) else ((Go.Proofs.Ytfmkdledofbhdaa.H.civil_Opens.f bt101.1).bind fun t108 => (some (wrap64 ((wrap64 ((wrap64 (bt101.1 * 365)) * 366)) + (wrap64 ((wrap64 (a1 - t108)) * 366)))))))))) else (none))) = some r := h
  clear h
  replace H := Option.bind_eq_some_iff.mp H
  obtain ⟨⟨t101, t102, t103, t104⟩, A30, H⟩ := H
  replace H : (if t104 = 0 then (if a0 = 1 then (some (wrap64 ((wrap64 ((wrap64 (360 * t101)) + (wrap64 (30 * t102)))) + (mn t103 30)))) else (if a0 = 2 then (some a1) else ((Go.Proofs.Ytfmkdledofbhdaa.H.civil_Long.f t101).bind fun t106 => (if t106 = true then ((Go.Proofs.Ytfmkdledofbhdaa.H.civil_Opens.f t101).bind fun t107 => (some (wrap64 ((wrap64 ((wrap64 (t101 * 365)) * 366)) + (wrap64 ((wrap64 (a1 - t107)) * 365)))))) else ((Go.Proofs.Ytfmkdledofbhdaa.H.civil_Opens.f t101).bind fun t108 => (some (wrap64 ((wrap64 ((wrap64 (t101 * 365)) * 366)) + (wrap64 ((wrap64 (a1 - t108)) * 366)))))))))) else (none)) = some r := H
  have A3 := Aside0.mk A30
  clear A30
  by_cases c4 : t104 = 0
  · rw [if_pos c4] at H
    have c4b0 : (t104 == 0) = true := beq_iff_eq.mpr c4
    have c4b1 : (t104 != 0) = false := bne_eq_false_iff_eq.mpr c4
    clear c4
    by_cases c5 : a0 = 1
    · rw [if_pos c5] at H
      have c5b0 : (a0 == 1) = true := beq_iff_eq.mpr c5
      have c5b1 : (a0 != 1) = false := bne_eq_false_iff_eq.mpr c5
      clear c5
      obtain ⟨ji6, hji6⟩ : ∃ j_ : Int, (mn t103 30) = j_ := ⟨_, rfl⟩
      replace H : (some (wrap64 ((wrap64 ((wrap64 (360 * t101)) + (wrap64 (30 * t102)))) + (ji6)))) = some r := by first | (rw [hji6] at H; exact H) | (simp only [hji6] at H ⊢; exact H)
      (try rw [hji6] at A3)
      (try (have hji6h : ji6 ≤ 30 := by (rw [← hji6]; unfold mn; (repeat' split) <;> omega)))
      (try (have hji6g : ji6 ≤ 64 := by omega))
      have hji6_ : (if 30 < t103 then 30 else t103) = ji6 := hji6
      obtain rfl := Option.some.inj H
      go_enter Try.func76, Try.ntmps76
      go_wp2_with (first | (go_at_call 97; (with_reducible refine (Go.Proofs.Ytfmkdledofbhdaa.H.civil_Date.calls a1 t101 t102 t103 t104 _ A3.out).mono ?_); rintro e w7 ⟨rfl, hb⟩; have n0_ := Aside0.mk (below_step (by repeat (first | (with_reducible first | exact HB.out | apply below_alloc | apply pw_below_drewN | apply below_drew1) | exact HB.out)) hb); clear HB; have HB := n0_; clear n0_; (try clear hb); (try clear hb2); (try clear hk); (try clear hi)) | ((with_reducible refine gate_dst (N := 5) rfl ?_); refine box_event ?hg (N := 5) ?hd (cs := #[.int .i64 0, .int .i64 0, .int .i64 0]) (t := 114) ?hr ?_; (case hd => rfl); (case hg => rfl); (case hr => first | (go_simp; done) | (go_simp; rfl)); intro gb105 hg w8 hbox hb; have n0_ := Aside0.mk (below_step (by repeat (first | (with_reducible first | exact HB.out | apply below_alloc | apply pw_below_drewN | apply below_drew1) | exact HB.out)) hb); have n1_ := Aside0.mk (hbox); have n2_ := Aside0.mk ((by rw [hg]; exact (below_size (by repeat (first | (with_reducible first | exact HB.out | apply below_alloc | apply pw_below_drewN | apply below_drew1) | exact HB.out))) : w.heap.size ≤ gb105)); have n3_ := Aside0.mk ((by rw [hg]; exact (below_size (by repeat (first | (with_reducible first | exact HB.out | apply below_alloc | apply pw_below_drewN | apply below_drew1) | exact HB.out))) : w.heap.size ≤ gb105)); clear HB; have HB := n0_; have BK105 := n1_; have GW105 := n2_; have GE105 := n3_; clear n0_ n1_ n2_ n3_; clear hb hbox hg; (try have hu105_0 : w8.cell? ⟨gb105, 0, none⟩ = some (.int .i64 0) := (blk_cell BK105.out 0).trans rfl); (try have hu105_1 : w8.cell? ⟨gb105, 1, none⟩ = some (.int .i64 0) := (blk_cell BK105.out 1).trans rfl); (try have hu105_2 : w8.cell? ⟨gb105, 2, none⟩ = some (.int .i64 0) := (blk_cell BK105.out 2).trans rfl); (try have hv105_0 := blk_frozen BK105.out 0); (try have hv105_1 := blk_frozen BK105.out 1); (try have hv105_2 := blk_frozen BK105.out 2); have hcz9_0 : w8.cell? ⟨gb105, 0, none⟩ = some (.int .i64 0) := (blk_cell BK105.out 0).trans rfl; have hcz9_1 : w8.cell? ⟨gb105, 1, none⟩ = some (.int .i64 0) := (blk_cell BK105.out 1).trans rfl; have hcz9_2 : w8.cell? ⟨gb105, 2, none⟩ = some (.int .i64 0) := (blk_cell BK105.out 2).trans rfl; have hfz9_0 := blk_frozen BK105.out 0; have hfz9_1 := blk_frozen BK105.out 1; have hfz9_2 := blk_frozen BK105.out 2))
      repeat (go_quiet (first | (go_at_call 97; (with_reducible refine (Go.Proofs.Ytfmkdledofbhdaa.H.civil_Date.calls a1 t101 t102 t103 t104 _ A3.out).mono ?_); rintro e w7 ⟨rfl, hb⟩; have n0_ := Aside0.mk (below_step (by repeat (first | (with_reducible first | exact HB.out | apply below_alloc | apply pw_below_drewN | apply below_drew1) | exact HB.out)) hb); clear HB; have HB := n0_; clear n0_; (try clear hb); (try clear hb2); (try clear hk); (try clear hi)) | ((with_reducible refine gate_dst (N := 5) rfl ?_); refine box_event ?hg (N := 5) ?hd (cs := #[.int .i64 0, .int .i64 0, .int .i64 0]) (t := 114) ?hr ?_; (case hd => rfl); (case hg => rfl); (case hr => first | (go_simp; done) | (go_simp; rfl)); intro gb105 hg w8 hbox hb; have n0_ := Aside0.mk (below_step (by repeat (first | (with_reducible first | exact HB.out | apply below_alloc | apply pw_below_drewN | apply below_drew1) | exact HB.out)) hb); have n1_ := Aside0.mk (hbox); have n2_ := Aside0.mk ((by rw [hg]; exact (below_size (by repeat (first | (with_reducible first | exact HB.out | apply below_alloc | apply pw_below_drewN | apply below_drew1) | exact HB.out))) : w.heap.size ≤ gb105)); have n3_ := Aside0.mk ((by rw [hg]; exact (below_size (by repeat (first | (with_reducible first | exact HB.out | apply below_alloc | apply pw_below_drewN | apply below_drew1) | exact HB.out))) : w.heap.size ≤ gb105)); clear HB; have HB := n0_; have BK105 := n1_; have GW105 := n2_; have GE105 := n3_; clear n0_ n1_ n2_ n3_; clear hb hbox hg; (try have hu105_0 : w8.cell? ⟨gb105, 0, none⟩ = some (.int .i64 0) := (blk_cell BK105.out 0).trans rfl); (try have hu105_1 : w8.cell? ⟨gb105, 1, none⟩ = some (.int .i64 0) := (blk_cell BK105.out 1).trans rfl); (try have hu105_2 : w8.cell? ⟨gb105, 2, none⟩ = some (.int .i64 0) := (blk_cell BK105.out 2).trans rfl); (try have hv105_0 := blk_frozen BK105.out 0); (try have hv105_1 := blk_frozen BK105.out 1); (try have hv105_2 := blk_frozen BK105.out 2); have hcz9_0 : w8.cell? ⟨gb105, 0, none⟩ = some (.int .i64 0) := (blk_cell BK105.out 0).trans rfl; have hcz9_1 : w8.cell? ⟨gb105, 1, none⟩ = some (.int .i64 0) := (blk_cell BK105.out 1).trans rfl; have hcz9_2 : w8.cell? ⟨gb105, 2, none⟩ = some (.int .i64 0) := (blk_cell BK105.out 2).trans rfl; have hfz9_0 := blk_frozen BK105.out 0; have hfz9_1 := blk_frozen BK105.out 1; have hfz9_2 := blk_frozen BK105.out 2)); try go_wp2_with (first | (go_at_call 97; (with_reducible refine (Go.Proofs.Ytfmkdledofbhdaa.H.civil_Date.calls a1 t101 t102 t103 t104 _ A3.out).mono ?_); rintro e w7 ⟨rfl, hb⟩; have n0_ := Aside0.mk (below_step (by repeat (first | (with_reducible first | exact HB.out | apply below_alloc | apply pw_below_drewN | apply below_drew1) | exact HB.out)) hb); clear HB; have HB := n0_; clear n0_; (try clear hb); (try clear hb2); (try clear hk); (try clear hi)) | ((with_reducible refine gate_dst (N := 5) rfl ?_); refine box_event ?hg (N := 5) ?hd (cs := #[.int .i64 0, .int .i64 0, .int .i64 0]) (t := 114) ?hr ?_; (case hd => rfl); (case hg => rfl); (case hr => first | (go_simp; done) | (go_simp; rfl)); intro gb105 hg w8 hbox hb; have n0_ := Aside0.mk (below_step (by repeat (first | (with_reducible first | exact HB.out | apply below_alloc | apply pw_below_drewN | apply below_drew1) | exact HB.out)) hb); have n1_ := Aside0.mk (hbox); have n2_ := Aside0.mk ((by rw [hg]; exact (below_size (by repeat (first | (with_reducible first | exact HB.out | apply below_alloc | apply pw_below_drewN | apply below_drew1) | exact HB.out))) : w.heap.size ≤ gb105)); have n3_ := Aside0.mk ((by rw [hg]; exact (below_size (by repeat (first | (with_reducible first | exact HB.out | apply below_alloc | apply pw_below_drewN | apply below_drew1) | exact HB.out))) : w.heap.size ≤ gb105)); clear HB; have HB := n0_; have BK105 := n1_; have GW105 := n2_; have GE105 := n3_; clear n0_ n1_ n2_ n3_; clear hb hbox hg; (try have hu105_0 : w8.cell? ⟨gb105, 0, none⟩ = some (.int .i64 0) := (blk_cell BK105.out 0).trans rfl); (try have hu105_1 : w8.cell? ⟨gb105, 1, none⟩ = some (.int .i64 0) := (blk_cell BK105.out 1).trans rfl); (try have hu105_2 : w8.cell? ⟨gb105, 2, none⟩ = some (.int .i64 0) := (blk_cell BK105.out 2).trans rfl); (try have hv105_0 := blk_frozen BK105.out 0); (try have hv105_1 := blk_frozen BK105.out 1); (try have hv105_2 := blk_frozen BK105.out 2); have hcz9_0 : w8.cell? ⟨gb105, 0, none⟩ = some (.int .i64 0) := (blk_cell BK105.out 0).trans rfl; have hcz9_1 : w8.cell? ⟨gb105, 1, none⟩ = some (.int .i64 0) := (blk_cell BK105.out 1).trans rfl; have hcz9_2 : w8.cell? ⟨gb105, 2, none⟩ = some (.int .i64 0) := (blk_cell BK105.out 2).trans rfl; have hfz9_0 := blk_frozen BK105.out 0; have hfz9_1 := blk_frozen BK105.out 1; have hfz9_2 := blk_frozen BK105.out 2)))
      go_ret
      exact ⟨by first | rfl | (simp [errW_none, errW_some] <;> rfl) | (simp only [← hji6]; first | rfl | (simp [errW_none, errW_some] <;> rfl)) | (simp [*, errW_none, errW_some] <;> rfl), by repeat (first | (with_reducible first | exact HB.out | apply below_alloc | apply pw_below_drewN | apply below_drew1 | refine below_set ?_ GE105.out) | exact HB.out)⟩
    · rw [if_neg c5] at H
      have c5b0 : (a0 == 1) = false := beq_eq_false_iff_ne.mpr c5
      have c5b1 : (a0 != 1) = true := bne_iff_ne.mpr c5
      by_cases c10 : a0 = 2
      · rw [if_pos c10] at H
        have c10b0 : (a0 == 2) = true := beq_iff_eq.mpr c10
        have c10b1 : (a0 != 2) = false := bne_eq_false_iff_eq.mpr c10
        clear c10
        obtain rfl := Option.some.inj H
        go_enter Try.func76, Try.ntmps76
        go_wp2_with (first | (go_at_call 97; (with_reducible refine (Go.Proofs.Ytfmkdledofbhdaa.H.civil_Date.calls a1 t101 t102 t103 t104 _ A3.out).mono ?_); rintro e w11 ⟨rfl, hb⟩; have n0_ := Aside0.mk (below_step (by repeat (first | (with_reducible first | exact HB.out | apply below_alloc | apply pw_below_drewN | apply below_drew1) | exact HB.out)) hb); clear HB; have HB := n0_; clear n0_; (try clear hb); (try clear hb2); (try clear hk); (try clear hi)) | ((with_reducible refine gate_dst (N := 5) rfl ?_); refine box_event ?hg (N := 5) ?hd (cs := #[.int .i64 0, .int .i64 0, .int .i64 0]) (t := 114) ?hr ?_; (case hd => rfl); (case hg => rfl); (case hr => first | (go_simp; done) | (go_simp; rfl)); intro gb105 hg w12 hbox hb; have n0_ := Aside0.mk (below_step (by repeat (first | (with_reducible first | exact HB.out | apply below_alloc | apply pw_below_drewN | apply below_drew1) | exact HB.out)) hb); have n1_ := Aside0.mk (hbox); have n2_ := Aside0.mk ((by rw [hg]; exact (below_size (by repeat (first | (with_reducible first | exact HB.out | apply below_alloc | apply pw_below_drewN | apply below_drew1) | exact HB.out))) : w.heap.size ≤ gb105)); have n3_ := Aside0.mk ((by rw [hg]; exact (below_size (by repeat (first | (with_reducible first | exact HB.out | apply below_alloc | apply pw_below_drewN | apply below_drew1) | exact HB.out))) : w.heap.size ≤ gb105)); clear HB; have HB := n0_; have BK105 := n1_; have GW105 := n2_; have GE105 := n3_; clear n0_ n1_ n2_ n3_; clear hb hbox hg; (try have hu105_0 : w12.cell? ⟨gb105, 0, none⟩ = some (.int .i64 0) := (blk_cell BK105.out 0).trans rfl); (try have hu105_1 : w12.cell? ⟨gb105, 1, none⟩ = some (.int .i64 0) := (blk_cell BK105.out 1).trans rfl); (try have hu105_2 : w12.cell? ⟨gb105, 2, none⟩ = some (.int .i64 0) := (blk_cell BK105.out 2).trans rfl); (try have hv105_0 := blk_frozen BK105.out 0); (try have hv105_1 := blk_frozen BK105.out 1); (try have hv105_2 := blk_frozen BK105.out 2); have hcz13_0 : w12.cell? ⟨gb105, 0, none⟩ = some (.int .i64 0) := (blk_cell BK105.out 0).trans rfl; have hcz13_1 : w12.cell? ⟨gb105, 1, none⟩ = some (.int .i64 0) := (blk_cell BK105.out 1).trans rfl; have hcz13_2 : w12.cell? ⟨gb105, 2, none⟩ = some (.int .i64 0) := (blk_cell BK105.out 2).trans rfl; have hfz13_0 := blk_frozen BK105.out 0; have hfz13_1 := blk_frozen BK105.out 1; have hfz13_2 := blk_frozen BK105.out 2))
        repeat (go_quiet (first | (go_at_call 97; (with_reducible refine (Go.Proofs.Ytfmkdledofbhdaa.H.civil_Date.calls a1 t101 t102 t103 t104 _ A3.out).mono ?_); rintro e w11 ⟨rfl, hb⟩; have n0_ := Aside0.mk (below_step (by repeat (first | (with_reducible first | exact HB.out | apply below_alloc | apply pw_below_drewN | apply below_drew1) | exact HB.out)) hb); clear HB; have HB := n0_; clear n0_; (try clear hb); (try clear hb2); (try clear hk); (try clear hi)) | ((with_reducible refine gate_dst (N := 5) rfl ?_); refine box_event ?hg (N := 5) ?hd (cs := #[.int .i64 0, .int .i64 0, .int .i64 0]) (t := 114) ?hr ?_; (case hd => rfl); (case hg => rfl); (case hr => first | (go_simp; done) | (go_simp; rfl)); intro gb105 hg w12 hbox hb; have n0_ := Aside0.mk (below_step (by repeat (first | (with_reducible first | exact HB.out | apply below_alloc | apply pw_below_drewN | apply below_drew1) | exact HB.out)) hb); have n1_ := Aside0.mk (hbox); have n2_ := Aside0.mk ((by rw [hg]; exact (below_size (by repeat (first | (with_reducible first | exact HB.out | apply below_alloc | apply pw_below_drewN | apply below_drew1) | exact HB.out))) : w.heap.size ≤ gb105)); have n3_ := Aside0.mk ((by rw [hg]; exact (below_size (by repeat (first | (with_reducible first | exact HB.out | apply below_alloc | apply pw_below_drewN | apply below_drew1) | exact HB.out))) : w.heap.size ≤ gb105)); clear HB; have HB := n0_; have BK105 := n1_; have GW105 := n2_; have GE105 := n3_; clear n0_ n1_ n2_ n3_; clear hb hbox hg; (try have hu105_0 : w12.cell? ⟨gb105, 0, none⟩ = some (.int .i64 0) := (blk_cell BK105.out 0).trans rfl); (try have hu105_1 : w12.cell? ⟨gb105, 1, none⟩ = some (.int .i64 0) := (blk_cell BK105.out 1).trans rfl); (try have hu105_2 : w12.cell? ⟨gb105, 2, none⟩ = some (.int .i64 0) := (blk_cell BK105.out 2).trans rfl); (try have hv105_0 := blk_frozen BK105.out 0); (try have hv105_1 := blk_frozen BK105.out 1); (try have hv105_2 := blk_frozen BK105.out 2); have hcz13_0 : w12.cell? ⟨gb105, 0, none⟩ = some (.int .i64 0) := (blk_cell BK105.out 0).trans rfl; have hcz13_1 : w12.cell? ⟨gb105, 1, none⟩ = some (.int .i64 0) := (blk_cell BK105.out 1).trans rfl; have hcz13_2 : w12.cell? ⟨gb105, 2, none⟩ = some (.int .i64 0) := (blk_cell BK105.out 2).trans rfl; have hfz13_0 := blk_frozen BK105.out 0; have hfz13_1 := blk_frozen BK105.out 1; have hfz13_2 := blk_frozen BK105.out 2)); try go_wp2_with (first | (go_at_call 97; (with_reducible refine (Go.Proofs.Ytfmkdledofbhdaa.H.civil_Date.calls a1 t101 t102 t103 t104 _ A3.out).mono ?_); rintro e w11 ⟨rfl, hb⟩; have n0_ := Aside0.mk (below_step (by repeat (first | (with_reducible first | exact HB.out | apply below_alloc | apply pw_below_drewN | apply below_drew1) | exact HB.out)) hb); clear HB; have HB := n0_; clear n0_; (try clear hb); (try clear hb2); (try clear hk); (try clear hi)) | ((with_reducible refine gate_dst (N := 5) rfl ?_); refine box_event ?hg (N := 5) ?hd (cs := #[.int .i64 0, .int .i64 0, .int .i64 0]) (t := 114) ?hr ?_; (case hd => rfl); (case hg => rfl); (case hr => first | (go_simp; done) | (go_simp; rfl)); intro gb105 hg w12 hbox hb; have n0_ := Aside0.mk (below_step (by repeat (first | (with_reducible first | exact HB.out | apply below_alloc | apply pw_below_drewN | apply below_drew1) | exact HB.out)) hb); have n1_ := Aside0.mk (hbox); have n2_ := Aside0.mk ((by rw [hg]; exact (below_size (by repeat (first | (with_reducible first | exact HB.out | apply below_alloc | apply pw_below_drewN | apply below_drew1) | exact HB.out))) : w.heap.size ≤ gb105)); have n3_ := Aside0.mk ((by rw [hg]; exact (below_size (by repeat (first | (with_reducible first | exact HB.out | apply below_alloc | apply pw_below_drewN | apply below_drew1) | exact HB.out))) : w.heap.size ≤ gb105)); clear HB; have HB := n0_; have BK105 := n1_; have GW105 := n2_; have GE105 := n3_; clear n0_ n1_ n2_ n3_; clear hb hbox hg; (try have hu105_0 : w12.cell? ⟨gb105, 0, none⟩ = some (.int .i64 0) := (blk_cell BK105.out 0).trans rfl); (try have hu105_1 : w12.cell? ⟨gb105, 1, none⟩ = some (.int .i64 0) := (blk_cell BK105.out 1).trans rfl); (try have hu105_2 : w12.cell? ⟨gb105, 2, none⟩ = some (.int .i64 0) := (blk_cell BK105.out 2).trans rfl); (try have hv105_0 := blk_frozen BK105.out 0); (try have hv105_1 := blk_frozen BK105.out 1); (try have hv105_2 := blk_frozen BK105.out 2); have hcz13_0 : w12.cell? ⟨gb105, 0, none⟩ = some (.int .i64 0) := (blk_cell BK105.out 0).trans rfl; have hcz13_1 : w12.cell? ⟨gb105, 1, none⟩ = some (.int .i64 0) := (blk_cell BK105.out 1).trans rfl; have hcz13_2 : w12.cell? ⟨gb105, 2, none⟩ = some (.int .i64 0) := (blk_cell BK105.out 2).trans rfl; have hfz13_0 := blk_frozen BK105.out 0; have hfz13_1 := blk_frozen BK105.out 1; have hfz13_2 := blk_frozen BK105.out 2)))
        go_ret
        exact ⟨by first | rfl | (simp [errW_none, errW_some] <;> rfl) | (simp [*, errW_none, errW_some] <;> rfl), by repeat (first | (with_reducible first | exact HB.out | apply below_alloc | apply pw_below_drewN | apply below_drew1 | refine below_set ?_ GE105.out) | exact HB.out)⟩
      · rw [if_neg c10] at H
        have c10b0 : (a0 == 2) = false := beq_eq_false_iff_ne.mpr c10
        have c10b1 : (a0 != 2) = true := bne_iff_ne.mpr c10
        replace H := Option.bind_eq_some_iff.mp H
        obtain ⟨t106, A140, H⟩ := H
        replace H : (if t106 = true then ((Go.Proofs.Ytfmkdledofbhdaa.H.civil_Opens.f t101).bind fun t107 => (some (wrap64 ((wrap64 ((wrap64 (t101 * 365)) * 366)) + (wrap64 ((wrap64 (a1 - t107)) * 365)))))) else ((Go.Proofs.Ytfmkdledofbhdaa.H.civil_Opens.f t101).bind fun t108 => (some (wrap64 ((wrap64 ((wrap64 (t101 * 365)) * 366)) + (wrap64 ((wrap64 (a1 - t108)) * 366))))))) = some r := H
        have A14 := Aside0.mk A140
        clear A140
        by_cases c15 : t106 = true
        · subst c15
          have H1 : ((Go.Proofs.Ytfmkdledofbhdaa.H.civil_Opens.f t101).bind fun t107 => (some (wrap64 ((wrap64 ((wrap64 (t101 * 365)) * 366)) + (wrap64 ((wrap64 (a1 - t107)) * 365)))))) = some r := by rw [if_pos rfl] at H; exact H
          clear H
          have H := H1
          clear H1
          replace H := Option.bind_eq_some_iff.mp H
          obtain ⟨t107, A160, H⟩ := H
          replace H : (some (wrap64 ((wrap64 ((wrap64 (t101 * 365)) * 366)) + (wrap64 ((wrap64 (a1 - t107)) * 365))))) = some r := H
          have A16 := Aside0.mk A160
          clear A160
          obtain rfl := Option.some.inj H
          go_enter Try.func76, Try.ntmps76
          go_wp2_with (first | (go_at_call 97; (with_reducible refine (Go.Proofs.Ytfmkdledofbhdaa.H.civil_Date.calls a1 t101 t102 t103 t104 _ A3.out).mono ?_); rintro e w17 ⟨rfl, hb⟩; have n0_ := Aside0.mk (below_step (by repeat (first | (with_reducible first | exact HB.out | apply below_alloc | apply pw_below_drewN | apply below_drew1) | exact HB.out)) hb); clear HB; have HB := n0_; clear n0_; (try clear hb); (try clear hb2); (try clear hk); (try clear hi)) | ((with_reducible refine gate_dst (N := 5) rfl ?_); refine box_event ?hg (N := 5) ?hd (cs := #[.int .i64 0, .int .i64 0, .int .i64 0]) (t := 114) ?hr ?_; (case hd => rfl); (case hg => rfl); (case hr => first | (go_simp; done) | (go_simp; rfl)); intro gb105 hg w18 hbox hb; have n0_ := Aside0.mk (below_step (by repeat (first | (with_reducible first | exact HB.out | apply below_alloc | apply pw_below_drewN | apply below_drew1) | exact HB.out)) hb); have n1_ := Aside0.mk (hbox); have n2_ := Aside0.mk ((by rw [hg]; exact (below_size (by repeat (first | (with_reducible first | exact HB.out | apply below_alloc | apply pw_below_drewN | apply below_drew1) | exact HB.out))) : w.heap.size ≤ gb105)); have n3_ := Aside0.mk ((by rw [hg]; exact (below_size (by repeat (first | (with_reducible first | exact HB.out | apply below_alloc | apply pw_below_drewN | apply below_drew1) | exact HB.out))) : w.heap.size ≤ gb105)); clear HB; have HB := n0_; have BK105 := n1_; have GW105 := n2_; have GE105 := n3_; clear n0_ n1_ n2_ n3_; clear hb hbox hg; (try have hu105_0 : w18.cell? ⟨gb105, 0, none⟩ = some (.int .i64 0) := (blk_cell BK105.out 0).trans rfl); (try have hu105_1 : w18.cell? ⟨gb105, 1, none⟩ = some (.int .i64 0) := (blk_cell BK105.out 1).trans rfl); (try have hu105_2 : w18.cell? ⟨gb105, 2, none⟩ = some (.int .i64 0) := (blk_cell BK105.out 2).trans rfl); (try have hv105_0 := blk_frozen BK105.out 0); (try have hv105_1 := blk_frozen BK105.out 1); (try have hv105_2 := blk_frozen BK105.out 2); have hcz19_0 : w18.cell? ⟨gb105, 0, none⟩ = some (.int .i64 0) := (blk_cell BK105.out 0).trans rfl; have hcz19_1 : w18.cell? ⟨gb105, 1, none⟩ = some (.int .i64 0) := (blk_cell BK105.out 1).trans rfl; have hcz19_2 : w18.cell? ⟨gb105, 2, none⟩ = some (.int .i64 0) := (blk_cell BK105.out 2).trans rfl; have hfz19_0 := blk_frozen BK105.out 0; have hfz19_1 := blk_frozen BK105.out 1; have hfz19_2 := blk_frozen BK105.out 2) | (go_at_call 98; (with_reducible refine (Go.Proofs.Ytfmkdledofbhdaa.H.civil_Long.calls t101 true _ A14.out).mono ?_); rintro e w' ⟨rfl, ⟨nd, rfl⟩⟩; (try first | exact ⟨rfl, _, World.drewN_drewN _ _ _⟩ | exact ⟨rfl, _, Eq.trans (World.drewN_drewN _ _ _) (congrArg (World.drewN _) (Nat.add_assoc _ _ _))⟩)) | (go_at_call 99; (with_reducible refine (Go.Proofs.Ytfmkdledofbhdaa.H.civil_Opens.calls t101 t107 _ A16.out).mono ?_); rintro e w' ⟨rfl, ⟨nd, rfl⟩⟩; (try first | exact ⟨rfl, _, World.drewN_drewN _ _ _⟩ | exact ⟨rfl, _, Eq.trans (World.drewN_drewN _ _ _) (congrArg (World.drewN _) (Nat.add_assoc _ _ _))⟩)))
          repeat (go_quiet (first | (go_at_call 97; (with_reducible refine (Go.Proofs.Ytfmkdledofbhdaa.H.civil_Date.calls a1 t101 t102 t103 t104 _ A3.out).mono ?_); rintro e w17 ⟨rfl, hb⟩; have n0_ := Aside0.mk (below_step (by repeat (first | (with_reducible first | exact HB.out | apply below_alloc | apply pw_below_drewN | apply below_drew1) | exact HB.out)) hb); clear HB; have HB := n0_; clear n0_; (try clear hb); (try clear hb2); (try clear hk); (try clear hi)) | ((with_reducible refine gate_dst (N := 5) rfl ?_); refine box_event ?hg (N := 5) ?hd (cs := #[.int .i64 0, .int .i64 0, .int .i64 0]) (t := 114) ?hr ?_; (case hd => rfl); (case hg => rfl); (case hr => first | (go_simp; done) | (go_simp; rfl)); intro gb105 hg w18 hbox hb; have n0_ := Aside0.mk (below_step (by repeat (first | (with_reducible first | exact HB.out | apply below_alloc | apply pw_below_drewN | apply below_drew1) | exact HB.out)) hb); have n1_ := Aside0.mk (hbox); have n2_ := Aside0.mk ((by rw [hg]; exact (below_size (by repeat (first | (with_reducible first | exact HB.out | apply below_alloc | apply pw_below_drewN | apply below_drew1) | exact HB.out))) : w.heap.size ≤ gb105)); have n3_ := Aside0.mk ((by rw [hg]; exact (below_size (by repeat (first | (with_reducible first | exact HB.out | apply below_alloc | apply pw_below_drewN | apply below_drew1) | exact HB.out))) : w.heap.size ≤ gb105)); clear HB; have HB := n0_; have BK105 := n1_; have GW105 := n2_; have GE105 := n3_; clear n0_ n1_ n2_ n3_; clear hb hbox hg; (try have hu105_0 : w18.cell? ⟨gb105, 0, none⟩ = some (.int .i64 0) := (blk_cell BK105.out 0).trans rfl); (try have hu105_1 : w18.cell? ⟨gb105, 1, none⟩ = some (.int .i64 0) := (blk_cell BK105.out 1).trans rfl); (try have hu105_2 : w18.cell? ⟨gb105, 2, none⟩ = some (.int .i64 0) := (blk_cell BK105.out 2).trans rfl); (try have hv105_0 := blk_frozen BK105.out 0); (try have hv105_1 := blk_frozen BK105.out 1); (try have hv105_2 := blk_frozen BK105.out 2); have hcz19_0 : w18.cell? ⟨gb105, 0, none⟩ = some (.int .i64 0) := (blk_cell BK105.out 0).trans rfl; have hcz19_1 : w18.cell? ⟨gb105, 1, none⟩ = some (.int .i64 0) := (blk_cell BK105.out 1).trans rfl; have hcz19_2 : w18.cell? ⟨gb105, 2, none⟩ = some (.int .i64 0) := (blk_cell BK105.out 2).trans rfl; have hfz19_0 := blk_frozen BK105.out 0; have hfz19_1 := blk_frozen BK105.out 1; have hfz19_2 := blk_frozen BK105.out 2) | (go_at_call 98; (with_reducible refine (Go.Proofs.Ytfmkdledofbhdaa.H.civil_Long.calls t101 true _ A14.out).mono ?_); rintro e w' ⟨rfl, ⟨nd, rfl⟩⟩; (try first | exact ⟨rfl, _, World.drewN_drewN _ _ _⟩ | exact ⟨rfl, _, Eq.trans (World.drewN_drewN _ _ _) (congrArg (World.drewN _) (Nat.add_assoc _ _ _))⟩)) | (go_at_call 99; (with_reducible refine (Go.Proofs.Ytfmkdledofbhdaa.H.civil_Opens.calls t101 t107 _ A16.out).mono ?_); rintro e w' ⟨rfl, ⟨nd, rfl⟩⟩; (try first | exact ⟨rfl, _, World.drewN_drewN _ _ _⟩ | exact ⟨rfl, _, Eq.trans (World.drewN_drewN _ _ _) (congrArg (World.drewN _) (Nat.add_assoc _ _ _))⟩))); try go_wp2_with (first | (go_at_call 97; (with_reducible refine (Go.Proofs.Ytfmkdledofbhdaa.H.civil_Date.calls a1 t101 t102 t103 t104 _ A3.out).mono ?_); rintro e w17 ⟨rfl, hb⟩; have n0_ := Aside0.mk (below_step (by repeat (first | (with_reducible first | exact HB.out | apply below_alloc | apply pw_below_drewN | apply below_drew1) | exact HB.out)) hb); clear HB; have HB := n0_; clear n0_; (try clear hb); (try clear hb2); (try clear hk); (try clear hi)) | ((with_reducible refine gate_dst (N := 5) rfl ?_); refine box_event ?hg (N := 5) ?hd (cs := #[.int .i64 0, .int .i64 0, .int .i64 0]) (t := 114) ?hr ?_; (case hd => rfl); (case hg => rfl); (case hr => first | (go_simp; done) | (go_simp; rfl)); intro gb105 hg w18 hbox hb; have n0_ := Aside0.mk (below_step (by repeat (first | (with_reducible first | exact HB.out | apply below_alloc | apply pw_below_drewN | apply below_drew1) | exact HB.out)) hb); have n1_ := Aside0.mk (hbox); have n2_ := Aside0.mk ((by rw [hg]; exact (below_size (by repeat (first | (with_reducible first | exact HB.out | apply below_alloc | apply pw_below_drewN | apply below_drew1) | exact HB.out))) : w.heap.size ≤ gb105)); have n3_ := Aside0.mk ((by rw [hg]; exact (below_size (by repeat (first | (with_reducible first | exact HB.out | apply below_alloc | apply pw_below_drewN | apply below_drew1) | exact HB.out))) : w.heap.size ≤ gb105)); clear HB; have HB := n0_; have BK105 := n1_; have GW105 := n2_; have GE105 := n3_; clear n0_ n1_ n2_ n3_; clear hb hbox hg; (try have hu105_0 : w18.cell? ⟨gb105, 0, none⟩ = some (.int .i64 0) := (blk_cell BK105.out 0).trans rfl); (try have hu105_1 : w18.cell? ⟨gb105, 1, none⟩ = some (.int .i64 0) := (blk_cell BK105.out 1).trans rfl); (try have hu105_2 : w18.cell? ⟨gb105, 2, none⟩ = some (.int .i64 0) := (blk_cell BK105.out 2).trans rfl); (try have hv105_0 := blk_frozen BK105.out 0); (try have hv105_1 := blk_frozen BK105.out 1); (try have hv105_2 := blk_frozen BK105.out 2); have hcz19_0 : w18.cell? ⟨gb105, 0, none⟩ = some (.int .i64 0) := (blk_cell BK105.out 0).trans rfl; have hcz19_1 : w18.cell? ⟨gb105, 1, none⟩ = some (.int .i64 0) := (blk_cell BK105.out 1).trans rfl; have hcz19_2 : w18.cell? ⟨gb105, 2, none⟩ = some (.int .i64 0) := (blk_cell BK105.out 2).trans rfl; have hfz19_0 := blk_frozen BK105.out 0; have hfz19_1 := blk_frozen BK105.out 1; have hfz19_2 := blk_frozen BK105.out 2) | (go_at_call 98; (with_reducible refine (Go.Proofs.Ytfmkdledofbhdaa.H.civil_Long.calls t101 true _ A14.out).mono ?_); rintro e w' ⟨rfl, ⟨nd, rfl⟩⟩; (try first | exact ⟨rfl, _, World.drewN_drewN _ _ _⟩ | exact ⟨rfl, _, Eq.trans (World.drewN_drewN _ _ _) (congrArg (World.drewN _) (Nat.add_assoc _ _ _))⟩)) | (go_at_call 99; (with_reducible refine (Go.Proofs.Ytfmkdledofbhdaa.H.civil_Opens.calls t101 t107 _ A16.out).mono ?_); rintro e w' ⟨rfl, ⟨nd, rfl⟩⟩; (try first | exact ⟨rfl, _, World.drewN_drewN _ _ _⟩ | exact ⟨rfl, _, Eq.trans (World.drewN_drewN _ _ _) (congrArg (World.drewN _) (Nat.add_assoc _ _ _))⟩))))
          go_ret
          exact ⟨by first | rfl | (simp [errW_none, errW_some] <;> rfl) | (simp [*, errW_none, errW_some] <;> rfl), by repeat (first | (with_reducible first | exact HB.out | apply below_alloc | apply pw_below_drewN | apply below_drew1 | refine below_set ?_ GE105.out) | exact HB.out)⟩
        · replace c15 := Bool.eq_false_iff.mpr c15
          subst c15
          have H1 : ((Go.Proofs.Ytfmkdledofbhdaa.H.civil_Opens.f t101).bind fun t108 => (some (wrap64 ((wrap64 ((wrap64 (t101 * 365)) * 366)) + (wrap64 ((wrap64 (a1 - t108)) * 366)))))) = some r := by rw [if_neg (show ¬ (false = true) by decide)] at H; exact H
          clear H
          have H := H1
          clear H1
          replace H := Option.bind_eq_some_iff.mp H
          obtain ⟨t108, A200, H⟩ := H
          replace H : (some (wrap64 ((wrap64 ((wrap64 (t101 * 365)) * 366)) + (wrap64 ((wrap64 (a1 - t108)) * 366))))) = some r := H
          have A20 := Aside0.mk A200
          clear A200
          obtain rfl := Option.some.inj H
          go_enter Try.func76, Try.ntmps76
          go_wp2_with (first | (go_at_call 97; (with_reducible refine (Go.Proofs.Ytfmkdledofbhdaa.H.civil_Date.calls a1 t101 t102 t103 t104 _ A3.out).mono ?_); rintro e w21 ⟨rfl, hb⟩; have n0_ := Aside0.mk (below_step (by repeat (first | (with_reducible first | exact HB.out | apply below_alloc | apply pw_below_drewN | apply below_drew1) | exact HB.out)) hb); clear HB; have HB := n0_; clear n0_; (try clear hb); (try clear hb2); (try clear hk); (try clear hi)) | ((with_reducible refine gate_dst (N := 5) rfl ?_); refine box_event ?hg (N := 5) ?hd (cs := #[.int .i64 0, .int .i64 0, .int .i64 0]) (t := 114) ?hr ?_; (case hd => rfl); (case hg => rfl); (case hr => first | (go_simp; done) | (go_simp; rfl)); intro gb105 hg w22 hbox hb; have n0_ := Aside0.mk (below_step (by repeat (first | (with_reducible first | exact HB.out | apply below_alloc | apply pw_below_drewN | apply below_drew1) | exact HB.out)) hb); have n1_ := Aside0.mk (hbox); have n2_ := Aside0.mk ((by rw [hg]; exact (below_size (by repeat (first | (with_reducible first | exact HB.out | apply below_alloc | apply pw_below_drewN | apply below_drew1) | exact HB.out))) : w.heap.size ≤ gb105)); have n3_ := Aside0.mk ((by rw [hg]; exact (below_size (by repeat (first | (with_reducible first | exact HB.out | apply below_alloc | apply pw_below_drewN | apply below_drew1) | exact HB.out))) : w.heap.size ≤ gb105)); clear HB; have HB := n0_; have BK105 := n1_; have GW105 := n2_; have GE105 := n3_; clear n0_ n1_ n2_ n3_; clear hb hbox hg; (try have hu105_0 : w22.cell? ⟨gb105, 0, none⟩ = some (.int .i64 0) := (blk_cell BK105.out 0).trans rfl); (try have hu105_1 : w22.cell? ⟨gb105, 1, none⟩ = some (.int .i64 0) := (blk_cell BK105.out 1).trans rfl); (try have hu105_2 : w22.cell? ⟨gb105, 2, none⟩ = some (.int .i64 0) := (blk_cell BK105.out 2).trans rfl); (try have hv105_0 := blk_frozen BK105.out 0); (try have hv105_1 := blk_frozen BK105.out 1); (try have hv105_2 := blk_frozen BK105.out 2); have hcz23_0 : w22.cell? ⟨gb105, 0, none⟩ = some (.int .i64 0) := (blk_cell BK105.out 0).trans rfl; have hcz23_1 : w22.cell? ⟨gb105, 1, none⟩ = some (.int .i64 0) := (blk_cell BK105.out 1).trans rfl; have hcz23_2 : w22.cell? ⟨gb105, 2, none⟩ = some (.int .i64 0) := (blk_cell BK105.out 2).trans rfl; have hfz23_0 := blk_frozen BK105.out 0; have hfz23_1 := blk_frozen BK105.out 1; have hfz23_2 := blk_frozen BK105.out 2) | (go_at_call 98; (with_reducible refine (Go.Proofs.Ytfmkdledofbhdaa.H.civil_Long.calls t101 false _ A14.out).mono ?_); rintro e w' ⟨rfl, ⟨nd, rfl⟩⟩; (try first | exact ⟨rfl, _, World.drewN_drewN _ _ _⟩ | exact ⟨rfl, _, Eq.trans (World.drewN_drewN _ _ _) (congrArg (World.drewN _) (Nat.add_assoc _ _ _))⟩)) | (go_at_call 99; (with_reducible refine (Go.Proofs.Ytfmkdledofbhdaa.H.civil_Opens.calls t101 t108 _ A20.out).mono ?_); rintro e w' ⟨rfl, ⟨nd, rfl⟩⟩; (try first | exact ⟨rfl, _, World.drewN_drewN _ _ _⟩ | exact ⟨rfl, _, Eq.trans (World.drewN_drewN _ _ _) (congrArg (World.drewN _) (Nat.add_assoc _ _ _))⟩)))
          repeat (go_quiet (first | (go_at_call 97; (with_reducible refine (Go.Proofs.Ytfmkdledofbhdaa.H.civil_Date.calls a1 t101 t102 t103 t104 _ A3.out).mono ?_); rintro e w21 ⟨rfl, hb⟩; have n0_ := Aside0.mk (below_step (by repeat (first | (with_reducible first | exact HB.out | apply below_alloc | apply pw_below_drewN | apply below_drew1) | exact HB.out)) hb); clear HB; have HB := n0_; clear n0_; (try clear hb); (try clear hb2); (try clear hk); (try clear hi)) | ((with_reducible refine gate_dst (N := 5) rfl ?_); refine box_event ?hg (N := 5) ?hd (cs := #[.int .i64 0, .int .i64 0, .int .i64 0]) (t := 114) ?hr ?_; (case hd => rfl); (case hg => rfl); (case hr => first | (go_simp; done) | (go_simp; rfl)); intro gb105 hg w22 hbox hb; have n0_ := Aside0.mk (below_step (by repeat (first | (with_reducible first | exact HB.out | apply below_alloc | apply pw_below_drewN | apply below_drew1) | exact HB.out)) hb); have n1_ := Aside0.mk (hbox); have n2_ := Aside0.mk ((by rw [hg]; exact (below_size (by repeat (first | (with_reducible first | exact HB.out | apply below_alloc | apply pw_below_drewN | apply below_drew1) | exact HB.out))) : w.heap.size ≤ gb105)); have n3_ := Aside0.mk ((by rw [hg]; exact (below_size (by repeat (first | (with_reducible first | exact HB.out | apply below_alloc | apply pw_below_drewN | apply below_drew1) | exact HB.out))) : w.heap.size ≤ gb105)); clear HB; have HB := n0_; have BK105 := n1_; have GW105 := n2_; have GE105 := n3_; clear n0_ n1_ n2_ n3_; clear hb hbox hg; (try have hu105_0 : w22.cell? ⟨gb105, 0, none⟩ = some (.int .i64 0) := (blk_cell BK105.out 0).trans rfl); (try have hu105_1 : w22.cell? ⟨gb105, 1, none⟩ = some (.int .i64 0) := (blk_cell BK105.out 1).trans rfl); (try have hu105_2 : w22.cell? ⟨gb105, 2, none⟩ = some (.int .i64 0) := (blk_cell BK105.out 2).trans rfl); (try have hv105_0 := blk_frozen BK105.out 0); (try have hv105_1 := blk_frozen BK105.out 1); (try have hv105_2 := blk_frozen BK105.out 2); have hcz23_0 : w22.cell? ⟨gb105, 0, none⟩ = some (.int .i64 0) := (blk_cell BK105.out 0).trans rfl; have hcz23_1 : w22.cell? ⟨gb105, 1, none⟩ = some (.int .i64 0) := (blk_cell BK105.out 1).trans rfl; have hcz23_2 : w22.cell? ⟨gb105, 2, none⟩ = some (.int .i64 0) := (blk_cell BK105.out 2).trans rfl; have hfz23_0 := blk_frozen BK105.out 0; have hfz23_1 := blk_frozen BK105.out 1; have hfz23_2 := blk_frozen BK105.out 2) | (go_at_call 98; (with_reducible refine (Go.Proofs.Ytfmkdledofbhdaa.H.civil_Long.calls t101 false _ A14.out).mono ?_); rintro e w' ⟨rfl, ⟨nd, rfl⟩⟩; (try first | exact ⟨rfl, _, World.drewN_drewN _ _ _⟩ | exact ⟨rfl, _, Eq.trans (World.drewN_drewN _ _ _) (congrArg (World.drewN _) (Nat.add_assoc _ _ _))⟩)) | (go_at_call 99; (with_reducible refine (Go.Proofs.Ytfmkdledofbhdaa.H.civil_Opens.calls t101 t108 _ A20.out).mono ?_); rintro e w' ⟨rfl, ⟨nd, rfl⟩⟩; (try first | exact ⟨rfl, _, World.drewN_drewN _ _ _⟩ | exact ⟨rfl, _, Eq.trans (World.drewN_drewN _ _ _) (congrArg (World.drewN _) (Nat.add_assoc _ _ _))⟩))); try go_wp2_with (first | (go_at_call 97; (with_reducible refine (Go.Proofs.Ytfmkdledofbhdaa.H.civil_Date.calls a1 t101 t102 t103 t104 _ A3.out).mono ?_); rintro e w21 ⟨rfl, hb⟩; have n0_ := Aside0.mk (below_step (by repeat (first | (with_reducible first | exact HB.out | apply below_alloc | apply pw_below_drewN | apply below_drew1) | exact HB.out)) hb); clear HB; have HB := n0_; clear n0_; (try clear hb); (try clear hb2); (try clear hk); (try clear hi)) | ((with_reducible refine gate_dst (N := 5) rfl ?_); refine box_event ?hg (N := 5) ?hd (cs := #[.int .i64 0, .int .i64 0, .int .i64 0]) (t := 114) ?hr ?_; (case hd => rfl); (case hg => rfl); (case hr => first | (go_simp; done) | (go_simp; rfl)); intro gb105 hg w22 hbox hb; have n0_ := Aside0.mk (below_step (by repeat (first | (with_reducible first | exact HB.out | apply below_alloc | apply pw_below_drewN | apply below_drew1) | exact HB.out)) hb); have n1_ := Aside0.mk (hbox); have n2_ := Aside0.mk ((by rw [hg]; exact (below_size (by repeat (first | (with_reducible first | exact HB.out | apply below_alloc | apply pw_below_drewN | apply below_drew1) | exact HB.out))) : w.heap.size ≤ gb105)); have n3_ := Aside0.mk ((by rw [hg]; exact (below_size (by repeat (first | (with_reducible first | exact HB.out | apply below_alloc | apply pw_below_drewN | apply below_drew1) | exact HB.out))) : w.heap.size ≤ gb105)); clear HB; have HB := n0_; have BK105 := n1_; have GW105 := n2_; have GE105 := n3_; clear n0_ n1_ n2_ n3_; clear hb hbox hg; (try have hu105_0 : w22.cell? ⟨gb105, 0, none⟩ = some (.int .i64 0) := (blk_cell BK105.out 0).trans rfl); (try have hu105_1 : w22.cell? ⟨gb105, 1, none⟩ = some (.int .i64 0) := (blk_cell BK105.out 1).trans rfl); (try have hu105_2 : w22.cell? ⟨gb105, 2, none⟩ = some (.int .i64 0) := (blk_cell BK105.out 2).trans rfl); (try have hv105_0 := blk_frozen BK105.out 0); (try have hv105_1 := blk_frozen BK105.out 1); (try have hv105_2 := blk_frozen BK105.out 2); have hcz23_0 : w22.cell? ⟨gb105, 0, none⟩ = some (.int .i64 0) := (blk_cell BK105.out 0).trans rfl; have hcz23_1 : w22.cell? ⟨gb105, 1, none⟩ = some (.int .i64 0) := (blk_cell BK105.out 1).trans rfl; have hcz23_2 : w22.cell? ⟨gb105, 2, none⟩ = some (.int .i64 0) := (blk_cell BK105.out 2).trans rfl; have hfz23_0 := blk_frozen BK105.out 0; have hfz23_1 := blk_frozen BK105.out 1; have hfz23_2 := blk_frozen BK105.out 2) | (go_at_call 98; (with_reducible refine (Go.Proofs.Ytfmkdledofbhdaa.H.civil_Long.calls t101 false _ A14.out).mono ?_); rintro e w' ⟨rfl, ⟨nd, rfl⟩⟩; (try first | exact ⟨rfl, _, World.drewN_drewN _ _ _⟩ | exact ⟨rfl, _, Eq.trans (World.drewN_drewN _ _ _) (congrArg (World.drewN _) (Nat.add_assoc _ _ _))⟩)) | (go_at_call 99; (with_reducible refine (Go.Proofs.Ytfmkdledofbhdaa.H.civil_Opens.calls t101 t108 _ A20.out).mono ?_); rintro e w' ⟨rfl, ⟨nd, rfl⟩⟩; (try first | exact ⟨rfl, _, World.drewN_drewN _ _ _⟩ | exact ⟨rfl, _, Eq.trans (World.drewN_drewN _ _ _) (congrArg (World.drewN _) (Nat.add_assoc _ _ _))⟩))))
          go_ret
          exact ⟨by first | rfl | (simp [errW_none, errW_some] <;> rfl) | (simp [*, errW_none, errW_some] <;> rfl), by repeat (first | (with_reducible first | exact HB.out | apply below_alloc | apply pw_below_drewN | apply below_drew1 | refine below_set ?_ GE105.out) | exact HB.out)⟩
  · rw [if_neg c4] at H
    exact absurd H (by simp)

end Go.Proofs.Ytfmkdledofbhdaa.PG
/- Contracts by hand: parts of a year: what is thrown, and caught. -/
namespace Go.Proofs.Ytfmkdledofbhdaa.H
open Go.RowKit Go.Proofs.YtfmkdledofbhdaaW.PrintWords Go.Proofs.YtfmkdledofbhdaaW.PrintLast Go.Proofs.YtfmkdledofbhdaaW.PrintMore
open Go.Proofs.Ytfmkdledofbhdaa.Math
set_option linter.unusedVariables false
set_option linter.unusedSimpArgs false

/-- What does not recover is walked as1 ever. -/
theorem rest_plain {P : Program} {c : Code} {Q0 : Exit → Act → List Frame → World → Prop} {a : Act} {cs : List Frame} {w : World}
    (h : ∀ Q : Exit → Act → World → Prop, Aside0 (∀ e a' w', Q0 e a' cs w' → Q e a' w') → c.wp P Q a w) : c.wpS P Q0 a cs w :=
  wpS_of_wp (h _ ⟨fun _ _ _ x => x⟩)

/-- Two result cells, new at w. -/
structure Res2 (w W : World) (x y : Value) : Prop where
  below : Below w.heap.size w W
  c0 : W.cell? ⟨w.heap.size, 0, none⟩ = some x
  c1 : W.cell? ⟨w.heap.size + 1, 0, none⟩ = some y
  f0 : W.frozen? ⟨w.heap.size, 0, none⟩ = false
  f1 : W.frozen? ⟨w.heap.size + 1, 0, none⟩ = false
  size : w.heap.size + 2 ≤ W.heap.size
theorem Res2.made (w : World) (x y : Value) (t u : TypeId) : Res2 w ((w.alloc (.cells #[x] t)).alloc (.cells #[y] u)) x y := by
  refine ⟨((Below.refl _ _).alloc (Nat.le_refl _) _).alloc (by simp) _, ?_, ?_, ?_, ?_, ?_⟩ <;> simp [go_sem]
theorem Res2.step {w W W' : World} {x y : Value} (h : Res2 w W x y) (hb : Below W.heap.size W W') : Res2 w W' x y := by
  have hs := h.size
  refine ⟨h.below.trans (hb.mono (by omega)), ?_, ?_, ?_, ?_, Nat.le_trans h.size hb.size⟩
  · rw [hb.cell (by simp; omega)]; exact h.c0
  · rw [hb.cell (by simp; omega)]; exact h.c1
  · rw [hb.frozen (by simp; omega)]; exact h.f0
  · rw [hb.frozen (by simp; omega)]; exact h.f1
theorem Res2.drawn {w W W' : World} {x y : Value} (h : Res2 w W x y) (hb : Drawn0 W W') : Res2 w W' x y := h.step hb.below
theorem Res2.put {w W : World} {x y : Value} (h : Res2 w W x y) (u v : Value) : Below w.heap.size w ((W.setCell ⟨w.heap.size, 0, none⟩ u).setCell ⟨w.heap.size + 1, 0, none⟩ v) :=
  (h.below.setCell (by simp) _).setCell (by simp) _

theorem frac_idle (pv pe : Addr) (w : World) :
    CallsD Try.prog 74 #[.pointer (some pv), .pointer (some pe)] .returning w fun e u' w' => e = .returned (.tuple #[]) ∧ u' = .returning ∧ w' = w := by
  refine callsD_of_wpS Try.func74 rfl fun c₀ cs hu => ?_
  simp only [Try.ntmps74, List.size_toArray, List.length_cons, List.length_nil, Nat.reduceAdd, Nat.reduceSub, Array.replicate_succ, Array.replicate_zero, List.push_toArray, List.append_toArray, List.nil_append, List.cons_append]
  apply wpS_seq
  apply wpS_region
  simp [wpOpsS, go_sem, recoverD, hu, Exit.thenS]
  refine rest_plain fun Q HQ => ?_
  go_wp2
  refine HQ.out _ _ _ ?_
  clear HQ
  simp [bodyPostS, results, Try.results74, hu]
  cases c₀
  simp_all
theorem frac_thrown (pv pe : Addr) (x y : Int) (c : Int) (older : List PanicEntry) (w : World) (hne : pv.block ≠ pe.block) (hx : w.cell? pv = some (.int .i64 x)) (hy : w.cell? pe = some (.int .i64 y)) (fx : w.frozen? pv = false) (fy : w.frozen? pe = false) :
    CallsD Try.prog 74 #[.pointer (some pv), .pointer (some pe)] (.panicking ({ v := .iface 142 (.int .i64 c), recovered := false } :: older)) w fun e u' w' =>
      e = .returned (.tuple #[]) ∧ u' = .panicking ({ v := .iface 142 (.int .i64 c), recovered := true } :: older) ∧ w' = (w.setCell pv (.int .i64 0)).setCell pe (.int .i64 c) := by
  refine callsD_of_wpS Try.func74 rfl fun c₀ cs hu => ?_
  simp only [Try.ntmps74, List.size_toArray, List.length_cons, List.length_nil, Nat.reduceAdd, Nat.reduceSub, Array.replicate_succ, Array.replicate_zero, List.push_toArray, List.append_toArray, List.nil_append, List.cons_append]
  apply wpS_seq
  apply wpS_region
  simp [wpOpsS, go_sem, recoverD, hu, Exit.thenS]
  refine rest_plain fun Q HQ => ?_
  have hta : ∀ w, (Instr.typeAssert (.iface 142 (.int .i64 c)) 20 142 true).run Try.prog w = .ok (.tuple #[.int .i64 c, .bool true]) w := fun _ => by kernel_rfl
  have hy2 : (w.setCell pv (.int .i64 0)).cell? pe = some (.int .i64 y) := by rw [World.cell?_setCell_other]; exact hy; exact fun e => hne (by rw [e])
  go_wp2
  refine HQ.out _ _ _ ?_
  clear HQ
  simp [bodyPostS, results, Try.results74, hu]

/-- How many parts a year has, or which error. -/
def parts (c : Int) : Int × Int := if c = 1 then (360, 0) else if c = 2 then (365, 0) else if c = 3 then (133590, 0) else (0, 1)
theorem year_yes {c v : Int} (h : parts c = (v, 0)) (w : World) : Calls Try.prog 75 #[.int .i64 c] w fun e w' => e = .returned (.int .i64 v) ∧ Drawn0 w w' := by
  refine PG.fraction_year.calls c v w ?_
  unfold parts at h
  unfold PG.fraction_year.f
  repeat' split at h
  all_goals simp_all
theorem year_no {c : Int} (h1 : (c == 1) = false) (h2 : (c == 2) = false) (h3 : (c == 3) = false) (w : World) : Calls Try.prog 75 #[.int .i64 c] w fun e w' => e = .panicked [{ v := .iface 142 (.int .i64 1), recovered := false }] ∧ w' = w := by
  go_enter Try.func75, Try.ntmps75
  go_wp2
  exact ⟨rfl, rfl, rfl⟩
theorem place_yes {c n : Int} (hc : c = 1 ∨ c = 2 ∨ c = 3) (h : isDay n) (w : World) : Calls Try.prog 76 #[.int .i64 c, .int .i64 n] w fun e w' => e = .returned (.int .i64 (place c n)) ∧ Below w.heap.size w w' := by
  refine PG.fraction_place.calls c n (place c n) w ?_
  obtain ⟨y1, y2, y3, y4⟩ := yearOf_spec h
  obtain ⟨_, _, m1, m2, d1, d2⟩ := date_bd h
  have hl := leap_01 (yearOf n)
  have ho := opens_succ (yearOf n)
  obtain ⟨n1, n2⟩ := id h
  have hob := opens_bd (y := yearOf n) (by omega) (by omega)
  unfold PG.fraction_place.f place
  simp only [civil_Date.f, civil_Long.f, civil_Opens.f, Option.bind_some]
  rw [date_yes h]
  simp only [if_true]
  rcases hc with rfl | rfl | rfl
  · simp only [if_true, mn_min]
    unfold thirty
    rw [if_pos h, w64 (x := 360 * yearOf n) (by omega) (by omega), w64 (x := 30 * monthOf n) (by omega) (by omega), w64 (x := 360 * yearOf n + 30 * monthOf n) (by omega) (by omega), w64 (by omega) (by omega)]
  · simp
  · simp only [show ¬ ((3 : Int) = 1) by decide, show ¬ ((3 : Int) = 2) by decide, if_false]
    rw [if_pos (show 1 ≤ yearOf n ∧ yearOf n ≤ 1000000 by omega)]
    simp only [Option.bind_some]
    unfold actual
    rw [w64 (x := yearOf n * 365) (by omega) (by omega), w64 (x := yearOf n * 365 * 366) (by omega) (by omega), w64 (x := n - opens (yearOf n)) (by omega) (by omega)]
    cases hb : long (yearOf n) with
    | true =>
      rw [leap_of_long hb]
      simp only [if_true]
      rw [w64 (x := (n - opens (yearOf n)) * 365) (by omega) (by omega), w64 (by omega) (by omega)]
      congr 1; omega
    | false =>
      rw [leap_of_not hb]
      simp only [Bool.false_eq_true, if_false]
      rw [w64 (x := (n - opens (yearOf n)) * 366) (by omega) (by omega), w64 (by omega) (by omega)]
      congr 1; omega
theorem place_no {c n : Int} (h : ¬ isDay n) (w : World) : Calls Try.prog 76 #[.int .i64 c, .int .i64 n] w fun e w' => e = .panicked [{ v := .iface 142 (.int .i64 5), recovered := false }] ∧ Below w.heap.size w w' := by
  have HD := Aside0.mk (show civil_Date.f n = some (0, 0, 0, 5) by unfold civil_Date.f; rw [date_no h])
  clear h
  go_enter Try.func76, Try.ntmps76
  go_wp2_with fail
  refine (civil_Date.calls n 0 0 0 5 _ HD.out).mono ?_
  rintro e w1 ⟨rfl, hb⟩
  have HB := Aside0.mk hb
  clear hb
  go_wp2
  exact ⟨rfl, rfl, by repeat (first | exact HB.out | (refine Below.alloc ?_ HB.out.size _) | (refine Below.setCell ?_ HB.out.size _))⟩

theorem Parts_yes {c v : Int} (h : parts c = (v, 0)) (w : World) : Calls Try.prog 57 #[.int .i64 c] w fun e w' => e = .returned (.tuple #[.int .i64 v, .int .i64 0]) ∧ Below w.heap.size w w' := by
  have R0 := Aside0.mk (Res2.made w (.int .i64 0) (.int .i64 0) 2 31)
  have HY := Aside0.mk h
  clear h
  go_enter_defers Try.func57, Try.ntmps57
  go_wp2_with fail
  refine (year_yes HY.out _).mono ?_
  rintro e w1 ⟨rfl, hd⟩
  have R1 := R0.out.drawn hd
  have c0 := R1.c0
  have c1 := R1.c1
  have f0 := R1.f0
  have f1 := R1.f1
  have RR := Aside0.mk R1
  clear hd R1 R0
  go_wp2
  refine leaves_cons (f := 74) (args := #[.pointer (some ⟨w.heap.size, 0, none⟩), .pointer (some ⟨w.heap.size + 1, 0, none⟩)]) (by simp) (by simp [go_sem]) ?_
  refine (frac_idle _ _ _).mono ?_
  rintro e u' w'' ⟨rfl, rfl, rfl⟩
  simp [Leaves, settle, results, Try.results57, go_sem, c0, c1]
  exact RR.out.put _ _
theorem Parts_no {c : Int} (h1 : (c == 1) = false) (h2 : (c == 2) = false) (h3 : (c == 3) = false) (w : World) : Calls Try.prog 57 #[.int .i64 c] w fun e w' => e = .returned (.tuple #[.int .i64 0, .int .i64 1]) ∧ Below w.heap.size w w' := by
  have R0 := Aside0.mk (Res2.made w (.int .i64 0) (.int .i64 0) 2 31)
  go_enter_defers Try.func57, Try.ntmps57
  go_wp2_with fail
  refine (year_no h1 h2 h3 _).mono ?_
  rintro e w1 ⟨rfl, rfl⟩
  refine leaves_cons (f := 74) (args := #[.pointer (some ⟨w.heap.size, 0, none⟩), .pointer (some ⟨w.heap.size + 1, 0, none⟩)]) (by simp) (by simp [go_sem]) ?_
  refine (frac_thrown _ _ 0 0 1 [] _ (by simp) R0.out.c0 R0.out.c1 R0.out.f0 R0.out.f1).mono ?_
  rintro e u' w'' ⟨rfl, rfl, rfl⟩
  have c0 := R0.out.c0
  have c1 := R0.out.c1
  simp [Leaves, settle, results, Try.results57, go_sem, c0, c1]
  first | exact R0.out.put _ _ | exact ((Below.refl _ _).alloc (Nat.le_refl _) _).alloc (by simp) _

theorem Between_yes {c a b v : Int} (h : parts c = (v, 0)) (hc : c = 1 ∨ c = 2 ∨ c = 3) (ha : isDay a) (hb : isDay b) (w : World) :
    Calls Try.prog 39 #[.int .i64 c, .int .i64 a, .int .i64 b] w fun e w' => e = .returned (.tuple #[.int .i64 (place c b - place c a), .int .i64 0]) ∧ Below w.heap.size w w' := by
  have R0 := Aside0.mk (Res2.made w (.int .i64 0) (.int .i64 0) 2 31)
  have HY := Aside0.mk h
  have HC := Aside0.mk hc
  have HA := Aside0.mk ha
  have HB := Aside0.mk hb
  obtain ⟨pa1, pa2⟩ := place_bd (c := c) ha
  obtain ⟨pb1, pb2⟩ := place_bd (c := c) hb
  clear h hc ha hb
  generalize hpa : place c a = pa at *
  generalize hpb : place c b = pb at *
  have HPA := Aside0.mk hpa
  have HPB := Aside0.mk hpb
  clear hpa hpb
  go_enter_defers Try.func39, Try.ntmps39
  go_wp2_with fail
  refine (year_yes HY.out _).mono ?_
  rintro e w1 ⟨rfl, hd⟩
  have R1 := Aside0.mk (R0.out.drawn hd)
  clear hd R0
  go_wp2_with fail
  refine (place_yes HC.out HA.out _).mono ?_
  rw [HPA.out]
  rintro e w2 ⟨rfl, hd⟩
  have R2 := Aside0.mk (R1.out.step hd)
  clear hd R1
  go_wp2_with fail
  refine (place_yes HC.out HB.out _).mono ?_
  rw [HPB.out]
  rintro e w3 ⟨rfl, hd⟩
  have R3 := R2.out.step hd
  have c0 := R3.c0
  have c1 := R3.c1
  have f0 := R3.f0
  have f1 := R3.f1
  have RR := Aside0.mk R3
  clear hd R2 R3
  go_wp2
  refine leaves_cons (f := 74) (args := #[.pointer (some ⟨w.heap.size, 0, none⟩), .pointer (some ⟨w.heap.size + 1, 0, none⟩)]) (by simp) (by simp [go_sem]) ?_
  refine (frac_idle _ _ _).mono ?_
  rintro e u' w'' ⟨rfl, rfl, rfl⟩
  simp [Leaves, settle, results, Try.results39, go_sem, c0, c1]
  exact RR.out.put _ _
theorem Between_count {c a b : Int} (h1 : (c == 1) = false) (h2 : (c == 2) = false) (h3 : (c == 3) = false) (w : World) :
    Calls Try.prog 39 #[.int .i64 c, .int .i64 a, .int .i64 b] w fun e w' => e = .returned (.tuple #[.int .i64 0, .int .i64 1]) ∧ Below w.heap.size w w' := by
  have R0 := Aside0.mk (Res2.made w (.int .i64 0) (.int .i64 0) 2 31)
  go_enter_defers Try.func39, Try.ntmps39
  go_wp2_with fail
  refine (year_no h1 h2 h3 _).mono ?_
  rintro e w1 ⟨rfl, rfl⟩
  refine leaves_cons (f := 74) (args := #[.pointer (some ⟨w.heap.size, 0, none⟩), .pointer (some ⟨w.heap.size + 1, 0, none⟩)]) (by simp) (by simp [go_sem]) ?_
  refine (frac_thrown _ _ 0 0 1 [] _ (by simp) R0.out.c0 R0.out.c1 R0.out.f0 R0.out.f1).mono ?_
  rintro e u' w'' ⟨rfl, rfl, rfl⟩
  have c0 := R0.out.c0
  have c1 := R0.out.c1
  simp [Leaves, settle, results, Try.results39, go_sem, c0, c1]
  first | exact R0.out.put _ _ | exact ((Below.refl _ _).alloc (Nat.le_refl _) _).alloc (by simp) _
theorem Between_from {c a b v : Int} (h : parts c = (v, 0)) (ha : ¬ isDay a) (w : World) :
    Calls Try.prog 39 #[.int .i64 c, .int .i64 a, .int .i64 b] w fun e w' => e = .returned (.tuple #[.int .i64 0, .int .i64 5]) ∧ Below w.heap.size w w' := by
  have R0 := Aside0.mk (Res2.made w (.int .i64 0) (.int .i64 0) 2 31)
  have HY := Aside0.mk h
  have HA := Aside0.mk ha
  clear h ha
  go_enter_defers Try.func39, Try.ntmps39
  go_wp2_with fail
  refine (year_yes HY.out _).mono ?_
  rintro e w1 ⟨rfl, hd⟩
  have R1 := Aside0.mk (R0.out.drawn hd)
  clear hd R0
  go_wp2_with fail
  refine (place_no HA.out _).mono ?_
  rintro e w2 ⟨rfl, hd⟩
  have R2 := Aside0.mk (R1.out.step hd)
  clear hd R1
  refine leaves_cons (f := 74) (args := #[.pointer (some ⟨w.heap.size, 0, none⟩), .pointer (some ⟨w.heap.size + 1, 0, none⟩)]) (by simp) (by simp [go_sem]) ?_
  refine (frac_thrown _ _ 0 0 5 [] _ (by simp) R2.out.c0 R2.out.c1 R2.out.f0 R2.out.f1).mono ?_
  rintro e u' w'' ⟨rfl, rfl, rfl⟩
  have c0 := R2.out.c0
  have c1 := R2.out.c1
  simp [Leaves, settle, results, Try.results39, go_sem, c0, c1]
  exact R2.out.put _ _
theorem Between_to {c a b v : Int} (h : parts c = (v, 0)) (hc : c = 1 ∨ c = 2 ∨ c = 3) (ha : isDay a) (hb : ¬ isDay b) (w : World) :
    Calls Try.prog 39 #[.int .i64 c, .int .i64 a, .int .i64 b] w fun e w' => e = .returned (.tuple #[.int .i64 0, .int .i64 5]) ∧ Below w.heap.size w w' := by
  have R0 := Aside0.mk (Res2.made w (.int .i64 0) (.int .i64 0) 2 31)
  have HY := Aside0.mk h
  have HC := Aside0.mk hc
  have HA := Aside0.mk ha
  have HB := Aside0.mk hb
  clear h hc ha hb
  go_enter_defers Try.func39, Try.ntmps39
  go_wp2_with fail
  refine (year_yes HY.out _).mono ?_
  rintro e w1 ⟨rfl, hd⟩
  have R1 := Aside0.mk (R0.out.drawn hd)
  clear hd R0
  go_wp2_with fail
  refine (place_yes HC.out HA.out _).mono ?_
  rintro e w2 ⟨rfl, hd⟩
  have R2 := Aside0.mk (R1.out.step hd)
  clear hd R1
  go_wp2_with fail
  refine (place_no HB.out _).mono ?_
  rintro e w3 ⟨rfl, hd⟩
  have R3 := Aside0.mk (R2.out.step hd)
  clear hd R2
  refine leaves_cons (f := 74) (args := #[.pointer (some ⟨w.heap.size, 0, none⟩), .pointer (some ⟨w.heap.size + 1, 0, none⟩)]) (by simp) (by simp [go_sem]) ?_
  refine (frac_thrown _ _ 0 0 5 [] _ (by simp) R3.out.c0 R3.out.c1 R3.out.f0 R3.out.f1).mono ?_
  rintro e u' w'' ⟨rfl, rfl, rfl⟩
  have c0 := R3.out.c0
  have c1 := R3.out.c1
  simp [Leaves, settle, results, Try.results39, go_sem, c0, c1]
  exact R3.out.put _ _

/-! ### The contracts, as1 the printed callers ask them -/
theorem parts_cases (c : Int) : (∃ v, parts c = (v, 0) ∧ (c = 1 ∨ c = 2 ∨ c = 3)) ∨ (parts c = (0, 1) ∧ (c == 1) = false ∧ (c == 2) = false ∧ (c == 3) = false) := by
  unfold parts
  by_cases h1 : c = 1
  · left; exact ⟨360, by simp [h1], Or.inl h1⟩
  by_cases h2 : c = 2
  · left; exact ⟨365, by simp [h2], Or.inr (Or.inl h2)⟩
  by_cases h3 : c = 3
  · left; exact ⟨133590, by simp [h3], Or.inr (Or.inr h3)⟩
  · right; simp [h1, h2, h3]
def fraction_Parts.f (c : Int) : Option (Int × Int) := some (parts c)
theorem fraction_Parts.calls (a0 r1 r2 : Int) (w : World) (h : fraction_Parts.f a0 = some (r1, r2)) :
    Calls Try.prog 57 #[.int .i64 a0] w fun e w' => e = .returned (.tuple #[.int .i64 r1, .int .i64 r2]) ∧ Below w.heap.size w w' := by
  have h' := Option.some.inj h
  rcases parts_cases a0 with ⟨v, hp, _⟩ | ⟨hp, h1, h2, h3⟩
  · rw [hp] at h'; obtain ⟨rfl, rfl⟩ := Prod.mk.inj h'; exact Parts_yes hp w
  · rw [hp] at h'; obtain ⟨rfl, rfl⟩ := Prod.mk.inj h'; exact Parts_no h1 h2 h3 w
def fraction_Between.f (c a b : Int) : Option (Int × Int) := some (between c a b)
theorem fraction_Between.calls (a0 a1 a2 r1 r2 : Int) (w : World) (h : fraction_Between.f a0 a1 a2 = some (r1, r2)) :
    Calls Try.prog 39 #[.int .i64 a0, .int .i64 a1, .int .i64 a2] w fun e w' => e = .returned (.tuple #[.int .i64 r1, .int .i64 r2]) ∧ Below w.heap.size w w' := by
  have h' := Option.some.inj h
  unfold between at h'
  rcases parts_cases a0 with ⟨v, hp, hc⟩ | ⟨hp, h1, h2, h3⟩
  · rw [if_pos hc] at h'
    by_cases ha : isDay a1
    · by_cases hb : isDay a2
      · rw [if_pos (show isDay a1 ∧ isDay a2 from ⟨ha, hb⟩)] at h'; obtain ⟨rfl, rfl⟩ := Prod.mk.inj h'; exact Between_yes hp hc ha hb w
      · rw [if_neg (show ¬ (isDay a1 ∧ isDay a2) from fun h => hb h.2)] at h'; obtain ⟨rfl, rfl⟩ := Prod.mk.inj h'; exact Between_to hp hc ha hb w
    · rw [if_neg (show ¬ (isDay a1 ∧ isDay a2) from fun h => ha h.1)] at h'; obtain ⟨rfl, rfl⟩ := Prod.mk.inj h'; exact Between_from hp ha w
  · rw [if_neg (by simpa using ⟨by simpa using h1, by simpa using h2, by simpa using h3⟩)] at h'; obtain ⟨rfl, rfl⟩ := Prod.mk.inj h'; exact Between_count h1 h2 h3 w
end Go.Proofs.Ytfmkdledofbhdaa.H
/- dues.Parts, where there are days: how many parts of a year lie between. -/
namespace Go.Proofs.Ytfmkdledofbhdaa.Du
open Go.RowKit Go.Proofs.YtfmkdledofbhdaaW.PrintWords Go.Proofs.YtfmkdledofbhdaaW.PrintLast Go.Proofs.YtfmkdledofbhdaaW.PrintMore Go.Proofs.Ytfmkdledofbhdaa.HW
open Go.Proofs.Ytfmkdledofbhdaa.Math Go.Proofs.Ytfmkdledofbhdaa.H Go.Proofs.Ytfmkdledofbhdaa.Pd Pm
set_option linter.unusedVariables false
set_option linter.unusedSimpArgs false
/-- A list of the call's own, of 64 bits each. -/
def RowL (w : World) (B : Nat) (v : Value) (l : List Int) : Prop :=
  (v = .slice none 0 0 ∧ l = []) ∨ ∃ g c t, v = .slice (some ⟨g, 0, none⟩) l.length c ∧ B ≤ g ∧ l.length ≤ c ∧ H.Blk w g 2 (nums .i64 l ++ t)
theorem rowL_of_R {w : World} {B : Nat} {ok : Nat → Prop} {v : Value} {l : List Int} (h : Kd.R (Kd.int .i64) 2 w B ok v l) : RowL w B v l := by
  obtain ⟨-, inner, ho, hr⟩ := h
  obtain rfl := reps_nums .i64 l inner hr
  have ho2 := ho.2
  rcases ho2 with ⟨hv, hn⟩ | ⟨g, cap, cur, hv, hg, hh, r⟩
  · refine Or.inl ⟨hv, ?_⟩
    cases l with
    | nil => rfl
    | cons a r => simp at hn
  · subst hv
    obtain ⟨t, -, hb, hc⟩ := H.Blk.ofOwn ho
    exact Or.inr ⟨g, cap, t, rfl, hg, hc, hb⟩
theorem RL_slice {W : World} {B : Nat} {ok : Nat → Prop} {v : Value} {l : List Int} (h : Kd.R (Kd.int .i64) 2 W B ok v l) (hl : l ≠ []) : ∃ g c, v = .slice (some ⟨g, 0, none⟩) l.length c := by
  rcases rowL_of_R h with ⟨-, e⟩ | ⟨g, c, t, e, -⟩
  · exact absurd e hl
  · exact ⟨g, c, e⟩
theorem info_l : (Try.prog.info? 2).map (fun i => (i.zero, i.size, i.bytes)) = some (some (.int .i64 0), 1, 8) := by kernel_rfl
/-- How many parts of a year lie between each day and the one ahead, or why not. -/
def partsAll (c : Int) : Int → List Int → List Int × Int
  | _, [] => ([], 0)
  | s, d :: r => if (between c s d).2 = 0 then after [(between c s d).1] (partsAll c d r) else ([], (between c s d).2)
theorem partsAll_err (c s : Int) (l : List Int) : (partsAll c s l).2 ≠ 0 → (partsAll c s l).1 = [] := by
  cases l with
  | nil => intro h; exact absurd rfl h
  | cons d r =>
    rw [partsAll]
    split
    · unfold after
      split
      · intro h; exact absurd rfl h
      · intro; rfl
    · intro; rfl
/-- What a call gives that hands back a list of its own of 64 bits each, or none, and why. -/
def ListedL (r : List Int × Int) (w : World) (e : Ending) (w' : World) : Prop := ∃ v, e = .returned (.tuple #[v, .int .i64 r.2]) ∧ RowL w' w.heap.size v r.1 ∧ Below w.heap.size w w'
theorem between_any (c a b v e : Int) (h : between c a b = (v, e)) (w : World) : Calls Try.prog 39 #[.int .i64 c, .int .i64 a, .int .i64 b] w fun en w' => en = .returned (.tuple #[.int .i64 v, .int .i64 e]) ∧ Below w.heap.size w w' :=
  fraction_Between.calls c a b v e w (by unfold fraction_Between.f; rw [h])
set_option maxRecDepth 100000 in
set_option maxHeartbeats 8000000 in
theorem parts_main (p : Prod) (A1 : Option Addr) (c1 : Nat) (A2 : Option Addr) (c2 : Nat) (A3 : Option Addr) (c3 : Nat) (start : Int) (w : World) (hg : GV w) (hp : ProdAt w p A1 c1 A2 c2 A3 c3) (hs : Small p) (l : List Int) (hl0 : l ≠ []) (hln : l.length ≤ 600) (hd : daysP p start = (l, 0)) :
    Calls Try.prog 18 #[pv p A1 c1 A2 c2 A3 c3, .int .i64 start] w (ListedL (partsAll p.count start l) w) := by
  generalize hR : partsAll p.count start l = R
  have RR := Aside0.mk hR
  clear hR
  have HG := Aside0.mk hg
  have HP := Aside0.mk hp
  have DA := Aside0.mk (fun w1 (hb : Below w.heap.size w w1) => show Calls Try.prog 16 #[pv p A1 c1 A2 c2 A3 c3, .int .i64 start] w1 (Listed1 l w1) from (days_any p A1 c1 A2 c2 A3 c3 start w1 (HG.out.below hb) (HP.out.below hb) hs).mono fun e w' h => by rw [hd] at h; exact h.one hl0)
  have hlp : 0 < l.length := by cases l with | nil => exact absurd rfl hl0 | cons a r => simp
  clear hg hp hd hs hl0
  go_enter Try.func18, Try.ntmps18
  go_wp2_with ((with_reducible refine gate_dst (N := 2) rfl ?_); refine box_event ?hg (N := 2) ?hd (cs := pcs p A1 c1 A2 c2 A3 c3) (t := 27) ?hr ?_; (case hd => rfl); (case hg => rfl); (case hr => first | (go_simp; done) | (go_simp; rfl)); intro g2 hg v0 hb1 hbl1; clear hg; have G2 := Aside0.mk hb1; have HB := Aside0.mk hbl1; clear hb1 hbl1; refine Hid.out ?_)
  refine Lib.hid ?_
  have g2lt0 := blk_lt G2.out
  go_wp2_with (first
    | ((with_reducible refine gate_dst (N := 14) rfl ?_); refine wpList_load_row rfl 27 (.tmp 2) rfl g2 rfl 27 _ (0, 0) _ G2.out Try.underlying27 rfl info_prod ?_)
    | (go_at_call 16; (with_reducible refine (DA.out _ HB.out).mono ?_); rintro e w3 ⟨g, c, t, rfl, hge, hc, hbk, hb⟩; have gne := (show g2 ≠ g by omega); have BK := Aside0.mk hbk; have gsz := Blk.lt hbk; have hgw := Nat.le_trans HB.out.size hge; have HB := Aside0.mk (below_step HB.out hb); have G2 := Aside0.mk (Pd.blk_below G2.out hb); clear hb hbk))
  go_loopg [1, 8, 24] (l.length + 1) (fun gq sv ov iv w' => ∃ (k : Nat) (s : Int) (A : Option Addr) (cw : Nat) (ls : List Int), k ≤ l.length ∧ iv = .int .i64 (k : Int) ∧ sv = .int .i64 s ∧ ov = .slice A ls.length cw ∧ Aside0 (ls.length = k) ∧ Aside0 (gq = l.length + 1 - k) ∧ Aside0 (R = after ls (partsAll p.count s (l.drop k))) ∧ Aside0 (Kd.R (Kd.int .i64) 2 w' w.heap.size (fun b => b ≠ g ∧ b ≠ g2) (.slice A ls.length cw) ls) ∧ Aside0 (H.Blk w' g 3 (nums .i64 l ++ t)) ∧ Aside0 (w'.heap[g2]? = some (.cells (pcs p A1 c1 A2 c2 A3 c3) 27 (0, 0))) ∧ Aside0 (Below w.heap.size w w'))
  case atStart => exact ⟨0, start, none, 0, [], by omega, rfl, rfl, rfl, ⟨rfl⟩, ⟨rfl⟩, ⟨RR.out.symm.trans (after_nil (partsAll_err _ _ _)).symm⟩, ⟨Kd.R_nil _ _ _ _ _⟩, BK, G2, HB⟩
  case round =>
    obtain ⟨k, s, A, cw, ls, kn, rfl, rfl, rfl, hlen, hgq, hra, hr, hbk, G2, hbel⟩ := hrel
    have gszr := Blk.lt hbk.out
    have g2lt := blk_lt G2.out
    have gsz0 := hbel.out.size
    by_cases hlt : k < l.length
    · have hdr : l.drop k = l[k] :: l.drop (k + 1) := List.drop_eq_getElem_cons hlt
      rw [hdr] at hra
      have hcl := (hbk.out.cell k).trans (show (nums .i64 l ++ t)[k]? = some (.int .i64 l[k]) by rw [List.getElem?_append_left (by simp [nums]; omega)]; simp [nums] <;> omega)
      have hsz : (k : Int) < (l.length : Int) := by omega
      obtain ⟨-, q1, -, -, -, -, -, -, -, -, -, -, -, -, -, -, -, -, -⟩ := pc_cells G2.out
      obtain ⟨v, e1, hx⟩ : ∃ v e1, between p.count s l[k] = (v, e1) := ⟨_, _, rfl⟩
      have BT := Aside0.mk (fun w => between_any _ _ _ _ _ hx w)
      by_cases he1 : e1 = 0
      · subst he1
        have hra2 := Aside0.mk (show R = after (ls ++ [v]) (partsAll p.count l[k] (l.drop (k + 1))) by
          have e := hra.out
          rw [partsAll, hx, if_pos rfl] at e
          rw [e, after_after])
        clear hra hx hdr
        go_wp2_with (first
          | (go_at_call 39; (with_reducible refine (BT.out _).mono ?_); rintro e w9 ⟨rfl, hb⟩; have HO := Aside0.mk (Kd.R_below hr.out hb); have BK9 := Aside0.mk (hbk.out.below hb); have G9 := Aside0.mk (Pd.blk_below G2.out hb); have HB9 := Aside0.mk (below_step hbel.out hb); have gs9 := Blk.lt BK9.out; have g29 := blk_lt G9.out; have gw9 := HB9.out.size; clear hb)
          | ((with_reducible refine gate_builtin (b := .append) (xs := #[.tmp 39, .tmp 41]) rfl ?_); at_builtin; refine Kd.R_append (Kd.int .i64) (w0 := w) w.heap.size rfl (.tmp 39) (.tmp 41) 46 2 (.int .i64 0) 8 rfl Try.underlying46 info_l rfl (by decide) (by omega) (.slice A ls.length cw) ls v [.int .i64 v] (fun b => b ≠ g ∧ b ≠ g2) (fun _ => False) rfl rfl ?aP (fun _ hk => hk.elim) ?aF ?aO ?aB ?aS ?aL ?_; (case aP => exact rfl); (case aF => exact fun b hb => ⟨by omega, by omega⟩); (case aO => exact HO.out); (case aB => exact HB9.out); (case aS => exact gw9); (case aL => have := hlen.out; omega); intro v1 w11 hr1 hb1 hg1 hat1; obtain ⟨l2, hl2⟩ : ∃ l2, l2 = ls ++ [v] := ⟨_, rfl⟩; rw [← hl2] at hr1; obtain ⟨gn, cn, rfl⟩ := RL_slice hr1 (by rw [hl2]; simp); have L2 := Aside0.mk hl2; clear hl2; have R1 := Aside0.mk hr1; have HB1 := Aside0.mk hb1; have HK := Aside0.mk ((hg1.block g gs9 (fun e => (HO.out.1 g e.symm).1 rfl)).trans BK9.out); have HK2 := Aside0.mk ((hg1.block g2 g29 (fun e => (HO.out.1 g2 e.symm).2 rfl)).trans G9.out); clear hr1 hb1 hg1 hat1))
        have hlen2 : l2.length = k + 1 := by rw [L2.out, List.length_append, hlen.out]; rfl
        have L3 := Aside0.mk hlen2
        clear hlen2
        go_roundg (l.length + 1 - (k + 1))
        case measure => have := hgq.out; omega
        case rel => exact ⟨k + 1, l[k], some ⟨gn, 0, none⟩, cn, l2, by omega, by simp, rfl, rfl, L3, ⟨rfl⟩, ⟨by rw [hra2.out, L2.out]⟩, R1, HK, HK2, HB1⟩
      · have he : (e1 != 0) = true := by simpa using he1
        have fin := Aside0.mk (show R = ([], e1) by
          have e := hra.out
          rw [partsAll, hx, if_neg he1, after_err ls he1] at e
          exact e)
        clear hra hx hdr he1
        go_wp2_with (go_at_call 39; (with_reducible refine (BT.out _).mono ?_); rintro e w9 ⟨rfl, hb⟩; have HB9 := Aside0.mk (below_step hbel.out hb); clear hb)
        go_ret2
        rw [fin.out]
        exact ⟨_, rfl, Or.inl ⟨rfl, rfl⟩, HB9.out⟩
    · obtain rfl : k = l.length := by omega
      have fin := Aside0.mk (show R = (ls, 0) by
        have e := hra.out
        rw [List.drop_length, partsAll, after, if_pos rfl, List.append_nil] at e
        exact e)
      clear hra
      go_wp2_with fail
      go_ret2
      rw [fin.out]
      exact ⟨_, rfl, rowL_of_R hr.out, hbel.out⟩
end Go.Proofs.Ytfmkdledofbhdaa.Du
/- quittanceref11.Parts: the document's parts between days; both parts are one where all may be. -/
namespace Go.Proofs.Ytfmkdledofbhdaa.Du
open Go.RowKit Go.Proofs.YtfmkdledofbhdaaW.PrintWords Go.Proofs.YtfmkdledofbhdaaW.PrintLast Go.Proofs.YtfmkdledofbhdaaW.PrintMore Go.Proofs.Ytfmkdledofbhdaa.HW
open Go.Proofs.Ytfmkdledofbhdaa.Math Go.Proofs.Ytfmkdledofbhdaa.H Go.Proofs.Ytfmkdledofbhdaa.Pd Pm
set_option linter.unusedVariables false
set_option linter.unusedSimpArgs false
/-- How many parts lie between each day and the one ahead. -/
def rpartsL (c : Int) : Int → List Int → List Int
  | _, [] => []
  | s, d :: r => (between c s d).1 :: rpartsL c d r
end Go.Proofs.Ytfmkdledofbhdaa.Du
/- Plain: days behind the last year; holidays that leave no day between two instalments. -/
namespace Go.Proofs.Ytfmkdledofbhdaa.Du
open Go.RowKit Go.Proofs.YtfmkdledofbhdaaW.PrintWords Go.Proofs.YtfmkdledofbhdaaW.PrintLast Go.Proofs.YtfmkdledofbhdaaW.PrintMore Go.Proofs.Ytfmkdledofbhdaa.HW
open Go.Proofs.Ytfmkdledofbhdaa.Math Go.Proofs.Ytfmkdledofbhdaa.H Go.Proofs.Ytfmkdledofbhdaa.Pd Pm
set_option linter.unusedVariables false
set_option linter.unusedSimpArgs false
theorem dates_zero : ∀ (m : Nat) (n e i : Int) (l : List Int), (dates m n e i l).2 = 0 → ∀ j : Int, i < j → j ≤ i + m → (add n (j * e)).2 = 0
  | 0, n, e, i, l => fun _ j h1 h2 => by omega
  | m + 1, n, e, i, l => by
    unfold dates
    split
    · rename_i h
      intro h0 j h1 h2
      by_cases hj : j = i + 1
      · rw [hj]; exact h
      · exact dates_zero m n e (i + 1) _ h0 j (by omega) (by omega)
    · rename_i h; intro h0; exact absurd h0 h
end Go.Proofs.Ytfmkdledofbhdaa.Du
/- Both parts between days are one. -/
namespace Go.Proofs.Ytfmkdledofbhdaa.Du
open Go.RowKit Go.Proofs.YtfmkdledofbhdaaW.PrintWords Go.Proofs.YtfmkdledofbhdaaW.PrintLast Go.Proofs.YtfmkdledofbhdaaW.PrintMore Go.Proofs.Ytfmkdledofbhdaa.HW
open Go.Proofs.Ytfmkdledofbhdaa.Math Go.Proofs.Ytfmkdledofbhdaa.H Go.Proofs.Ytfmkdledofbhdaa.Pd Pm
set_option linter.unusedVariables false
set_option linter.unusedSimpArgs false
theorem seekS_day (l : List Int) (step : Int) : ∀ (k : Nat) (day : Int), (seekS l step k day).2 = 0 → isDay (seekS l step k day).1
  | 0, day => by intro h; simp [seekS] at h
  | k + 1, day => by
    rw [seekS_succ]
    split
    · rename_i hd
      split
      · intro; exact hd
      · exact seekS_day l step k (day + step)
    · intro h; simp at h
theorem rollS_day {l : List Int} {day how : Int} (h : (rollS l day how).2 = 0) : isDay (rollS l day how).1 := by
  unfold rollS at h ⊢
  split
  · rename_i hd; rw [if_pos hd] at h; simp at h
  · rename_i hd
    rw [if_neg hd] at h
    split
    · rename_i hb; rw [if_pos hb] at h; simp at h
    · rename_i hb
      rw [if_neg hb] at h
      split
      · exact Classical.not_not.1 hd
      · rename_i h1
        rw [if_neg h1] at h
        split
        · rename_i h4; rw [if_pos h4] at h; exact seekS_day _ _ _ _ h
        · rename_i h4
          rw [if_neg h4] at h
          split
          · rename_i h3; rw [if_pos h3] at h; exact seekS_day _ _ _ _ h
          · rename_i h3; rw [if_neg h3] at h; exact seekS_day _ _ _ _ h
theorem rollAll_day (hol : List Int) (how : Int) (l : List Int) : (rollAll hol how l).2 = 0 → ∀ d ∈ (rollAll hol how l).1, isDay d := by
  induction l with
  | nil => intro _ d hd; simp [rollAll] at hd
  | cons a r ih =>
    rw [rollAll]
    split
    · rename_i h0
      unfold after
      split
      · rename_i h
        intro _ d hd
        rcases List.mem_append.1 hd with h1 | h1
        · rw [List.mem_singleton.1 h1]; exact rollS_day h0
        · exact ih h d h1
      · rename_i h; intro e; exact absurd e h
    · rename_i h; intro e; exact absurd e h
theorem between_ok {c a b : Int} (hc : c = 1 ∨ c = 2 ∨ c = 3) (ha : isDay a) (hb : isDay b) : between c a b = (place c b - place c a, 0) := by
  unfold between
  rw [if_pos hc, if_pos ⟨ha, hb⟩]
theorem partsAll_ok {c : Int} (hc : c = 1 ∨ c = 2 ∨ c = 3) : ∀ (l : List Int) (s : Int), isDay s → (∀ d ∈ l, isDay d) → partsAll c s l = (rpartsL c s l, 0)
  | [], s, _, _ => rfl
  | d :: r, s, hs, hd => by
    rw [partsAll, between_ok hc hs (hd d (by simp)), if_pos rfl, partsAll_ok hc r d (hd d (by simp)) (fun x hx => hd x (by simp [hx])), rpartsL, between_ok hc hs (hd d (by simp))]
    rfl
theorem dates_start {n e t : Int} (h : (datesP n e t).2 = 0) : isDay n := by
  have hf := datesP_full h
  unfold datesP at h
  split at h
  · rename_i hc
    have := dates_zero t.toNat n e 0 [] h 1 (by omega) (by omega)
    by_cases hd : isDay n
    · exact hd
    · unfold add at this; rw [if_neg hd] at this; simp at this
  · simp at h
/-- What is known of days that there are. -/
theorem days_known {p : Prod} {start : Int} {l : List Int} (h : daysP p start = (l, 0)) : ok p = true ∧ isDay start ∧ (∀ d ∈ l, isDay d) ∧ (l.length : Int) = p.times ∧ 1 ≤ p.times ∧ p.times ≤ 600 ∧ rise start l = true ∧ l = (rollAll p.hol p.roll (datesP start p.every p.times).1).1 ∧ (rollAll p.hol p.roll (datesP start p.every p.times).1).2 = 0 ∧ (datesP start p.every p.times).2 = 0 := by
  unfold daysP at h
  split at h
  · rename_i ho
    split at h
    · rename_i hd
      split at h
      · rename_i hr
        split at h
        · rename_i hi
          obtain ⟨rfl, -⟩ := Prod.mk.inj h
          obtain ⟨f1, f2, f3⟩ := datesP_full hd
          have hl := rollAll_len p.hol p.roll _ hr
          exact ⟨ho, dates_start hd, rollAll_day _ _ _ hr, by rw [hl]; exact f1, f2, f3, hi, rfl, hr, hd⟩
        · simp at h
      · rename_i hr; exact absurd (Prod.mk.inj h).2 hr
    · rename_i hd; exact absurd (Prod.mk.inj h).2 hd
  · simp at h
theorem count_known {p : Prod} (h : ok p = true) : p.count = 1 ∨ p.count = 2 ∨ p.count = 3 := by
  simp only [ok, shapeOk, Bool.and_eq_true, decide_eq_true_eq] at h
  omega
/-- The parts between days, or why none. -/
def partsP (p : Prod) (start : Int) : List Int × Int := if (daysP p start).2 = 0 then (rpartsL p.count start (daysP p start).1, 0) else ([], (daysP p start).2)
theorem daysP_err (p : Prod) (start : Int) : (daysP p start).2 ≠ 0 → (daysP p start).1 = [] := by
  unfold daysP
  repeat' split
  all_goals first | (intro; rfl) | (intro h; exact absurd rfl h)
theorem parts_any (p : Prod) (A1 : Option Addr) (c1 : Nat) (A2 : Option Addr) (c2 : Nat) (A3 : Option Addr) (c3 : Nat) (start : Int) (w : World) (hg : GV w) (hp : ProdAt w p A1 c1 A2 c2 A3 c3) (hs : Small p) :
    Calls Try.prog 18 #[pv p A1 c1 A2 c2 A3 c3, .int .i64 start] w (ListedL (partsP p start) w) := by
  by_cases h : (daysP p start).2 = 0
  · have hd : daysP p start = ((daysP p start).1, 0) := by rw [← h]
    obtain ⟨ho, hs0, hds, hl, t1, t2, -⟩ := days_known hd
    have e : partsP p start = partsAll p.count start (daysP p start).1 := by
      rw [partsAll_ok (count_known ho) _ _ hs0 hds]; unfold partsP; rw [if_pos h]
    rw [e]
    exact parts_main p A1 c1 A2 c2 A3 c3 start w hg hp hs _ (fun e => by rw [e] at hl; simp at hl; omega) (by omega) hd
  · have e : partsP p start = ([], (daysP p start).2) := by unfold partsP; rw [if_neg h]
    rw [e]
    refine (parts_err p A1 c1 A2 c2 A3 c3 start w hg hp hs _ h (by rw [← daysP_err p start h])).mono ?_
    rintro en w' ⟨he, hb⟩
    exact ⟨_, he, Or.inl ⟨rfl, rfl⟩, hb⟩
end Go.Proofs.Ytfmkdledofbhdaa.Du
/- quittanceplay.Product: this product, or one near it. -/
namespace Go.Proofs.Ytfmkdledofbhdaa.Du
open Go.RowKit Go.Proofs.YtfmkdledofbhdaaW.PrintWords Go.Proofs.YtfmkdledofbhdaaW.PrintLast Go.Proofs.YtfmkdledofbhdaaW.PrintMore Go.Proofs.Ytfmkdledofbhdaa.HW
open Go.Proofs.Ytfmkdledofbhdaa.Math Go.Proofs.Ytfmkdledofbhdaa.H Go.Proofs.Ytfmkdledofbhdaa.Pd Pm
set_option linter.unusedVariables false
set_option linter.unusedSimpArgs false
section
variable {P : Program} {ops : Array Oper} {rest : List Oper} {a : Act} {Q : Exit → Act → World → Prop}
theorem But.setRow (g : Nat) (w : World) (cs : Array Value) : H.But g w (w.setRow g cs) := ⟨rfl, rfl, rfl, by rw [size_setRow]; exact Nat.le_refl _, fun k _ hk => setRow_other w g k cs hk⟩
/-- A whole value into a variable that is there. -/
theorem row_event {W : World} {o : Oper} (hgd : o.guard = none) {t : TypeId} {p : Tmp} {v : Operand} (ho : o.op = .store t (.tmp p) v) (hd : o.dst = none) {g : Nat} {cs zs : Array Value}
    (hp : a.eval (.tmp p) = .pointer (some ⟨g, 0, none⟩)) (hv : a.eval v = .agg cs) (hb : W.heap[g]? = some (.cells zs t (0, 0))) (hi : (P.info? t).map (·.size) = some cs.size) (hz : zs.size = cs.size) (h1 : cs.all (·.oneCell') = true)
    (h : ∀ w1, w1.heap[g]? = some (.cells cs t (0, 0)) → H.But g W w1 → wpList P ops Q rest a w1) : wpList P ops Q (o :: rest) a W := by
  refine wpList_store_row hgd t (.tmp p) v ho g cs hp hv t zs hb hi hz h1 ?_
  rw [hd]
  exact h _ (setRow_heap W g zs cs t (0, 0) hb) (But.setRow g W cs)
end
/-- A number of 64 bits without a sign, its remainder. -/
def U (x : Int) (m : Int) : Int := x % 18446744073709551616 % m
theorem U_bd (x : Int) {m : Int} (h : 0 < m) : 0 ≤ U x m ∧ U x m < m := ⟨Int.emod_nonneg _ (by omega), Int.emod_lt_of_pos _ h⟩
theorem U_is (x : Int) {m : Int} (h : 0 < m) (h2 : m ≤ 1000000000) : IntKind.i64.wrap (Int.tmod (IntKind.u64.wrap x) m) = U x m := by
  have e : IntKind.u64.wrap x = x % 18446744073709551616 := rfl
  have hn := Int.emod_nonneg x (show (18446744073709551616 : Int) ≠ 0 by omega)
  have hb := U_bd x h
  rw [e, Int.tmod_eq_emod_of_nonneg hn]
  show IntKind.i64.wrap (U x m) = U x m
  generalize U x m = j at *
  rw [i64_w]
  exact w64 (x := j) (by omega) (by omega)
end Go.Proofs.Ytfmkdledofbhdaa.Du
/- quittanceplay.Product, where the product may not be: one that is near. -/
namespace Go.Proofs.Ytfmkdledofbhdaa.Du
open Go.RowKit Go.Proofs.YtfmkdledofbhdaaW.PrintWords Go.Proofs.YtfmkdledofbhdaaW.PrintLast Go.Proofs.YtfmkdledofbhdaaW.PrintMore Go.Proofs.Ytfmkdledofbhdaa.HW
open Go.Proofs.Ytfmkdledofbhdaa.Math Go.Proofs.Ytfmkdledofbhdaa.H Go.Proofs.Ytfmkdledofbhdaa.Pd Pm
set_option linter.unusedVariables false
set_option linter.unusedSimpArgs false
section
variable {P : Program} {ops : Array Oper} {rest : List Oper} {a : Act} {Q : Exit → Act → World → Prop}
theorem But.one (g i : Nat) (W : World) (x : Value) : H.But g W (W.setCell ⟨g, i, none⟩ x) := (H.But.of (Below.refl W.heap.size W)).setCell (p := ⟨g, i, none⟩) (Or.inl rfl) x
/-- One cell of a known row is written. -/
theorem put_event {W : World} {o : Oper} (hgd : o.guard = none) {t : TypeId} {p : Tmp} {v : Operand} (_ho : o.op = .store t (.tmp p) v) (hd : o.dst = none) {g i : Nat} {cs cs' : Array Value} {T : TypeId} {x : Value}
    (hrun : (execOp a.eval o).run P W = .ok .skip (W.setCell ⟨g, i, none⟩ x)) (hb : W.heap[g]? = some (.cells cs T (0, 0))) (hc : cs.setIfInBounds i x = cs')
    (h : ∀ w1, w1.heap[g]? = some (.cells cs' T (0, 0)) → H.But g W w1 → wpList P ops Q rest a w1) : wpList P ops Q (o :: rest) a W := by
  refine store_event hgd _ho hd hrun ?_
  rintro w' rfl
  exact h _ (by rw [heap_setCell_same W g i cs T x hb, hc]) (But.one g i W x)
end
end Go.Proofs.Ytfmkdledofbhdaa.Du
/- What a law of days asks of lists that calls hand back. -/
namespace Go.Proofs.Ytfmkdledofbhdaa.Du
open Go.RowKit Go.Proofs.YtfmkdledofbhdaaW.PrintWords Go.Proofs.YtfmkdledofbhdaaW.PrintLast Go.Proofs.YtfmkdledofbhdaaW.PrintMore Go.Proofs.Ytfmkdledofbhdaa.HW
open Go.Proofs.Ytfmkdledofbhdaa.Math Go.Proofs.Ytfmkdledofbhdaa.H Go.Proofs.Ytfmkdledofbhdaa.Pd Pm
set_option linter.unusedVariables false
set_option linter.unusedSimpArgs false
theorem C_nil (w : World) : Kd.C (Kd.int .i64) w none 0 [] := Kd.C_of_reads (d := (0 : Int)) ⟨rfl, by omega, fun h => absurd h (by omega)⟩
theorem rparts_len (c : Int) : ∀ (l : List Int) (s : Int), (rpartsL c s l).length = l.length
  | [], s => rfl
  | d :: r, s => by rw [rpartsL, List.length_cons, rparts_len c r d]; rfl
end Go.Proofs.Ytfmkdledofbhdaa.Du
/- Plain: a product near another one may be, whatever its way of rolling, without holidays. -/
namespace Go.Proofs.Ytfmkdledofbhdaa.Du
open Go.RowKit Go.Proofs.YtfmkdledofbhdaaW.PrintWords Go.Proofs.YtfmkdledofbhdaaW.PrintLast Go.Proofs.YtfmkdledofbhdaaW.PrintMore Go.Proofs.Ytfmkdledofbhdaa.HW
open Go.Proofs.Ytfmkdledofbhdaa.Math Go.Proofs.Ytfmkdledofbhdaa.H Go.Proofs.Ytfmkdledofbhdaa.Pd Pm
set_option linter.unusedVariables false
set_option linter.unusedSimpArgs false
theorem ok_iff (p : Prod) : ok p = true ↔ ((((nameOk p.name.data.toList = true ∧ (1 ≤ p.count ∧ p.count ≤ 3) ∧ (p.round = 1 ∨ p.round = 3) ∧ (1 ≤ p.kind ∧ p.kind ≤ 3) ∧ (p.every = 1 ∨ p.every = 2 ∨ p.every = 3 ∨ p.every = 4 ∨ p.every = 6 ∨ p.every = 12) ∧ (1 ≤ p.times ∧ p.times ≤ 600) ∧ (0 ≤ p.grace ∧ p.grace ≤ p.times - 1) ∧ (p.kind = 3 → p.grace = 0)) ∧
    ((0 ≤ p.rate ∧ p.rate ≤ 1000000000) ∧ (0 ≤ p.penalty ∧ p.penalty ≤ 1000000000) ∧ p.resets.length ≤ 20) ∧ resetsOk p.times 0 p.resets = true) ∧ orderOk p.o1 p.o2 p.o3 p.o4 = true ∧ 1 ≤ p.over ∧ p.over ≤ 3) ∧
    (p.late.length ≤ 8 ∧ (0 ≤ p.cap ∧ p.cap ≤ 10000000000000) ∧ (p.late = [] → p.cap = 0)) ∧ tiersOk 0 0 p.late = true) ∧ (p.hol.length ≤ 200 ∧ (1 ≤ p.roll ∧ p.roll ≤ 4) ∧ (p.roll = 1 → p.hol = [])) ∧ holsOk (-25568) p.hol = true := by
  simp only [ok, shapeOk, ratesOk, ordOk, lateOk, daysOk, Bool.and_eq_true, decide_eq_true_eq]
end Go.Proofs.Ytfmkdledofbhdaa.Du
/- Plain: the days of a product near another one, from a day of thirty years: they are there, and lie far apart. -/
namespace Go.Proofs.Ytfmkdledofbhdaa.Du
open Go.RowKit Go.Proofs.YtfmkdledofbhdaaW.PrintWords Go.Proofs.YtfmkdledofbhdaaW.PrintLast Go.Proofs.YtfmkdledofbhdaaW.PrintMore Go.Proofs.Ytfmkdledofbhdaa.HW
open Go.Proofs.Ytfmkdledofbhdaa.Math Go.Proofs.Ytfmkdledofbhdaa.H Go.Proofs.Ytfmkdledofbhdaa.Pd Pm
set_option linter.unusedVariables false
set_option linter.unusedSimpArgs false
/-- The day so many months behind. -/
def A (n k : Int) : Int := dayAt (idx n + k) (min (dayOf n) (ml (idx n + k)))
end Go.Proofs.Ytfmkdledofbhdaa.Du
/- Plain: parts between days far apart are above nothing; their sum is what lies between the first day and the last one. -/
namespace Go.Proofs.Ytfmkdledofbhdaa.Du
open Go.RowKit Go.Proofs.YtfmkdledofbhdaaW.PrintWords Go.Proofs.YtfmkdledofbhdaaW.PrintLast Go.Proofs.YtfmkdledofbhdaaW.PrintMore Go.Proofs.Ytfmkdledofbhdaa.HW
open Go.Proofs.Ytfmkdledofbhdaa.Math Go.Proofs.Ytfmkdledofbhdaa.H Go.Proofs.Ytfmkdledofbhdaa.Pd Pm
set_option linter.unusedVariables false
set_option linter.unusedSimpArgs false
theorem actual_up : ∀ (k : Nat) {a : Int}, isDay a → isDay (a + k) → actual a + k ≤ actual (a + k)
  | 0, a, _, _ => by simp
  | k + 1, a, ha, hb => by
    obtain ⟨a1, a2⟩ := id ha
    obtain ⟨b1, b2⟩ := id hb
    have hm : isDay (a + k) := ⟨by omega, by omega⟩
    have hb' : isDay (a + k + 1) := ⟨by omega, by omega⟩
    have ih := actual_up k ha hm
    have hs := actual_succ hm hb'
    have hl := leap_01 (yearOf (a + k))
    rw [show a + ((k + 1 : Nat) : Int) = a + k + 1 by omega]
    omega
/-- The day ahead of the k-th one. -/
def prev (s : Int) (l : List Int) (k : Nat) : Int := if k = 0 then s else l.getD (k - 1) 0
end Go.Proofs.Ytfmkdledofbhdaa.Du
/- Plain arithmetic of what a balance bears: the rest, and the whole. -/
namespace Go.Proofs.Ytfmkdledofbhdaa.Gm
/-- Parts of a year, by how they are counted. -/
def gp (c : Int) : Int := if c = 1 then 360 else if c = 2 then 365 else 133590
/-- What is by all parts of a year. -/
def whole (c : Int) : Int := 1000000000 * gp c
/-- How far a rest may be below 0. -/
def half (c r : Int) : Int := if r = 1 then whole c / 2 else 0
theorem whole_bd (c : Int) : 360000000000 ≤ whole c ∧ whole c ≤ 133590000000000 ∧ whole c % 2 = 0 := by
  unfold whole gp
  split
  · decide
  · split <;> decide
theorem half_bd (c r : Int) : 0 ≤ half c r ∧ 2 * half c r ≤ whole c := by
  have := whole_bd c
  unfold half
  split <;> omega
/-- One step: what is borne, and the rest. -/
def q (W h rest x : Int) : Int := (x + (rest + h)) / W
def r (W h rest x : Int) : Int := (x + (rest + h)) % W - h
theorem step {W h rest x : Int} (hW : 0 < W) (hx : 0 ≤ x) (r0 : -h ≤ rest) : 0 ≤ q W h rest x ∧ -h ≤ r W h rest x ∧ r W h rest x < W - h ∧ r W h rest x = rest + x - q W h rest x * W := by
  unfold q r
  have e := Int.emod_add_mul_ediv (x + (rest + h)) W
  have h1 := Int.emod_nonneg (x + (rest + h)) (show W ≠ 0 by omega)
  have h2 := Int.emod_lt_of_pos (x + (rest + h)) hW
  have h3 : 0 ≤ (x + (rest + h)) / W := Int.ediv_nonneg (by omega) (by omega)
  rw [Int.mul_comm] at e
  refine ⟨h3, by omega, by omega, by omega⟩
theorem most {W h rest x M : Int} (hW : 0 < W) (r1 : rest < W - h) (hx : x ≤ M * W) : q W h rest x ≤ M := by
  unfold q
  have : (x + (rest + h)) / W < M + 1 := by
    refine Int.ediv_lt_of_lt_mul hW ?_
    rw [Int.add_mul, Int.one_mul]; omega
  omega
/-- What is exact tells what is borne. -/
theorem uniq {W h x s : Int} (hW : 0 < W) (h1 : -h ≤ x - s * W) (h2 : x - s * W < W - h) : q W h 0 x = s ∧ r W h 0 x = x - s * W := by
  unfold q r
  have e : x + (0 + h) = (x - s * W + h) + s * W := by omega
  have a : (x + (0 + h)) / W = s := by
    rw [e, Int.add_mul_ediv_right _ _ (by omega), Int.ediv_eq_zero_of_lt (by omega) (by omega)]; omega
  have b : (x + (0 + h)) % W = x - s * W + h := by
    rw [e, Int.add_mul_emod_self_right, Int.emod_eq_of_lt (by omega) (by omega)]
  exact ⟨a, by omega⟩
theorem more {W h x y : Int} (hW : 0 < W) (hxy : x ≤ y) : q W h 0 x ≤ q W h 0 y := by
  unfold q
  exact Int.ediv_le_ediv hW (by omega)
theorem none {W h : Int} (hW : 0 < W) (h0 : 0 ≤ h) (h1 : h < W) : q W h 0 0 = 0 ∧ r W h 0 0 = 0 := by
  obtain ⟨a, b⟩ := uniq (W := W) (h := h) (x := 0) (s := 0) hW (by omega) (by omega)
  exact ⟨a, by omega⟩
theorem mul_le {a b A B : Int} (a0 : 0 ≤ a) (b0 : 0 ≤ b) (hA : a ≤ A) (hB : b ≤ B) : 0 ≤ a * b ∧ a * b ≤ A * B :=
  ⟨Int.mul_nonneg a0 b0, Int.mul_le_mul hA hB b0 (by omega)⟩
theorem mul3 {a b c A B C : Int} (a0 : 0 ≤ a) (b0 : 0 ≤ b) (c0 : 0 ≤ c) (hA : a ≤ A) (hB : b ≤ B) (hC : c ≤ C) : 0 ≤ a * b * c ∧ a * b * c ≤ A * B * C := by
  obtain ⟨h1, h2⟩ := mul_le a0 b0 hA hB
  exact mul_le h1 c0 h2 hC
/-- What is asked may be asked. -/
def may (bal rate n : Int) : Prop := 0 ≤ bal ∧ bal ≤ 1000000000000000 ∧ 0 ≤ rate ∧ rate ≤ 1000000000 ∧ 0 ≤ n ∧ n ≤ 53436000
instance (bal rate n : Int) : Decidable (may bal rate n) := by unfold may; exact inferInstance
/-- What is borne, which error, and the rest then. -/
def bear (W h rest bal rate n : Int) : Int × Int × Int :=
  if may bal rate n then (if q W h rest (bal * rate * n) ≤ 1000000000000000 then (q W h rest (bal * rate * n), 0, r W h rest (bal * rate * n)) else (0, 3, rest)) else (0, 1, rest)
end Go.Proofs.Ytfmkdledofbhdaa.Gm
/- Plain law of level: what an instalment leaves, and the least one that leaves nothing. -/
namespace Go.Proofs.Ytfmkdledofbhdaa.Lv
set_option linter.unusedVariables false
set_option linter.unusedSimpArgs false
/-- What an instalment leaves, from part i on: W, h tell the bearer, gr how many parts bear without an instalment. -/
def wk (W h rate gr inst : Int) : Int → List Int → Int → Int → Int
  | _, [], bal, _ => bal
  | i, n :: l, bal, rest =>
    if (Gm.bear W h rest bal rate n).2.1 ≠ 0 then 1000000000000001
    else if i < gr then wk W h rate gr inst (i + 1) l bal (Gm.bear W h rest bal rate n).2.2
    else if bal + ((Gm.bear W h rest bal rate n).1 - inst) ≤ 0 then bal + ((Gm.bear W h rest bal rate n).1 - inst)
    else if 1000000000000000 < bal + ((Gm.bear W h rest bal rate n).1 - inst) then 1000000000000001
    else wk W h rate gr inst (i + 1) l (bal + ((Gm.bear W h rest bal rate n).1 - inst)) (Gm.bear W h rest bal rate n).2.2
/-- What bears within the reach. -/
structure In (W h rest bal : Int) : Prop where
  w0 : 0 < W
  b0 : 0 < bal
  b1 : bal ≤ 1000000000000000
  r0 : -h ≤ rest
  r1 : rest < W - h
theorem bear_eq {W h rest bal rate n : Int} : Gm.bear W h rest bal rate n = if Gm.may bal rate n then (if Gm.q W h rest (bal * rate * n) ≤ 1000000000000000 then (Gm.q W h rest (bal * rate * n), 0, Gm.r W h rest (bal * rate * n)) else (0, 3, rest)) else (0, 1, rest) := rfl
theorem bear_ok {W h rest bal rate n : Int} (e : (Gm.bear W h rest bal rate n).2.1 = 0) : Gm.may bal rate n ∧ Gm.q W h rest (bal * rate * n) ≤ 1000000000000000 ∧ Gm.bear W h rest bal rate n = (Gm.q W h rest (bal * rate * n), 0, Gm.r W h rest (bal * rate * n)) := by
  rw [bear_eq] at e ⊢
  by_cases hm : Gm.may bal rate n
  · rw [if_pos hm] at e ⊢
    by_cases hq : Gm.q W h rest (bal * rate * n) ≤ 1000000000000000
    · rw [if_pos hq]; exact ⟨hm, hq, rfl⟩
    · rw [if_neg hq] at e; simp at e
  · rw [if_neg hm] at e; simp at e
/-- The lesser of two bearers bears, if the greater does; and what is borne and owed is no more. -/
theorem two {W h rate n b1 r1 b2 r2 : Int} (I1 : In W h r1 b1) (I2 : In W h r2 b2) (hb : b1 < b2 ∨ b1 = b2 ∧ r1 ≤ r2) (e : (Gm.bear W h r2 b2 rate n).2.1 = 0) :
    (Gm.bear W h r1 b1 rate n).2.1 = 0 ∧ (b1 + (Gm.bear W h r1 b1 rate n).1 < b2 + (Gm.bear W h r2 b2 rate n).1 ∨ b1 + (Gm.bear W h r1 b1 rate n).1 = b2 + (Gm.bear W h r2 b2 rate n).1 ∧ (Gm.bear W h r1 b1 rate n).2.2 ≤ (Gm.bear W h r2 b2 rate n).2.2) ∧
      0 ≤ (Gm.bear W h r1 b1 rate n).1 ∧ (Gm.bear W h r1 b1 rate n).1 ≤ 1000000000000000 := by
  obtain ⟨hm, hq, he⟩ := bear_ok e
  obtain ⟨w0, p0, p1, q0, q1⟩ := I1
  obtain ⟨_, s0, s1, t0, t1⟩ := I2
  obtain ⟨m0, m1, m2, m3, m4, m5⟩ := hm
  have hm1 : Gm.may b1 rate n := ⟨by omega, by omega, m2, m3, m4, m5⟩
  have rn0 := Int.mul_nonneg m2 m4
  have x1 := Int.mul_nonneg (Int.le_of_lt p0) rn0
  have x2 := Int.mul_nonneg (Int.le_of_lt s0) rn0
  have x12 : b1 * (rate * n) ≤ b2 * (rate * n) := Int.mul_le_mul_of_nonneg_right (by omega) rn0
  rw [← Int.mul_assoc] at x1 x2
  have g1 := Gm.step (W := W) (h := h) (rest := r1) (x := b1 * rate * n) w0 x1 q0
  have g2 := Gm.step (W := W) (h := h) (rest := r2) (x := b2 * rate * n) w0 x2 t0
  obtain ⟨a0, a1, a2, a3⟩ := g1
  obtain ⟨c0, c1, c2, c3⟩ := g2
  have hq1 : Gm.q W h r1 (b1 * rate * n) ≤ 1000000000000000 := by
    rcases hb with hb | ⟨rfl, hr⟩
    · by_cases hw : rate * n ≤ W
      · -- no more than the balance
        have : b1 * (rate * n) ≤ b1 * W := Int.mul_le_mul_of_nonneg_left hw (by omega)
        rw [← Int.mul_assoc] at this
        have := Gm.most (W := W) (h := h) (rest := r1) (x := b1 * rate * n) (M := b1) w0 q1 this
        omega
      · refine Int.le_trans ?_ hq
        unfold Gm.q
        refine Int.ediv_le_ediv w0 ?_
        have : (b1 + 1) * (rate * n) ≤ b2 * (rate * n) := Int.mul_le_mul_of_nonneg_right (by omega) rn0
        rw [show (b1 + 1) * (rate * n) = b1 * rate * n + rate * n by rw [Int.add_mul, Int.one_mul, Int.mul_assoc], show b2 * (rate * n) = b2 * rate * n from (Int.mul_assoc ..).symm] at this
        omega
    · refine Int.le_trans ?_ hq
      unfold Gm.q
      exact Int.ediv_le_ediv w0 (by omega)
  have h1 : Gm.bear W h r1 b1 rate n = (Gm.q W h r1 (b1 * rate * n), 0, Gm.r W h r1 (b1 * rate * n)) := by rw [bear_eq, if_pos hm1, if_pos hq1]
  rw [h1, he]
  refine ⟨rfl, ?_, a0, hq1⟩
  simp only []
  generalize Gm.q W h r1 (b1 * rate * n) = u1 at *
  generalize Gm.q W h r2 (b2 * rate * n) = u2 at *
  generalize Gm.r W h r1 (b1 * rate * n) = v1 at *
  generalize Gm.r W h r2 (b2 * rate * n) = v2 at *
  rw [← Int.mul_assoc, ← Int.mul_assoc] at x12
  generalize b1 * rate * n = y1 at *
  generalize b2 * rate * n = y2 at *
  -- all in all
  have tot : (b1 + u1) * W + v1 ≤ (b2 + u2) * W + v2 := by
    have e1 : (b1 + u1) * W + v1 = b1 * W + r1 + y1 := by rw [Int.add_mul, a3]; omega
    have e2 : (b2 + u2) * W + v2 = b2 * W + r2 + y2 := by rw [Int.add_mul, c3]; omega
    rw [e1, e2]
    rcases hb with hb | ⟨rfl, hr⟩
    · have : (b1 + 1) * W ≤ b2 * W := Int.mul_le_mul_of_nonneg_right (by omega) (by omega)
      rw [Int.add_mul] at this
      omega
    · omega
  by_cases hlt : b1 + u1 < b2 + u2
  · exact Or.inl hlt
  · right
    have hge : (b2 + u2) * W ≤ (b1 + u1) * W := Int.mul_le_mul_of_nonneg_right (by omega) (by omega)
    have heq : b1 + u1 = b2 + u2 := by
      rcases (by omega : b1 + u1 = b2 + u2 ∨ b2 + u2 + 1 ≤ b1 + u1) with h | h
      · exact h
      · have : (b2 + u2 + 1) * W ≤ (b1 + u1) * W := Int.mul_le_mul_of_nonneg_right h (by omega)
        rw [Int.add_mul] at this
        omega
    rw [heq] at tot
    exact ⟨heq, by omega⟩
theorem bear_in {W h rest bal rate n : Int} (I : In W h rest bal) (e : (Gm.bear W h rest bal rate n).2.1 = 0) : 0 ≤ (Gm.bear W h rest bal rate n).1 ∧ -h ≤ (Gm.bear W h rest bal rate n).2.2 ∧ (Gm.bear W h rest bal rate n).2.2 < W - h := by
  obtain ⟨⟨m0, m1, m2, m3, m4, m5⟩, hq, he⟩ := bear_ok e
  rw [he]
  obtain ⟨a0, a1, a2, a3⟩ := Gm.step (W := W) (h := h) (rest := rest) (x := bal * rate * n) I.w0 (Int.mul_nonneg (Int.mul_nonneg m0 m2) m4) I.r0
  exact ⟨a0, a1, a2⟩
/-- A greater instalment of a lesser sum leaves nothing where a lesser one of a greater sum does. -/
theorem wk_mono {W h rate gr x1 x2 : Int} (hx : x2 ≤ x1) : ∀ (l : List Int) (i b1 r1 b2 r2 : Int), In W h r1 b1 → In W h r2 b2 → (b1 < b2 ∨ b1 = b2 ∧ r1 ≤ r2) → (i < gr → b1 < b2 ∨ b1 = b2 ∧ r1 = r2) → wk W h rate gr x2 i l b2 r2 ≤ 0 → wk W h rate gr x1 i l b1 r1 ≤ 0
  | [], i, b1, r1, b2, r2, I1, I2, hb, hg, h0 => by
    have := I2.b0
    simp only [wk] at h0
    omega
  | n :: l, i, b1, r1, b2, r2, I1, I2, hb, hg, h0 => by
    rw [wk] at h0 ⊢
    by_cases e : (Gm.bear W h r2 b2 rate n).2.1 = 0
    · obtain ⟨e1, ht, hq0, hq1⟩ := two I1 I2 hb e
      obtain ⟨k1, k2, k3⟩ := bear_in I1 e1
      obtain ⟨j1, j2, j3⟩ := bear_in I2 e
      rw [if_neg (by simpa using e)] at h0
      rw [if_neg (by simpa using e1)]
      by_cases hi : i < gr
      · rw [if_pos hi] at h0 ⊢
        refine wk_mono hx l (i + 1) _ _ _ _ ⟨I1.w0, I1.b0, I1.b1, k2, k3⟩ ⟨I2.w0, I2.b0, I2.b1, j2, j3⟩ ?_ ?_ h0
        · rcases hg hi with h | ⟨rfl, rfl⟩
          · exact Or.inl h
          · exact Or.inr ⟨rfl, Int.le_refl _⟩
        · intro _
          rcases hg hi with h | ⟨rfl, rfl⟩
          · exact Or.inl h
          · exact Or.inr ⟨rfl, rfl⟩
      · rw [if_neg hi] at h0 ⊢
        generalize Gm.bear W h r1 b1 rate n = z1 at *
        generalize Gm.bear W h r2 b2 rate n = z2 at *
        by_cases c2 : b2 + (z2.1 - x2) ≤ 0
        · rw [if_pos (by omega)]; omega
        · rw [if_neg c2] at h0
          by_cases d2 : 1000000000000000 < b2 + (z2.1 - x2)
          · rw [if_pos d2] at h0; omega
          · rw [if_neg d2] at h0
            by_cases c1 : b1 + (z1.1 - x1) ≤ 0
            · rw [if_pos c1]; omega
            · rw [if_neg c1, if_neg (by omega)]
              exact wk_mono hx l (i + 1) _ _ _ _ ⟨I1.w0, by omega, by omega, k2, k3⟩ ⟨I2.w0, by omega, by omega, j2, j3⟩ (by omega) (fun h => by omega) h0
    · rw [if_pos (by simpa using e)] at h0
      omega
/-- Without an instalment something is left. -/
theorem wk_zero {W h rate gr : Int} : ∀ (l : List Int) (i b r : Int), In W h r b → 0 < wk W h rate gr 0 i l b r
  | [], i, b, r, I => by simp only [wk]; exact I.b0
  | n :: l, i, b, r, I => by
    rw [wk]
    by_cases e : (Gm.bear W h r b rate n).2.1 = 0
    · obtain ⟨k1, k2, k3⟩ := bear_in I e
      have b0 := I.b0
      rw [if_neg (by simpa using e)]
      split
      · exact wk_zero l _ _ _ ⟨I.w0, I.b0, I.b1, k2, k3⟩
      · rw [if_neg (by omega)]
        split
        · omega
        · exact wk_zero l _ _ _ ⟨I.w0, by omega, by omega, k2, k3⟩
    · rw [if_pos (by simpa using e)]; omega
/-- A search: high leaves nothing, low something; at the end high is the least. -/
def srch (f : Int → Int) : Nat → Int → Int → Int
  | 0, _, hi => hi
  | k + 1, lo, hi => if 1 < hi - lo then (if 0 < f (lo + Int.tdiv (hi - lo) 2) then srch f k (lo + Int.tdiv (hi - lo) 2) hi else srch f k lo (lo + Int.tdiv (hi - lo) 2)) else hi
/-- v is the least that leaves nothing. -/
structure Least (f : Int → Int) (v : Int) : Prop where
  yes : f v ≤ 0
  v1 : 1 ≤ v
  vm : v ≤ 1000000000000000
  no : 0 < f (v - 1)
theorem srch_least (f : Int → Int) : ∀ (k : Nat) (lo hi : Int), 0 ≤ lo → lo < hi → hi ≤ 1000000000000000 → hi - lo ≤ 2 ^ k → 0 < f lo → f hi ≤ 0 → Least f (srch f k lo hi)
  | 0, lo, hi, h0, h1, h2, h3, h4, h5 => by
    have : hi - lo = 1 := by simp at h3; omega
    exact ⟨h5, by simp only [srch]; omega, h2, by simp only [srch]; rw [show hi - 1 = lo by omega]; exact h4⟩
  | k + 1, lo, hi, h0, h1, h2, h3, h4, h5 => by
    rw [srch]
    have hp : (2 : Int) ^ (k + 1) = 2 ^ k * 2 := Int.pow_succ ..
    split
    · rename_i hc
      have ht : Int.tdiv (hi - lo) 2 = (hi - lo) / 2 := Int.tdiv_eq_ediv_of_nonneg (by omega)
      rw [ht]
      split
      · rename_i hf
        exact srch_least f k _ _ (by omega) (by omega) h2 (by omega) hf h5
      · rename_i hf
        exact srch_least f k _ _ h0 (by omega) (by omega) (by omega) h4 (by omega)
    · exact ⟨h5, by omega, h2, by rw [show hi - 1 = lo by omega]; exact h4⟩
theorem Least.uniq {f : Int → Int} (hm : ∀ x y, 0 ≤ x → x ≤ y → y ≤ 1000000000000000 → f x ≤ 0 → f y ≤ 0) {u v : Int} (hu : Least f u) (hv : Least f v) : u = v := by
  obtain ⟨a1, a2, a3, a4⟩ := hu
  obtain ⟨b1, b2, b3, b4⟩ := hv
  rcases (by omega : u = v ∨ u ≤ v - 1 ∨ v ≤ u - 1) with h | h | h
  · exact h
  · have := hm u (v - 1) (by omega) h (by omega) a1; omega
  · have := hm v (u - 1) (by omega) h (by omega) b1; omega
end Go.Proofs.Ytfmkdledofbhdaa.Lv
-- Written by a program of this session (wip/tools/myprint.py) with the help of the printer of the kit; Lean checks it.
namespace Go.Proofs.Ytfmkdledofbhdaa.PRB
open Go.RowKit Go.Proofs.YtfmkdledofbhdaaW.PrintWords Go.Proofs.YtfmkdledofbhdaaW.PrintLast Go.Proofs.YtfmkdledofbhdaaW.PrintMore Go.Proofs.Ytfmkdledofbhdaa.HW
attribute [local go_sem] run_makeFunc_ max2_int min2_int max_two min_two max_three min_three max_four min_four   -- for this text's walks alone
set_option linter.unusedVariables false
set_option linter.unusedSimpArgs false



def errW : Option Int → Value
  | none => .nilIface
  | some c => .iface 0 (.int .i64 c)
theorem errW_none : errW none = .nilIface := rfl
theorem errW_some (c : Int) : errW (some c) = .iface 0 (.int .i64 c) := rfl

theorem info2 : (Try.prog.info? 2).map (fun i => (i.zero, i.size, i.bytes)) = some (some (.int .i64 0), 1, 8) := by kernel_rfl
-- the values' own types

end Go.Proofs.Ytfmkdledofbhdaa.PRB
-- Written by a program of this session (wip/tools/myprint.py) with the help of the printer of the kit; Lean checks it.
namespace Go.Proofs.Ytfmkdledofbhdaa.PRB
open Go.RowKit Go.Proofs.YtfmkdledofbhdaaW.PrintWords Go.Proofs.YtfmkdledofbhdaaW.PrintLast Go.Proofs.YtfmkdledofbhdaaW.PrintMore Go.Proofs.Ytfmkdledofbhdaa.HW
attribute [local go_sem] run_makeFunc_ max2_int min2_int max_two min_two max_three min_three max_four min_four   -- for this text's walks alone
set_option linter.unusedVariables false
set_option linter.unusedSimpArgs false

/-! ### quittanceref12_times: function 102 -/
mutual
def quittanceref12_times.l0 : Nat → List Int → Int → List Int → Int → Int → Option (List Int)
  | 0, _, _, _, _, _ => none
  | k + 1, x0, x1, x5, x6, x7 => if x7 < (x0.length : Int) then (if 0 ≤ x7 then (if x5.length < 17592186044416 then (quittanceref12_times.l0 k x0 x1 (x5 ++ [Int.tmod (wrap64 ((wrap64 ((rd x0 x7) * x1)) + x6)) 1000000000]) (wrap64 (Int.tdiv (wrap64 ((wrap64 ((rd x0 x7) * x1)) + x6)) 1000000000)) (wrap64 (x7 + 1))) else (none)) else (none)) else (quittanceref12_times.l1 k x5 x6)
def quittanceref12_times.l1 : Nat → List Int → Int → Option (List Int)
  | 0, _, _ => none
  | k + 1, x5, x6 => if x6 > 0 then (if x5.length < 17592186044416 then (quittanceref12_times.l1 k (x5 ++ [Int.tmod x6 1000000000]) (wrap64 (Int.tdiv x6 1000000000))) else (none)) else (some x5)
end
def quittanceref12_times.f (k : Nat) (l0 : List Int) (a1 : Int) : Option (List Int) := quittanceref12_times.l0 k l0 a1 ([] : List Int) 0 0
theorem quittanceref12_times.mono_l : ∀ k, (∀ y0 y1 y2 y3 y4, LeO (quittanceref12_times.l0 k y0 y1 y2 y3 y4) (quittanceref12_times.l0 (k + 1) y0 y1 y2 y3 y4)) ∧ (∀ y0 y1, LeO (quittanceref12_times.l1 k y0 y1) (quittanceref12_times.l1 (k + 1) y0 y1))
  | 0 => ⟨fun _ _ _ _ _ r h => by simp [quittanceref12_times.l0] at h, fun _ _ r h => by simp [quittanceref12_times.l1] at h⟩
  | k + 1 => by
    obtain ⟨ih0, ih1⟩ := quittanceref12_times.mono_l k
    refine ⟨?_, ?_⟩
    · intro y0 y1 y2 y3 y4
      unfold quittanceref12_times.l0
      repeat' first
      | (with_reducible exact ih0 _ _ _ _ _)
      | (with_reducible exact ih1 _ _)
      | (with_reducible exact LeO.refl _)
      | (with_reducible exact LeO.none _)
      | (with_reducible refine LeO.ite ?_ ?_)
      | (with_reducible refine LeO.bind ?_ (fun _ => ?_))
      | exact ih0 _ _ _ _ _
      | exact ih1 _ _
      | exact LeO.none _
      | refine LeO.ite ?_ ?_
      | refine LeO.bind ?_ (fun _ => ?_)
    · intro y0 y1
      unfold quittanceref12_times.l1
      repeat' first
      | (with_reducible exact ih0 _ _ _ _ _)
      | (with_reducible exact ih1 _ _)
      | (with_reducible exact LeO.refl _)
      | (with_reducible exact LeO.none _)
      | (with_reducible refine LeO.ite ?_ ?_)
      | (with_reducible refine LeO.bind ?_ (fun _ => ?_))
      | exact ih0 _ _ _ _ _
      | exact ih1 _ _
      | exact LeO.none _
      | refine LeO.ite ?_ ?_
      | refine LeO.bind ?_ (fun _ => ?_)
theorem quittanceref12_times.mono : ∀ a0 a1 k, LeO (quittanceref12_times.f k a0 a1) (quittanceref12_times.f (k + 1) a0 a1) := by
  intro a0 a1 k
  obtain ⟨ih0, ih1⟩ := quittanceref12_times.mono_l k
  unfold quittanceref12_times.f
  repeat' first
      | (with_reducible exact ih0 _ _ _ _ _)
      | (with_reducible exact ih1 _ _)
      | (with_reducible exact LeO.refl _)
      | (with_reducible exact LeO.none _)
      | (with_reducible refine LeO.ite ?_ ?_)
      | (with_reducible refine LeO.bind ?_ (fun _ => ?_))
      | exact ih0 _ _ _ _ _
      | exact ih1 _ _
      | exact LeO.none _
      | refine LeO.ite ?_ ?_
      | refine LeO.bind ?_ (fun _ => ?_)
set_option maxHeartbeats 8000000 in
set_option maxRecDepth 100000 in
theorem quittanceref12_times.calls (k : Nat) (A0 : Option Addr) (c0 : Nat) (l0 : List Int) (a1 : Int) (r : List Int) (w : World) (hr0 : Kd.C (Kd.int .i64) w A0 l0.length l0) (hc0 : l0.length ≤ c0) (h : quittanceref12_times.f k l0 a1 = some r) :
    Calls Try.prog 102 #[.slice A0 l0.length c0, .int .i64 a1] w fun e w' => ∃ v0_ : Value, e = .returned (v0_) ∧ Kd.R (Kd.int .i64) 2 w' w.heap.size (fun _ => True) v0_ r ∧ Below w.heap.size w w' := by
  have HR0 := Aside0.mk hr0
  have HC0 := Aside0.mk hc0
  clear hr0 hc0
  have HB := Aside0.mk (Below.refl w.heap.size w)
  have H : (quittanceref12_times.l0 k l0 a1 ([] : List Int) 0 0) = some r := h
  clear h
  have H' := Aside0.mk H
  clear H
  go_enter Try.func102, Try.ntmps102
  go_wp2
  go_loopg [5, 6, 7] k (fun kq v5 v6 v7 w' => ∃ (x5_1 : List Int) (x6_1 : Int) (x7_1 : Int), v6 = .int .i64 x6_1 ∧ v7 = .int .i64 x7_1 ∧ Aside0 (quittanceref12_times.l0 kq l0 a1 x5_1 x6_1 x7_1 = some r) ∧ Aside0 (kq ≤ k) ∧ Aside0 (Kd.R (Kd.int .i64) 2 w' w.heap.size (fun _ => True) v5 x5_1) ∧ Aside0 (Below w.heap.size w w'))
  case atStart => exact ⟨(([] : List Int)), (0), (0), (by first | rfl | (simp; done) | (simp [*]; done)), (by first | rfl | (simp; done) | (simp [*]; done)), H', ⟨Nat.le_refl _⟩, ⟨by first | exact Kd.R_nil _ _ _ _ _ | exact Kd.N_nil _ _ _ _ _ | exact Kd.V_nil _ _ _ _ _ | exact Kd.Q_nil _ _ _ _ _ | exact Kd.S_nil _ _ _ _ _⟩, ⟨by repeat (first | (with_reducible first | exact HB.out | apply below_alloc | apply pw_below_drewN | apply below_drew1) | exact HB.out)⟩⟩
  case round =>
    clear H'
    try clear c1
    try clear p2
    obtain ⟨x5_1, x6_1, x7_1, rfl, rfl, HA, HK1, HO_5, HB⟩ := hrel
    cases gk with
    | zero => exact absurd HA.out (by simp [quittanceref12_times.l0])
    | succ k1 =>
      have H := HA.out
      clear HA
      simp only [quittanceref12_times.l0] at H
      by_cases c3 : x7_1 < (l0.length : Int)
      · rw [if_pos c3] at H
        have c3b0 : decide (x7_1 < (l0.length : Int)) = true := decide_eq_true c3
        clear c3
        by_cases c4 : 0 ≤ x7_1
        · rw [if_pos c4] at H
          have c4b0 : decide (0 ≤ x7_1) = true := decide_eq_true c4
          clear c4
          by_cases c5 : x5_1.length < 17592186044416
          · rw [if_pos c5] at H
            have LMc5 := Aside0.mk c5
            clear c5
            obtain ⟨y102, hy102⟩ : ∃ y_ : List Int, y_ = (x5_1 ++ [Int.tmod (wrap64 ((wrap64 ((rd l0 x7_1) * a1)) + x6_1)) 1000000000]) := ⟨_, rfl⟩
            replace H : (quittanceref12_times.l0 k1 l0 a1 y102 (wrap64 (Int.tdiv (wrap64 ((wrap64 ((rd l0 x7_1) * a1)) + x6_1)) 1000000000)) (wrap64 (x7_1 + 1))) = some r := by first | (rw [hy102]; with_reducible exact H) | (have H2_ := (Option.bind_some _ _).symm.trans H; rw [hy102]; with_reducible exact H2_) | (have H2_ := (Option.bind_some _ _).symm.trans H; with_reducible exact H2_) | with_reducible exact H | (rw [hy102]; exact H) | exact H
            have Ny102 := Aside0.mk hy102
            clear hy102
            have H' := Aside0.mk H
            clear H
            have p101 : 0 ≤ (x7_1 : Int) := of_decide_eq_true (by first | (with_reducible assumption) | assumption)
            have q101 : x7_1 < (l0.length : Int) := of_decide_eq_true (by first | (with_reducible assumption) | assumption)
            obtain ⟨ad101, e101, hx101_0⟩ := Kd.at_int HR0.out x7_1 p101 q101
            cases e101
            replace hx101_0 := (HB.out.cell (World.block_lt_of_cell? w _ hx101_0)).trans hx101_0
            replace p101 := eq_true p101
            replace q101 := eq_true q101
            go_wp2_with (first | ((with_reducible refine gate_builtin (b := .append) (xs := #[.tmp 23, .tmp 26]) rfl ?_); at_builtin; refine Kd.R_append (Kd.int .i64) (w0 := w) w.heap.size rfl (.tmp 23) (.tmp 26) 46 2 (.int .i64 0) 8 rfl Try.underlying46 info2 rfl (by decide) (by omega) u5 x5_1 (Int.tmod (wrap64 ((wrap64 ((rd l0 x7_1) * a1)) + x6_1)) 1000000000) [.int .i64 (Int.tmod (wrap64 ((wrap64 ((rd l0 x7_1) * a1)) + x6_1)) 1000000000)] (fun _ => True) (fun _ => False) rfl rfl ?aP (fun _ hk => hk.elim) ?aF ?aO ?aB ?aS ?aL ?_; (case aP => exact rfl); (case aB => exact (by repeat (first | (with_reducible first | exact HB.out | apply below_alloc | apply pw_below_drewN | apply below_drew1) | exact HB.out))); (case aF => exact (fun _ _ => trivial)); (case aO => exact (by (with_reducible repeat (first | apply Kd.R_alloc | apply Kd.R_drewN | apply Kd.R_drew)); exact HO_5.out)); (case aS => exact (below_size (by repeat (first | (with_reducible first | exact HB.out | apply below_alloc | apply pw_below_drewN | apply below_drew1) | exact HB.out)))); (case aL => have := LMc5.out; omega); intro v103 w6 ho hb hg hat; rw [← Ny102.out] at ho; have n0_ := Aside0.mk (hb); have n1_ := Aside0.mk (ho); clear HB; clear HO_5; have HB := n0_; have HO104 := n1_; clear n0_ n1_; clear ho hb hg hat))
            go_roundg k1
            case measure => have := HK1.out; omega
            case rel => exact ⟨(y102), (wrap64 (Int.tdiv (wrap64 ((wrap64 ((rd l0 x7_1) * a1)) + x6_1)) 1000000000)), (wrap64 (x7_1 + 1)), (by first | rfl | (simp; done) | (simp [*]; done)), (by first | rfl | (simp; done) | (simp [*]; done)), H', ⟨by have := HK1.out; omega⟩, ⟨by (with_reducible repeat (first | apply Kd.R_alloc | apply Kd.R_drewN | apply Kd.R_drew)); exact HO104.out⟩, ⟨by repeat (first | (with_reducible first | exact HB.out | apply below_alloc | apply pw_below_drewN | apply below_drew1) | exact HB.out)⟩⟩
          · rw [if_neg c5] at H
            exact absurd H (by simp)
        · rw [if_neg c4] at H
          exact absurd H (by simp)
      · rw [if_neg c3] at H
        have c3b0 : decide (x7_1 < (l0.length : Int)) = false := decide_eq_false c3
        clear c3
        have H' := Aside0.mk H
        clear H
        go_wp2
        go_loopg [5, 6] k1 (fun kq v5 v6 w' => ∃ (x5_2 : List Int) (x6_2 : Int), v6 = .int .i64 x6_2 ∧ Aside0 (quittanceref12_times.l1 kq x5_2 x6_2 = some r) ∧ Aside0 (kq ≤ k1) ∧ Aside0 (Kd.R (Kd.int .i64) 2 w' w.heap.size (fun _ => True) v5 x5_2) ∧ Aside0 (Below w.heap.size w w'))
        case atStart => exact ⟨(x5_1), (x6_1), (by first | rfl | (simp; done) | (simp [*]; done)), H', ⟨Nat.le_refl _⟩, ⟨by (with_reducible repeat (first | apply Kd.R_alloc | apply Kd.R_drewN | apply Kd.R_drew)); exact HO_5.out⟩, ⟨by repeat (first | (with_reducible first | exact HB.out | apply below_alloc | apply pw_below_drewN | apply below_drew1) | exact HB.out)⟩⟩
        case round =>
          clear H'
          try clear c1
          try clear p1
          try clear q1
          try clear hx1
          try clear p2
          try clear c3
          try clear c3b0
          try clear c4
          try clear c4b0
          try clear c5
          try clear p6
          try clear hx101_0
          try clear p101
          try clear p2
          try clear q101
          obtain ⟨x5_2, x6_2, rfl, HA, HK2, HO_5, HB⟩ := hrel
          cases gk with
          | zero => exact absurd HA.out (by simp [quittanceref12_times.l1])
          | succ k2 =>
            have H := HA.out
            clear HA
            simp only [quittanceref12_times.l1] at H
            by_cases c7 : x6_2 > 0
            · rw [if_pos c7] at H
              have c7b0 : decide (0 < x6_2) = true := decide_eq_true c7
              clear c7
              by_cases c8 : x5_2.length < 17592186044416
              · rw [if_pos c8] at H
                have LMc8 := Aside0.mk c8
                clear c8
                obtain ⟨y105, hy105⟩ : ∃ y_ : List Int, y_ = (x5_2 ++ [Int.tmod x6_2 1000000000]) := ⟨_, rfl⟩
                replace H : (quittanceref12_times.l1 k2 y105 (wrap64 (Int.tdiv x6_2 1000000000))) = some r := by first | (rw [hy105]; with_reducible exact H) | (have H2_ := (Option.bind_some _ _).symm.trans H; rw [hy105]; with_reducible exact H2_) | (have H2_ := (Option.bind_some _ _).symm.trans H; with_reducible exact H2_) | with_reducible exact H | (rw [hy105]; exact H) | exact H
                have Ny105 := Aside0.mk hy105
                clear hy105
                have H' := Aside0.mk H
                clear H
                go_wp2_with (first | ((with_reducible refine gate_builtin (b := .append) (xs := #[.tmp 32, .tmp 35]) rfl ?_); at_builtin; refine Kd.R_append (Kd.int .i64) (w0 := w) w.heap.size rfl (.tmp 32) (.tmp 35) 46 2 (.int .i64 0) 8 rfl Try.underlying46 info2 rfl (by decide) (by omega) u5 x5_2 (Int.tmod x6_2 1000000000) [.int .i64 (Int.tmod x6_2 1000000000)] (fun _ => True) (fun _ => False) rfl rfl ?aP (fun _ hk => hk.elim) ?aF ?aO ?aB ?aS ?aL ?_; (case aP => exact rfl); (case aB => exact (by repeat (first | (with_reducible first | exact HB.out | apply below_alloc | apply pw_below_drewN | apply below_drew1) | exact HB.out))); (case aF => exact (fun _ _ => trivial)); (case aO => exact (by (with_reducible repeat (first | apply Kd.R_alloc | apply Kd.R_drewN | apply Kd.R_drew)); exact HO_5.out)); (case aS => exact (below_size (by repeat (first | (with_reducible first | exact HB.out | apply below_alloc | apply pw_below_drewN | apply below_drew1) | exact HB.out)))); (case aL => have := LMc8.out; omega); intro v106 w9 ho hb hg hat; rw [← Ny105.out] at ho; have n0_ := Aside0.mk (hb); have n1_ := Aside0.mk (ho); clear HB; clear HO_5; have HB := n0_; have HO107 := n1_; clear n0_ n1_; clear ho hb hg hat))
                go_roundg k2
                case measure => have := HK1.out; have := HK2.out; omega
                case rel => exact ⟨(y105), (wrap64 (Int.tdiv x6_2 1000000000)), (by first | rfl | (simp; done) | (simp [*]; done)), H', ⟨by have := HK1.out; have := HK2.out; omega⟩, ⟨by (with_reducible repeat (first | apply Kd.R_alloc | apply Kd.R_drewN | apply Kd.R_drew)); exact HO107.out⟩, ⟨by repeat (first | (with_reducible first | exact HB.out | apply below_alloc | apply pw_below_drewN | apply below_drew1) | exact HB.out)⟩⟩
              · rw [if_neg c8] at H
                exact absurd H (by simp)
            · rw [if_neg c7] at H
              have c7b0 : decide (0 < x6_2) = false := decide_eq_false c7
              clear c7
              obtain rfl := Option.some.inj H
              go_wp2
              go_ret
              exact ⟨_, by first | rfl | (simp [errW_none, errW_some] <;> rfl) | (simp [*, errW_none, errW_some] <;> rfl), by (with_reducible repeat (first | apply Kd.R_alloc | apply Kd.R_drewN | apply Kd.R_drew)); exact HO_5.out, by repeat (first | (with_reducible first | exact HB.out | apply below_alloc | apply pw_below_drewN | apply below_drew1) | exact HB.out)⟩

end Go.Proofs.Ytfmkdledofbhdaa.PRB
/- Plain arithmetic: numbers as1 digits of a thousand million each. -/
namespace Go.Proofs.Ytfmkdledofbhdaa.Dg
def Dig (l : List Int) : Prop := ∀ d ∈ l, 0 ≤ d ∧ d < 1000000000
theorem Dig.nil : Dig [] := fun d h => by simp at h
theorem Dig.cons {d : Int} {l : List Int} (h1 : 0 ≤ d) (h2 : d < 1000000000) (h : Dig l) : Dig (d :: l) := fun x hx => by
  rcases List.mem_cons.1 hx with rfl | hx
  · exact ⟨h1, h2⟩
  · exact h x hx
end Go.Proofs.Ytfmkdledofbhdaa.Dg
/- The library's bits, as1 the printed callers ask them. -/
namespace Go.Proofs.Ytfmkdledofbhdaa.H
open Go.RowKit Go.Proofs.YtfmkdledofbhdaaW.PrintWords Go.Proofs.YtfmkdledofbhdaaW.PrintLast
set_option linter.unusedVariables false
set_option linter.unusedSimpArgs false
def bits_LeadingZeros64.f (x : Int) : Option Int := if 0 ≤ x ∧ x ≤ 18446744073709551615 then some (64 - (Lib.bitLen x.toNat : Int)) else none
theorem bits_LeadingZeros64.calls (a0 r : Int) (w : World) (h : bits_LeadingZeros64.f a0 = some r) : Calls Try.prog 113 #[.int .u64 a0] w fun e w' => e = .returned (.int .i64 r) ∧ Drawn0 w w' := by
  unfold bits_LeadingZeros64.f at h
  split at h
  · rename_i hb
    obtain rfl := Option.some.inj h
    exact (Try.bits_LeadingZeros64 a0 w hb.1 hb.2).mono fun e w' ⟨h1, h2⟩ => ⟨h1, h2 ▸ Drawn0.refl _⟩
  · cases h
def bits_Mul64.f (x y : Int) : Option (Int × Int) := if 0 ≤ x ∧ x ≤ 18446744073709551615 ∧ 0 ≤ y ∧ y ≤ 18446744073709551615 then some (x * y / 18446744073709551616, x * y % 18446744073709551616) else none
theorem bits_Mul64.calls (a0 a1 r1 r2 : Int) (w : World) (h : bits_Mul64.f a0 a1 = some (r1, r2)) : Calls Try.prog 105 #[.int .u64 a0, .int .u64 a1] w fun e w' => e = .returned (.tuple #[.int .u64 r1, .int .u64 r2]) ∧ Drawn0 w w' := by
  unfold bits_Mul64.f at h
  split at h
  · rename_i hb
    obtain ⟨h1, h2, h3, h4⟩ := hb
    obtain ⟨x, rfl⟩ := Int.eq_ofNat_of_zero_le h1
    obtain ⟨y, rfl⟩ := Int.eq_ofNat_of_zero_le h3
    obtain ⟨rfl, rfl⟩ := Prod.mk.inj (Option.some.inj h)
    refine (Try.bits_Mul64 x y (by omega) (by omega) w).mono fun e w' ⟨h1, h2⟩ => ⟨?_, h2 ▸ Drawn0.refl _⟩
    rw [h1]
    simp
  · cases h
end Go.Proofs.Ytfmkdledofbhdaa.H
/- Division of 128 bits by 64, digit by digit, in plain numbers. -/
namespace Go.Proofs.Ytfmkdledofbhdaa.Math64

/-- One digit's guess q, with what is left by the upper half alone, r. Q: the true digit. -/
def dig (y1 y0 u d : Int) : Int := (u * 4294967296 + d) / (y1 * 4294967296 + y0)
structure Inv (y1 y0 u d q r : Int) : Prop where
  q0 : 0 ≤ q
  q1 : q ≤ 4294967297
  r0 : 0 ≤ r
  hu : u = q * y1 + r
  hq : dig y1 y0 u d ≤ q
structure Base (y1 y0 u d : Int) : Prop where
  y1lo : 2147483648 ≤ y1
  y1hi : y1 < 4294967296
  y0lo : 0 ≤ y0
  y0hi : y0 < 4294967296
  ulo : 0 ≤ u
  uhi : u < y1 * 4294967296 + y0
  dlo : 0 ≤ d
  dhi : d < 4294967296
section
variable {y1 y0 u d q r : Int} (b : Base y1 y0 u d)
include b
theorem Base.pos : 0 < y1 * 4294967296 + y0 := by have := b.y1lo; have := b.y0lo; omega
theorem dig_lo : 0 ≤ dig y1 y0 u d := Int.ediv_nonneg (by have := b.ulo; have := b.dlo; omega) (by have := b.pos; omega)
theorem dig_hi : dig y1 y0 u d < 4294967296 := by
  refine Int.ediv_lt_of_lt_mul b.pos ?_
  have := b.uhi; have := b.dhi
  omega
theorem le_dig (q : Int) : q ≤ dig y1 y0 u d ↔ q * (y1 * 4294967296 + y0) ≤ u * 4294967296 + d := Int.le_ediv_iff_mul_le b.pos
set_option linter.unusedSectionVars false in
theorem cross (q : Int) : q * (y1 * 4294967296 + y0) = (q * y1) * 4294967296 + q * y0 := by rw [Int.mul_add, ← Int.mul_assoc]
theorem mul_bd {q : Int} (h0 : 0 ≤ q) (h1 : q ≤ 4294967297) : 0 ≤ q * y0 ∧ q * y0 ≤ 18446744073709551615 := by
  have a := b.y0lo
  have c := b.y0hi
  refine ⟨Int.mul_nonneg h0 a, ?_⟩
  have := Int.mul_le_mul h1 (show y0 ≤ 4294967295 by omega) a (by omega)
  omega
theorem Inv.big (h : Inv y1 y0 u d q r) (hb : 4294967296 ≤ q) : dig y1 y0 u d < q := by have := dig_hi b; omega
theorem Inv.more (h : Inv y1 y0 u d q r) (hb : 4294967296 * r + d < q * y0) : dig y1 y0 u d < q := by
  have h1 := le_dig b q
  have h2 := cross b q
  have h3 := h.hu
  have : ¬ q ≤ dig y1 y0 u d := by rw [h1, h2]; omega
  omega
theorem Inv.done (h : Inv y1 y0 u d q r) (hb : ¬ 4294967296 * r + d < q * y0) : q = dig y1 y0 u d := by
  have h1 := le_dig b q
  have h2 := cross b q
  have h3 := h.hu
  have h4 := h.hq
  have : q ≤ dig y1 y0 u d := by rw [h1, h2]; omega
  omega
theorem Inv.next (h : Inv y1 y0 u d q r) (hl : dig y1 y0 u d < q) : Inv y1 y0 u d (q - 1) (r + y1) := by
  have h0 := dig_lo b
  have h1 := h.q1
  have h2 := h.r0
  have h3 := h.hu
  have h4 := b.y1lo
  refine ⟨by omega, by omega, by omega, ?_, by omega⟩
  rw [Int.sub_mul]; omega
theorem Inv.last (h : Inv y1 y0 u d q r) (hl : dig y1 y0 u d < q) (hr : 4294967296 ≤ r + y1) : q - 1 = dig y1 y0 u d := by
  have n := h.next b hl
  refine n.done b ?_
  have h1 := h.q1
  have h0 := dig_lo b
  have a := b.y0lo
  have c := b.y0hi
  have e := b.dlo
  have := Int.mul_le_mul (show q - 1 ≤ 4294967296 by omega) (show y0 ≤ 4294967295 by omega) a (by omega)
  omega
theorem Inv.first : Inv y1 y0 u d (u / y1) (u - u / y1 * y1) := by
  have h1 := b.y1lo
  have h2 := b.y1hi
  have h3 := b.ulo
  have h4 := b.uhi
  have h5 := b.y0hi
  have h6 := b.dhi
  have h7 := b.y0lo
  have e := Int.emod_add_mul_ediv u y1
  have m0 := Int.emod_nonneg u (show y1 ≠ 0 by omega)
  have c := Int.mul_comm y1 (u / y1)
  refine ⟨Int.ediv_nonneg h3 (by omega), ?_, by omega, by omega, ?_⟩
  · have : u / y1 < 4294967298 := Int.ediv_lt_of_lt_mul (by omega) (by omega)
    omega
  · have q := (le_dig b (dig y1 y0 u d)).1 (Int.le_refl _)
    rw [cross b] at q
    have z := (mul_bd b (dig_lo b) (by have := dig_hi b; omega)).1
    exact (Int.le_ediv_iff_mul_le (by omega)).2 (by omega)
theorem first_lt : u - u / y1 * y1 < 4294967296 := by
  have h1 := b.y1lo
  have h2 := b.y1hi
  have e := Int.emod_add_mul_ediv u y1
  have m0 := Int.emod_lt_of_pos u (show 0 < y1 by omega)
  have c := Int.mul_comm y1 (u / y1)
  omega
/-- What is left behind a digit. -/
theorem left_bd : 0 ≤ u * 4294967296 + d - dig y1 y0 u d * (y1 * 4294967296 + y0) ∧ u * 4294967296 + d - dig y1 y0 u d * (y1 * 4294967296 + y0) < y1 * 4294967296 + y0 := by
  have e := Int.emod_add_mul_ediv (u * 4294967296 + d) (y1 * 4294967296 + y0)
  have m0 := Int.emod_nonneg (u * 4294967296 + d) (show y1 * 4294967296 + y0 ≠ 0 by have := b.pos; omega)
  have m1 := Int.emod_lt_of_pos (u * 4294967296 + d) b.pos
  have c := Int.mul_comm (y1 * 4294967296 + y0) (dig y1 y0 u d)
  unfold dig at *
  omega
end
/-- Two digits are the quotient. -/
theorem two_digits {y u d e q1 q0 r : Int} (hy : 0 < y) (h1 : u * 4294967296 + d - q1 * y = r) (h2 : 0 ≤ r * 4294967296 + e - q0 * y) (h3 : r * 4294967296 + e - q0 * y < y) :
    (u * 18446744073709551616 + d * 4294967296 + e) / y = q1 * 4294967296 + q0 ∧ (u * 18446744073709551616 + d * 4294967296 + e) % y = r * 4294967296 + e - q0 * y := by
  have a : (q1 * 4294967296 + q0) * y = (q1 * y) * 4294967296 + q0 * y := by rw [Int.add_mul, Int.mul_assoc, Int.mul_comm 4294967296 y, ← Int.mul_assoc]
  have hd : (u * 18446744073709551616 + d * 4294967296 + e) / y = q1 * 4294967296 + q0 := by
    have l1 := (Int.le_ediv_iff_mul_le hy).2 (show (q1 * 4294967296 + q0) * y ≤ u * 18446744073709551616 + d * 4294967296 + e by rw [a]; omega)
    have l2 := Int.ediv_lt_of_lt_mul hy (show u * 18446744073709551616 + d * 4294967296 + e < (q1 * 4294967296 + q0 + 1) * y by rw [Int.add_mul, a]; omega)
    omega
  refine ⟨hd, ?_⟩
  have e1 := Int.emod_add_mul_ediv (u * 18446744073709551616 + d * 4294967296 + e) y
  rw [hd, Int.mul_comm y, a] at e1
  omega

/-- How many bits a number has. -/
theorem bitLen_aux : ∀ (f x : Nat), x < 2 ^ f → x ≠ 0 → 1 ≤ Lib.bitLenAux f x ∧ Lib.bitLenAux f x ≤ f ∧ 2 ^ (Lib.bitLenAux f x - 1) ≤ x ∧ x < 2 ^ (Lib.bitLenAux f x) := by
  intro f
  induction f with
  | zero => intro x h h0; simp at h; omega
  | succ f ih =>
    intro x h h0
    simp only [Lib.bitLenAux, if_neg h0]
    by_cases hx : x / 2 = 0
    · have e : Lib.bitLenAux f (x / 2) = 0 := by rw [hx]; cases f <;> simp [Lib.bitLenAux]
      rw [e]
      refine ⟨by omega, by omega, ?_, ?_⟩ <;> simp <;> omega
    · have hp : 2 ^ (f + 1) = 2 * 2 ^ f := by rw [Nat.pow_succ]; omega
      obtain ⟨a, b, c, d⟩ := ih (x / 2) (by omega) hx
      generalize Lib.bitLenAux f (x / 2) = L at *
      obtain ⟨L, rfl⟩ : ∃ m, L = m + 1 := ⟨L - 1, by omega⟩
      have e1 : 2 ^ (1 + (L + 1) - 1) = 2 * 2 ^ L := by rw [show 1 + (L + 1) - 1 = L + 1 by omega, Nat.pow_succ]; omega
      have e2 : 2 ^ (1 + (L + 1)) = 2 * 2 ^ (L + 1) := by rw [show 1 + (L + 1) = (L + 1) + 1 by omega, Nat.pow_succ]; omega
      rw [show L + 1 - 1 = L by omega] at c
      rw [e1, e2]
      exact ⟨by omega, by omega, by omega, by omega⟩
theorem bitLen_spec {x : Nat} (h : x < 18446744073709551616) (h0 : x ≠ 0) : 1 ≤ Lib.bitLen x ∧ Lib.bitLen x ≤ 64 ∧ 2 ^ (Lib.bitLen x - 1) ≤ x ∧ x < 2 ^ (Lib.bitLen x) := bitLen_aux 64 x h h0
end Go.Proofs.Ytfmkdledofbhdaa.Math64
-- Written by a program of this session (wip/tools/myprint.py) with the help of the printer of the kit; Lean checks it.
namespace Go.Proofs.Ytfmkdledofbhdaa.PM
open Go.RowKit Go.Proofs.YtfmkdledofbhdaaW.PrintWords Go.Proofs.YtfmkdledofbhdaaW.PrintLast Go.Proofs.YtfmkdledofbhdaaW.PrintMore Go.Proofs.Ytfmkdledofbhdaa.HW
attribute [local go_sem] run_makeFunc_ max2_int min2_int max_two min_two max_three min_three max_four min_four   -- for this text's walks alone
set_option linter.unusedVariables false
set_option linter.unusedSimpArgs false



def errW : Option Int → Value
  | none => .nilIface
  | some c => .iface 0 (.int .i64 c)
theorem errW_none : errW none = .nilIface := rfl
theorem errW_some (c : Int) : errW (some c) = .iface 0 (.int .i64 c) := rfl

-- the values' own types

end Go.Proofs.Ytfmkdledofbhdaa.PM
