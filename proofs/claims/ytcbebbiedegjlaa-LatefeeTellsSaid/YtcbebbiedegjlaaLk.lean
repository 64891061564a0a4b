/- Contracts by hand: the document's answer for late fees. -/
import Derived.Test.YtcbebbiedegjlaaLb
import Derived.Test.YtcbebbiedegjlaaQe
namespace Go.Proofs.Ytcbebbiedegjlaa.Pd
open Go.RowKit Go.Proofs.YtcbebbiedegjlaaW.PrintWords Go.Proofs.YtcbebbiedegjlaaW.PrintLast Go.Proofs.YtcbebbiedegjlaaW.PrintMore Go.Proofs.Ytcbebbiedegjlaa.HW
open Pm
set_option linter.unusedVariables false
set_option linter.unusedSimpArgs false
/-- Each tier that fits is added. -/
def inn (x R : Int) : Int → List (List Int) → Int
  | acc, [] => acc
  | acc, t :: l => inn x R (if x = t.getD 0 0 then min R (acc + t.getD 1 0) else acc) l
theorem inn_past {x R : Int} : ∀ {pd pf acc : Int} {rows : List (List Int)}, tiersOk pd pf rows = true → x ≤ pd → inn x R acc rows = acc ∧ look x rows = 0
  | _, _, _, [], _, _ => ⟨rfl, rfl⟩
  | pd, pf, acc, t :: l, h, hx => by
    simp only [tiersOk, Bool.and_eq_true, decide_eq_true_eq] at h
    obtain ⟨⟨_, _, _, _, h5, _⟩, hl⟩ := h
    have ih := inn_past (x := x) (R := R) (acc := acc) hl (by omega)
    simp only [inn, look]
    rw [if_neg (by omega), if_neg (by omega)]
    exact ih
theorem inn_look {x R : Int} : ∀ {pd pf acc : Int} {rows : List (List Int)}, tiersOk pd pf rows = true → acc ≤ R → inn x R acc rows = min (acc + look x rows) R
  | _, _, acc, [], _, hR => by simp only [inn, look]; omega
  | pd, pf, acc, t :: l, h, hR => by
    simp only [tiersOk, Bool.and_eq_true, decide_eq_true_eq] at h
    obtain ⟨⟨_, _, _, _, h5, _⟩, hl⟩ := h
    simp only [inn, look]
    by_cases e : x = t.getD 0 0
    · rw [if_pos e, if_pos e.symm, (inn_past hl (by omega)).1]
      omega
    · rw [if_neg e, if_neg (fun h => e h.symm)]
      exact inn_look hl hR
set_option maxRecDepth 100000 in
set_option maxHeartbeats 1000000 in
theorem ron_bad (p : Prod) (A1 : Option Addr) (c1 : Nat) (A2 : Option Addr) (c2 : Nat) (A3 : Option Addr) (c3 : Nat) (A : Option Addr) (n c : Nat) (day sofar : Int) (w : World) (hp : ProdAt w p A1 c1 A2 c2 A3 c3) (hs : Held p) (he : ok p = false) :
    Calls Try.prog 29 #[pv p A1 c1 A2 c2 A3 c3, .slice A n c, .int .i64 day, .int .i64 sofar] w fun e w' => e = .returned (.tuple #[.int .i64 0, .int .i64 9]) ∧ Below w.heap.size w w' := by
  have HP := Aside0.mk hp
  have HS := Aside0.mk hs
  have HE := Aside0.mk (show err p = 9 by unfold err; rw [he]; rfl)
  clear hp hs he
  go_enter Try.func29, Try.ntmps29
  go_wp2_with (first
    | ((with_reducible refine gate_dst (N := 4) rfl ?_); refine box_event ?hg (N := 4) ?hd (cs := pcs p A1 c1 A2 c2 A3 c3) (t := 27) ?hr ?_; (case hd => rfl); (case hg => rfl); (case hr => first | (go_simp; done) | (go_simp; rfl)); intro g1 hg w1 hb1 hbl1; clear hg; have HB1 := Aside0.mk hb1; have BL1 := Aside0.mk hbl1; clear hb1 hbl1)
    | ((with_reducible refine gate_dst (N := 14) rfl ?_); refine wpList_load_row rfl 27 (.tmp 4) rfl g1 rfl 27 _ (0, 0) _ HB1.out Try.underlying27 rfl info_prod ?_))
  refine (rcheck_any p A1 c1 A2 c2 A3 c3 _ (HP.out.below BL1.out) HS.out).mono ?_
  rw [HE.out]
  rintro e w2 ⟨rfl, hb⟩
  have B2 := Aside0.mk (below_step BL1.out hb)
  clear hb
  go_wp2_with fail
  go_ret2
  exact ⟨rfl, B2.out⟩
set_option maxRecDepth 100000 in
set_option maxHeartbeats 1000000 in
theorem ron_arg (p : Prod) (A1 : Option Addr) (c1 : Nat) (A2 : Option Addr) (c2 : Nat) (A3 : Option Addr) (c3 : Nat) (A : Option Addr) (n c : Nat) (day sofar : Int) (w : World) (hp : ProdAt w p A1 c1 A2 c2 A3 c3) (hs : Held p) (he : ok p = true) (ha : sofar < 0 ∨ (0 ≤ sofar ∧ 1000000000000000 < sofar)) :
    Calls Try.prog 29 #[pv p A1 c1 A2 c2 A3 c3, .slice A n c, .int .i64 day, .int .i64 sofar] w fun e w' => e = .returned (.tuple #[.int .i64 0, .int .i64 1]) ∧ Below w.heap.size w w' := by
  have HP := Aside0.mk hp
  have HS := Aside0.mk hs
  have HE := Aside0.mk (show err p = 0 by unfold err; rw [he]; rfl)
  clear hp hs he
  go_enter Try.func29, Try.ntmps29
  go_wp2_with (first
    | ((with_reducible refine gate_dst (N := 4) rfl ?_); refine box_event ?hg (N := 4) ?hd (cs := pcs p A1 c1 A2 c2 A3 c3) (t := 27) ?hr ?_; (case hd => rfl); (case hg => rfl); (case hr => first | (go_simp; done) | (go_simp; rfl)); intro g1 hg w1 hb1 hbl1; clear hg; have HB1 := Aside0.mk hb1; have BL1 := Aside0.mk hbl1; clear hb1 hbl1)
    | ((with_reducible refine gate_dst (N := 14) rfl ?_); refine wpList_load_row rfl 27 (.tmp 4) rfl g1 rfl 27 _ (0, 0) _ HB1.out Try.underlying27 rfl info_prod ?_))
  refine (rcheck_any p A1 c1 A2 c2 A3 c3 _ (HP.out.below BL1.out) HS.out).mono ?_
  rw [HE.out]
  rintro e w2 ⟨rfl, hb⟩
  have B2 := Aside0.mk (below_step BL1.out hb)
  clear hb
  rcases ha with h | ⟨h, h2⟩
  all_goals
    go_wp2_with fail
    go_ret2
    exact ⟨rfl, B2.out⟩
set_option maxRecDepth 100000 in
set_option maxHeartbeats 2000000 in
theorem ron_good (p : Prod) (A1 : Option Addr) (c1 : Nat) (A2 : Option Addr) (c2 : Nat) (A3 : Option Addr) (c3 : Nat) (A : Option Addr) (c : Nat) (dues : List (List Int)) (day sofar : Int) (w : World) (hp : ProdAt w p A1 c1 A2 c2 A3 c3) (hs : Held p) (he : ok p = true) (s0 : 0 ≤ sofar) (s1 : sofar ≤ 1000000000000000) (hd : Op.IntRows w A 4 dues) (hm : dues.length ≤ 1000000) (wd : (Lit.int .i64 day).wf = true) (v : Int) (hv : onR p.late day (max (p.cap - sofar) 0) 0 dues = v) :
    Calls Try.prog 29 #[pv p A1 c1 A2 c2 A3 c3, .slice A dues.length c, .int .i64 day, .int .i64 sofar] w fun e w' => e = .returned (.tuple #[.int .i64 v, .int .i64 0]) ∧ Below w.heap.size w w' := by
  obtain ⟨⟨k0, k1⟩, hl8, hti, _⟩ := ok_parts he
  obtain ⟨dd0, dd1⟩ := wf_bd wd
  have HTI := Aside0.mk hti
  have HTR := Aside0.mk (tiers_row hti)
  have HP := Aside0.mk hp
  have HS := Aside0.mk hs
  have HD := Aside0.mk hd
  have HE := Aside0.mk (show err p = 0 by unfold err; rw [he]; rfl)
  have HV := Aside0.mk hv
  clear hp hs he hd hv hti wd
  go_enter Try.func29, Try.ntmps29
  go_wp2_with (first
    | ((with_reducible refine gate_dst (N := 4) rfl ?_); refine box_event ?hg (N := 4) ?hd (cs := pcs p A1 c1 A2 c2 A3 c3) (t := 27) ?hr ?_; (case hd => rfl); (case hg => rfl); (case hr => first | (go_simp; done) | (go_simp; rfl)); intro g1 hg w1 hb1 hbl1; clear hg; have HB1 := Aside0.mk hb1; have BL1 := Aside0.mk hbl1; clear hb1 hbl1)
    | ((with_reducible refine gate_dst (N := 14) rfl ?_); refine wpList_load_row rfl 27 (.tmp 4) rfl g1 rfl 27 _ (0, 0) _ HB1.out Try.underlying27 rfl info_prod ?_))
  refine (rcheck_any p A1 c1 A2 c2 A3 c3 _ (HP.out.below BL1.out) HS.out).mono ?_
  rw [HE.out]
  rintro e w2 ⟨rfl, hb⟩
  have B2 := Aside0.mk (below_step BL1.out hb)
  have H2 := Aside0.mk (blk_below HB1.out hb)
  obtain ⟨-, -, -, -, -, -, -, -, -, -, -, -, -, -, -, q15, q16, -⟩ := pc_cells (blk_below HB1.out hb)
  clear hb HB1 BL1
  go_wp2_with fail
  obtain ⟨R, hR⟩ : ∃ R, max (0 : Int) (p.cap - sofar) = R := ⟨_, rfl⟩
  have R0 : 0 ≤ R := by omega
  have R1 : R ≤ 10000000000000 := by omega
  have hv2 := HV.out
  rw [show max (p.cap - sofar) 0 = R by omega] at hv2
  rw [hR]
  have HV2 := Aside0.mk hv2
  clear hv2 hR HV q15 q16
  go_loopg [11, 12] (dues.length + 1) (fun gq sv i w' => ∃ (k : Nat) (acc : Int), k ≤ dues.length ∧ i = .int .i64 k ∧ sv = .int .i64 acc ∧ 0 ≤ acc ∧ acc ≤ R ∧ Aside0 (gq = dues.length + 1 - k) ∧ Aside0 (onR p.late day R acc (dues.drop k) = v) ∧ Aside0 (Below w2.heap.size w2 w'))
  case atStart => exact ⟨0, 0, Nat.zero_le _, rfl, rfl, Int.le_refl _, R0, ⟨rfl⟩, ⟨by simpa using HV2.out⟩, ⟨Below.refl _ _⟩⟩
  case round =>
    obtain ⟨k, acc, hk, rfl, rfl, acc0, acc1, hgq, hq, hbl⟩ := hrel
    by_cases hlt : k < dues.length
    · obtain ⟨ad, n, d, i, q, e0, hrow, q0', q1', q2', q3', wdd⟩ := four_at (HD.out.below (below_step B2.out hbl.out)) k hlt
      have HROW := Aside0.mk hrow
      have hcs := hq.out
      rw [drop_row hrow] at hcs
      simp only [onR, List.getD_cons_zero, List.getD_cons_succ] at hcs
      obtain ⟨bd0, bd1⟩ := wf_bd wdd
      have kk0 : (0 : Int) ≤ (k : Int) := by omega
      have kk1 : (k : Int) < (dues.length : Int) := by omega
      have WDD := Aside0.mk wdd
      clear hq hrow wdd q0' q1' q2' q3' e0
      by_cases hdl : d < day
      · rw [if_pos hdl, ← inn_look HTI.out acc1] at hcs
        have hdd : decide (d < day) = true := decide_eq_true hdl
        have hw52 : IntKind.u64.wrap (IntKind.u64.wrap day - IntKind.u64.wrap d) = day - d := by
          show (day % 18446744073709551616 - d % 18446744073709551616) % 18446744073709551616 = day - d
          omega
        have HW := Aside0.mk hw52
        have HC := Aside0.mk hcs
        clear hcs hw52
        go_wp2_with fail
        go_loopg [11, 13] (p.late.length + 1) (fun gq2 sv2 i2 w3 => ∃ (k2 : Nat) (acc2 : Int), k2 ≤ p.late.length ∧ i2 = .int .i64 k2 ∧ sv2 = .int .i64 acc2 ∧ 0 ≤ acc2 ∧ acc2 ≤ R ∧ Aside0 (gq2 = p.late.length + 1 - k2) ∧ Aside0 (inn (day - d) R acc2 (p.late.drop k2) = inn (day - d) R acc p.late) ∧ Aside0 (Below w2.heap.size w2 w3))
        case atStart => exact ⟨0, acc, Nat.zero_le _, rfl, rfl, acc0, acc1, ⟨rfl⟩, ⟨rfl⟩, hbl⟩
        case round =>
          obtain ⟨k2, acc2, hk2, rfl, rfl, acc20, acc21, hgq2, hq2, hbl2⟩ := hrel
          obtain ⟨-, -, -, -, -, -, -, -, -, -, -, -, -, -, -, q15, -⟩ := pc_cells (blk_below H2.out hbl2.out)
          obtain ⟨ad, n', d', i', q', e0, hrow', q0', q1', -, -, -⟩ := four_at (HD.out.below (below_step B2.out hbl2.out)) k hlt
          obtain ⟨rfl, rfl, rfl, rfl⟩ : n = n' ∧ d = d' ∧ i = i' ∧ q = q' := by
            have h := HROW.out.symm.trans hrow'
            simpa using h
          subst e0
          clear hrow'
          by_cases hlt2 : k2 < p.late.length
          · obtain ⟨ad2, x, y, e2, hrow2, p0, p1, wx, wy⟩ := two_at (HP.out.below (below_step B2.out hbl2.out)).r2 k2 hlt2
            have hcs := hq2.out
            rw [drop_row hrow2] at hcs
            simp only [inn, List.getD_cons_zero, List.getD_cons_succ] at hcs
            have hb2 := HTR.out _ (List.mem_of_getElem? hrow2)
            simp only [List.getD_cons_zero, List.getD_cons_succ] at hb2
            obtain ⟨⟨xx0, xx1⟩, y0, y1⟩ := hb2
            have k20 : (0 : Int) ≤ (k2 : Int) := by omega
            have k21 : (k2 : Int) < (p.late.length : Int) := by omega
            have ew : IntKind.u64.wrap x = x := by show x % 18446744073709551616 = x; omega
            have hw52 := HW.out
            clear hq2 hrow2 wx wy
            subst e2
            by_cases hx : day - d = x
            · rw [if_pos hx] at hcs
              have hxd : (day - d == x) = true := beqt hx
              have HC2 := Aside0.mk hcs
              clear hcs hx
              go_wp2_with fail
              go_quiet (fail)
              go_wp2_with fail
              go_roundg (p.late.length + 1 - (k2 + 1))
              case measure => have := hgq2.out; omega
              case rel => exact ⟨k2 + 1, min R (acc2 + y), by omega, by simp, by simp, by omega, by omega, ⟨rfl⟩, HC2, ⟨by first | exact pw_below_drewN hbl2.out _ | exact hbl2.out⟩⟩
            · rw [if_neg hx] at hcs
              have hxd : (day - d == x) = false := beqf hx
              have HC2 := Aside0.mk hcs
              clear hcs hx
              go_wp2_with fail
              go_quiet (fail)
              go_wp2_with fail
              go_roundg (p.late.length + 1 - (k2 + 1))
              case measure => have := hgq2.out; omega
              case rel => exact ⟨k2 + 1, acc2, by omega, by simp, by simp, by omega, by omega, ⟨rfl⟩, HC2, ⟨by first | exact pw_below_drewN hbl2.out _ | exact hbl2.out⟩⟩
          · have hk3 : k2 = p.late.length := by omega
            subst hk3
            have hcs := hq2.out
            rw [List.drop_length] at hcs
            have hc2 := HC.out
            rw [← hcs] at hc2
            have HC2 := Aside0.mk (show onR p.late day R acc2 (dues.drop (k + 1)) = v from hc2)
            clear hq2 hcs hc2
            go_wp2_with fail
            go_roundg (dues.length + 1 - (k + 1))
            case measure => have := hgq.out; omega
            case rel => exact ⟨k + 1, acc2, by omega, by simp, by simp, acc20, acc21, ⟨rfl⟩, HC2, hbl2⟩
      · rw [if_neg hdl] at hcs
        have hdd : decide (d < day) = false := decide_eq_false hdl
        have HC := Aside0.mk hcs
        clear hcs
        go_wp2_with fail
        go_loopg [11, 13] (p.late.length + 1) (fun gq2 sv2 i2 w3 => ∃ (k2 : Nat), k2 ≤ p.late.length ∧ i2 = .int .i64 k2 ∧ sv2 = .int .i64 acc ∧ Aside0 (gq2 = p.late.length + 1 - k2) ∧ Aside0 (Below w2.heap.size w2 w3))
        case atStart => exact ⟨0, Nat.zero_le _, rfl, rfl, ⟨rfl⟩, hbl⟩
        case round =>
          obtain ⟨k2, hk2, rfl, rfl, hgq2, hbl2⟩ := hrel
          obtain ⟨-, -, -, -, -, -, -, -, -, -, -, -, -, -, -, q15, -⟩ := pc_cells (blk_below H2.out hbl2.out)
          obtain ⟨ad, n', d', i', q', e0, hrow', q0', q1', -, -, -⟩ := four_at (HD.out.below (below_step B2.out hbl2.out)) k hlt
          obtain ⟨rfl, rfl, rfl, rfl⟩ : n = n' ∧ d = d' ∧ i = i' ∧ q = q' := by
            have h := HROW.out.symm.trans hrow'
            simpa using h
          subst e0
          clear hrow'
          by_cases hlt2 : k2 < p.late.length
          · go_wp2_with fail
            go_quiet (fail)
            go_wp2_with fail
            go_roundg (p.late.length + 1 - (k2 + 1))
            case measure => have := hgq2.out; omega
            case rel => exact ⟨k2 + 1, by omega, by simp, by simp, ⟨rfl⟩, ⟨by first | exact pw_below_drewN hbl2.out _ | exact hbl2.out⟩⟩
          · have hk3 : k2 = p.late.length := by omega
            subst hk3
            go_wp2_with fail
            go_roundg (dues.length + 1 - (k + 1))
            case measure => have := hgq.out; omega
            case rel => exact ⟨k + 1, acc, by omega, by simp, by simp, acc0, acc1, ⟨rfl⟩, HC, hbl2⟩
    · have hk2 : k = dues.length := by omega
      subst hk2
      have hcs := hq.out
      rw [List.drop_length] at hcs
      obtain rfl : acc = v := hcs
      clear hq
      go_wp2_with fail
      go_ret2
      exact ⟨rfl, below_step B2.out hbl.out⟩
/-- The document's answer is the plain one. -/
theorem ron_any (p : Prod) (A1 : Option Addr) (c1 : Nat) (A2 : Option Addr) (c2 : Nat) (A3 : Option Addr) (c3 : Nat) (A : Option Addr) (c : Nat) (dues : List (List Int)) (day sofar : Int) (w : World) (hp : ProdAt w p A1 c1 A2 c2 A3 c3) (hs : Held p) (hd : Op.IntRows w A 4 dues) (hm : dues.length ≤ 1000000) (wd : (Lit.int .i64 day).wf = true) :
    Calls Try.prog 29 #[pv p A1 c1 A2 c2 A3 c3, .slice A dues.length c, .int .i64 day, .int .i64 sofar] w fun e w' => e = .returned (.tuple #[.int .i64 (lateOn p dues day sofar).1, .int .i64 (lateOn p dues day sofar).2]) ∧ Below w.heap.size w w' := by
  unfold lateOn
  cases he : ok p with
  | false =>
    simp only [Bool.false_eq_true, if_false]
    exact ron_bad p A1 c1 A2 c2 A3 c3 A _ c day sofar w hp hs he
  | true =>
    simp only [if_true]
    by_cases hsf : 0 ≤ sofar ∧ sofar ≤ 1000000000000000
    · rw [if_pos hsf]
      exact ron_good p A1 c1 A2 c2 A3 c3 A c dues day sofar w hp hs he hsf.1 hsf.2 hd hm wd _ rfl
    · rw [if_neg hsf]
      exact ron_arg p A1 c1 A2 c2 A3 c3 A _ c day sofar w hp hs he (by omega)
end Go.Proofs.Ytcbebbiedegjlaa.Pd
