/- Contracts by hand: what is due for being late, on a day. -/
import Derived.Test.YtcbebbiedegjlaaLa
namespace Go.Proofs.Ytcbebbiedegjlaa.Pd
open Go.RowKit Go.Proofs.YtcbebbiedegjlaaW.PrintWords Go.Proofs.YtcbebbiedegjlaaW.PrintLast Go.Proofs.YtcbebbiedegjlaaW.PrintMore Go.Proofs.Ytcbebbiedegjlaa.HW
open Pm
set_option linter.unusedVariables false
set_option linter.unusedSimpArgs false
theorem info_due : (Try.prog.info? 56).map (·.size) = some 4 := by kernel_rfl
theorem four_one (x y z u : Int) : (#[Value.int .i64 x, Value.int .i64 y, Value.int .i64 z, Value.int .i64 u]).all (·.oneCell') = true := by simp [Value.oneCell']
abbrev boxP (p : Prod) (A1 : Option Addr) (c1 : Nat) (A2 : Option Addr) (c2 : Nat) (A3 : Option Addr) (c3 : Nat) := pcs p A1 c1 A2 c2 A3 c3
set_option maxRecDepth 100000 in
set_option maxHeartbeats 1000000 in
theorem on_bad (p : Prod) (A1 : Option Addr) (c1 : Nat) (A2 : Option Addr) (c2 : Nat) (A3 : Option Addr) (c3 : Nat) (A : Option Addr) (n c : Nat) (day sofar : Int) (w : World) (hg : GV w) (hp : ProdAt w p A1 c1 A2 c2 A3 c3) (hs : Small p) (he : ok p = false) :
    Calls Try.prog 28 #[pv p A1 c1 A2 c2 A3 c3, .slice A n c, .int .i64 day, .int .i64 sofar] w fun e w' => e = .returned (.tuple #[.int .i64 0, .int .i64 9]) ∧ Below w.heap.size w w' := by
  have HG := Aside0.mk hg
  have HP := Aside0.mk hp
  have HS := Aside0.mk hs
  have HE := Aside0.mk (show err p = 9 by unfold err; rw [he]; rfl)
  clear hg hp hs he
  go_enter Try.func28, Try.ntmps28
  go_wp2_with (first
    | ((with_reducible refine gate_dst (N := 4) rfl ?_); refine box_event ?hg (N := 4) ?hd (cs := pcs p A1 c1 A2 c2 A3 c3) (t := 27) ?hr ?_; (case hd => rfl); (case hg => rfl); (case hr => first | (go_simp; done) | (go_simp; rfl)); intro g1 hg w1 hb1 hbl1; clear hg; have HB1 := Aside0.mk hb1; have BL1 := Aside0.mk hbl1; clear hb1 hbl1)
    | ((with_reducible refine gate_dst (N := 16) rfl ?_); refine wpList_load_row rfl 27 (.tmp 4) rfl g1 rfl 27 _ (0, 0) _ HB1.out Try.underlying27 rfl info_prod ?_))
  refine (check_any p A1 c1 A2 c2 A3 c3 _ (HG.out.below BL1.out) (HP.out.below BL1.out) HS.out).mono ?_
  rw [HE.out]
  rintro e w2 ⟨rfl, hb⟩
  have B2 := Aside0.mk (below_step BL1.out hb)
  clear hb
  go_wp2_with fail
  go_ret2
  exact ⟨rfl, B2.out⟩
set_option maxRecDepth 100000 in
set_option maxHeartbeats 1000000 in
theorem on_arg (p : Prod) (A1 : Option Addr) (c1 : Nat) (A2 : Option Addr) (c2 : Nat) (A3 : Option Addr) (c3 : Nat) (A : Option Addr) (n c : Nat) (day sofar : Int) (w : World) (hg : GV w) (hp : ProdAt w p A1 c1 A2 c2 A3 c3) (hs : Small p) (he : ok p = true) (ha : sofar < 0 ∨ (0 ≤ sofar ∧ 1000000000000000 < sofar)) :
    Calls Try.prog 28 #[pv p A1 c1 A2 c2 A3 c3, .slice A n c, .int .i64 day, .int .i64 sofar] w fun e w' => e = .returned (.tuple #[.int .i64 0, .int .i64 1]) ∧ Below w.heap.size w w' := by
  have HG := Aside0.mk hg
  have HP := Aside0.mk hp
  have HS := Aside0.mk hs
  have HE := Aside0.mk (show err p = 0 by unfold err; rw [he]; rfl)
  clear hg hp hs he
  go_enter Try.func28, Try.ntmps28
  go_wp2_with (first
    | ((with_reducible refine gate_dst (N := 4) rfl ?_); refine box_event ?hg (N := 4) ?hd (cs := pcs p A1 c1 A2 c2 A3 c3) (t := 27) ?hr ?_; (case hd => rfl); (case hg => rfl); (case hr => first | (go_simp; done) | (go_simp; rfl)); intro g1 hg w1 hb1 hbl1; clear hg; have HB1 := Aside0.mk hb1; have BL1 := Aside0.mk hbl1; clear hb1 hbl1)
    | ((with_reducible refine gate_dst (N := 16) rfl ?_); refine wpList_load_row rfl 27 (.tmp 4) rfl g1 rfl 27 _ (0, 0) _ HB1.out Try.underlying27 rfl info_prod ?_))
  refine (check_any p A1 c1 A2 c2 A3 c3 _ (HG.out.below BL1.out) (HP.out.below BL1.out) HS.out).mono ?_
  rw [HE.out]
  rintro e w2 ⟨rfl, hb⟩
  have B2 := Aside0.mk (below_step BL1.out hb)
  clear hb
  rcases ha with h | ⟨h, h2⟩
  all_goals
    go_wp2_with fail
    go_ret2
    exact ⟨rfl, B2.out⟩
set_option maxRecDepth 100000 in
set_option maxHeartbeats 2000000 in
theorem on_good (p : Prod) (A1 : Option Addr) (c1 : Nat) (A2 : Option Addr) (c2 : Nat) (A3 : Option Addr) (c3 : Nat) (A : Option Addr) (c : Nat) (dues : List (List Int)) (day sofar : Int) (w : World) (hg : GV w) (hp : ProdAt w p A1 c1 A2 c2 A3 c3) (hs : Small p) (he : ok p = true) (s0 : 0 ≤ sofar) (s1 : sofar ≤ 1000000000000000) (hd : Op.IntRows w A 4 dues) (hm : dues.length ≤ 1000000) (wd : (Lit.int .i64 day).wf = true) (v : Int) (hv : onR p.late day (max (p.cap - sofar) 0) 0 dues = v) :
    Calls Try.prog 28 #[pv p A1 c1 A2 c2 A3 c3, .slice A dues.length c, .int .i64 day, .int .i64 sofar] w fun e w' => e = .returned (.tuple #[.int .i64 v, .int .i64 0]) ∧ Below w.heap.size w w' := by
  obtain ⟨⟨k0, k1⟩, hl8, hti, _⟩ := ok_parts he
  obtain ⟨dd0, dd1⟩ := wf_bd wd
  have HTR := Aside0.mk (tiers_row hti)
  have HL8 := Aside0.mk hl8
  have HG := Aside0.mk hg
  have HP := Aside0.mk hp
  have HS := Aside0.mk hs
  have HD := Aside0.mk hd
  have HE := Aside0.mk (show err p = 0 by unfold err; rw [he]; rfl)
  have HV := Aside0.mk hv
  clear hg hp hs he hd hv hl8 hti wd
  go_enter Try.func28, Try.ntmps28
  go_wp2_with (first
    | ((with_reducible refine gate_dst (N := 4) rfl ?_); refine box_event ?hg (N := 4) ?hd (cs := pcs p A1 c1 A2 c2 A3 c3) (t := 27) ?hr ?_; (case hd => rfl); (case hg => rfl); (case hr => first | (go_simp; done) | (go_simp; rfl)); intro g1 hg w1 hb1 hbl1; clear hg; have HB1 := Aside0.mk hb1; have BL1 := Aside0.mk hbl1; clear hb1 hbl1)
    | ((with_reducible refine gate_dst (N := 16) rfl ?_); refine wpList_load_row rfl 27 (.tmp 4) rfl g1 rfl 27 _ (0, 0) _ HB1.out Try.underlying27 rfl info_prod ?_))
  refine (check_any p A1 c1 A2 c2 A3 c3 _ (HG.out.below BL1.out) (HP.out.below BL1.out) HS.out).mono ?_
  rw [HE.out]
  rintro e w2 ⟨rfl, hb⟩
  have B2 := Aside0.mk (below_step BL1.out hb)
  obtain ⟨-, -, -, -, -, -, -, -, -, -, -, -, -, -, -, q15, q16, -⟩ := pc_cells (blk_below HB1.out hb)
  clear hb HB1 BL1
  go_wp2_with fail
  obtain ⟨R, hR⟩ : ∃ R, max (p.cap - sofar) 0 = R := ⟨_, rfl⟩
  have R0 : 0 ≤ R := by omega
  have R1 : R ≤ 10000000000000 := by omega
  have hv2 := HV.out
  rw [hR] at hv2 ⊢
  have HV2 := Aside0.mk hv2
  clear hv2 hR HV q15 q16
  go_loopg [13, 37] (dues.length + 1) (fun gq sv i w' => ∃ (k : Nat) (acc : Int), k ≤ dues.length ∧ i = .int .i64 k ∧ sv = .int .i64 acc ∧ 0 ≤ acc ∧ acc ≤ R ∧ Aside0 (gq = dues.length + 1 - k) ∧ Aside0 (onR p.late day R acc (dues.drop k) = v) ∧ Aside0 (Below w.heap.size w w'))
  case atStart => exact ⟨0, 0, Nat.zero_le _, rfl, rfl, Int.le_refl _, R0, ⟨rfl⟩, ⟨by simpa using HV2.out⟩, B2⟩
  case round =>
    obtain ⟨k, acc, hk, rfl, rfl, acc0, acc1, hgq, hq, hbl⟩ := hrel
    by_cases hlt : k < dues.length
    · obtain ⟨ad, n, d, i, q, e0, hrow, q0', q1', q2', q3', wdd⟩ := four_at (HD.out.below hbl.out) k hlt
      subst e0
      have hcs := hq.out
      rw [drop_row hrow] at hcs
      simp only [onR, List.getD_cons_zero, List.getD_cons_succ] at hcs
      have adlt := cell_ltR q0'
      obtain ⟨bd0, bd1⟩ := wf_bd wdd
      have kk0 : (0 : Int) ≤ (k : Int) := by omega
      have kk1 : (k : Int) < (dues.length : Int) := by omega
      clear hq hrow wdd
      by_cases hdl : d < day
      · rw [if_pos hdl] at hcs
        have hdd : decide (d < day) = true := decide_eq_true hdl
        obtain ⟨f, hf⟩ : ∃ f, look (day - d) p.late = f := ⟨_, rfl⟩
        have hfb := look_bd HTR.out (day - d)
        rw [hf] at hcs hfb
        obtain ⟨f0, f1⟩ := hfb
        have hw52 : IntKind.u64.wrap (IntKind.u64.wrap day - IntKind.u64.wrap d) = day - d := by
          show (day % 18446744073709551616 - d % 18446744073709551616) % 18446744073709551616 = day - d
          omega
        have HW := Aside0.mk hw52
        have HF := Aside0.mk hf
        have HC := Aside0.mk hcs
        clear hcs hf hw52
        go_wp2_with ((with_reducible refine gate_dst (N := 15) rfl ?_); refine copy_event rfl (N := 15) rfl rfl rfl (t := 56) (v := .tmp 40) rfl (cs := #[.int .i64 n, .int .i64 d, .int .i64 i, .int .i64 q]) (zs := #[.int .i64 0, .int .i64 0, .int .i64 0, .int .i64 0]) ?hr rfl rfl info_due ?hz (four_one _ _ _ _) ?_; (case hr => first | (go_simp; done) | (go_simp; rfl)); (case hz => rfl); intro g4 hg w4 hb4 hbl4; have g4lt := blk_lt hb4; clear hg; have z1 : w4.cell? ⟨g4, 1, none⟩ = some (.int .i64 d) := (blk_cell hb4 1).trans rfl; have BL4 := Aside0.mk (below_step hbl.out hbl4); clear hb4 hbl4)
        rw [HW.out]
        refine (fee_any A2 c2 p.late (day - d) _ (HP.out.below BL4.out).r2 HS.out.s2 HTR.out f HF.out).mono ?_
        rintro e w5 ⟨rfl, hb⟩
        have BL5 := Aside0.mk (below_step BL4.out hb)
        clear hb
        go_wp2_with fail
        go_roundg (dues.length + 1 - (k + 1))
        case measure => have := hgq.out; omega
        case rel => exact ⟨k + 1, min (acc + f) R, by omega, by simp, rfl, by omega, by omega, ⟨rfl⟩, HC, BL5⟩
      · rw [if_neg hdl] at hcs
        have hdd : decide (d < day) = false := decide_eq_false hdl
        have HC := Aside0.mk hcs
        clear hcs
        go_wp2_with ((with_reducible refine gate_dst (N := 15) rfl ?_); refine copy_event rfl (N := 15) rfl rfl rfl (t := 56) (v := .tmp 40) rfl (cs := #[.int .i64 n, .int .i64 d, .int .i64 i, .int .i64 q]) (zs := #[.int .i64 0, .int .i64 0, .int .i64 0, .int .i64 0]) ?hr rfl rfl info_due ?hz (four_one _ _ _ _) ?_; (case hr => first | (go_simp; done) | (go_simp; rfl)); (case hz => rfl); intro g4 hg w4 hb4 hbl4; have g4lt := blk_lt hb4; clear hg; have z1 : w4.cell? ⟨g4, 1, none⟩ = some (.int .i64 d) := (blk_cell hb4 1).trans rfl; have BL4 := Aside0.mk (below_step hbl.out hbl4); clear hb4 hbl4)
        go_roundg (dues.length + 1 - (k + 1))
        case measure => have := hgq.out; omega
        case rel => exact ⟨k + 1, acc, by omega, by simp, rfl, acc0, acc1, ⟨rfl⟩, HC, BL4⟩
    · have hk2 : k = dues.length := by omega
      subst hk2
      have hcs := hq.out
      rw [List.drop_length] at hcs
      obtain rfl : acc = v := hcs
      clear hq
      go_wp2_with fail
      go_ret2
      exact ⟨rfl, hbl.out⟩
/-- What is due on a day, or why not. -/
theorem on_any (p : Prod) (A1 : Option Addr) (c1 : Nat) (A2 : Option Addr) (c2 : Nat) (A3 : Option Addr) (c3 : Nat) (A : Option Addr) (c : Nat) (dues : List (List Int)) (day sofar : Int) (w : World) (hg : GV w) (hp : ProdAt w p A1 c1 A2 c2 A3 c3) (hs : Small p) (hd : Op.IntRows w A 4 dues) (hm : dues.length ≤ 1000000) (wd : (Lit.int .i64 day).wf = true) :
    Calls Try.prog 28 #[pv p A1 c1 A2 c2 A3 c3, .slice A dues.length c, .int .i64 day, .int .i64 sofar] w fun e w' => e = .returned (.tuple #[.int .i64 (lateOn p dues day sofar).1, .int .i64 (lateOn p dues day sofar).2]) ∧ Below w.heap.size w w' := by
  unfold lateOn
  cases he : ok p with
  | false =>
    simp only [Bool.false_eq_true, if_false]
    exact on_bad p A1 c1 A2 c2 A3 c3 A _ c day sofar w hg hp hs he
  | true =>
    simp only [if_true]
    by_cases hsf : 0 ≤ sofar ∧ sofar ≤ 1000000000000000
    · rw [if_pos hsf]
      exact on_good p A1 c1 A2 c2 A3 c3 A c dues day sofar w hg hp hs he hsf.1 hsf.2 hd hm wd _ rfl
    · rw [if_neg hsf]
      exact on_arg p A1 c1 A2 c2 A3 c3 A _ c day sofar w hg hp hs he (by omega)
end Go.Proofs.Ytcbebbiedegjlaa.Pd
