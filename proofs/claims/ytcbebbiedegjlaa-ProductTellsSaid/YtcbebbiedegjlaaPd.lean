/- Contracts by hand: a product's days are looked at. -/
import Derived.Test.YtcbebbiedegjlaaRw
import Derived.Deep.LoopGhost
import Derived.IntWalk
namespace Go.Proofs.Ytcbebbiedegjlaa.Pd
open Go.RowKit Go.Proofs.YtcbebbiedegjlaaW.PrintWords Go.Proofs.YtcbebbiedegjlaaW.PrintLast Go.Proofs.YtcbebbiedegjlaaW.PrintMore Go.Proofs.Ytcbebbiedegjlaa.HW
open Pm
set_option linter.unusedVariables false
set_option linter.unusedSimpArgs false


set_option maxRecDepth 100000 in
set_option maxHeartbeats 2000000 in
theorem days_1 (p : Prod) (A1 : Option Addr) (c1 : Nat) (A2 : Option Addr) (c2 : Nat) (A3 : Option Addr) (c3 : Nat) (w : World) (hr : Kd.C (Kd.int .i64) w A3 p.hol.length p.hol) (hl : p.hol.length ≤ c3) (hn0 : A3 = none → c3 = 0) (hm : p.hol.length ≤ 1000000) (he : (if (decide (p.hol.length ≤ 200) && holsOk (-25568) p.hol) = true then (0 : Int) else 1) = 1) :
    Calls Try.prog 36 #[pv p A1 c1 A2 c2 A3 c3] w fun e w' => e = refusedE ∧ Below w.heap.size w w' := by
  have HR := Aside0.mk hr
  have HE := Aside0.mk he
  clear hr he
  go_enter Try.func36, Try.ntmps36
  go_wp2_with ((with_reducible refine gate_dst (N := 1) rfl ?_); refine box_event ?hg (N := 1) ?hd (cs := pcs p A1 c1 A2 c2 A3 c3) (t := 68) ?hr ?_; (case hd => rfl); (case hg => rfl); (case hr => first | (go_simp; done) | (go_simp; rfl)); intro g1 hg w1 hb1 hbl1; have g1lt := blk_lt hb1; clear hg; have HB1 := Aside0.mk hb1; have BL1 := Aside0.mk hbl1; clear hbl1; have q18 := (pc_cells hb1).2.2.2.2.2.2.2.2.2.2.2.2.2.2.2.2.2.2; clear hb1)
  refine (Nw.new_any A3 c3 p.hol _ (Kd.C_below HR.out BL1.out) hl hn0 hm).mono ?_
  rintro e w3 ⟨hb, q, rfl⟩
  rw [HE.out]
  have BL3 := Aside0.mk (below_step BL1.out hb)
  obtain ⟨-, -, -, -, -, -, -, -, -, -, -, -, -, -, -, -, -, q17, q18'⟩ := pc_cells (blk_below HB1.out hb)
  clear hb BL1 HB1 q18
  go_wp2_with fail
  refine (must_no _).mono ?_
  rintro e w' ⟨rfl, rfl⟩
  exact ⟨rfl, rfl, BL3.out⟩

set_option maxRecDepth 100000 in
set_option maxHeartbeats 2000000 in
theorem days_2 (p : Prod) (A1 : Option Addr) (c1 : Nat) (A2 : Option Addr) (c2 : Nat) (A3 : Option Addr) (c3 : Nat) (w : World) (hr : Kd.C (Kd.int .i64) w A3 p.hol.length p.hol) (hl : p.hol.length ≤ c3) (hn0 : A3 = none → c3 = 0) (hm : p.hol.length ≤ 1000000) (he : (if (decide (p.hol.length ≤ 200) && holsOk (-25568) p.hol) = true then (0 : Int) else 1) = 0) (ha : decide (1 ≤ p.roll ∧ p.roll ≤ 4) = false) :
    Calls Try.prog 36 #[pv p A1 c1 A2 c2 A3 c3] w fun e w' => e = refusedE ∧ Below w.heap.size w w' := by
  have HR := Aside0.mk hr
  have HE := Aside0.mk he
  have HA := Aside0.mk ha
  clear hr he ha
  go_enter Try.func36, Try.ntmps36
  go_wp2_with ((with_reducible refine gate_dst (N := 1) rfl ?_); refine box_event ?hg (N := 1) ?hd (cs := pcs p A1 c1 A2 c2 A3 c3) (t := 68) ?hr ?_; (case hd => rfl); (case hg => rfl); (case hr => first | (go_simp; done) | (go_simp; rfl)); intro g1 hg w1 hb1 hbl1; have g1lt := blk_lt hb1; clear hg; have HB1 := Aside0.mk hb1; have BL1 := Aside0.mk hbl1; clear hbl1; have q18 := (pc_cells hb1).2.2.2.2.2.2.2.2.2.2.2.2.2.2.2.2.2.2; clear hb1)
  refine (Nw.new_any A3 c3 p.hol _ (Kd.C_below HR.out BL1.out) hl hn0 hm).mono ?_
  rintro e w3 ⟨hb, q, rfl⟩
  rw [HE.out]
  have BL3 := Aside0.mk (below_step BL1.out hb)
  obtain ⟨-, -, -, -, -, -, -, -, -, -, -, -, -, -, -, -, -, q17, q18'⟩ := pc_cells (blk_below HB1.out hb)
  clear hb BL1 HB1 q18
  go_wp2_with fail
  refine (within_i_is HA.out _).mono ?_
  rintro e w' ⟨rfl, rfl⟩
  go_wp2_with fail
  refine (must_no _).mono ?_
  rintro e w' ⟨rfl, rfl⟩
  exact ⟨rfl, rfl, BL3.out⟩

set_option maxRecDepth 100000 in
set_option maxHeartbeats 2000000 in
theorem days_3 (p : Prod) (A1 : Option Addr) (c1 : Nat) (A2 : Option Addr) (c2 : Nat) (A3 : Option Addr) (c3 : Nat) (w : World) (hr : Kd.C (Kd.int .i64) w A3 p.hol.length p.hol) (hl : p.hol.length ≤ c3) (hn0 : A3 = none → c3 = 0) (hm : p.hol.length ≤ 1000000) (he : (if (decide (p.hol.length ≤ 200) && holsOk (-25568) p.hol) = true then (0 : Int) else 1) = 0) (ha : decide (1 ≤ p.roll ∧ p.roll ≤ 4) = true) (r1 : (p.roll != 1) = true) :
    Calls Try.prog 36 #[pv p A1 c1 A2 c2 A3 c3] w fun e w' => e = .returned (.tuple #[]) ∧ Below w.heap.size w w' := by
  have HR := Aside0.mk hr
  have HE := Aside0.mk he
  have HA := Aside0.mk ha
  clear hr he ha
  go_enter Try.func36, Try.ntmps36
  go_wp2_with ((with_reducible refine gate_dst (N := 1) rfl ?_); refine box_event ?hg (N := 1) ?hd (cs := pcs p A1 c1 A2 c2 A3 c3) (t := 68) ?hr ?_; (case hd => rfl); (case hg => rfl); (case hr => first | (go_simp; done) | (go_simp; rfl)); intro g1 hg w1 hb1 hbl1; have g1lt := blk_lt hb1; clear hg; have HB1 := Aside0.mk hb1; have BL1 := Aside0.mk hbl1; clear hbl1; have q18 := (pc_cells hb1).2.2.2.2.2.2.2.2.2.2.2.2.2.2.2.2.2.2; clear hb1)
  refine (Nw.new_any A3 c3 p.hol _ (Kd.C_below HR.out BL1.out) hl hn0 hm).mono ?_
  rintro e w3 ⟨hb, q, rfl⟩
  rw [HE.out]
  have BL3 := Aside0.mk (below_step BL1.out hb)
  obtain ⟨-, -, -, -, -, -, -, -, -, -, -, -, -, -, -, -, -, q17, q18'⟩ := pc_cells (blk_below HB1.out hb)
  clear hb BL1 HB1 q18
  go_wp2_with fail
  refine (within_i_is HA.out _).mono ?_
  rintro e w' ⟨rfl, rfl⟩
  go_wp2_with fail
  refine (must_yes _).mono ?_
  rintro e w' ⟨rfl, rfl⟩
  go_wp2_with fail
  go_end0
  exact ⟨rfl, BL3.out⟩

set_option maxRecDepth 100000 in
set_option maxHeartbeats 2000000 in
theorem days_4 (p : Prod) (A1 : Option Addr) (c1 : Nat) (A2 : Option Addr) (c2 : Nat) (A3 : Option Addr) (c3 : Nat) (w : World) (hr : Kd.C (Kd.int .i64) w A3 p.hol.length p.hol) (hl : p.hol.length ≤ c3) (hn0 : A3 = none → c3 = 0) (hm : p.hol.length ≤ 1000000) (he : (if (decide (p.hol.length ≤ 200) && holsOk (-25568) p.hol) = true then (0 : Int) else 1) = 0) (ha : decide (1 ≤ p.roll ∧ p.roll ≤ 4) = true) (r1 : (p.roll != 1) = false) (hz : p.hol.length = 0) :
    Calls Try.prog 36 #[pv p A1 c1 A2 c2 A3 c3] w fun e w' => e = .returned (.tuple #[]) ∧ Below w.heap.size w w' := by
  have HR := Aside0.mk hr
  have HE := Aside0.mk he
  have HA := Aside0.mk ha
  have HZ := Aside0.mk hz
  clear hr he ha hz
  go_enter Try.func36, Try.ntmps36
  go_wp2_with ((with_reducible refine gate_dst (N := 1) rfl ?_); refine box_event ?hg (N := 1) ?hd (cs := pcs p A1 c1 A2 c2 A3 c3) (t := 68) ?hr ?_; (case hd => rfl); (case hg => rfl); (case hr => first | (go_simp; done) | (go_simp; rfl)); intro g1 hg w1 hb1 hbl1; have g1lt := blk_lt hb1; clear hg; have HB1 := Aside0.mk hb1; have BL1 := Aside0.mk hbl1; clear hbl1; have q18 := (pc_cells hb1).2.2.2.2.2.2.2.2.2.2.2.2.2.2.2.2.2.2; clear hb1)
  refine (Nw.new_any A3 c3 p.hol _ (Kd.C_below HR.out BL1.out) hl hn0 hm).mono ?_
  rintro e w3 ⟨hb, q, rfl⟩
  rw [HE.out]
  have BL3 := Aside0.mk (below_step BL1.out hb)
  obtain ⟨-, -, -, -, -, -, -, -, -, -, -, -, -, -, -, -, -, q17, q18'⟩ := pc_cells (blk_below HB1.out hb)
  clear hb BL1 HB1 q18
  go_wp2_with fail
  refine (within_i_is HA.out _).mono ?_
  rintro e w' ⟨rfl, rfl⟩
  have hz := HZ.out
  go_wp2_with fail
  refine (must_yes _).mono ?_
  rintro e w' ⟨rfl, rfl⟩
  go_wp2_with fail
  go_end0
  exact ⟨rfl, BL3.out⟩

set_option maxRecDepth 100000 in
set_option maxHeartbeats 2000000 in
theorem days_5 (p : Prod) (A1 : Option Addr) (c1 : Nat) (A2 : Option Addr) (c2 : Nat) (A3 : Option Addr) (c3 : Nat) (w : World) (hr : Kd.C (Kd.int .i64) w A3 p.hol.length p.hol) (hl : p.hol.length ≤ c3) (hn0 : A3 = none → c3 = 0) (hm : p.hol.length ≤ 1000000) (he : (if (decide (p.hol.length ≤ 200) && holsOk (-25568) p.hol) = true then (0 : Int) else 1) = 0) (ha : decide (1 ≤ p.roll ∧ p.roll ≤ 4) = true) (r1 : (p.roll != 1) = false) (hz : ((p.hol.length : Int) == 0) = false) :
    Calls Try.prog 36 #[pv p A1 c1 A2 c2 A3 c3] w fun e w' => e = refusedE ∧ Below w.heap.size w w' := by
  have HR := Aside0.mk hr
  have HE := Aside0.mk he
  have HA := Aside0.mk ha
  have HZ := Aside0.mk hz
  clear hr he ha hz
  go_enter Try.func36, Try.ntmps36
  go_wp2_with ((with_reducible refine gate_dst (N := 1) rfl ?_); refine box_event ?hg (N := 1) ?hd (cs := pcs p A1 c1 A2 c2 A3 c3) (t := 68) ?hr ?_; (case hd => rfl); (case hg => rfl); (case hr => first | (go_simp; done) | (go_simp; rfl)); intro g1 hg w1 hb1 hbl1; have g1lt := blk_lt hb1; clear hg; have HB1 := Aside0.mk hb1; have BL1 := Aside0.mk hbl1; clear hbl1; have q18 := (pc_cells hb1).2.2.2.2.2.2.2.2.2.2.2.2.2.2.2.2.2.2; clear hb1)
  refine (Nw.new_any A3 c3 p.hol _ (Kd.C_below HR.out BL1.out) hl hn0 hm).mono ?_
  rintro e w3 ⟨hb, q, rfl⟩
  rw [HE.out]
  have BL3 := Aside0.mk (below_step BL1.out hb)
  obtain ⟨-, -, -, -, -, -, -, -, -, -, -, -, -, -, -, -, -, q17, q18'⟩ := pc_cells (blk_below HB1.out hb)
  clear hb BL1 HB1 q18
  go_wp2_with fail
  refine (within_i_is HA.out _).mono ?_
  rintro e w' ⟨rfl, rfl⟩
  have hz := HZ.out
  go_wp2_with fail
  refine (must_no _).mono ?_
  rintro e w' ⟨rfl, rfl⟩
  exact ⟨rfl, rfl, BL3.out⟩

/-- A product's days are looked at. -/
theorem days_any (p : Prod) (A1 : Option Addr) (c1 : Nat) (A2 : Option Addr) (c2 : Nat) (A3 : Option Addr) (c3 : Nat) (w : World) (hr : Kd.C (Kd.int .i64) w A3 p.hol.length p.hol) (hl : p.hol.length ≤ c3) (hn : A3 = none → c3 = 0) (hm : p.hol.length ≤ 1000000) :
    Calls Try.prog 36 #[pv p A1 c1 A2 c2 A3 c3] w (LookE (daysOk p) w) := by
  cases hb : (decide (p.hol.length ≤ 200) && holsOk (-25568) p.hol) with
  | false =>
    have e1 : daysOk p = false := by
      rw [Bool.and_eq_false_iff] at hb
      unfold daysOk
      rcases hb with h | h
      · rw [decide_eq_false (fun h2 => by rw [decide_eq_true h2.1] at h; cases h), Bool.false_and]
      · rw [h, Bool.and_false]
    rw [e1]
    exact (days_1 p A1 c1 A2 c2 A3 c3 w hr hl hn hm (by rw [hb]; rfl)).mono fun e w' h => LookE.no h
  | true =>
    have he : (if (decide (p.hol.length ≤ 200) && holsOk (-25568) p.hol) = true then (0 : Int) else 1) = 0 := by rw [hb]; rfl
    rw [Bool.and_eq_true] at hb
    have h200 := of_decide_eq_true hb.1
    unfold daysOk
    rw [hb.2, Bool.and_true]
    by_cases ha : 1 ≤ p.roll ∧ p.roll ≤ 4
    case neg =>
      rw [decide_eq_false (fun h => ha h.2.1)]
      exact (days_2 p A1 c1 A2 c2 A3 c3 w hr hl hn hm he (decide_eq_false ha)).mono fun e w' h => LookE.no h
    by_cases h1 : p.roll = 1
    · have r1 : (p.roll != 1) = false := by rw [h1]; rfl
      by_cases hz : p.hol.length = 0
      · rw [decide_eq_true (show _ from ⟨h200, ha, fun _ => List.eq_nil_of_length_eq_zero hz⟩)]
        exact (days_4 p A1 c1 A2 c2 A3 c3 w hr hl hn hm he (decide_eq_true ha) r1 hz).mono fun e w' h => LookE.yes h
      · rw [decide_eq_false (fun h => hz (by rw [h.2.2 h1]; rfl))]
        exact (days_5 p A1 c1 A2 c2 A3 c3 w hr hl hn hm he (decide_eq_true ha) r1 (beqf (by omega))).mono fun e w' h => LookE.no h
    · rw [decide_eq_true (show _ from ⟨h200, ha, fun h => absurd h h1⟩)]
      exact (days_3 p A1 c1 A2 c2 A3 c3 w hr hl hn hm he (decide_eq_true ha) (by simpa using h1)).mono fun e w' h => LookE.yes h
end Go.Proofs.Ytcbebbiedegjlaa.Pd
