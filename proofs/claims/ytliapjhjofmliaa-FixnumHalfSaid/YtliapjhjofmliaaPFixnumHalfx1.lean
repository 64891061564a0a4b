-- Written by a program of this session (wip/tools/myprint.py) with the help of the printer of the kit; Lean checks it.
import Derived.Test.YtliapjhjofmliaaPFixnumHalfx0
namespace Go.Proofs.Ytliapjhjofmliaa.PFixnumHalf
open Go.RowKit Go.Proofs.YtliapjhjofmliaaW.PrintWords Go.Proofs.YtliapjhjofmliaaW.PrintLast Go.Proofs.YtliapjhjofmliaaW.PrintMore Go.Proofs.Ytliapjhjofmliaa.HW
attribute [local go_sem] run_makeFunc_ max2_int min2_int max_two min_two max_three min_three max_four min_four   -- for this text's walks alone
set_option linter.unusedVariables false
set_option linter.unusedSimpArgs false

-- NOT PRINTED: function 37 (fixnum_caught)

/-! ### quittancelaw01_awake: function 20 -/
def quittancelaw01_awake.f  : Option (Bool) := (Go.Proofs.Ytliapjhjofmliaa.PA.fixnum_Of.f 2).bind fun bt101 => ((Go.Proofs.Ytliapjhjofmliaa.H.fixnum_Divide.f bt101.1 3 2).bind fun bt104 => (if bt101.2 = 0 then (if bt104.2 = 0 then (if bt104.1 = 2 then ((Go.Proofs.Ytliapjhjofmliaa.PA.fixnum_Fits.f 5).bind fun t106 => (if t106 = true then ((Go.Proofs.Ytliapjhjofmliaa.PA.fixnum_Fits.f 1000000000000001).bind fun t107 => (some (!t107))) else (some false))) else (some false)) else (some false)) else (some false)))
set_option maxHeartbeats 8000000 in
set_option maxRecDepth 100000 in
theorem quittancelaw01_awake.calls  (r : Bool) (w : World) (h : quittancelaw01_awake.f  = some r) :
    Calls Try.prog 20 #[] w fun e w' => e = .returned (.bool r) ∧ Below w.heap.size w w' := by
  have hu23 := Try.underlying23
  have HB := Aside0.mk (Below.refl w.heap.size w)
  have H : ((Go.Proofs.Ytliapjhjofmliaa.PA.fixnum_Of.f 2).bind fun bt101 => ((Go.Proofs.Ytliapjhjofmliaa.H.fixnum_Divide.f bt101.1 3 2).bind fun bt104 => (if bt101.2 = 0 then (if bt104.2 = 0 then (if bt104.1 = 2 then ((Go.Proofs.Ytliapjhjofmliaa.PA.fixnum_Fits.f 5).bind fun t106 => (if t106 = true then ((Go.Proofs.Ytliapjhjofmliaa.PA.fixnum_Fits.f 1000000000000001).bind fun t107 => (some (!t107))) else (some false))) else (some false)) else (some false)) else (some false)))) = some r := h
  clear h
  replace H := Option.bind_eq_some_iff.mp H
  obtain ⟨⟨t101, t102⟩, A10, H⟩ := H
  replace H : ((Go.Proofs.Ytliapjhjofmliaa.H.fixnum_Divide.f t101 3 2).bind fun bt104 => (if t102 = 0 then (if bt104.2 = 0 then (if bt104.1 = 2 then ((Go.Proofs.Ytliapjhjofmliaa.PA.fixnum_Fits.f 5).bind fun t106 => (if t106 = true then ((Go.Proofs.Ytliapjhjofmliaa.PA.fixnum_Fits.f 1000000000000001).bind fun t107 => (some (!t107))) else (some false))) else (some false)) else (some false)) else (some false))) = some r := H
  have A1 := Aside0.mk A10
  clear A10
  replace H := Option.bind_eq_some_iff.mp H
  obtain ⟨⟨t104, t105⟩, A20, H⟩ := H
  replace H : (if t102 = 0 then (if t105 = 0 then (if t104 = 2 then ((Go.Proofs.Ytliapjhjofmliaa.PA.fixnum_Fits.f 5).bind fun t106 => (if t106 = true then ((Go.Proofs.Ytliapjhjofmliaa.PA.fixnum_Fits.f 1000000000000001).bind fun t107 => (some (!t107))) else (some false))) else (some false)) else (some false)) else (some false)) = some r := H
  have A2 := Aside0.mk A20
  clear A20
  by_cases c3 : t102 = 0
  · rw [if_pos c3] at H
    have c3b0 : (t102 == 0) = true := beq_iff_eq.mpr c3
    have c3b1 : (t102 != 0) = false := bne_eq_false_iff_eq.mpr c3
    clear c3
    by_cases c4 : t105 = 0
    · rw [if_pos c4] at H
      have c4b0 : (t105 == 0) = true := beq_iff_eq.mpr c4
      have c4b1 : (t105 != 0) = false := bne_eq_false_iff_eq.mpr c4
      clear c4
      by_cases c5 : t104 = 2
      · rw [if_pos c5] at H
        have c5b0 : (t104 == 2) = true := beq_iff_eq.mpr c5
        have c5b1 : (t104 != 2) = false := bne_eq_false_iff_eq.mpr c5
        clear c5
        replace H := Option.bind_eq_some_iff.mp H
        obtain ⟨t106, A60, H⟩ := H
        replace H : (if t106 = true then ((Go.Proofs.Ytliapjhjofmliaa.PA.fixnum_Fits.f 1000000000000001).bind fun t107 => (some (!t107))) else (some false)) = some r := H
        have A6 := Aside0.mk A60
        clear A60
        by_cases c7 : t106 = true
        · subst c7
          have H1 : ((Go.Proofs.Ytliapjhjofmliaa.PA.fixnum_Fits.f 1000000000000001).bind fun t107 => (some (!t107))) = some r := by rw [if_pos rfl] at H; exact H
          clear H
          have H := H1
          clear H1
          replace H := Option.bind_eq_some_iff.mp H
          obtain ⟨t107, A80, H⟩ := H
          replace H : (some (!t107)) = some r := H
          have A8 := Aside0.mk A80
          clear A80
          obtain rfl := Option.some.inj H
          go_enter Try.func20, Try.ntmps20
          go_wp2_with (first | ((with_reducible refine gate_callee (f := 16) rfl ?_); refine goesL_ (some 6) rfl rfl Try.func16 (by kernel_rfl) rfl #[.int .i64 2] rfl (by (try simp only [List.map_toArray, List.map_cons, List.map_nil]); first | done | rfl | (simp only [List.length_drop, List.length_take]; rfl)) ?_; (with_reducible refine (Go.Proofs.Ytliapjhjofmliaa.PA.fixnum_Of.calls 2 t101 t102 _ A1.out).mono ?_); rintro e w9 ⟨rfl, hb⟩; refine ⟨_, rfl, ?_⟩; have n0_ := Aside0.mk (below_step (by repeat (first | (with_reducible first | exact HB.out | apply below_alloc | apply pw_below_drewN | apply below_drew1) | exact HB.out)) hb); clear HB; have HB := n0_; clear n0_; (try clear hb); (try clear hb2); (try clear hk); (try clear hi)) | ((with_reducible refine gate_dst (N := 1) rfl ?_); refine box_event ?hg (N := 1) ?hd (cs := #[.int .i64 0]) (t := 23) ?hr ?_; (case hd => rfl); (case hg => rfl); (case hr => first | (go_simp; done) | (go_simp; rfl)); intro gb103 hg w10 hbox hb; have n0_ := Aside0.mk (below_step (by repeat (first | (with_reducible first | exact HB.out | apply below_alloc | apply pw_below_drewN | apply below_drew1) | exact HB.out)) hb); have n1_ := Aside0.mk (hbox); have n2_ := Aside0.mk ((by rw [hg]; exact (below_size (by repeat (first | (with_reducible first | exact HB.out | apply below_alloc | apply pw_below_drewN | apply below_drew1) | exact HB.out))) : w.heap.size ≤ gb103)); have n3_ := Aside0.mk ((by rw [hg]; exact (below_size (by repeat (first | (with_reducible first | exact HB.out | apply below_alloc | apply pw_below_drewN | apply below_drew1) | exact HB.out))) : w.heap.size ≤ gb103)); clear HB; have HB := n0_; have BK103 := n1_; have GW103 := n2_; have GE103 := n3_; clear n0_ n1_ n2_ n3_; clear hb hbox hg; (try have hu103_0 : w10.cell? ⟨gb103, 0, none⟩ = some (.int .i64 0) := (blk_cell BK103.out 0).trans rfl); (try have hv103_0 := blk_frozen BK103.out 0); have hcz11_0 : w10.cell? ⟨gb103, 0, none⟩ = some (.int .i64 0) := (blk_cell BK103.out 0).trans rfl; have hfz11_0 := blk_frozen BK103.out 0) | ((with_reducible refine gate_callee (f := 17) rfl ?_); refine goesL_ (some 11) rfl rfl Try.func17 (by kernel_rfl) rfl #[.agg #[.int .i64 t101], .int .i64 3, .int .i64 2] rfl (by (try simp only [List.map_toArray, List.map_cons, List.map_nil]); first | done | rfl | (simp only [List.length_drop, List.length_take]; rfl)) ?_; (with_reducible refine (Go.Proofs.Ytliapjhjofmliaa.H.fixnum_Divide.calls t101 3 2 t104 t105 _ A2.out).mono ?_); rintro e w12 ⟨rfl, hb⟩; refine ⟨_, rfl, ?_⟩; have n0_ := Aside0.mk (blk_below (g := gb103) (o := .cells #[.int .i64 t101] 23 (0, 0)) (by (with_reducible repeat (first | refine blk_drewN ?_ _ | refine blk_drew ?_ | refine blk_alloc ?_ _)); refine blk_put (cs := #[.int .i64 0]) ?_ 0 _ rfl; (with_reducible repeat (first | refine blk_drewN ?_ _ | refine blk_drew ?_ | refine blk_alloc ?_ _)); exact BK103.out) hb); have n1_ := Aside0.mk (below_step (by repeat (first | (with_reducible first | exact HB.out | apply below_alloc | apply pw_below_drewN | apply below_drew1 | refine below_set ?_ GE103.out) | exact HB.out)) hb); clear BK103; clear HB; have BK103 := n0_; have HB := n1_; clear n0_ n1_; (try clear hb); (try clear hb2); (try clear hk); (try clear hi); (try have hu103_0 : w12.cell? ⟨gb103, 0, none⟩ = some (.int .i64 t101) := (blk_cell BK103.out 0).trans rfl); (try have hv103_0 := blk_frozen BK103.out 0)) | (go_at_call 26; (with_reducible refine (Go.Proofs.Ytliapjhjofmliaa.PA.fixnum_Fits.calls 5 true _ A6.out).mono ?_); rintro e w' ⟨rfl, ⟨nd, rfl⟩⟩) | (go_at_call 26; (with_reducible refine (Go.Proofs.Ytliapjhjofmliaa.PA.fixnum_Fits.calls 1000000000000001 t107 _ A8.out).mono ?_); rintro e w' ⟨rfl, ⟨nd, rfl⟩⟩))
          go_ret
          exact ⟨by first | rfl | (simp [errW_none, errW_some] <;> rfl) | (simp [*, errW_none, errW_some] <;> rfl), by repeat (first | (with_reducible first | exact HB.out | apply below_alloc | apply pw_below_drewN | apply below_drew1 | refine below_set ?_ GE103.out) | exact HB.out)⟩
        · replace c7 := Bool.eq_false_iff.mpr c7
          subst c7
          have H1 : (some false) = some r := by rw [if_neg (show ¬ (false = true) by decide)] at H; exact H
          clear H
          have H := H1
          clear H1
          obtain rfl := Option.some.inj H
          go_enter Try.func20, Try.ntmps20
          go_wp2_with (first | ((with_reducible refine gate_callee (f := 16) rfl ?_); refine goesL_ (some 6) rfl rfl Try.func16 (by kernel_rfl) rfl #[.int .i64 2] rfl (by (try simp only [List.map_toArray, List.map_cons, List.map_nil]); first | done | rfl | (simp only [List.length_drop, List.length_take]; rfl)) ?_; (with_reducible refine (Go.Proofs.Ytliapjhjofmliaa.PA.fixnum_Of.calls 2 t101 t102 _ A1.out).mono ?_); rintro e w13 ⟨rfl, hb⟩; refine ⟨_, rfl, ?_⟩; have n0_ := Aside0.mk (below_step (by repeat (first | (with_reducible first | exact HB.out | apply below_alloc | apply pw_below_drewN | apply below_drew1) | exact HB.out)) hb); clear HB; have HB := n0_; clear n0_; (try clear hb); (try clear hb2); (try clear hk); (try clear hi)) | ((with_reducible refine gate_dst (N := 1) rfl ?_); refine box_event ?hg (N := 1) ?hd (cs := #[.int .i64 0]) (t := 23) ?hr ?_; (case hd => rfl); (case hg => rfl); (case hr => first | (go_simp; done) | (go_simp; rfl)); intro gb103 hg w14 hbox hb; have n0_ := Aside0.mk (below_step (by repeat (first | (with_reducible first | exact HB.out | apply below_alloc | apply pw_below_drewN | apply below_drew1) | exact HB.out)) hb); have n1_ := Aside0.mk (hbox); have n2_ := Aside0.mk ((by rw [hg]; exact (below_size (by repeat (first | (with_reducible first | exact HB.out | apply below_alloc | apply pw_below_drewN | apply below_drew1) | exact HB.out))) : w.heap.size ≤ gb103)); have n3_ := Aside0.mk ((by rw [hg]; exact (below_size (by repeat (first | (with_reducible first | exact HB.out | apply below_alloc | apply pw_below_drewN | apply below_drew1) | exact HB.out))) : w.heap.size ≤ gb103)); clear HB; have HB := n0_; have BK103 := n1_; have GW103 := n2_; have GE103 := n3_; clear n0_ n1_ n2_ n3_; clear hb hbox hg; (try have hu103_0 : w14.cell? ⟨gb103, 0, none⟩ = some (.int .i64 0) := (blk_cell BK103.out 0).trans rfl); (try have hv103_0 := blk_frozen BK103.out 0); have hcz15_0 : w14.cell? ⟨gb103, 0, none⟩ = some (.int .i64 0) := (blk_cell BK103.out 0).trans rfl; have hfz15_0 := blk_frozen BK103.out 0) | ((with_reducible refine gate_callee (f := 17) rfl ?_); refine goesL_ (some 11) rfl rfl Try.func17 (by kernel_rfl) rfl #[.agg #[.int .i64 t101], .int .i64 3, .int .i64 2] rfl (by (try simp only [List.map_toArray, List.map_cons, List.map_nil]); first | done | rfl | (simp only [List.length_drop, List.length_take]; rfl)) ?_; (with_reducible refine (Go.Proofs.Ytliapjhjofmliaa.H.fixnum_Divide.calls t101 3 2 t104 t105 _ A2.out).mono ?_); rintro e w16 ⟨rfl, hb⟩; refine ⟨_, rfl, ?_⟩; have n0_ := Aside0.mk (blk_below (g := gb103) (o := .cells #[.int .i64 t101] 23 (0, 0)) (by (with_reducible repeat (first | refine blk_drewN ?_ _ | refine blk_drew ?_ | refine blk_alloc ?_ _)); refine blk_put (cs := #[.int .i64 0]) ?_ 0 _ rfl; (with_reducible repeat (first | refine blk_drewN ?_ _ | refine blk_drew ?_ | refine blk_alloc ?_ _)); exact BK103.out) hb); have n1_ := Aside0.mk (below_step (by repeat (first | (with_reducible first | exact HB.out | apply below_alloc | apply pw_below_drewN | apply below_drew1 | refine below_set ?_ GE103.out) | exact HB.out)) hb); clear BK103; clear HB; have BK103 := n0_; have HB := n1_; clear n0_ n1_; (try clear hb); (try clear hb2); (try clear hk); (try clear hi); (try have hu103_0 : w16.cell? ⟨gb103, 0, none⟩ = some (.int .i64 t101) := (blk_cell BK103.out 0).trans rfl); (try have hv103_0 := blk_frozen BK103.out 0)) | (go_at_call 26; (with_reducible refine (Go.Proofs.Ytliapjhjofmliaa.PA.fixnum_Fits.calls 5 false _ A6.out).mono ?_); rintro e w' ⟨rfl, ⟨nd, rfl⟩⟩))
          go_ret
          exact ⟨by first | rfl | (simp [errW_none, errW_some] <;> rfl) | (simp [*, errW_none, errW_some] <;> rfl), by repeat (first | (with_reducible first | exact HB.out | apply below_alloc | apply pw_below_drewN | apply below_drew1 | refine below_set ?_ GE103.out) | exact HB.out)⟩
      · rw [if_neg c5] at H
        have c5b0 : (t104 == 2) = false := beq_eq_false_iff_ne.mpr c5
        have c5b1 : (t104 != 2) = true := bne_iff_ne.mpr c5
        obtain rfl := Option.some.inj H
        go_enter Try.func20, Try.ntmps20
        go_wp2_with (first | ((with_reducible refine gate_callee (f := 16) rfl ?_); refine goesL_ (some 6) rfl rfl Try.func16 (by kernel_rfl) rfl #[.int .i64 2] rfl (by (try simp only [List.map_toArray, List.map_cons, List.map_nil]); first | done | rfl | (simp only [List.length_drop, List.length_take]; rfl)) ?_; (with_reducible refine (Go.Proofs.Ytliapjhjofmliaa.PA.fixnum_Of.calls 2 t101 t102 _ A1.out).mono ?_); rintro e w17 ⟨rfl, hb⟩; refine ⟨_, rfl, ?_⟩; have n0_ := Aside0.mk (below_step (by repeat (first | (with_reducible first | exact HB.out | apply below_alloc | apply pw_below_drewN | apply below_drew1) | exact HB.out)) hb); clear HB; have HB := n0_; clear n0_; (try clear hb); (try clear hb2); (try clear hk); (try clear hi)) | ((with_reducible refine gate_dst (N := 1) rfl ?_); refine box_event ?hg (N := 1) ?hd (cs := #[.int .i64 0]) (t := 23) ?hr ?_; (case hd => rfl); (case hg => rfl); (case hr => first | (go_simp; done) | (go_simp; rfl)); intro gb103 hg w18 hbox hb; have n0_ := Aside0.mk (below_step (by repeat (first | (with_reducible first | exact HB.out | apply below_alloc | apply pw_below_drewN | apply below_drew1) | exact HB.out)) hb); have n1_ := Aside0.mk (hbox); have n2_ := Aside0.mk ((by rw [hg]; exact (below_size (by repeat (first | (with_reducible first | exact HB.out | apply below_alloc | apply pw_below_drewN | apply below_drew1) | exact HB.out))) : w.heap.size ≤ gb103)); have n3_ := Aside0.mk ((by rw [hg]; exact (below_size (by repeat (first | (with_reducible first | exact HB.out | apply below_alloc | apply pw_below_drewN | apply below_drew1) | exact HB.out))) : w.heap.size ≤ gb103)); clear HB; have HB := n0_; have BK103 := n1_; have GW103 := n2_; have GE103 := n3_; clear n0_ n1_ n2_ n3_; clear hb hbox hg; (try have hu103_0 : w18.cell? ⟨gb103, 0, none⟩ = some (.int .i64 0) := (blk_cell BK103.out 0).trans rfl); (try have hv103_0 := blk_frozen BK103.out 0); have hcz19_0 : w18.cell? ⟨gb103, 0, none⟩ = some (.int .i64 0) := (blk_cell BK103.out 0).trans rfl; have hfz19_0 := blk_frozen BK103.out 0) | ((with_reducible refine gate_callee (f := 17) rfl ?_); refine goesL_ (some 11) rfl rfl Try.func17 (by kernel_rfl) rfl #[.agg #[.int .i64 t101], .int .i64 3, .int .i64 2] rfl (by (try simp only [List.map_toArray, List.map_cons, List.map_nil]); first | done | rfl | (simp only [List.length_drop, List.length_take]; rfl)) ?_; (with_reducible refine (Go.Proofs.Ytliapjhjofmliaa.H.fixnum_Divide.calls t101 3 2 t104 t105 _ A2.out).mono ?_); rintro e w20 ⟨rfl, hb⟩; refine ⟨_, rfl, ?_⟩; have n0_ := Aside0.mk (blk_below (g := gb103) (o := .cells #[.int .i64 t101] 23 (0, 0)) (by (with_reducible repeat (first | refine blk_drewN ?_ _ | refine blk_drew ?_ | refine blk_alloc ?_ _)); refine blk_put (cs := #[.int .i64 0]) ?_ 0 _ rfl; (with_reducible repeat (first | refine blk_drewN ?_ _ | refine blk_drew ?_ | refine blk_alloc ?_ _)); exact BK103.out) hb); have n1_ := Aside0.mk (below_step (by repeat (first | (with_reducible first | exact HB.out | apply below_alloc | apply pw_below_drewN | apply below_drew1 | refine below_set ?_ GE103.out) | exact HB.out)) hb); clear BK103; clear HB; have BK103 := n0_; have HB := n1_; clear n0_ n1_; (try clear hb); (try clear hb2); (try clear hk); (try clear hi); (try have hu103_0 : w20.cell? ⟨gb103, 0, none⟩ = some (.int .i64 t101) := (blk_cell BK103.out 0).trans rfl); (try have hv103_0 := blk_frozen BK103.out 0)))
        go_ret
        exact ⟨by first | rfl | (simp [errW_none, errW_some] <;> rfl) | (simp [*, errW_none, errW_some] <;> rfl), by repeat (first | (with_reducible first | exact HB.out | apply below_alloc | apply pw_below_drewN | apply below_drew1 | refine below_set ?_ GE103.out) | exact HB.out)⟩
    · rw [if_neg c4] at H
      have c4b0 : (t105 == 0) = false := beq_eq_false_iff_ne.mpr c4
      have c4b1 : (t105 != 0) = true := bne_iff_ne.mpr c4
      obtain rfl := Option.some.inj H
      go_enter Try.func20, Try.ntmps20
      go_wp2_with (first | ((with_reducible refine gate_callee (f := 16) rfl ?_); refine goesL_ (some 6) rfl rfl Try.func16 (by kernel_rfl) rfl #[.int .i64 2] rfl (by (try simp only [List.map_toArray, List.map_cons, List.map_nil]); first | done | rfl | (simp only [List.length_drop, List.length_take]; rfl)) ?_; (with_reducible refine (Go.Proofs.Ytliapjhjofmliaa.PA.fixnum_Of.calls 2 t101 t102 _ A1.out).mono ?_); rintro e w21 ⟨rfl, hb⟩; refine ⟨_, rfl, ?_⟩; have n0_ := Aside0.mk (below_step (by repeat (first | (with_reducible first | exact HB.out | apply below_alloc | apply pw_below_drewN | apply below_drew1) | exact HB.out)) hb); clear HB; have HB := n0_; clear n0_; (try clear hb); (try clear hb2); (try clear hk); (try clear hi)) | ((with_reducible refine gate_dst (N := 1) rfl ?_); refine box_event ?hg (N := 1) ?hd (cs := #[.int .i64 0]) (t := 23) ?hr ?_; (case hd => rfl); (case hg => rfl); (case hr => first | (go_simp; done) | (go_simp; rfl)); intro gb103 hg w22 hbox hb; have n0_ := Aside0.mk (below_step (by repeat (first | (with_reducible first | exact HB.out | apply below_alloc | apply pw_below_drewN | apply below_drew1) | exact HB.out)) hb); have n1_ := Aside0.mk (hbox); have n2_ := Aside0.mk ((by rw [hg]; exact (below_size (by repeat (first | (with_reducible first | exact HB.out | apply below_alloc | apply pw_below_drewN | apply below_drew1) | exact HB.out))) : w.heap.size ≤ gb103)); have n3_ := Aside0.mk ((by rw [hg]; exact (below_size (by repeat (first | (with_reducible first | exact HB.out | apply below_alloc | apply pw_below_drewN | apply below_drew1) | exact HB.out))) : w.heap.size ≤ gb103)); clear HB; have HB := n0_; have BK103 := n1_; have GW103 := n2_; have GE103 := n3_; clear n0_ n1_ n2_ n3_; clear hb hbox hg; (try have hu103_0 : w22.cell? ⟨gb103, 0, none⟩ = some (.int .i64 0) := (blk_cell BK103.out 0).trans rfl); (try have hv103_0 := blk_frozen BK103.out 0); have hcz23_0 : w22.cell? ⟨gb103, 0, none⟩ = some (.int .i64 0) := (blk_cell BK103.out 0).trans rfl; have hfz23_0 := blk_frozen BK103.out 0) | ((with_reducible refine gate_callee (f := 17) rfl ?_); refine goesL_ (some 11) rfl rfl Try.func17 (by kernel_rfl) rfl #[.agg #[.int .i64 t101], .int .i64 3, .int .i64 2] rfl (by (try simp only [List.map_toArray, List.map_cons, List.map_nil]); first | done | rfl | (simp only [List.length_drop, List.length_take]; rfl)) ?_; (with_reducible refine (Go.Proofs.Ytliapjhjofmliaa.H.fixnum_Divide.calls t101 3 2 t104 t105 _ A2.out).mono ?_); rintro e w24 ⟨rfl, hb⟩; refine ⟨_, rfl, ?_⟩; have n0_ := Aside0.mk (blk_below (g := gb103) (o := .cells #[.int .i64 t101] 23 (0, 0)) (by (with_reducible repeat (first | refine blk_drewN ?_ _ | refine blk_drew ?_ | refine blk_alloc ?_ _)); refine blk_put (cs := #[.int .i64 0]) ?_ 0 _ rfl; (with_reducible repeat (first | refine blk_drewN ?_ _ | refine blk_drew ?_ | refine blk_alloc ?_ _)); exact BK103.out) hb); have n1_ := Aside0.mk (below_step (by repeat (first | (with_reducible first | exact HB.out | apply below_alloc | apply pw_below_drewN | apply below_drew1 | refine below_set ?_ GE103.out) | exact HB.out)) hb); clear BK103; clear HB; have BK103 := n0_; have HB := n1_; clear n0_ n1_; (try clear hb); (try clear hb2); (try clear hk); (try clear hi); (try have hu103_0 : w24.cell? ⟨gb103, 0, none⟩ = some (.int .i64 t101) := (blk_cell BK103.out 0).trans rfl); (try have hv103_0 := blk_frozen BK103.out 0)))
      go_ret
      exact ⟨by first | rfl | (simp [errW_none, errW_some] <;> rfl) | (simp [*, errW_none, errW_some] <;> rfl), by repeat (first | (with_reducible first | exact HB.out | apply below_alloc | apply pw_below_drewN | apply below_drew1 | refine below_set ?_ GE103.out) | exact HB.out)⟩
  · rw [if_neg c3] at H
    have c3b0 : (t102 == 0) = false := beq_eq_false_iff_ne.mpr c3
    have c3b1 : (t102 != 0) = true := bne_iff_ne.mpr c3
    obtain rfl := Option.some.inj H
    go_enter Try.func20, Try.ntmps20
    go_wp2_with (first | ((with_reducible refine gate_callee (f := 16) rfl ?_); refine goesL_ (some 6) rfl rfl Try.func16 (by kernel_rfl) rfl #[.int .i64 2] rfl (by (try simp only [List.map_toArray, List.map_cons, List.map_nil]); first | done | rfl | (simp only [List.length_drop, List.length_take]; rfl)) ?_; (with_reducible refine (Go.Proofs.Ytliapjhjofmliaa.PA.fixnum_Of.calls 2 t101 t102 _ A1.out).mono ?_); rintro e w25 ⟨rfl, hb⟩; refine ⟨_, rfl, ?_⟩; have n0_ := Aside0.mk (below_step (by repeat (first | (with_reducible first | exact HB.out | apply below_alloc | apply pw_below_drewN | apply below_drew1) | exact HB.out)) hb); clear HB; have HB := n0_; clear n0_; (try clear hb); (try clear hb2); (try clear hk); (try clear hi)) | ((with_reducible refine gate_dst (N := 1) rfl ?_); refine box_event ?hg (N := 1) ?hd (cs := #[.int .i64 0]) (t := 23) ?hr ?_; (case hd => rfl); (case hg => rfl); (case hr => first | (go_simp; done) | (go_simp; rfl)); intro gb103 hg w26 hbox hb; have n0_ := Aside0.mk (below_step (by repeat (first | (with_reducible first | exact HB.out | apply below_alloc | apply pw_below_drewN | apply below_drew1) | exact HB.out)) hb); have n1_ := Aside0.mk (hbox); have n2_ := Aside0.mk ((by rw [hg]; exact (below_size (by repeat (first | (with_reducible first | exact HB.out | apply below_alloc | apply pw_below_drewN | apply below_drew1) | exact HB.out))) : w.heap.size ≤ gb103)); have n3_ := Aside0.mk ((by rw [hg]; exact (below_size (by repeat (first | (with_reducible first | exact HB.out | apply below_alloc | apply pw_below_drewN | apply below_drew1) | exact HB.out))) : w.heap.size ≤ gb103)); clear HB; have HB := n0_; have BK103 := n1_; have GW103 := n2_; have GE103 := n3_; clear n0_ n1_ n2_ n3_; clear hb hbox hg; (try have hu103_0 : w26.cell? ⟨gb103, 0, none⟩ = some (.int .i64 0) := (blk_cell BK103.out 0).trans rfl); (try have hv103_0 := blk_frozen BK103.out 0); have hcz27_0 : w26.cell? ⟨gb103, 0, none⟩ = some (.int .i64 0) := (blk_cell BK103.out 0).trans rfl; have hfz27_0 := blk_frozen BK103.out 0) | ((with_reducible refine gate_callee (f := 17) rfl ?_); refine goesL_ (some 11) rfl rfl Try.func17 (by kernel_rfl) rfl #[.agg #[.int .i64 t101], .int .i64 3, .int .i64 2] rfl (by (try simp only [List.map_toArray, List.map_cons, List.map_nil]); first | done | rfl | (simp only [List.length_drop, List.length_take]; rfl)) ?_; (with_reducible refine (Go.Proofs.Ytliapjhjofmliaa.H.fixnum_Divide.calls t101 3 2 t104 t105 _ A2.out).mono ?_); rintro e w28 ⟨rfl, hb⟩; refine ⟨_, rfl, ?_⟩; have n0_ := Aside0.mk (blk_below (g := gb103) (o := .cells #[.int .i64 t101] 23 (0, 0)) (by (with_reducible repeat (first | refine blk_drewN ?_ _ | refine blk_drew ?_ | refine blk_alloc ?_ _)); refine blk_put (cs := #[.int .i64 0]) ?_ 0 _ rfl; (with_reducible repeat (first | refine blk_drewN ?_ _ | refine blk_drew ?_ | refine blk_alloc ?_ _)); exact BK103.out) hb); have n1_ := Aside0.mk (below_step (by repeat (first | (with_reducible first | exact HB.out | apply below_alloc | apply pw_below_drewN | apply below_drew1 | refine below_set ?_ GE103.out) | exact HB.out)) hb); clear BK103; clear HB; have BK103 := n0_; have HB := n1_; clear n0_ n1_; (try clear hb); (try clear hb2); (try clear hk); (try clear hi); (try have hu103_0 : w28.cell? ⟨gb103, 0, none⟩ = some (.int .i64 t101) := (blk_cell BK103.out 0).trans rfl); (try have hv103_0 := blk_frozen BK103.out 0)))
    go_ret
    exact ⟨by first | rfl | (simp [errW_none, errW_some] <;> rfl) | (simp [*, errW_none, errW_some] <;> rfl), by repeat (first | (with_reducible first | exact HB.out | apply below_alloc | apply pw_below_drewN | apply below_drew1 | refine below_set ?_ GE103.out) | exact HB.out)⟩

/-! ### quittancelaw01_FixnumHalf: function 4 -/
def quittancelaw01_FixnumHalf.j0 : Nat → Int → Int → Int → Int → Bool → Option (Bool)
  | 0, _, _, _, _, _ => none
  | k + 1, x0, x1, x2, x9, x39 => if x39 = true then (some false) else (if x2 = 3 then (if (wrap64 (2 * (wrap64 (x0 - (wrap64 (x9 * x1)))))) ≥ 0 then (some (decide ((wrap64 (2 * (wrap64 (x0 - (wrap64 (x9 * x1)))))) < (wrap64 (2 * x1))))) else (some false)) else (if x2 = 1 then (if (wrap64 (2 * (wrap64 (x0 - (wrap64 (x9 * x1)))))) ≥ (wrap64 (-x1)) then (some (decide ((wrap64 (2 * (wrap64 (x0 - (wrap64 (x9 * x1)))))) < x1))) else (some false)) else (if (wrap64 (2 * (wrap64 (x0 - (wrap64 (x9 * x1)))))) > (wrap64 (-x1)) then (if (wrap64 (2 * (wrap64 (x0 - (wrap64 (x9 * x1)))))) < x1 then (some true) else (if (wrap64 (2 * (wrap64 (x0 - (wrap64 (x9 * x1)))))) = x1 then (some ((Int.tmod x9 2) == 0)) else (if (wrap64 (2 * (wrap64 (x0 - (wrap64 (x9 * x1)))))) = (wrap64 (-x1)) then (some ((Int.tmod x9 2) == 0)) else (some false)))) else (if (wrap64 (2 * (wrap64 (x0 - (wrap64 (x9 * x1)))))) = x1 then (some ((Int.tmod x9 2) == 0)) else (if (wrap64 (2 * (wrap64 (x0 - (wrap64 (x9 * x1)))))) = (wrap64 (-x1)) then (some ((Int.tmod x9 2) == 0)) else (some false))))))
def quittancelaw01_FixnumHalf.f (k : Nat) (a0 : Int) (a1 : Int) (a2 : Int) : Option (Bool) := (Go.Proofs.Ytliapjhjofmliaa.PA.fixnum_Of.f (wrap64 (1 + (wrap64 (Int.tmod (IntKind.u64.wrap (a2)) 3))))).bind fun bt108 => ((Go.Proofs.Ytliapjhjofmliaa.H.fixnum_Divide.f bt108.1 (Int.tmod a0 1000000) (wrap64 (1 + (Go.bits .and .i64 a1 4095)))).bind fun bt111 => ((quittancelaw01_awake.f).bind fun t113 => (if t113 = true then (quittancelaw01_FixnumHalf.j0 k (Int.tmod a0 1000000) (wrap64 (1 + (Go.bits .and .i64 a1 4095))) (wrap64 (1 + (wrap64 (Int.tmod (IntKind.u64.wrap (a2)) 3)))) bt111.1 (bt111.2 != 0)) else (quittancelaw01_FixnumHalf.j0 k (Int.tmod a0 1000000) (wrap64 (1 + (Go.bits .and .i64 a1 4095))) (wrap64 (1 + (wrap64 (Int.tmod (IntKind.u64.wrap (a2)) 3)))) bt111.1 true))))
theorem quittancelaw01_FixnumHalf.mono_l : ∀ k, (∀ y0 y1 y2 y3 y4, LeO (quittancelaw01_FixnumHalf.j0 k y0 y1 y2 y3 y4) (quittancelaw01_FixnumHalf.j0 (k + 1) y0 y1 y2 y3 y4))
  | 0 => fun _ _ _ _ _ r h => by simp [quittancelaw01_FixnumHalf.j0] at h
  | k + 1 => by
    have ih0 := quittancelaw01_FixnumHalf.mono_l k
    · intro y0 y1 y2 y3 y4
      unfold quittancelaw01_FixnumHalf.j0
      repeat' first
      | (with_reducible exact ih0 _ _ _ _ _)
      | (with_reducible exact LeO.refl _)
      | (with_reducible exact LeO.none _)
      | (with_reducible refine LeO.ite ?_ ?_)
      | (with_reducible refine LeO.bind ?_ (fun _ => ?_))
      | exact ih0 _ _ _ _ _
      | exact LeO.none _
      | refine LeO.ite ?_ ?_
      | refine LeO.bind ?_ (fun _ => ?_)
theorem quittancelaw01_FixnumHalf.mono : ∀ a0 a1 a2 k, LeO (quittancelaw01_FixnumHalf.f k a0 a1 a2) (quittancelaw01_FixnumHalf.f (k + 1) a0 a1 a2) := by
  intro a0 a1 a2 k
  have ih0 := quittancelaw01_FixnumHalf.mono_l k
  unfold quittancelaw01_FixnumHalf.f
  repeat' first
      | (with_reducible exact ih0 _ _ _ _ _)
      | (with_reducible exact LeO.refl _)
      | (with_reducible exact LeO.none _)
      | (with_reducible refine LeO.ite ?_ ?_)
      | (with_reducible refine LeO.bind ?_ (fun _ => ?_))
      | exact ih0 _ _ _ _ _
      | exact LeO.none _
      | refine LeO.ite ?_ ?_
      | refine LeO.bind ?_ (fun _ => ?_)
set_option maxHeartbeats 8000000 in
set_option maxRecDepth 100000 in
theorem quittancelaw01_FixnumHalf.calls (k : Nat) (a0 : Int) (a1 : Int) (a2 : Int) (r : Bool) (w : World) (h : quittancelaw01_FixnumHalf.f k a0 a1 a2 = some r) :
    Calls Try.prog 4 #[.int .i64 a0, .int .i64 a1, .int .i64 a2] w fun e w' => e = .returned (.bool r) ∧ Below w.heap.size w w' := by
  have hu23 := Try.underlying23
  have HB := Aside0.mk (Below.refl w.heap.size w)
  have H : ((Go.Proofs.Ytliapjhjofmliaa.PA.fixnum_Of.f (wrap64 (1 + (wrap64 (Int.tmod (IntKind.u64.wrap (a2)) 3))))).bind fun bt108 => ((Go.Proofs.Ytliapjhjofmliaa.H.fixnum_Divide.f bt108.1 (Int.tmod a0 1000000) (wrap64 (1 + (Go.bits .and .i64 a1 4095)))).bind fun bt111 => ((quittancelaw01_awake.f).bind fun t113 => (if t113 = true then (quittancelaw01_FixnumHalf.j0 k (Int.tmod a0 1000000) (wrap64 (1 + (Go.bits .and .i64 a1 4095))) (wrap64 (1 + (wrap64 (Int.tmod (IntKind.u64.wrap (a2)) 3)))) bt111.1 (bt111.2 != 0)) else (quittancelaw01_FixnumHalf.j0 k (Int.tmod a0 1000000) (wrap64 (1 + (Go.bits .and .i64 a1 4095))) (wrap64 (1 + (wrap64 (Int.tmod (IntKind.u64.wrap (a2)) 3)))) bt111.1 true))))) = some r := h
  clear h
  replace H := Option.bind_eq_some_iff.mp H
  obtain ⟨⟨t108, t109⟩, A40, H⟩ := H
  replace H : ((Go.Proofs.Ytliapjhjofmliaa.H.fixnum_Divide.f t108 (Int.tmod a0 1000000) (wrap64 (1 + (Go.bits .and .i64 a1 4095)))).bind fun bt111 => ((quittancelaw01_awake.f).bind fun t113 => (if t113 = true then (quittancelaw01_FixnumHalf.j0 k (Int.tmod a0 1000000) (wrap64 (1 + (Go.bits .and .i64 a1 4095))) (wrap64 (1 + (wrap64 (Int.tmod (IntKind.u64.wrap (a2)) 3)))) bt111.1 (bt111.2 != 0)) else (quittancelaw01_FixnumHalf.j0 k (Int.tmod a0 1000000) (wrap64 (1 + (Go.bits .and .i64 a1 4095))) (wrap64 (1 + (wrap64 (Int.tmod (IntKind.u64.wrap (a2)) 3)))) bt111.1 true)))) = some r := H
  have A4 := Aside0.mk A40
  clear A40
  replace H := Option.bind_eq_some_iff.mp H
  obtain ⟨⟨t111, t112⟩, A50, H⟩ := H
  replace H : ((quittancelaw01_awake.f).bind fun t113 => (if t113 = true then (quittancelaw01_FixnumHalf.j0 k (Int.tmod a0 1000000) (wrap64 (1 + (Go.bits .and .i64 a1 4095))) (wrap64 (1 + (wrap64 (Int.tmod (IntKind.u64.wrap (a2)) 3)))) t111 (t112 != 0)) else (quittancelaw01_FixnumHalf.j0 k (Int.tmod a0 1000000) (wrap64 (1 + (Go.bits .and .i64 a1 4095))) (wrap64 (1 + (wrap64 (Int.tmod (IntKind.u64.wrap (a2)) 3)))) t111 true))) = some r := H
  have A5 := Aside0.mk A50
  clear A50
  have HC6 := Aside0.mk H
  clear H
  go_enter Try.func4, Try.ntmps4
  go_upto_region 5 with (first | ((with_reducible refine gate_callee (f := 16) rfl ?_); refine goesL_ (some 24) rfl rfl Try.func16 (by kernel_rfl) rfl #[.int .i64 (wrap64 (1 + (wrap64 (Int.tmod (IntKind.u64.wrap (a2)) 3))))] rfl (by (try simp only [List.map_toArray, List.map_cons, List.map_nil]); first | done | rfl | (simp only [List.length_drop, List.length_take]; rfl)) ?_; (with_reducible refine (Go.Proofs.Ytliapjhjofmliaa.PA.fixnum_Of.calls (wrap64 (1 + (wrap64 (Int.tmod (IntKind.u64.wrap (a2)) 3)))) t108 t109 _ A4.out).mono ?_); rintro e w7 ⟨rfl, hb⟩; refine ⟨_, rfl, ?_⟩; have n0_ := Aside0.mk (below_step (by repeat (first | (with_reducible first | exact HB.out | apply below_alloc | apply pw_below_drewN | apply below_drew1) | exact HB.out)) hb); clear HB; have HB := n0_; clear n0_; (try clear hb); (try clear hb2); (try clear hk); (try clear hi)) | ((with_reducible refine gate_dst (N := 7) rfl ?_); refine box_event ?hg (N := 7) ?hd (cs := #[.int .i64 0]) (t := 23) ?hr ?_; (case hd => rfl); (case hg => rfl); (case hr => first | (go_simp; done) | (go_simp; rfl)); intro gb110 hg w8 hbox hb; have n0_ := Aside0.mk (below_step (by repeat (first | (with_reducible first | exact HB.out | apply below_alloc | apply pw_below_drewN | apply below_drew1) | exact HB.out)) hb); have n1_ := Aside0.mk (hbox); have n2_ := Aside0.mk ((by rw [hg]; exact (below_size (by repeat (first | (with_reducible first | exact HB.out | apply below_alloc | apply pw_below_drewN | apply below_drew1) | exact HB.out))) : w.heap.size ≤ gb110)); have n3_ := Aside0.mk ((by rw [hg]; exact (below_size (by repeat (first | (with_reducible first | exact HB.out | apply below_alloc | apply pw_below_drewN | apply below_drew1) | exact HB.out))) : w.heap.size ≤ gb110)); clear HB; have HB := n0_; have BK110 := n1_; have GW110 := n2_; have GE110 := n3_; clear n0_ n1_ n2_ n3_; clear hb hbox hg; (try have hu110_0 : w8.cell? ⟨gb110, 0, none⟩ = some (.int .i64 0) := (blk_cell BK110.out 0).trans rfl); (try have hv110_0 := blk_frozen BK110.out 0); have hcz9_0 : w8.cell? ⟨gb110, 0, none⟩ = some (.int .i64 0) := (blk_cell BK110.out 0).trans rfl; have hfz9_0 := blk_frozen BK110.out 0) | ((with_reducible refine gate_callee (f := 17) rfl ?_); refine goesL_ (some 31) rfl rfl Try.func17 (by kernel_rfl) rfl #[.agg #[.int .i64 t108], .int .i64 (Int.tmod a0 1000000), .int .i64 (wrap64 (1 + (Go.bits .and .i64 a1 4095)))] rfl (by (try simp only [List.map_toArray, List.map_cons, List.map_nil]); first | done | rfl | (simp only [List.length_drop, List.length_take]; rfl)) ?_; (with_reducible refine (Go.Proofs.Ytliapjhjofmliaa.H.fixnum_Divide.calls t108 (Int.tmod a0 1000000) (wrap64 (1 + (Go.bits .and .i64 a1 4095))) t111 t112 _ A5.out).mono ?_); rintro e w10 ⟨rfl, hb⟩; refine ⟨_, rfl, ?_⟩; have n0_ := Aside0.mk (blk_below (g := gb110) (o := .cells #[.int .i64 t108] 23 (0, 0)) (by (with_reducible repeat (first | refine blk_drewN ?_ _ | refine blk_drew ?_ | refine blk_alloc ?_ _)); refine blk_put (cs := #[.int .i64 0]) ?_ 0 _ rfl; (with_reducible repeat (first | refine blk_drewN ?_ _ | refine blk_drew ?_ | refine blk_alloc ?_ _)); exact BK110.out) hb); have n1_ := Aside0.mk (below_step (by repeat (first | (with_reducible first | exact HB.out | apply below_alloc | apply pw_below_drewN | apply below_drew1 | refine below_set ?_ GE110.out) | exact HB.out)) hb); clear BK110; clear HB; have BK110 := n0_; have HB := n1_; clear n0_ n1_; (try clear hb); (try clear hb2); (try clear hk); (try clear hi); (try have hu110_0 : w10.cell? ⟨gb110, 0, none⟩ = some (.int .i64 t108) := (blk_cell BK110.out 0).trans rfl); (try have hv110_0 := blk_frozen BK110.out 0)))
  (try simp only [Act.put, List.setIfInBounds_toArray, List.set_cons_zero, List.set_cons_succ])
  go_cut [39] (fun v39 wc => ∃ (kq : Nat) (x39_5 : Bool), v39 = .bool x39_5 ∧ Aside0 (quittancelaw01_FixnumHalf.j0 kq (Int.tmod a0 1000000) (wrap64 (1 + (Go.bits .and .i64 a1 4095))) (wrap64 (1 + (wrap64 (Int.tmod (IntKind.u64.wrap (a2)) 3)))) t111 x39_5 = some r) ∧ Aside0 (kq ≤ k) ∧ Aside0 (wc.heap[gb110]? = some (.cells #[.int .i64 t108] 23 (0, 0))) ∧ Aside0 (Below w.heap.size w wc))
  case first =>
    have H := HC6.out
    clear HC6
    replace H := Option.bind_eq_some_iff.mp H
    obtain ⟨t113, A110, H⟩ := H
    replace H : (if t113 = true then (quittancelaw01_FixnumHalf.j0 k (Int.tmod a0 1000000) (wrap64 (1 + (Go.bits .and .i64 a1 4095))) (wrap64 (1 + (wrap64 (Int.tmod (IntKind.u64.wrap (a2)) 3)))) t111 (t112 != 0)) else (quittancelaw01_FixnumHalf.j0 k (Int.tmod a0 1000000) (wrap64 (1 + (Go.bits .and .i64 a1 4095))) (wrap64 (1 + (wrap64 (Int.tmod (IntKind.u64.wrap (a2)) 3)))) t111 true)) = some r := H
    have A11 := Aside0.mk A110
    clear A110
    by_cases c12 : t113 = true
    · subst c12
      have H1 : (quittancelaw01_FixnumHalf.j0 k (Int.tmod a0 1000000) (wrap64 (1 + (Go.bits .and .i64 a1 4095))) (wrap64 (1 + (wrap64 (Int.tmod (IntKind.u64.wrap (a2)) 3)))) t111 (t112 != 0)) = some r := by rw [if_pos rfl] at H; exact H
      clear H
      have H := H1
      clear H1
      have H' := Aside0.mk H
      clear H
      go_wp2_with (first | ((with_reducible refine gate_callee (f := 20) rfl ?_); refine goesL_ (some 34) rfl rfl Try.func20 (by kernel_rfl) rfl #[] rfl (by (try simp only [List.map_toArray, List.map_cons, List.map_nil]); first | done | rfl | (simp only [List.length_drop, List.length_take]; rfl)) ?_; (with_reducible refine (quittancelaw01_awake.calls  true _ A11.out).mono ?_); rintro e w13 ⟨rfl, hb⟩; refine ⟨_, rfl, ?_⟩; have n0_ := Aside0.mk (blk_below (g := gb110) (o := .cells #[.int .i64 t108] 23 (0, 0)) (by (with_reducible repeat (first | refine blk_drewN ?_ _ | refine blk_drew ?_ | refine blk_alloc ?_ _)); exact BK110.out) hb); have n1_ := Aside0.mk (below_step (by repeat (first | (with_reducible first | exact HB.out | apply below_alloc | apply pw_below_drewN | apply below_drew1 | refine below_set ?_ GE110.out) | exact HB.out)) hb); clear BK110; clear HB; have BK110 := n0_; have HB := n1_; clear n0_ n1_; (try clear hb); (try clear hb2); (try clear hk); (try clear hi); (try have hu110_0 : w13.cell? ⟨gb110, 0, none⟩ = some (.int .i64 t108) := (blk_cell BK110.out 0).trans rfl); (try have hv110_0 := blk_frozen BK110.out 0)))
      go_meet
      case rel => exact ⟨_, ((t112 != 0)), (by first | rfl | (simp; done) | (simp [*]; done)), H', ⟨by first | omega | exact Nat.le_refl _⟩, ⟨by (with_reducible repeat (first | refine blk_drewN ?_ _ | refine blk_drew ?_ | refine blk_alloc ?_ _)); exact BK110.out⟩, ⟨by repeat (first | (with_reducible first | exact HB.out | apply below_alloc | apply pw_below_drewN | apply below_drew1 | refine below_set ?_ GE110.out) | exact HB.out)⟩⟩
    · replace c12 := Bool.eq_false_iff.mpr c12
      subst c12
      have H1 : (quittancelaw01_FixnumHalf.j0 k (Int.tmod a0 1000000) (wrap64 (1 + (Go.bits .and .i64 a1 4095))) (wrap64 (1 + (wrap64 (Int.tmod (IntKind.u64.wrap (a2)) 3)))) t111 true) = some r := by rw [if_neg (show ¬ (false = true) by decide)] at H; exact H
      clear H
      have H := H1
      clear H1
      have H' := Aside0.mk H
      clear H
      go_wp2_with (first | ((with_reducible refine gate_callee (f := 20) rfl ?_); refine goesL_ (some 34) rfl rfl Try.func20 (by kernel_rfl) rfl #[] rfl (by (try simp only [List.map_toArray, List.map_cons, List.map_nil]); first | done | rfl | (simp only [List.length_drop, List.length_take]; rfl)) ?_; (with_reducible refine (quittancelaw01_awake.calls  false _ A11.out).mono ?_); rintro e w14 ⟨rfl, hb⟩; refine ⟨_, rfl, ?_⟩; have n0_ := Aside0.mk (blk_below (g := gb110) (o := .cells #[.int .i64 t108] 23 (0, 0)) (by (with_reducible repeat (first | refine blk_drewN ?_ _ | refine blk_drew ?_ | refine blk_alloc ?_ _)); exact BK110.out) hb); have n1_ := Aside0.mk (below_step (by repeat (first | (with_reducible first | exact HB.out | apply below_alloc | apply pw_below_drewN | apply below_drew1 | refine below_set ?_ GE110.out) | exact HB.out)) hb); clear BK110; clear HB; have BK110 := n0_; have HB := n1_; clear n0_ n1_; (try clear hb); (try clear hb2); (try clear hk); (try clear hi); (try have hu110_0 : w14.cell? ⟨gb110, 0, none⟩ = some (.int .i64 t108) := (blk_cell BK110.out 0).trans rfl); (try have hv110_0 := blk_frozen BK110.out 0)))
      go_meet
      case rel => exact ⟨_, (true), (by first | rfl | (simp; done) | (simp [*]; done)), H', ⟨by first | omega | exact Nat.le_refl _⟩, ⟨by (with_reducible repeat (first | refine blk_drewN ?_ _ | refine blk_drew ?_ | refine blk_alloc ?_ _)); exact BK110.out⟩, ⟨by repeat (first | (with_reducible first | exact HB.out | apply below_alloc | apply pw_below_drewN | apply below_drew1 | refine below_set ?_ GE110.out) | exact HB.out)⟩⟩
  case rest =>
    clear HC6
    try clear c1
    try clear c2
    try clear p2
    try clear c4
    try clear p6
    try clear c12
    try clear hcz9_0
    try clear hfz9_0
    obtain ⟨kq, x39_5, rfl, HA, HJ5, BK110, HB⟩ := hcut
    cases kq with
    | zero => exact absurd HA.out (by simp [quittancelaw01_FixnumHalf.j0])
    | succ kj5 =>
      have H := HA.out
      clear HA
      simp only [quittancelaw01_FixnumHalf.j0] at H
      by_cases c15 : x39_5 = true
      · subst c15
        have H1 : (some false) = some r := by rw [if_pos rfl] at H; exact H
        clear H
        have H := H1
        clear H1
        obtain rfl := Option.some.inj H
        go_wp2
        go_ret
        exact ⟨by first | rfl | (simp [errW_none, errW_some] <;> rfl) | (simp [*, errW_none, errW_some] <;> rfl), by repeat (first | (with_reducible first | exact HB.out | apply below_alloc | apply pw_below_drewN | apply below_drew1 | refine below_set ?_ GE110.out) | exact HB.out)⟩
      · replace c15 := Bool.eq_false_iff.mpr c15
        subst c15
        have H1 : (if (wrap64 (1 + (wrap64 (Int.tmod (IntKind.u64.wrap (a2)) 3)))) = 3 then (if (wrap64 (2 * (wrap64 ((Int.tmod a0 1000000) - (wrap64 (t111 * (wrap64 (1 + (Go.bits .and .i64 a1 4095))))))))) ≥ 0 then (some (decide ((wrap64 (2 * (wrap64 ((Int.tmod a0 1000000) - (wrap64 (t111 * (wrap64 (1 + (Go.bits .and .i64 a1 4095))))))))) < (wrap64 (2 * (wrap64 (1 + (Go.bits .and .i64 a1 4095)))))))) else (some false)) else (if (wrap64 (1 + (wrap64 (Int.tmod (IntKind.u64.wrap (a2)) 3)))) = 1 then (if (wrap64 (2 * (wrap64 ((Int.tmod a0 1000000) - (wrap64 (t111 * (wrap64 (1 + (Go.bits .and .i64 a1 4095))))))))) ≥ (wrap64 (-(wrap64 (1 + (Go.bits .and .i64 a1 4095))))) then (some (decide ((wrap64 (2 * (wrap64 ((Int.tmod a0 1000000) - (wrap64 (t111 * (wrap64 (1 + (Go.bits .and .i64 a1 4095))))))))) < (wrap64 (1 + (Go.bits .and .i64 a1 4095)))))) else (some false)) else (if (wrap64 (2 * (wrap64 ((Int.tmod a0 1000000) - (wrap64 (t111 * (wrap64 (1 + (Go.bits .and .i64 a1 4095))))))))) > (wrap64 (-(wrap64 (1 + (Go.bits .and .i64 a1 4095))))) then (if (wrap64 (2 * (wrap64 ((Int.tmod a0 1000000) - (wrap64 (t111 * (wrap64 (1 + (Go.bits .and .i64 a1 4095))))))))) < (wrap64 (1 + (Go.bits .and .i64 a1 4095))) then (some true) else (if (wrap64 (2 * (wrap64 ((Int.tmod a0 1000000) - (wrap64 (t111 * (wrap64 (1 + (Go.bits .and .i64 a1 4095))))))))) = (wrap64 (1 + (Go.bits .and .i64 a1 4095))) then (some ((Int.tmod t111 2) == 0)) else (if (wrap64 (2 * (wrap64 ((Int.tmod a0 1000000) - (wrap64 (t111 * (wrap64 (1 + (Go.bits .and .i64 a1 4095))))))))) = (wrap64 (-(wrap64 (1 + (Go.bits .and .i64 a1 4095))))) then (some ((Int.tmod t111 2) == 0)) else (some false)))) else (if (wrap64 (2 * (wrap64 ((Int.tmod a0 1000000) - (wrap64 (t111 * (wrap64 (1 + (Go.bits .and .i64 a1 4095))))))))) = (wrap64 (1 + (Go.bits .and .i64 a1 4095))) then (some ((Int.tmod t111 2) == 0)) else (if (wrap64 (2 * (wrap64 ((Int.tmod a0 1000000) - (wrap64 (t111 * (wrap64 (1 + (Go.bits .and .i64 a1 4095))))))))) = (wrap64 (-(wrap64 (1 + (Go.bits .and .i64 a1 4095))))) then (some ((Int.tmod t111 2) == 0)) else (some false)))))) = some r := by rw [if_neg (show ¬ (false = true) by decide)] at H; exact H
        clear H
        have H := H1
        clear H1
        by_cases c16 : (wrap64 (1 + (wrap64 (Int.tmod (IntKind.u64.wrap (a2)) 3)))) = 3
        · rw [if_pos c16] at H
          have c16b0 : ((wrap64 (1 + (wrap64 (Int.tmod (IntKind.u64.wrap (a2)) 3)))) == 3) = true := beq_iff_eq.mpr c16
          have c16b1 : ((wrap64 (1 + (wrap64 (Int.tmod (IntKind.u64.wrap (a2)) 3)))) != 3) = false := bne_eq_false_iff_eq.mpr c16
          clear c16
          by_cases c17 : (wrap64 (2 * (wrap64 ((Int.tmod a0 1000000) - (wrap64 (t111 * (wrap64 (1 + (Go.bits .and .i64 a1 4095))))))))) ≥ 0
          · rw [if_pos c17] at H
            have c17b0 : decide (0 ≤ (wrap64 (2 * (wrap64 ((Int.tmod a0 1000000) - (wrap64 (t111 * (wrap64 (1 + (Go.bits .and .i64 a1 4095)))))))))) = true := decide_eq_true c17
            clear c17
            obtain rfl := Option.some.inj H
            go_wp2
            go_ret
            exact ⟨by first | rfl | (simp [errW_none, errW_some] <;> rfl) | (simp [*, errW_none, errW_some] <;> rfl), by repeat (first | (with_reducible first | exact HB.out | apply below_alloc | apply pw_below_drewN | apply below_drew1 | refine below_set ?_ GE110.out) | exact HB.out)⟩
          · rw [if_neg c17] at H
            have c17b0 : decide (0 ≤ (wrap64 (2 * (wrap64 ((Int.tmod a0 1000000) - (wrap64 (t111 * (wrap64 (1 + (Go.bits .and .i64 a1 4095)))))))))) = false := decide_eq_false c17
            clear c17
            obtain rfl := Option.some.inj H
            go_wp2
            go_ret
            exact ⟨by first | rfl | (simp [errW_none, errW_some] <;> rfl) | (simp [*, errW_none, errW_some] <;> rfl), by repeat (first | (with_reducible first | exact HB.out | apply below_alloc | apply pw_below_drewN | apply below_drew1 | refine below_set ?_ GE110.out) | exact HB.out)⟩
        · rw [if_neg c16] at H
          have c16b0 : ((wrap64 (1 + (wrap64 (Int.tmod (IntKind.u64.wrap (a2)) 3)))) == 3) = false := beq_eq_false_iff_ne.mpr c16
          have c16b1 : ((wrap64 (1 + (wrap64 (Int.tmod (IntKind.u64.wrap (a2)) 3)))) != 3) = true := bne_iff_ne.mpr c16
          by_cases c18 : (wrap64 (1 + (wrap64 (Int.tmod (IntKind.u64.wrap (a2)) 3)))) = 1
          · rw [if_pos c18] at H
            have c18b0 : ((wrap64 (1 + (wrap64 (Int.tmod (IntKind.u64.wrap (a2)) 3)))) == 1) = true := beq_iff_eq.mpr c18
            have c18b1 : ((wrap64 (1 + (wrap64 (Int.tmod (IntKind.u64.wrap (a2)) 3)))) != 1) = false := bne_eq_false_iff_eq.mpr c18
            clear c18
            by_cases c19 : (wrap64 (2 * (wrap64 ((Int.tmod a0 1000000) - (wrap64 (t111 * (wrap64 (1 + (Go.bits .and .i64 a1 4095))))))))) ≥ (wrap64 (-(wrap64 (1 + (Go.bits .and .i64 a1 4095)))))
            · rw [if_pos c19] at H
              have c19b0 : decide ((wrap64 (-(wrap64 (1 + (Go.bits .and .i64 a1 4095))))) ≤ (wrap64 (2 * (wrap64 ((Int.tmod a0 1000000) - (wrap64 (t111 * (wrap64 (1 + (Go.bits .and .i64 a1 4095)))))))))) = true := decide_eq_true c19
              clear c19
              obtain rfl := Option.some.inj H
              go_wp2
              go_ret
              exact ⟨by first | rfl | (simp [errW_none, errW_some] <;> rfl) | (simp [*, errW_none, errW_some] <;> rfl), by repeat (first | (with_reducible first | exact HB.out | apply below_alloc | apply pw_below_drewN | apply below_drew1 | refine below_set ?_ GE110.out) | exact HB.out)⟩
            · rw [if_neg c19] at H
              have c19b0 : decide ((wrap64 (-(wrap64 (1 + (Go.bits .and .i64 a1 4095))))) ≤ (wrap64 (2 * (wrap64 ((Int.tmod a0 1000000) - (wrap64 (t111 * (wrap64 (1 + (Go.bits .and .i64 a1 4095)))))))))) = false := decide_eq_false c19
              clear c19
              obtain rfl := Option.some.inj H
              go_wp2
              go_ret
              exact ⟨by first | rfl | (simp [errW_none, errW_some] <;> rfl) | (simp [*, errW_none, errW_some] <;> rfl), by repeat (first | (with_reducible first | exact HB.out | apply below_alloc | apply pw_below_drewN | apply below_drew1 | refine below_set ?_ GE110.out) | exact HB.out)⟩
          · rw [if_neg c18] at H
            have c18b0 : ((wrap64 (1 + (wrap64 (Int.tmod (IntKind.u64.wrap (a2)) 3)))) == 1) = false := beq_eq_false_iff_ne.mpr c18
            have c18b1 : ((wrap64 (1 + (wrap64 (Int.tmod (IntKind.u64.wrap (a2)) 3)))) != 1) = true := bne_iff_ne.mpr c18
            by_cases c20 : (wrap64 (2 * (wrap64 ((Int.tmod a0 1000000) - (wrap64 (t111 * (wrap64 (1 + (Go.bits .and .i64 a1 4095))))))))) > (wrap64 (-(wrap64 (1 + (Go.bits .and .i64 a1 4095)))))
            · rw [if_pos c20] at H
              have c20b0 : decide ((wrap64 (-(wrap64 (1 + (Go.bits .and .i64 a1 4095))))) < (wrap64 (2 * (wrap64 ((Int.tmod a0 1000000) - (wrap64 (t111 * (wrap64 (1 + (Go.bits .and .i64 a1 4095)))))))))) = true := decide_eq_true c20
              clear c20
              by_cases c21 : (wrap64 (2 * (wrap64 ((Int.tmod a0 1000000) - (wrap64 (t111 * (wrap64 (1 + (Go.bits .and .i64 a1 4095))))))))) < (wrap64 (1 + (Go.bits .and .i64 a1 4095)))
              · rw [if_pos c21] at H
                have c21b0 : decide ((wrap64 (2 * (wrap64 ((Int.tmod a0 1000000) - (wrap64 (t111 * (wrap64 (1 + (Go.bits .and .i64 a1 4095))))))))) < (wrap64 (1 + (Go.bits .and .i64 a1 4095)))) = true := decide_eq_true c21
                clear c21
                obtain rfl := Option.some.inj H
                go_wp2
                go_ret
                exact ⟨by first | rfl | (simp [errW_none, errW_some] <;> rfl) | (simp [*, errW_none, errW_some] <;> rfl), by repeat (first | (with_reducible first | exact HB.out | apply below_alloc | apply pw_below_drewN | apply below_drew1 | refine below_set ?_ GE110.out) | exact HB.out)⟩
              · rw [if_neg c21] at H
                have c21b0 : decide ((wrap64 (2 * (wrap64 ((Int.tmod a0 1000000) - (wrap64 (t111 * (wrap64 (1 + (Go.bits .and .i64 a1 4095))))))))) < (wrap64 (1 + (Go.bits .and .i64 a1 4095)))) = false := decide_eq_false c21
                clear c21
                by_cases c22 : (wrap64 (2 * (wrap64 ((Int.tmod a0 1000000) - (wrap64 (t111 * (wrap64 (1 + (Go.bits .and .i64 a1 4095))))))))) = (wrap64 (1 + (Go.bits .and .i64 a1 4095)))
                · rw [if_pos c22] at H
                  have c22b0 : ((wrap64 (2 * (wrap64 ((Int.tmod a0 1000000) - (wrap64 (t111 * (wrap64 (1 + (Go.bits .and .i64 a1 4095))))))))) == (wrap64 (1 + (Go.bits .and .i64 a1 4095)))) = true := beq_iff_eq.mpr c22
                  have c22b1 : ((wrap64 (2 * (wrap64 ((Int.tmod a0 1000000) - (wrap64 (t111 * (wrap64 (1 + (Go.bits .and .i64 a1 4095))))))))) != (wrap64 (1 + (Go.bits .and .i64 a1 4095)))) = false := bne_eq_false_iff_eq.mpr c22
                  clear c22
                  obtain rfl := Option.some.inj H
                  go_wp2
                  go_ret
                  exact ⟨by first | rfl | (simp [errW_none, errW_some] <;> rfl) | (simp [*, errW_none, errW_some] <;> rfl), by repeat (first | (with_reducible first | exact HB.out | apply below_alloc | apply pw_below_drewN | apply below_drew1 | refine below_set ?_ GE110.out) | exact HB.out)⟩
                · rw [if_neg c22] at H
                  have c22b0 : ((wrap64 (2 * (wrap64 ((Int.tmod a0 1000000) - (wrap64 (t111 * (wrap64 (1 + (Go.bits .and .i64 a1 4095))))))))) == (wrap64 (1 + (Go.bits .and .i64 a1 4095)))) = false := beq_eq_false_iff_ne.mpr c22
                  have c22b1 : ((wrap64 (2 * (wrap64 ((Int.tmod a0 1000000) - (wrap64 (t111 * (wrap64 (1 + (Go.bits .and .i64 a1 4095))))))))) != (wrap64 (1 + (Go.bits .and .i64 a1 4095)))) = true := bne_iff_ne.mpr c22
                  by_cases c23 : (wrap64 (2 * (wrap64 ((Int.tmod a0 1000000) - (wrap64 (t111 * (wrap64 (1 + (Go.bits .and .i64 a1 4095))))))))) = (wrap64 (-(wrap64 (1 + (Go.bits .and .i64 a1 4095)))))
                  · rw [if_pos c23] at H
                    have c23b0 : ((wrap64 (2 * (wrap64 ((Int.tmod a0 1000000) - (wrap64 (t111 * (wrap64 (1 + (Go.bits .and .i64 a1 4095))))))))) == (wrap64 (-(wrap64 (1 + (Go.bits .and .i64 a1 4095)))))) = true := beq_iff_eq.mpr c23
                    have c23b1 : ((wrap64 (2 * (wrap64 ((Int.tmod a0 1000000) - (wrap64 (t111 * (wrap64 (1 + (Go.bits .and .i64 a1 4095))))))))) != (wrap64 (-(wrap64 (1 + (Go.bits .and .i64 a1 4095)))))) = false := bne_eq_false_iff_eq.mpr c23
                    clear c23
                    obtain rfl := Option.some.inj H
                    go_wp2
                    go_ret
                    exact ⟨by first | rfl | (simp [errW_none, errW_some] <;> rfl) | (simp [*, errW_none, errW_some] <;> rfl), by repeat (first | (with_reducible first | exact HB.out | apply below_alloc | apply pw_below_drewN | apply below_drew1 | refine below_set ?_ GE110.out) | exact HB.out)⟩
                  · rw [if_neg c23] at H
                    have c23b0 : ((wrap64 (2 * (wrap64 ((Int.tmod a0 1000000) - (wrap64 (t111 * (wrap64 (1 + (Go.bits .and .i64 a1 4095))))))))) == (wrap64 (-(wrap64 (1 + (Go.bits .and .i64 a1 4095)))))) = false := beq_eq_false_iff_ne.mpr c23
                    have c23b1 : ((wrap64 (2 * (wrap64 ((Int.tmod a0 1000000) - (wrap64 (t111 * (wrap64 (1 + (Go.bits .and .i64 a1 4095))))))))) != (wrap64 (-(wrap64 (1 + (Go.bits .and .i64 a1 4095)))))) = true := bne_iff_ne.mpr c23
                    obtain rfl := Option.some.inj H
                    go_wp2
                    go_ret
                    exact ⟨by first | rfl | (simp [errW_none, errW_some] <;> rfl) | (simp [*, errW_none, errW_some] <;> rfl), by repeat (first | (with_reducible first | exact HB.out | apply below_alloc | apply pw_below_drewN | apply below_drew1 | refine below_set ?_ GE110.out) | exact HB.out)⟩
            · rw [if_neg c20] at H
              have c20b0 : decide ((wrap64 (-(wrap64 (1 + (Go.bits .and .i64 a1 4095))))) < (wrap64 (2 * (wrap64 ((Int.tmod a0 1000000) - (wrap64 (t111 * (wrap64 (1 + (Go.bits .and .i64 a1 4095)))))))))) = false := decide_eq_false c20
              clear c20
              by_cases c24 : (wrap64 (2 * (wrap64 ((Int.tmod a0 1000000) - (wrap64 (t111 * (wrap64 (1 + (Go.bits .and .i64 a1 4095))))))))) = (wrap64 (1 + (Go.bits .and .i64 a1 4095)))
              · rw [if_pos c24] at H
                have c24b0 : ((wrap64 (2 * (wrap64 ((Int.tmod a0 1000000) - (wrap64 (t111 * (wrap64 (1 + (Go.bits .and .i64 a1 4095))))))))) == (wrap64 (1 + (Go.bits .and .i64 a1 4095)))) = true := beq_iff_eq.mpr c24
                have c24b1 : ((wrap64 (2 * (wrap64 ((Int.tmod a0 1000000) - (wrap64 (t111 * (wrap64 (1 + (Go.bits .and .i64 a1 4095))))))))) != (wrap64 (1 + (Go.bits .and .i64 a1 4095)))) = false := bne_eq_false_iff_eq.mpr c24
                clear c24
                obtain rfl := Option.some.inj H
                go_wp2
                go_ret
                exact ⟨by first | rfl | (simp [errW_none, errW_some] <;> rfl) | (simp [*, errW_none, errW_some] <;> rfl), by repeat (first | (with_reducible first | exact HB.out | apply below_alloc | apply pw_below_drewN | apply below_drew1 | refine below_set ?_ GE110.out) | exact HB.out)⟩
              · rw [if_neg c24] at H
                have c24b0 : ((wrap64 (2 * (wrap64 ((Int.tmod a0 1000000) - (wrap64 (t111 * (wrap64 (1 + (Go.bits .and .i64 a1 4095))))))))) == (wrap64 (1 + (Go.bits .and .i64 a1 4095)))) = false := beq_eq_false_iff_ne.mpr c24
                have c24b1 : ((wrap64 (2 * (wrap64 ((Int.tmod a0 1000000) - (wrap64 (t111 * (wrap64 (1 + (Go.bits .and .i64 a1 4095))))))))) != (wrap64 (1 + (Go.bits .and .i64 a1 4095)))) = true := bne_iff_ne.mpr c24
                by_cases c25 : (wrap64 (2 * (wrap64 ((Int.tmod a0 1000000) - (wrap64 (t111 * (wrap64 (1 + (Go.bits .and .i64 a1 4095))))))))) = (wrap64 (-(wrap64 (1 + (Go.bits .and .i64 a1 4095)))))
                · rw [if_pos c25] at H
                  have c25b0 : ((wrap64 (2 * (wrap64 ((Int.tmod a0 1000000) - (wrap64 (t111 * (wrap64 (1 + (Go.bits .and .i64 a1 4095))))))))) == (wrap64 (-(wrap64 (1 + (Go.bits .and .i64 a1 4095)))))) = true := beq_iff_eq.mpr c25
                  have c25b1 : ((wrap64 (2 * (wrap64 ((Int.tmod a0 1000000) - (wrap64 (t111 * (wrap64 (1 + (Go.bits .and .i64 a1 4095))))))))) != (wrap64 (-(wrap64 (1 + (Go.bits .and .i64 a1 4095)))))) = false := bne_eq_false_iff_eq.mpr c25
                  clear c25
                  obtain rfl := Option.some.inj H
                  go_wp2
                  go_ret
                  exact ⟨by first | rfl | (simp [errW_none, errW_some] <;> rfl) | (simp [*, errW_none, errW_some] <;> rfl), by repeat (first | (with_reducible first | exact HB.out | apply below_alloc | apply pw_below_drewN | apply below_drew1 | refine below_set ?_ GE110.out) | exact HB.out)⟩
                · rw [if_neg c25] at H
                  have c25b0 : ((wrap64 (2 * (wrap64 ((Int.tmod a0 1000000) - (wrap64 (t111 * (wrap64 (1 + (Go.bits .and .i64 a1 4095))))))))) == (wrap64 (-(wrap64 (1 + (Go.bits .and .i64 a1 4095)))))) = false := beq_eq_false_iff_ne.mpr c25
                  have c25b1 : ((wrap64 (2 * (wrap64 ((Int.tmod a0 1000000) - (wrap64 (t111 * (wrap64 (1 + (Go.bits .and .i64 a1 4095))))))))) != (wrap64 (-(wrap64 (1 + (Go.bits .and .i64 a1 4095)))))) = true := bne_iff_ne.mpr c25
                  obtain rfl := Option.some.inj H
                  go_wp2
                  go_ret
                  exact ⟨by first | rfl | (simp [errW_none, errW_some] <;> rfl) | (simp [*, errW_none, errW_some] <;> rfl), by repeat (first | (with_reducible first | exact HB.out | apply below_alloc | apply pw_below_drewN | apply below_drew1 | refine below_set ?_ GE110.out) | exact HB.out)⟩

/-- THE ONE PURE STATEMENT of quittancelaw01_FixnumHalf: yours. -/
def quittancelaw01_FixnumHalf.Pure : Prop := ∀ (a0 : Int) (a1 : Int) (a2 : Int), (Lit.int .i64 a0).wf = true → (Lit.int .i64 a1).wf = true → (Lit.int .i64 a2).wf = true → ∃ k, quittancelaw01_FixnumHalf.f k a0 a1 a2 = some true
theorem quittancelaw01_FixnumHalf.walk (P : quittancelaw01_FixnumHalf.Pure) (a0 : Int) (a1 : Int) (a2 : Int) (w : World) (w0 : (Lit.int .i64 a0).wf = true) (w1 : (Lit.int .i64 a1).wf = true) (w2 : (Lit.int .i64 a2).wf = true) :
    Calls Try.prog 4 #[.int .i64 a0, .int .i64 a1, .int .i64 a2] w fun e w' => e = .returned (.bool true) ∧ Below w.heap.size w w' := by
  obtain ⟨k, h⟩ := P a0 a1 a2 w0 w1 w2
  refine (quittancelaw01_FixnumHalf.calls k a0 a1 a2 true w h).mono ?_
  rintro e w' ⟨rfl, hd⟩
  exact ⟨rfl, hd⟩

end Go.Proofs.Ytliapjhjofmliaa.PFixnumHalf
