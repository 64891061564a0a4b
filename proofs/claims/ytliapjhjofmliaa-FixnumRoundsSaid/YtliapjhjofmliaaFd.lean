/- The law FixnumRounds, walked. -/
import Derived.Test.YtliapjhjofmliaaRr
import Derived.Test.YtliapjhjofmliaaAw
namespace Go.Proofs.Ytliapjhjofmliaa.H
open Go.RowKit Go.Proofs.YtliapjhjofmliaaW.PrintWords Go.Proofs.YtliapjhjofmliaaW.PrintLast Go.Proofs.YtliapjhjofmliaaW.PrintMore
open Go.Proofs.Ytliapjhjofmliaa.Math
set_option linter.unusedVariables false
set_option linter.unusedSimpArgs false
theorem ratio_all {mode a b d : Int} (h1 : inr a) (h2 : inr b) (h3 : inr d) (w : World) :
    Calls Try.prog 18 #[.agg #[.int .i64 mode], .int .i64 a, .int .i64 b, .int .i64 d] w fun e w' => e = .returned (.tuple #[.int .i64 (ratio mode a b d).1, .int .i64 (ratio mode a b d).2]) ∧ Below w.heap.size w w' := by
  unfold ratio
  by_cases hm : mode ≠ 0 ∧ 0 < d
  · rw [if_pos hm]
    by_cases hf : fits (rnd (a * b) d mode)
    · rw [if_pos hf]; exact Ratio_yes hm.1 h1.1 h1.2 h2.1 h2.2 hm.2 h3.2 hf w
    · rw [if_neg hf]; exact Ratio_range hm.1 h1.1 h1.2 h2.1 h2.2 hm.2 h3.2 hf w
  · rw [if_neg hm]; exact Ratio_arg hm w
theorem divide_all {mode a d : Int} (h1 : inr a) (h3 : inr d) (w : World) :
    Calls Try.prog 17 #[.agg #[.int .i64 mode], .int .i64 a, .int .i64 d] w fun e w' => e = .returned (.tuple #[.int .i64 (ratio mode a 1 d).1, .int .i64 (ratio mode a 1 d).2]) ∧ Below w.heap.size w w' :=
  Divide_is (fun w0 => ratio_all h1 (by decide) h3 w0) w
theorem rratio_all {mode a b d : Int} (m1 : 1 ≤ mode) (m3 : mode ≤ 3) (h1 : inr a) (h2 : inr b) (h3 : inr d) (w : World) :
    Calls Try.prog 21 #[.int .i64 mode, .int .i64 a, .int .i64 b, .int .i64 d] w fun e w' => e = .returned (.tuple #[.int .i64 (ratio mode a b d).1, .int .i64 (ratio mode a b d).2]) ∧ Below w.heap.size w w' := by
  by_cases hd : 0 < d
  · exact rratio_any m1 m3 h1.1 h1.2 h2.1 h2.2 hd h3.2 w
  · unfold ratio
    rw [if_neg (fun h => hd h.2)]
    have hd2 : d ≤ 0 := by omega
    clear hd m1 m3 h1 h2 h3
    go_enter Try.func21, Try.ntmps21
    go_wp2_with fail
    go_ret2
    exact ⟨rfl, Below.refl _ _⟩
theorem awake_all (w : World) : Calls Try.prog 20 #[] w fun e w' => e = .returned (.bool true) ∧ Below w.heap.size w w' :=
  Aw.quittancelaw01_awake.calls true w (by kernel_rfl)
theorem wf_inr {x : Int} (h : (Lit.int .i64 x).wf = true) : inr x := by
  have h' := (Bool.and_eq_true _ _).mp h
  exact ⟨of_decide_eq_true h'.1, of_decide_eq_true h'.2⟩
set_option maxRecDepth 100000 in
set_option maxHeartbeats 4000000 in
theorem fixnumRounds_walk (a0 a1 a2 a3 a4 : Int) (w : World) (w0 : (Lit.int .i64 a0).wf = true) (w1 : (Lit.int .i64 a1).wf = true) (w2 : (Lit.int .i64 a2).wf = true) (w3 : (Lit.int .i64 a3).wf = true) (w4 : (Lit.int .i64 a4).wf = true) : Calls Try.prog 3 #[.int .i64 a0, .int .i64 a1, .int .i64 a2, .int .i64 a3, .int .i64 a4] w fun e w' => e = .returned (.bool true) ∧ Below w.heap.size w w' := by
  have i1 := Aside0.mk (wf_inr w1)
  have i2 := Aside0.mk (wf_inr w2)
  have i3 := Aside0.mk (wf_inr w3)
  have i4 := Aside0.mk (wf_inr w4)
  clear w0 w1 w2 w3 w4
  have key : ∃ (mo eo : Int) (rt : Bool), PA.fixnum_Of.f a0 = some (mo, eo) ∧ PA.quittanceref01_Right.f a0 = some rt ∧ ((rt = true ∧ mo = a0 ∧ eo = 0 ∧ 1 ≤ a0 ∧ a0 ≤ 3) ∨ (rt = false ∧ mo = 0 ∧ eo = 1)) := by
    unfold PA.fixnum_Of.f PA.quittanceref01_Right.f
    by_cases h1 : a0 < 1
    · exact ⟨0, 1, false, by rw [if_pos h1], by rw [if_neg (by omega)], Or.inr ⟨rfl, rfl, rfl⟩⟩
    · by_cases h3 : a0 > 3
      · exact ⟨0, 1, false, by rw [if_neg h1, if_pos h3], by rw [if_pos (by omega), decide_eq_false (by omega)], Or.inr ⟨rfl, rfl, rfl⟩⟩
      · exact ⟨a0, 0, true, by rw [if_neg h1, if_neg h3], by rw [if_pos (by omega), decide_eq_true (by omega)], Or.inl ⟨rfl, rfl, rfl, by omega, by omega⟩⟩
  obtain ⟨mo, eo, rt, k1, k2, k3⟩ := key
  have K1 := Aside0.mk k1
  have K2 := Aside0.mk k2
  have K3 := Aside0.mk k3
  clear k1 k2 k3
  have hu23 := Try.underlying23
  go_enter Try.func3, Try.ntmps3
  go_wp2_with fail
  refine (PA.fixnum_Of.calls _ _ _ _ K1.out).mono ?_
  rintro e w1 ⟨rfl, hb⟩
  have B1 := Aside0.mk (hb.alloc hb.size (.cells #[.int .i64 mo] 23))
  have C1 : (w1.alloc (.cells #[.int .i64 mo] 23)).cell? ⟨w1.heap.size, 0, none⟩ = some (.int .i64 mo) := by simp [go_sem]
  have S1 : w1.heap.size < (w1.alloc (.cells #[.int .i64 mo] 23)).heap.size := by simp
  have CC1 := Aside0.mk C1
  clear hb C1
  go_wp2_with fail
  refine (divide_all i1.out i2.out _).mono ?_
  rintro e w2 ⟨rfl, hb⟩
  have C2 : w2.cell? ⟨w1.heap.size, 0, none⟩ = some (.int .i64 mo) := by rw [hb.cell (by exact S1)]; exact CC1.out
  have S2 : w1.heap.size < w2.heap.size := Nat.lt_of_lt_of_le S1 hb.size
  have B2 := Aside0.mk (below_step B1.out hb)
  clear hb S1 CC1 B1 S2
  obtain ⟨x1, hx1⟩ : ∃ z, (ratio mo a1 1 a2).1 = z := ⟨_, rfl⟩
  obtain ⟨f1, hf1⟩ : ∃ z, (ratio mo a1 1 a2).2 = z := ⟨_, rfl⟩
  rw [hx1, hf1]
  have X1 := Aside0.mk hx1
  have F1 := Aside0.mk hf1
  clear hx1 hf1
  go_wp2_with fail
  refine (ratio_all i3.out i4.out i2.out _).mono ?_
  rintro e w3 ⟨rfl, hb⟩
  have B3 := Aside0.mk (below_step B2.out hb)
  clear hb B2 C2
  obtain ⟨x2, hx2⟩ : ∃ z, (ratio mo a3 a4 a2).1 = z := ⟨_, rfl⟩
  obtain ⟨f2, hf2⟩ : ∃ z, (ratio mo a3 a4 a2).2 = z := ⟨_, rfl⟩
  rw [hx2, hf2]
  have X2 := Aside0.mk hx2
  have F2 := Aside0.mk hf2
  clear hx2 hf2
  go_wp2_with fail
  refine (PA.quittanceref01_Right.calls _ _ _ K2.out).mono ?_
  rintro e w4 ⟨rfl, ⟨n4, rfl⟩⟩
  rcases K3.out with ⟨rfl, h2, h3, h4, h5⟩ | ⟨rfl, h2, h3⟩
  · subst h2
    subst h3
    have R4 := Aside0.mk h4
    have R5 := Aside0.mk h5
    clear h4 h5 K1 K2 K3
    go_wp2_with fail
    refine (rratio_all R4.out R5.out i1.out (by decide) i2.out _).mono ?_
    rintro e w5 ⟨rfl, hb⟩
    rw [X1.out, F1.out]
    have B5 := Aside0.mk (below_step (pw_below_drewN B3.out n4) hb)
    clear hb
    go_wp2_with fail
    refine (rratio_all R4.out R5.out i3.out i4.out i2.out _).mono ?_
    rintro e w6 ⟨rfl, hb⟩
    rw [X2.out, F2.out]
    have B6 := Aside0.mk (below_step B5.out hb)
    clear hb
    go_wp2_with fail
    refine (awake_all _).mono ?_
    rintro e w7 ⟨rfl, hb⟩
    have B7 := Aside0.mk (below_step B6.out hb)
    clear hb
    go_wp2_with fail
    go_ret
    exact ⟨rfl, B7.out⟩
  · subst h2
    subst h3
    have e1 : x1 = 0 := by rw [← X1.out]; unfold ratio; rw [if_neg (fun h => h.1 rfl)]
    have e2 : f1 = 1 := by rw [← F1.out]; unfold ratio; rw [if_neg (fun h => h.1 rfl)]
    have e3 : x2 = 0 := by rw [← X2.out]; unfold ratio; rw [if_neg (fun h => h.1 rfl)]
    have e4 : f2 = 1 := by rw [← F2.out]; unfold ratio; rw [if_neg (fun h => h.1 rfl)]
    subst e1 e2 e3 e4
    clear X1 F1 X2 F2 K1 K2 K3
    go_wp2_with fail
    refine (awake_all _).mono ?_
    rintro e w7 ⟨rfl, hb⟩
    have B7 := Aside0.mk (below_step (pw_below_drewN B3.out n4) hb)
    clear hb
    go_wp2_with fail
    go_ret
    exact ⟨rfl, B7.out⟩
end Go.Proofs.Ytliapjhjofmliaa.H
