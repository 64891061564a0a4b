/- The law CivilOrder, walked. -/
import Derived.Test.YtaimfakcojdadaaDoorTs
namespace Go.Proofs.YtaimfakcojdadaaDoor.H
open Go.RowKit Go.Proofs.YtaimfakcojdadaaDoorW.PrintWords Go.Proofs.YtaimfakcojdadaaDoorW.PrintLast Go.Proofs.YtaimfakcojdadaaDoorW.PrintMore Go.Proofs.YtaimfakcojdadaaDoor.HW Go.Proofs.YtaimfakcojdadaaDoor.Ev
open Go.Proofs.YtaimfakcojdadaaDoor.Math
set_option linter.unusedVariables false
set_option linter.unusedSimpArgs false
set_option maxRecDepth 100000 in
set_option maxHeartbeats 8000000 in
theorem civilOrder_0 (x1 x2 : Int) (w : World) (HT : Aside0 (Tab w)) (n m : Int) (hn : isDay n) (hm : isDay m) (en : PA.quittancelaw03_day.f x1 = some n) (em : PA.quittancelaw03_day.f x2 = some m) (c : yearOf n < yearOf m) :
    Calls Tryd.prog 5 #[.int .i64 x1, .int .i64 x2] w fun e w' => e = .returned (.bool true) ∧ Below w.heap.size w w' := by
    have eL : decide (n < m) = true := by
      have h := less_days hn hm
      first | exact decide_eq_true (by omega) | exact decide_eq_false (by omega) | (rw [decide_eq_decide]; omega)
    have eS : Op.bytesLess (txt (textL n)).toList (txt (textL m)).toList = true := by
      rw [bytes_txt, bytes_txt, less_text hn hm]
      refine Eq.trans ?_ eL
      rw [Bool.eq_iff_iff]
      simp only [Bool.or_eq_true, Bool.and_eq_true, decide_eq_true_eq]
      exact less_days hn hm
    have YA := Aside0.mk (fun w => show Calls Tryd.prog 21 #[.int .i64 x1] w fun e w' => e = .returned (.int .i64 n) ∧ Below w.heap.size w w' from (PA.quittancelaw03_day.calls _ _ w en).mono fun _ _ h => ⟨h.1, drawn_below h.2⟩)
    have YB := Aside0.mk (fun w => show Calls Tryd.prog 21 #[.int .i64 x2] w fun e w' => e = .returned (.int .i64 m) ∧ Below w.heap.size w w' from (PA.quittancelaw03_day.calls _ _ w em).mono fun _ _ h => ⟨h.1, drawn_below h.2⟩)
    have D1 := Aside0.mk (fun w => date_day hn w)
    have D2 := Aside0.mk (fun w => date_day hm w)
    have X1 := Aside0.mk (fun w ht => text_day hn w ht)
    have X2 := Aside0.mk (fun w ht => text_day hm w ht)
    clear en em hn hm
    generalize txt (textL n) = ta at *
    generalize txt (textL m) = tb at *
    generalize yearOf n = Y at *
    generalize monthOf n = M at *
    generalize dayOf n = D at *
    generalize yearOf m = Y2 at *
    generalize monthOf m = M2 at *
    generalize dayOf m = D2x at *
    have k1 : decide (Y < Y2) = true := decide_eq_true c
    clear c
    have HB := Aside0.mk (Below.refl w.heap.size w)
    go_enter Tryd.func5, Tryd.ntmps5
    go_wp2_with (first
        | (go_at_call 21; first
          | ((with_reducible refine (YA.out _).mono ?_); rintro e w2 ⟨rfl, hb⟩; have HB := Aside0.mk (below_step HB.out hb); clear hb)
          | ((with_reducible refine (YB.out _).mono ?_); rintro e w2 ⟨rfl, hb⟩; have HB := Aside0.mk (below_step HB.out hb); clear hb))
        | (go_at_call 9; first
          | ((with_reducible refine (D1.out _).mono ?_); rintro e w2 ⟨rfl, hb⟩; have HB := Aside0.mk (below_step HB.out hb); clear hb)
          | ((with_reducible refine (D2.out _).mono ?_); rintro e w2 ⟨rfl, hb⟩; have HB := Aside0.mk (below_step HB.out hb); have G5 := Aside0.mk (blk_below G5.out hb); clear hb))
        | ((with_reducible refine gate_dst (N := 5) rfl ?_); refine copy_event rfl (N := 5) rfl rfl rfl (t := 23) (v := .tmp 21) rfl (cs := #[.int .i64 Y, .int .i64 M, .int .i64 D]) (zs := #[.int .i64 0, .int .i64 0, .int .i64 0]) ?hr rfl rfl info_date ?hz (date_one _ _ _) ?_; (case hr => first | (go_simp; done) | (go_simp; rfl)); (case hz => rfl); intro g5 hg w2 hb0 hb; clear hg; have G5 := Aside0.mk hb0; have HB := Aside0.mk (below_step HB.out hb); clear hb; clear hb0; obtain ⟨q0, q1, q2⟩ := date_cells G5.out)
        | ((with_reducible refine gate_dst (N := 7) rfl ?_); refine copy_event rfl (N := 7) rfl rfl rfl (t := 23) (v := .tmp 26) rfl (cs := #[.int .i64 Y2, .int .i64 M2, .int .i64 D2x]) (zs := #[.int .i64 0, .int .i64 0, .int .i64 0]) ?hr rfl rfl info_date ?hz (date_one _ _ _) ?_; (case hr => first | (go_simp; done) | (go_simp; rfl)); (case hz => rfl); intro g7 hg w2 hb0 hb; clear hg; have G7 := Aside0.mk hb0; have HB := Aside0.mk (below_step HB.out hb); have G5 := Aside0.mk (blk_below G5.out hb); clear hb; clear hb0; obtain ⟨p0, p1, p2⟩ := date_cells G7.out)
        | (go_at_call 11; first
          | ((with_reducible refine (X1.out _ (tab_below HT.out HB.out)).mono ?_); rintro e w2 ⟨rfl, hb⟩; have HB := Aside0.mk (below_step HB.out hb); have G5 := Aside0.mk (blk_below G5.out hb); have G7 := Aside0.mk (blk_below G7.out hb); clear hb; obtain ⟨q0, q1, q2⟩ := date_cells G5.out; obtain ⟨p0, p1, p2⟩ := date_cells G7.out)
          | ((with_reducible refine (X2.out _ (tab_below HT.out HB.out)).mono ?_); rintro e w2 ⟨rfl, hb⟩; have HB := Aside0.mk (below_step HB.out hb); have G5 := Aside0.mk (blk_below G5.out hb); have G7 := Aside0.mk (blk_below G7.out hb); clear hb; obtain ⟨q0, q1, q2⟩ := date_cells G5.out; obtain ⟨p0, p1, p2⟩ := date_cells G7.out))
        | (go_at_call 6; refine (law03_awake _).mono ?_; rintro e w2 ⟨rfl, hb⟩; have HB := Aside0.mk (below_step HB.out hb); clear hb))
    go_ret
    exact ⟨rfl, HB.out⟩
set_option maxRecDepth 100000 in
set_option maxHeartbeats 8000000 in
theorem civilOrder_1 (x1 x2 : Int) (w : World) (HT : Aside0 (Tab w)) (n m : Int) (hn : isDay n) (hm : isDay m) (en : PA.quittancelaw03_day.f x1 = some n) (em : PA.quittancelaw03_day.f x2 = some m) (c : yearOf m < yearOf n) :
    Calls Tryd.prog 5 #[.int .i64 x1, .int .i64 x2] w fun e w' => e = .returned (.bool true) ∧ Below w.heap.size w w' := by
    have eL : decide (n < m) = false := by
      have h := less_days hn hm
      first | exact decide_eq_true (by omega) | exact decide_eq_false (by omega) | (rw [decide_eq_decide]; omega)
    have eS : Op.bytesLess (txt (textL n)).toList (txt (textL m)).toList = false := by
      rw [bytes_txt, bytes_txt, less_text hn hm]
      refine Eq.trans ?_ eL
      rw [Bool.eq_iff_iff]
      simp only [Bool.or_eq_true, Bool.and_eq_true, decide_eq_true_eq]
      exact less_days hn hm
    have YA := Aside0.mk (fun w => show Calls Tryd.prog 21 #[.int .i64 x1] w fun e w' => e = .returned (.int .i64 n) ∧ Below w.heap.size w w' from (PA.quittancelaw03_day.calls _ _ w en).mono fun _ _ h => ⟨h.1, drawn_below h.2⟩)
    have YB := Aside0.mk (fun w => show Calls Tryd.prog 21 #[.int .i64 x2] w fun e w' => e = .returned (.int .i64 m) ∧ Below w.heap.size w w' from (PA.quittancelaw03_day.calls _ _ w em).mono fun _ _ h => ⟨h.1, drawn_below h.2⟩)
    have D1 := Aside0.mk (fun w => date_day hn w)
    have D2 := Aside0.mk (fun w => date_day hm w)
    have X1 := Aside0.mk (fun w ht => text_day hn w ht)
    have X2 := Aside0.mk (fun w ht => text_day hm w ht)
    clear en em hn hm
    generalize txt (textL n) = ta at *
    generalize txt (textL m) = tb at *
    generalize yearOf n = Y at *
    generalize monthOf n = M at *
    generalize dayOf n = D at *
    generalize yearOf m = Y2 at *
    generalize monthOf m = M2 at *
    generalize dayOf m = D2x at *
    have k1 : decide (Y < Y2) = false := decide_eq_false (by omega)
    have k2 : (Y == Y2) = false := by simp; omega
    clear c
    have HB := Aside0.mk (Below.refl w.heap.size w)
    go_enter Tryd.func5, Tryd.ntmps5
    go_wp2_with (first
        | (go_at_call 21; first
          | ((with_reducible refine (YA.out _).mono ?_); rintro e w2 ⟨rfl, hb⟩; have HB := Aside0.mk (below_step HB.out hb); clear hb)
          | ((with_reducible refine (YB.out _).mono ?_); rintro e w2 ⟨rfl, hb⟩; have HB := Aside0.mk (below_step HB.out hb); clear hb))
        | (go_at_call 9; first
          | ((with_reducible refine (D1.out _).mono ?_); rintro e w2 ⟨rfl, hb⟩; have HB := Aside0.mk (below_step HB.out hb); clear hb)
          | ((with_reducible refine (D2.out _).mono ?_); rintro e w2 ⟨rfl, hb⟩; have HB := Aside0.mk (below_step HB.out hb); have G5 := Aside0.mk (blk_below G5.out hb); clear hb))
        | ((with_reducible refine gate_dst (N := 5) rfl ?_); refine copy_event rfl (N := 5) rfl rfl rfl (t := 23) (v := .tmp 21) rfl (cs := #[.int .i64 Y, .int .i64 M, .int .i64 D]) (zs := #[.int .i64 0, .int .i64 0, .int .i64 0]) ?hr rfl rfl info_date ?hz (date_one _ _ _) ?_; (case hr => first | (go_simp; done) | (go_simp; rfl)); (case hz => rfl); intro g5 hg w2 hb0 hb; clear hg; have G5 := Aside0.mk hb0; have HB := Aside0.mk (below_step HB.out hb); clear hb; clear hb0; obtain ⟨q0, q1, q2⟩ := date_cells G5.out)
        | ((with_reducible refine gate_dst (N := 7) rfl ?_); refine copy_event rfl (N := 7) rfl rfl rfl (t := 23) (v := .tmp 26) rfl (cs := #[.int .i64 Y2, .int .i64 M2, .int .i64 D2x]) (zs := #[.int .i64 0, .int .i64 0, .int .i64 0]) ?hr rfl rfl info_date ?hz (date_one _ _ _) ?_; (case hr => first | (go_simp; done) | (go_simp; rfl)); (case hz => rfl); intro g7 hg w2 hb0 hb; clear hg; have G7 := Aside0.mk hb0; have HB := Aside0.mk (below_step HB.out hb); have G5 := Aside0.mk (blk_below G5.out hb); clear hb; clear hb0; obtain ⟨p0, p1, p2⟩ := date_cells G7.out)
        | (go_at_call 11; first
          | ((with_reducible refine (X1.out _ (tab_below HT.out HB.out)).mono ?_); rintro e w2 ⟨rfl, hb⟩; have HB := Aside0.mk (below_step HB.out hb); have G5 := Aside0.mk (blk_below G5.out hb); have G7 := Aside0.mk (blk_below G7.out hb); clear hb; obtain ⟨q0, q1, q2⟩ := date_cells G5.out; obtain ⟨p0, p1, p2⟩ := date_cells G7.out)
          | ((with_reducible refine (X2.out _ (tab_below HT.out HB.out)).mono ?_); rintro e w2 ⟨rfl, hb⟩; have HB := Aside0.mk (below_step HB.out hb); have G5 := Aside0.mk (blk_below G5.out hb); have G7 := Aside0.mk (blk_below G7.out hb); clear hb; obtain ⟨q0, q1, q2⟩ := date_cells G5.out; obtain ⟨p0, p1, p2⟩ := date_cells G7.out))
        | (go_at_call 6; refine (law03_awake _).mono ?_; rintro e w2 ⟨rfl, hb⟩; have HB := Aside0.mk (below_step HB.out hb); clear hb))
    go_ret
    exact ⟨rfl, HB.out⟩
set_option maxRecDepth 100000 in
set_option maxHeartbeats 8000000 in
theorem civilOrder_2 (x1 x2 : Int) (w : World) (HT : Aside0 (Tab w)) (n m : Int) (hn : isDay n) (hm : isDay m) (en : PA.quittancelaw03_day.f x1 = some n) (em : PA.quittancelaw03_day.f x2 = some m) (e : yearOf n = yearOf m) (c : monthOf n < monthOf m) :
    Calls Tryd.prog 5 #[.int .i64 x1, .int .i64 x2] w fun e w' => e = .returned (.bool true) ∧ Below w.heap.size w w' := by
    have eL : decide (n < m) = true := by
      have h := less_days hn hm
      first | exact decide_eq_true (by omega) | exact decide_eq_false (by omega) | (rw [decide_eq_decide]; omega)
    have eS : Op.bytesLess (txt (textL n)).toList (txt (textL m)).toList = true := by
      rw [bytes_txt, bytes_txt, less_text hn hm]
      refine Eq.trans ?_ eL
      rw [Bool.eq_iff_iff]
      simp only [Bool.or_eq_true, Bool.and_eq_true, decide_eq_true_eq]
      exact less_days hn hm
    have YA := Aside0.mk (fun w => show Calls Tryd.prog 21 #[.int .i64 x1] w fun e w' => e = .returned (.int .i64 n) ∧ Below w.heap.size w w' from (PA.quittancelaw03_day.calls _ _ w en).mono fun _ _ h => ⟨h.1, drawn_below h.2⟩)
    have YB := Aside0.mk (fun w => show Calls Tryd.prog 21 #[.int .i64 x2] w fun e w' => e = .returned (.int .i64 m) ∧ Below w.heap.size w w' from (PA.quittancelaw03_day.calls _ _ w em).mono fun _ _ h => ⟨h.1, drawn_below h.2⟩)
    have D1 := Aside0.mk (fun w => date_day hn w)
    have D2 := Aside0.mk (fun w => date_day hm w)
    have X1 := Aside0.mk (fun w ht => text_day hn w ht)
    have X2 := Aside0.mk (fun w ht => text_day hm w ht)
    clear en em hn hm
    generalize txt (textL n) = ta at *
    generalize txt (textL m) = tb at *
    generalize yearOf n = Y at *
    generalize monthOf n = M at *
    generalize dayOf n = D at *
    generalize yearOf m = Y2 at *
    generalize monthOf m = M2 at *
    generalize dayOf m = D2x at *
    obtain rfl := e
    have k1 : decide (Y < Y) = false := decide_eq_false (by omega)
    have k3 : decide (M < M2) = true := decide_eq_true c
    clear c
    have HB := Aside0.mk (Below.refl w.heap.size w)
    go_enter Tryd.func5, Tryd.ntmps5
    go_wp2_with (first
        | (go_at_call 21; first
          | ((with_reducible refine (YA.out _).mono ?_); rintro e w2 ⟨rfl, hb⟩; have HB := Aside0.mk (below_step HB.out hb); clear hb)
          | ((with_reducible refine (YB.out _).mono ?_); rintro e w2 ⟨rfl, hb⟩; have HB := Aside0.mk (below_step HB.out hb); clear hb))
        | (go_at_call 9; first
          | ((with_reducible refine (D1.out _).mono ?_); rintro e w2 ⟨rfl, hb⟩; have HB := Aside0.mk (below_step HB.out hb); clear hb)
          | ((with_reducible refine (D2.out _).mono ?_); rintro e w2 ⟨rfl, hb⟩; have HB := Aside0.mk (below_step HB.out hb); have G5 := Aside0.mk (blk_below G5.out hb); clear hb))
        | ((with_reducible refine gate_dst (N := 5) rfl ?_); refine copy_event rfl (N := 5) rfl rfl rfl (t := 23) (v := .tmp 21) rfl (cs := #[.int .i64 Y, .int .i64 M, .int .i64 D]) (zs := #[.int .i64 0, .int .i64 0, .int .i64 0]) ?hr rfl rfl info_date ?hz (date_one _ _ _) ?_; (case hr => first | (go_simp; done) | (go_simp; rfl)); (case hz => rfl); intro g5 hg w2 hb0 hb; clear hg; have G5 := Aside0.mk hb0; have HB := Aside0.mk (below_step HB.out hb); clear hb; clear hb0; obtain ⟨q0, q1, q2⟩ := date_cells G5.out)
        | ((with_reducible refine gate_dst (N := 7) rfl ?_); refine copy_event rfl (N := 7) rfl rfl rfl (t := 23) (v := .tmp 26) rfl (cs := #[.int .i64 Y, .int .i64 M2, .int .i64 D2x]) (zs := #[.int .i64 0, .int .i64 0, .int .i64 0]) ?hr rfl rfl info_date ?hz (date_one _ _ _) ?_; (case hr => first | (go_simp; done) | (go_simp; rfl)); (case hz => rfl); intro g7 hg w2 hb0 hb; clear hg; have G7 := Aside0.mk hb0; have HB := Aside0.mk (below_step HB.out hb); have G5 := Aside0.mk (blk_below G5.out hb); clear hb; clear hb0; obtain ⟨p0, p1, p2⟩ := date_cells G7.out)
        | (go_at_call 11; first
          | ((with_reducible refine (X1.out _ (tab_below HT.out HB.out)).mono ?_); rintro e w2 ⟨rfl, hb⟩; have HB := Aside0.mk (below_step HB.out hb); have G5 := Aside0.mk (blk_below G5.out hb); have G7 := Aside0.mk (blk_below G7.out hb); clear hb; obtain ⟨q0, q1, q2⟩ := date_cells G5.out; obtain ⟨p0, p1, p2⟩ := date_cells G7.out)
          | ((with_reducible refine (X2.out _ (tab_below HT.out HB.out)).mono ?_); rintro e w2 ⟨rfl, hb⟩; have HB := Aside0.mk (below_step HB.out hb); have G5 := Aside0.mk (blk_below G5.out hb); have G7 := Aside0.mk (blk_below G7.out hb); clear hb; obtain ⟨q0, q1, q2⟩ := date_cells G5.out; obtain ⟨p0, p1, p2⟩ := date_cells G7.out))
        | (go_at_call 6; refine (law03_awake _).mono ?_; rintro e w2 ⟨rfl, hb⟩; have HB := Aside0.mk (below_step HB.out hb); clear hb))
    go_ret
    exact ⟨rfl, HB.out⟩
set_option maxRecDepth 100000 in
set_option maxHeartbeats 8000000 in
theorem civilOrder_3 (x1 x2 : Int) (w : World) (HT : Aside0 (Tab w)) (n m : Int) (hn : isDay n) (hm : isDay m) (en : PA.quittancelaw03_day.f x1 = some n) (em : PA.quittancelaw03_day.f x2 = some m) (e : yearOf n = yearOf m) (c : monthOf m < monthOf n) :
    Calls Tryd.prog 5 #[.int .i64 x1, .int .i64 x2] w fun e w' => e = .returned (.bool true) ∧ Below w.heap.size w w' := by
    have eL : decide (n < m) = false := by
      have h := less_days hn hm
      first | exact decide_eq_true (by omega) | exact decide_eq_false (by omega) | (rw [decide_eq_decide]; omega)
    have eS : Op.bytesLess (txt (textL n)).toList (txt (textL m)).toList = false := by
      rw [bytes_txt, bytes_txt, less_text hn hm]
      refine Eq.trans ?_ eL
      rw [Bool.eq_iff_iff]
      simp only [Bool.or_eq_true, Bool.and_eq_true, decide_eq_true_eq]
      exact less_days hn hm
    have YA := Aside0.mk (fun w => show Calls Tryd.prog 21 #[.int .i64 x1] w fun e w' => e = .returned (.int .i64 n) ∧ Below w.heap.size w w' from (PA.quittancelaw03_day.calls _ _ w en).mono fun _ _ h => ⟨h.1, drawn_below h.2⟩)
    have YB := Aside0.mk (fun w => show Calls Tryd.prog 21 #[.int .i64 x2] w fun e w' => e = .returned (.int .i64 m) ∧ Below w.heap.size w w' from (PA.quittancelaw03_day.calls _ _ w em).mono fun _ _ h => ⟨h.1, drawn_below h.2⟩)
    have D1 := Aside0.mk (fun w => date_day hn w)
    have D2 := Aside0.mk (fun w => date_day hm w)
    have X1 := Aside0.mk (fun w ht => text_day hn w ht)
    have X2 := Aside0.mk (fun w ht => text_day hm w ht)
    clear en em hn hm
    generalize txt (textL n) = ta at *
    generalize txt (textL m) = tb at *
    generalize yearOf n = Y at *
    generalize monthOf n = M at *
    generalize dayOf n = D at *
    generalize yearOf m = Y2 at *
    generalize monthOf m = M2 at *
    generalize dayOf m = D2x at *
    obtain rfl := e
    have k1 : decide (Y < Y) = false := decide_eq_false (by omega)
    have k3 : decide (M < M2) = false := decide_eq_false (by omega)
    have k4 : (M == M2) = false := by simp; omega
    clear c
    have HB := Aside0.mk (Below.refl w.heap.size w)
    go_enter Tryd.func5, Tryd.ntmps5
    go_wp2_with (first
        | (go_at_call 21; first
          | ((with_reducible refine (YA.out _).mono ?_); rintro e w2 ⟨rfl, hb⟩; have HB := Aside0.mk (below_step HB.out hb); clear hb)
          | ((with_reducible refine (YB.out _).mono ?_); rintro e w2 ⟨rfl, hb⟩; have HB := Aside0.mk (below_step HB.out hb); clear hb))
        | (go_at_call 9; first
          | ((with_reducible refine (D1.out _).mono ?_); rintro e w2 ⟨rfl, hb⟩; have HB := Aside0.mk (below_step HB.out hb); clear hb)
          | ((with_reducible refine (D2.out _).mono ?_); rintro e w2 ⟨rfl, hb⟩; have HB := Aside0.mk (below_step HB.out hb); have G5 := Aside0.mk (blk_below G5.out hb); clear hb))
        | ((with_reducible refine gate_dst (N := 5) rfl ?_); refine copy_event rfl (N := 5) rfl rfl rfl (t := 23) (v := .tmp 21) rfl (cs := #[.int .i64 Y, .int .i64 M, .int .i64 D]) (zs := #[.int .i64 0, .int .i64 0, .int .i64 0]) ?hr rfl rfl info_date ?hz (date_one _ _ _) ?_; (case hr => first | (go_simp; done) | (go_simp; rfl)); (case hz => rfl); intro g5 hg w2 hb0 hb; clear hg; have G5 := Aside0.mk hb0; have HB := Aside0.mk (below_step HB.out hb); clear hb; clear hb0; obtain ⟨q0, q1, q2⟩ := date_cells G5.out)
        | ((with_reducible refine gate_dst (N := 7) rfl ?_); refine copy_event rfl (N := 7) rfl rfl rfl (t := 23) (v := .tmp 26) rfl (cs := #[.int .i64 Y, .int .i64 M2, .int .i64 D2x]) (zs := #[.int .i64 0, .int .i64 0, .int .i64 0]) ?hr rfl rfl info_date ?hz (date_one _ _ _) ?_; (case hr => first | (go_simp; done) | (go_simp; rfl)); (case hz => rfl); intro g7 hg w2 hb0 hb; clear hg; have G7 := Aside0.mk hb0; have HB := Aside0.mk (below_step HB.out hb); have G5 := Aside0.mk (blk_below G5.out hb); clear hb; clear hb0; obtain ⟨p0, p1, p2⟩ := date_cells G7.out)
        | (go_at_call 11; first
          | ((with_reducible refine (X1.out _ (tab_below HT.out HB.out)).mono ?_); rintro e w2 ⟨rfl, hb⟩; have HB := Aside0.mk (below_step HB.out hb); have G5 := Aside0.mk (blk_below G5.out hb); have G7 := Aside0.mk (blk_below G7.out hb); clear hb; obtain ⟨q0, q1, q2⟩ := date_cells G5.out; obtain ⟨p0, p1, p2⟩ := date_cells G7.out)
          | ((with_reducible refine (X2.out _ (tab_below HT.out HB.out)).mono ?_); rintro e w2 ⟨rfl, hb⟩; have HB := Aside0.mk (below_step HB.out hb); have G5 := Aside0.mk (blk_below G5.out hb); have G7 := Aside0.mk (blk_below G7.out hb); clear hb; obtain ⟨q0, q1, q2⟩ := date_cells G5.out; obtain ⟨p0, p1, p2⟩ := date_cells G7.out))
        | (go_at_call 6; refine (law03_awake _).mono ?_; rintro e w2 ⟨rfl, hb⟩; have HB := Aside0.mk (below_step HB.out hb); clear hb))
    go_ret
    exact ⟨rfl, HB.out⟩
set_option maxRecDepth 100000 in
set_option maxHeartbeats 8000000 in
theorem civilOrder_4 (x1 x2 : Int) (w : World) (HT : Aside0 (Tab w)) (n m : Int) (hn : isDay n) (hm : isDay m) (en : PA.quittancelaw03_day.f x1 = some n) (em : PA.quittancelaw03_day.f x2 = some m) (e : yearOf n = yearOf m) (c : monthOf n = monthOf m) :
    Calls Tryd.prog 5 #[.int .i64 x1, .int .i64 x2] w fun e w' => e = .returned (.bool true) ∧ Below w.heap.size w w' := by
    have eL : decide (n < m) = decide (dayOf n < dayOf m) := by
      have h := less_days hn hm
      first | exact decide_eq_true (by omega) | exact decide_eq_false (by omega) | (rw [decide_eq_decide]; omega)
    have eS : Op.bytesLess (txt (textL n)).toList (txt (textL m)).toList = decide (dayOf n < dayOf m) := by
      rw [bytes_txt, bytes_txt, less_text hn hm]
      refine Eq.trans ?_ eL
      rw [Bool.eq_iff_iff]
      simp only [Bool.or_eq_true, Bool.and_eq_true, decide_eq_true_eq]
      exact less_days hn hm
    have YA := Aside0.mk (fun w => show Calls Tryd.prog 21 #[.int .i64 x1] w fun e w' => e = .returned (.int .i64 n) ∧ Below w.heap.size w w' from (PA.quittancelaw03_day.calls _ _ w en).mono fun _ _ h => ⟨h.1, drawn_below h.2⟩)
    have YB := Aside0.mk (fun w => show Calls Tryd.prog 21 #[.int .i64 x2] w fun e w' => e = .returned (.int .i64 m) ∧ Below w.heap.size w w' from (PA.quittancelaw03_day.calls _ _ w em).mono fun _ _ h => ⟨h.1, drawn_below h.2⟩)
    have D1 := Aside0.mk (fun w => date_day hn w)
    have D2 := Aside0.mk (fun w => date_day hm w)
    have X1 := Aside0.mk (fun w ht => text_day hn w ht)
    have X2 := Aside0.mk (fun w ht => text_day hm w ht)
    clear en em hn hm
    generalize txt (textL n) = ta at *
    generalize txt (textL m) = tb at *
    generalize yearOf n = Y at *
    generalize monthOf n = M at *
    generalize dayOf n = D at *
    generalize yearOf m = Y2 at *
    generalize monthOf m = M2 at *
    generalize dayOf m = D2x at *
    obtain rfl := e
    obtain rfl := c
    have k1 : decide (Y < Y) = false := decide_eq_false (by omega)
    have k3 : decide (M < M) = false := decide_eq_false (by omega)
    have HB := Aside0.mk (Below.refl w.heap.size w)
    go_enter Tryd.func5, Tryd.ntmps5
    go_wp2_with (first
        | (go_at_call 21; first
          | ((with_reducible refine (YA.out _).mono ?_); rintro e w2 ⟨rfl, hb⟩; have HB := Aside0.mk (below_step HB.out hb); clear hb)
          | ((with_reducible refine (YB.out _).mono ?_); rintro e w2 ⟨rfl, hb⟩; have HB := Aside0.mk (below_step HB.out hb); clear hb))
        | (go_at_call 9; first
          | ((with_reducible refine (D1.out _).mono ?_); rintro e w2 ⟨rfl, hb⟩; have HB := Aside0.mk (below_step HB.out hb); clear hb)
          | ((with_reducible refine (D2.out _).mono ?_); rintro e w2 ⟨rfl, hb⟩; have HB := Aside0.mk (below_step HB.out hb); have G5 := Aside0.mk (blk_below G5.out hb); clear hb))
        | ((with_reducible refine gate_dst (N := 5) rfl ?_); refine copy_event rfl (N := 5) rfl rfl rfl (t := 23) (v := .tmp 21) rfl (cs := #[.int .i64 Y, .int .i64 M, .int .i64 D]) (zs := #[.int .i64 0, .int .i64 0, .int .i64 0]) ?hr rfl rfl info_date ?hz (date_one _ _ _) ?_; (case hr => first | (go_simp; done) | (go_simp; rfl)); (case hz => rfl); intro g5 hg w2 hb0 hb; clear hg; have G5 := Aside0.mk hb0; have HB := Aside0.mk (below_step HB.out hb); clear hb; clear hb0; obtain ⟨q0, q1, q2⟩ := date_cells G5.out)
        | ((with_reducible refine gate_dst (N := 7) rfl ?_); refine copy_event rfl (N := 7) rfl rfl rfl (t := 23) (v := .tmp 26) rfl (cs := #[.int .i64 Y, .int .i64 M, .int .i64 D2x]) (zs := #[.int .i64 0, .int .i64 0, .int .i64 0]) ?hr rfl rfl info_date ?hz (date_one _ _ _) ?_; (case hr => first | (go_simp; done) | (go_simp; rfl)); (case hz => rfl); intro g7 hg w2 hb0 hb; clear hg; have G7 := Aside0.mk hb0; have HB := Aside0.mk (below_step HB.out hb); have G5 := Aside0.mk (blk_below G5.out hb); clear hb; clear hb0; obtain ⟨p0, p1, p2⟩ := date_cells G7.out)
        | (go_at_call 11; first
          | ((with_reducible refine (X1.out _ (tab_below HT.out HB.out)).mono ?_); rintro e w2 ⟨rfl, hb⟩; have HB := Aside0.mk (below_step HB.out hb); have G5 := Aside0.mk (blk_below G5.out hb); have G7 := Aside0.mk (blk_below G7.out hb); clear hb; obtain ⟨q0, q1, q2⟩ := date_cells G5.out; obtain ⟨p0, p1, p2⟩ := date_cells G7.out)
          | ((with_reducible refine (X2.out _ (tab_below HT.out HB.out)).mono ?_); rintro e w2 ⟨rfl, hb⟩; have HB := Aside0.mk (below_step HB.out hb); have G5 := Aside0.mk (blk_below G5.out hb); have G7 := Aside0.mk (blk_below G7.out hb); clear hb; obtain ⟨q0, q1, q2⟩ := date_cells G5.out; obtain ⟨p0, p1, p2⟩ := date_cells G7.out))
        | (go_at_call 6; refine (law03_awake _).mono ?_; rintro e w2 ⟨rfl, hb⟩; have HB := Aside0.mk (below_step HB.out hb); clear hb))
    go_ret
    exact ⟨rfl, HB.out⟩
theorem civilOrder_walk (x1 x2 : Int) (w : World) (w1 : (Lit.int .i64 x1).wf = true) (w2 : (Lit.int .i64 x2).wf = true) (hT : Tab w) :
    Calls Tryd.prog 5 #[.int .i64 x1, .int .i64 x2] w fun e w' => e = .returned (.bool true) ∧ Below w.heap.size w w' := by
  obtain ⟨n, hn, en⟩ := law03_day x1
  obtain ⟨m, hm, em⟩ := law03_day x2
  rcases Int.lt_trichotomy (yearOf n) (yearOf m) with c | e | c
  · exact civilOrder_0 x1 x2 w ⟨hT⟩ n m hn hm en em c
  · rcases Int.lt_trichotomy (monthOf n) (monthOf m) with c | c | c
    · exact civilOrder_2 x1 x2 w ⟨hT⟩ n m hn hm en em e c
    · exact civilOrder_4 x1 x2 w ⟨hT⟩ n m hn hm en em e c
    · exact civilOrder_3 x1 x2 w ⟨hT⟩ n m hn hm en em e c
  · exact civilOrder_1 x1 x2 w ⟨hT⟩ n m hn hm en em c
end Go.Proofs.YtaimfakcojdadaaDoor.H
