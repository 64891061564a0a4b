/- The law CivilBack, walked: parts. -/
import Derived.Test.YtaimfakcojdadaaDoorTn
namespace Go.Proofs.YtaimfakcojdadaaDoor.H
open Go.RowKit Go.Proofs.YtaimfakcojdadaaDoorW.PrintWords Go.Proofs.YtaimfakcojdadaaDoorW.PrintLast Go.Proofs.YtaimfakcojdadaaDoorW.PrintMore Go.Proofs.YtaimfakcojdadaaDoor.HW Go.Proofs.YtaimfakcojdadaaDoor.Ev
open Go.Proofs.YtaimfakcojdadaaDoor.Math
set_option linter.unusedVariables false
set_option linter.unusedSimpArgs false
set_option maxRecDepth 100000 in
set_option maxHeartbeats 8000000 in
theorem civilBack_10 (x y m d : Int) (s : ByteArray) (w : World) (HT : Aside0 (Tab w)) (hs : ¬ 100 < s.size) (n : Int) (hn : isDay n) (en : PA.quittancelaw03_day.f x = some n) (N i z1 z2 z3 j v o p : Int) (u : ByteArray) (eN : number y m d = (N, i)) (eD : date N = (z1, z2, z3, j)) (eT : takeP s.data.toList = (v, o)) (eX : textP v = (u, p)) (hA : i = 0 ∧ j = 0 ∧ z1 = y ∧ z2 = m ∧ z3 = d) (hB : o ≠ 0) :
    Calls Tryd.prog 4 #[.int .i64 x, .agg #[.int .i64 y, .int .i64 m, .int .i64 d], .string s] w fun e w' => e = .returned (.bool true) ∧ Below w.heap.size w w' := by
    have ht : decide ((100 : Int) < (s.size : Int)) = false := decide_eq_false (by omega)
    clear hs
    have N1 := Aside0.mk (fun w => civil_Number.calls _ _ _ _ _ w (by unfold civil_Number.f; rw [number_date hn]))
    have N2 := Aside0.mk (fun w => civil_Number.calls y m d N i w (by unfold civil_Number.f; rw [eN]))
    have D1 := Aside0.mk (fun w => date_day hn w)
    have D2 := Aside0.mk (fun w => civil_Date.calls N z1 z2 z3 j w (by unfold civil_Date.f; rw [eD]))
    have X1 := Aside0.mk (fun w ht => text_day hn w ht)
    have K1 := Aside0.mk (fun w => show Calls Tryd.prog 13 #[.string (txt (textL n))] w fun e w' => e = .returned (.tuple #[.int .i64 n, .int .i64 0]) ∧ Below w.heap.size w w' by have h := civil_take_any (txt (textL n)) w; rw [show (txt (textL n)).data.toList = textL n by simp [txt], takeP_text hn] at h; exact h)
    have K2 := Aside0.mk (fun w => show Calls Tryd.prog 13 #[.string s] w fun e w' => e = .returned (.tuple #[.int .i64 v, .int .i64 o]) ∧ Below w.heap.size w w' by have h := civil_take_any s w; rw [eT] at h; exact h)
    have X2 := Aside0.mk (fun w ht => show Calls Tryd.prog 11 #[.int .i64 v] w fun e w' => e = .returned (.tuple #[.string u, .int .i64 p]) ∧ Below w.heap.size w w' by have h := text_any v w ht; rw [eX] at h; exact h)
    have DY := Aside0.mk (fun w => show Calls Tryd.prog 21 #[.int .i64 x] w fun e w' => e = .returned (.int .i64 n) ∧ Below w.heap.size w w' from (PA.quittancelaw03_day.calls _ _ w en).mono fun _ _ h => ⟨h.1, drawn_below h.2⟩)
    clear eN eD eT eX en hn
    generalize txt (textL n) = tx at *
    generalize yearOf n = Y at *
    generalize monthOf n = M at *
    generalize dayOf n = D at *
    obtain ⟨rfl, rfl, h1, h2, h3⟩ := hA
    obtain rfl := h1.symm
    obtain rfl := h2.symm
    obtain rfl := h3.symm
    clear h1 h2 h3
    have ho : (o != 0) = true := by simpa using hB
    clear hB
    go_enter Tryd.func4, Tryd.ntmps4
    go_wp2_with ((with_reducible refine gate_dst (N := 4) rfl ?_); refine box_event ?hg (N := 4) ?hd (cs := #[.int .i64 y, .int .i64 m, .int .i64 d]) (t := 23) ?hr ?_; (case hd => rfl); (case hg => rfl); (case hr => first | (go_simp; done) | (go_simp; rfl)); intro g4 hg w1 hb1 hbl1; clear hg; have G4 := Aside0.mk hb1; have HB := Aside0.mk hbl1; clear hbl1 hb1; refine Hid.out ?_)
    refine Lib.hid ?_
    go_wp2_with (first
        | (go_at_call 21; refine (DY.out _).mono ?_; rintro e w2 ⟨rfl, hb⟩; have HB := Aside0.mk (below_step HB.out hb); have G4 := Aside0.mk (blk_below G4.out hb); clear hb)
        | (go_at_call 9; first
          | ((with_reducible refine (D1.out _).mono ?_); rintro e w2 ⟨rfl, hb⟩; have HB := Aside0.mk (below_step HB.out hb); have G4 := Aside0.mk (blk_below G4.out hb); clear hb)
          | ((with_reducible refine (D2.out _).mono ?_); rintro e w2 ⟨rfl, hb⟩; have HB := Aside0.mk (below_step HB.out hb); have G4 := Aside0.mk (blk_below G4.out hb); have G7 := Aside0.mk (blk_below G7.out hb); clear hb))
        | ((with_reducible refine gate_dst (N := 7) rfl ?_); refine copy_event rfl (N := 7) rfl rfl rfl (t := 23) (v := .tmp 32) rfl (cs := #[.int .i64 Y, .int .i64 M, .int .i64 D]) (zs := #[.int .i64 0, .int .i64 0, .int .i64 0]) ?hr rfl rfl info_date ?hz (date_one _ _ _) ?_; (case hr => first | (go_simp; done) | (go_simp; rfl)); (case hz => rfl); intro g7 hg w2 hb0 hb; clear hg; have G7 := Aside0.mk hb0; have HB := Aside0.mk (below_step HB.out hb); have G4 := Aside0.mk (blk_below G4.out hb); clear hb; clear hb0; obtain ⟨q0, q1, q2⟩ := date_cells G4.out; obtain ⟨p0, p1, p2⟩ := date_cells G7.out)
        | ((with_reducible refine gate_dst (N := 17) rfl ?_); refine copy_event rfl (N := 17) rfl rfl rfl (t := 23) (v := .tmp 57) rfl (cs := #[.int .i64 y, .int .i64 m, .int .i64 d]) (zs := #[.int .i64 0, .int .i64 0, .int .i64 0]) ?hr rfl rfl info_date ?hz (date_one _ _ _) ?_; (case hr => first | (go_simp; done) | (go_simp; rfl)); (case hz => rfl); intro g17 hg w2 hb0 hb; clear hg; have G17 := Aside0.mk hb0; have HB := Aside0.mk (below_step HB.out hb); have G4 := Aside0.mk (blk_below G4.out hb); have G7 := Aside0.mk (blk_below G7.out hb); clear hb; clear hb0; obtain ⟨u0, u1, u2⟩ := date_cells G17.out)
        | (go_at_call 7; first
          | ((with_reducible refine (N1.out _).mono ?_); rintro e w2 ⟨rfl, hb⟩; have HB := Aside0.mk (below_step HB.out hb); have G4 := Aside0.mk (blk_below G4.out hb); have G7 := Aside0.mk (blk_below G7.out hb); clear hb; obtain ⟨q0, q1, q2⟩ := date_cells G4.out)
          | ((with_reducible refine (N2.out _).mono ?_); rintro e w2 ⟨rfl, hb⟩; have HB := Aside0.mk (below_step HB.out hb); have G4 := Aside0.mk (blk_below G4.out hb); have G7 := Aside0.mk (blk_below G7.out hb); clear hb; obtain ⟨q0, q1, q2⟩ := date_cells G4.out))
        | (go_at_call 11; first
          | ((with_reducible refine (X1.out _ (tab_below HT.out HB.out)).mono ?_); rintro e w2 ⟨rfl, hb⟩; have HB := Aside0.mk (below_step HB.out hb); have G4 := Aside0.mk (blk_below G4.out hb); have G7 := Aside0.mk (blk_below G7.out hb); clear hb; obtain ⟨q0, q1, q2⟩ := date_cells G4.out)
          | ((with_reducible refine (X2.out _ (tab_below HT.out HB.out)).mono ?_); rintro e w2 ⟨rfl, hb⟩; have HB := Aside0.mk (below_step HB.out hb); have G4 := Aside0.mk (blk_below G4.out hb); have G7 := Aside0.mk (blk_below G7.out hb); have G17 := Aside0.mk (blk_below G17.out hb); clear hb; obtain ⟨q0, q1, q2⟩ := date_cells G4.out))
        | (go_at_call 13; first
          | ((with_reducible refine (K1.out _).mono ?_); rintro e w2 ⟨rfl, hb⟩; have HB := Aside0.mk (below_step HB.out hb); have G4 := Aside0.mk (blk_below G4.out hb); have G7 := Aside0.mk (blk_below G7.out hb); clear hb; obtain ⟨q0, q1, q2⟩ := date_cells G4.out)
          | ((with_reducible refine (K2.out _).mono ?_); rintro e w2 ⟨rfl, hb⟩; have HB := Aside0.mk (below_step HB.out hb); have G4 := Aside0.mk (blk_below G4.out hb); have G7 := Aside0.mk (blk_below G7.out hb); have G17 := Aside0.mk (blk_below G17.out hb); clear hb; obtain ⟨q0, q1, q2⟩ := date_cells G4.out))
        | (go_at_call 6; refine (law03_awake _).mono ?_; rintro e w2 ⟨rfl, hb⟩; have HB := Aside0.mk (below_step HB.out hb); have G4 := Aside0.mk (blk_below G4.out hb); have G7 := Aside0.mk (blk_below G7.out hb); have G17 := Aside0.mk (blk_below G17.out hb); clear hb; obtain ⟨q0, q1, q2⟩ := date_cells G4.out; obtain ⟨p0, p1, p2⟩ := date_cells G7.out; obtain ⟨u0, u1, u2⟩ := date_cells G17.out))
    go_ret
    exact ⟨rfl, HB.out⟩
set_option maxRecDepth 100000 in
set_option maxHeartbeats 8000000 in
theorem civilBack_11 (x y m d : Int) (s : ByteArray) (w : World) (HT : Aside0 (Tab w)) (hs : ¬ 100 < s.size) (n : Int) (hn : isDay n) (en : PA.quittancelaw03_day.f x = some n) (N i z1 z2 z3 j v o p : Int) (u : ByteArray) (eN : number y m d = (N, i)) (eD : date N = (z1, z2, z3, j)) (eT : takeP s.data.toList = (v, o)) (eX : textP v = (u, p)) (hA : i = 0 ∧ j = 0 ∧ z1 = y ∧ z2 = m ∧ z3 = d) (hB : o = 0 ∧ p = 0 ∧ u = s) :
    Calls Tryd.prog 4 #[.int .i64 x, .agg #[.int .i64 y, .int .i64 m, .int .i64 d], .string s] w fun e w' => e = .returned (.bool true) ∧ Below w.heap.size w w' := by
    have ht : decide ((100 : Int) < (s.size : Int)) = false := decide_eq_false (by omega)
    clear hs
    have N1 := Aside0.mk (fun w => civil_Number.calls _ _ _ _ _ w (by unfold civil_Number.f; rw [number_date hn]))
    have N2 := Aside0.mk (fun w => civil_Number.calls y m d N i w (by unfold civil_Number.f; rw [eN]))
    have D1 := Aside0.mk (fun w => date_day hn w)
    have D2 := Aside0.mk (fun w => civil_Date.calls N z1 z2 z3 j w (by unfold civil_Date.f; rw [eD]))
    have X1 := Aside0.mk (fun w ht => text_day hn w ht)
    have K1 := Aside0.mk (fun w => show Calls Tryd.prog 13 #[.string (txt (textL n))] w fun e w' => e = .returned (.tuple #[.int .i64 n, .int .i64 0]) ∧ Below w.heap.size w w' by have h := civil_take_any (txt (textL n)) w; rw [show (txt (textL n)).data.toList = textL n by simp [txt], takeP_text hn] at h; exact h)
    have K2 := Aside0.mk (fun w => show Calls Tryd.prog 13 #[.string s] w fun e w' => e = .returned (.tuple #[.int .i64 v, .int .i64 o]) ∧ Below w.heap.size w w' by have h := civil_take_any s w; rw [eT] at h; exact h)
    have X2 := Aside0.mk (fun w ht => show Calls Tryd.prog 11 #[.int .i64 v] w fun e w' => e = .returned (.tuple #[.string u, .int .i64 p]) ∧ Below w.heap.size w w' by have h := text_any v w ht; rw [eX] at h; exact h)
    have DY := Aside0.mk (fun w => show Calls Tryd.prog 21 #[.int .i64 x] w fun e w' => e = .returned (.int .i64 n) ∧ Below w.heap.size w w' from (PA.quittancelaw03_day.calls _ _ w en).mono fun _ _ h => ⟨h.1, drawn_below h.2⟩)
    clear eN eD eT eX en hn
    generalize txt (textL n) = tx at *
    generalize yearOf n = Y at *
    generalize monthOf n = M at *
    generalize dayOf n = D at *
    obtain ⟨rfl, rfl, h1, h2, h3⟩ := hA
    obtain rfl := h1.symm
    obtain rfl := h2.symm
    obtain rfl := h3.symm
    clear h1 h2 h3
    obtain ⟨rfl, rfl, h1⟩ := hB
    obtain rfl := h1.symm
    clear h1
    go_enter Tryd.func4, Tryd.ntmps4
    go_wp2_with ((with_reducible refine gate_dst (N := 4) rfl ?_); refine box_event ?hg (N := 4) ?hd (cs := #[.int .i64 y, .int .i64 m, .int .i64 d]) (t := 23) ?hr ?_; (case hd => rfl); (case hg => rfl); (case hr => first | (go_simp; done) | (go_simp; rfl)); intro g4 hg w1 hb1 hbl1; clear hg; have G4 := Aside0.mk hb1; have HB := Aside0.mk hbl1; clear hbl1 hb1; refine Hid.out ?_)
    refine Lib.hid ?_
    go_wp2_with (first
        | (go_at_call 21; refine (DY.out _).mono ?_; rintro e w2 ⟨rfl, hb⟩; have HB := Aside0.mk (below_step HB.out hb); have G4 := Aside0.mk (blk_below G4.out hb); clear hb)
        | (go_at_call 9; first
          | ((with_reducible refine (D1.out _).mono ?_); rintro e w2 ⟨rfl, hb⟩; have HB := Aside0.mk (below_step HB.out hb); have G4 := Aside0.mk (blk_below G4.out hb); clear hb)
          | ((with_reducible refine (D2.out _).mono ?_); rintro e w2 ⟨rfl, hb⟩; have HB := Aside0.mk (below_step HB.out hb); have G4 := Aside0.mk (blk_below G4.out hb); have G7 := Aside0.mk (blk_below G7.out hb); clear hb))
        | ((with_reducible refine gate_dst (N := 7) rfl ?_); refine copy_event rfl (N := 7) rfl rfl rfl (t := 23) (v := .tmp 32) rfl (cs := #[.int .i64 Y, .int .i64 M, .int .i64 D]) (zs := #[.int .i64 0, .int .i64 0, .int .i64 0]) ?hr rfl rfl info_date ?hz (date_one _ _ _) ?_; (case hr => first | (go_simp; done) | (go_simp; rfl)); (case hz => rfl); intro g7 hg w2 hb0 hb; clear hg; have G7 := Aside0.mk hb0; have HB := Aside0.mk (below_step HB.out hb); have G4 := Aside0.mk (blk_below G4.out hb); clear hb; clear hb0; obtain ⟨q0, q1, q2⟩ := date_cells G4.out; obtain ⟨p0, p1, p2⟩ := date_cells G7.out)
        | ((with_reducible refine gate_dst (N := 17) rfl ?_); refine copy_event rfl (N := 17) rfl rfl rfl (t := 23) (v := .tmp 57) rfl (cs := #[.int .i64 y, .int .i64 m, .int .i64 d]) (zs := #[.int .i64 0, .int .i64 0, .int .i64 0]) ?hr rfl rfl info_date ?hz (date_one _ _ _) ?_; (case hr => first | (go_simp; done) | (go_simp; rfl)); (case hz => rfl); intro g17 hg w2 hb0 hb; clear hg; have G17 := Aside0.mk hb0; have HB := Aside0.mk (below_step HB.out hb); have G4 := Aside0.mk (blk_below G4.out hb); have G7 := Aside0.mk (blk_below G7.out hb); clear hb; clear hb0; obtain ⟨u0, u1, u2⟩ := date_cells G17.out)
        | (go_at_call 7; first
          | ((with_reducible refine (N1.out _).mono ?_); rintro e w2 ⟨rfl, hb⟩; have HB := Aside0.mk (below_step HB.out hb); have G4 := Aside0.mk (blk_below G4.out hb); have G7 := Aside0.mk (blk_below G7.out hb); clear hb; obtain ⟨q0, q1, q2⟩ := date_cells G4.out)
          | ((with_reducible refine (N2.out _).mono ?_); rintro e w2 ⟨rfl, hb⟩; have HB := Aside0.mk (below_step HB.out hb); have G4 := Aside0.mk (blk_below G4.out hb); have G7 := Aside0.mk (blk_below G7.out hb); clear hb; obtain ⟨q0, q1, q2⟩ := date_cells G4.out))
        | (go_at_call 11; first
          | ((with_reducible refine (X1.out _ (tab_below HT.out HB.out)).mono ?_); rintro e w2 ⟨rfl, hb⟩; have HB := Aside0.mk (below_step HB.out hb); have G4 := Aside0.mk (blk_below G4.out hb); have G7 := Aside0.mk (blk_below G7.out hb); clear hb; obtain ⟨q0, q1, q2⟩ := date_cells G4.out)
          | ((with_reducible refine (X2.out _ (tab_below HT.out HB.out)).mono ?_); rintro e w2 ⟨rfl, hb⟩; have HB := Aside0.mk (below_step HB.out hb); have G4 := Aside0.mk (blk_below G4.out hb); have G7 := Aside0.mk (blk_below G7.out hb); have G17 := Aside0.mk (blk_below G17.out hb); clear hb; obtain ⟨q0, q1, q2⟩ := date_cells G4.out))
        | (go_at_call 13; first
          | ((with_reducible refine (K1.out _).mono ?_); rintro e w2 ⟨rfl, hb⟩; have HB := Aside0.mk (below_step HB.out hb); have G4 := Aside0.mk (blk_below G4.out hb); have G7 := Aside0.mk (blk_below G7.out hb); clear hb; obtain ⟨q0, q1, q2⟩ := date_cells G4.out)
          | ((with_reducible refine (K2.out _).mono ?_); rintro e w2 ⟨rfl, hb⟩; have HB := Aside0.mk (below_step HB.out hb); have G4 := Aside0.mk (blk_below G4.out hb); have G7 := Aside0.mk (blk_below G7.out hb); have G17 := Aside0.mk (blk_below G17.out hb); clear hb; obtain ⟨q0, q1, q2⟩ := date_cells G4.out))
        | (go_at_call 6; refine (law03_awake _).mono ?_; rintro e w2 ⟨rfl, hb⟩; have HB := Aside0.mk (below_step HB.out hb); have G4 := Aside0.mk (blk_below G4.out hb); have G7 := Aside0.mk (blk_below G7.out hb); have G17 := Aside0.mk (blk_below G17.out hb); clear hb; obtain ⟨q0, q1, q2⟩ := date_cells G4.out; obtain ⟨p0, p1, p2⟩ := date_cells G7.out; obtain ⟨u0, u1, u2⟩ := date_cells G17.out))
    go_ret
    exact ⟨rfl, HB.out⟩
end Go.Proofs.YtaimfakcojdadaaDoor.H
