/- civil.Text where there is a day. -/
import Derived.Test.YtaimfakcojdadaaDoorTw
namespace Go.Proofs.YtaimfakcojdadaaDoor.H
open Go.RowKit Go.Proofs.YtaimfakcojdadaaDoorW.PrintWords Go.Proofs.YtaimfakcojdadaaDoorW.PrintLast Go.Proofs.YtaimfakcojdadaaDoorW.PrintMore Go.Proofs.YtaimfakcojdadaaDoor.HW Go.Proofs.YtaimfakcojdadaaDoor.Ev
open Go.Proofs.YtaimfakcojdadaaDoor.Math
set_option linter.unusedVariables false
set_option linter.unusedSimpArgs false
set_option maxHeartbeats 2000000 in
theorem text_day {n : Int} (h : isDay n) (w : World) (ht : Tab w) : Calls Tryd.prog 11 #[.int .i64 n] w fun e w' => e = .returned (.tuple #[.string (txt (textL n)), .int .i64 0]) ∧ Below w.heap.size w w' := by
  obtain ⟨y1, y2, m1, m2, d1, d2⟩ := date_bd h
  rw [← text_join]
  have cd := fun w => date_day h w
  have cy := fun w ht => itoa_year (yearOf n) (by omega) (by omega) w ht
  have cm := fun w => two_any (monthOf n) (by omega) (by omega) w
  have ce := fun w => two_any (dayOf n) (by omega) (by omega) w
  have sA : (txt (four8 (yearOf n))).size = 4 := by rw [txt_size]; rfl
  have sB : (txt (two8 (monthOf n))).size = 2 := by rw [txt_size]; rfl
  have sC : (txt (two8 (dayOf n))).size = 2 := by rw [txt_size]; rfl
  generalize txt (four8 (yearOf n)) = A at *
  generalize txt (two8 (monthOf n)) = B at *
  generalize txt (two8 (dayOf n)) = C at *
  generalize yearOf n = y at *
  generalize monthOf n = m at *
  generalize dayOf n = d at *
  have CD := Aside0.mk cd
  have CY := Aside0.mk cy
  have CM := Aside0.mk cm
  have CE := Aside0.mk ce
  have HT := Aside0.mk ht
  have s1 : (9223372036854775807 < A.size + 1) = False := eq_false (by omega)
  have s2 : (9223372036854775807 < A.size + 1 + B.size) = False := eq_false (by omega)
  have s3 : (9223372036854775807 < A.size + 1 + B.size + 1) = False := eq_false (by omega)
  have s4 : (9223372036854775807 < A.size + 1 + B.size + 1 + C.size) = False := eq_false (by omega)
  clear cd cy cm ce ht sA sB sC y1 y2 m1 m2 d1 d2 h
  go_enter Tryd.func11, Tryd.ntmps11
  go_wp2_with (first
    | (go_at_call 9; refine (CD.out _).mono ?_; rintro e w1 ⟨rfl, hb⟩; have HB := Aside0.mk hb; clear hb)
    | ((with_reducible refine gate_dst (N := 4) rfl ?_); refine copy_event rfl (N := 4) rfl rfl rfl (t := 23) (v := .tmp 9) rfl (cs := #[.int .i64 y, .int .i64 m, .int .i64 d]) (zs := #[.int .i64 0, .int .i64 0, .int .i64 0]) ?hr rfl rfl info_date ?hz (date_one _ _ _) ?_; (case hr => first | (go_simp; done) | (go_simp; rfl)); (case hz => rfl); intro g4 hg w2 hb0 hbl0; clear hg; have H4 := Aside0.mk hb0; have HB2 := Aside0.mk (below_step HB.out hbl0); clear hb0 hbl0))
  have R0 := Aside0.mk (Below.refl w2.heap.size w2)
  obtain ⟨q0, q1, q2⟩ := date_cells H4.out
  have HT2 := Aside0.mk (tab_below HT.out HB2.out)
  go_region_held3 (fun W => W.cell? ⟨g4, 0, none⟩ = some (.int .i64 y) ∧ W.cell? ⟨g4, 1, none⟩ = some (.int .i64 m) ∧ W.cell? ⟨g4, 2, none⟩ = some (.int .i64 d)) (first | exact ⟨q0, q1, q2⟩ | go_keep) (first
    | (go_at_call 25; refine (CY.out _ (tab_below HT2.out (by first | exact pw_below_drewN R0.out _ | exact Below.drew R0.out | exact R0.out))).mono ?_; rintro e y1 ⟨rfl, hb⟩; have R0 := Aside0.mk (below_step (by first | exact pw_below_drewN R0.out _ | exact Below.drew R0.out | exact R0.out) hb); obtain ⟨q0, q1, q2⟩ := date_cells (blk_below H4.out R0.out); clear hb)
    | (go_at_call 26; first | ((with_reducible refine (CM.out _).mono ?_); rintro e y1 ⟨rfl, rfl⟩) | ((with_reducible refine (CE.out _).mono ?_); rintro e y1 ⟨rfl, rfl⟩)))
  go_wp2_with fail
  go_ret2
  exact ⟨rfl, below_step HB2.out R0.out⟩
end Go.Proofs.YtaimfakcojdadaaDoor.H
