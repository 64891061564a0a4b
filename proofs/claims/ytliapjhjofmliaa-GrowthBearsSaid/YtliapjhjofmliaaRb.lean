/- Contracts by hand: what the document's bearer bears. -/
import Derived.Test.YtliapjhjofmliaaRp
import Derived.Test.YtliapjhjofmliaaL0
import Derived.StillTailTactics
namespace Go.Proofs.Ytliapjhjofmliaa.H
open Go.RowKit Go.Proofs.YtliapjhjofmliaaW.PrintWords Go.Proofs.YtliapjhjofmliaaW.PrintLast Go.Proofs.YtliapjhjofmliaaW.PrintMore Go.Proofs.Ytliapjhjofmliaa.HW
set_option linter.unusedVariables false
set_option linter.unusedSimpArgs false
/-- What the document's Bear does. -/
def RBore (gb : Nat) (P : Int) (up : Bool) (x : Int × Int × Int) (w : World) (e : Ending) (w' : World) : Prop :=
  e = .returned (.tuple #[.int .i64 x.1, .int .i64 x.2.1]) ∧ RefAt w' gb P up x.2.2 ∧ But gb w w'
theorem rbear_arg {gb : Nat} {bal rate n : Int} (hm : ¬ Gm.may bal rate n) (w : World) : Calls Try.prog 35 #[.pointer (some ⟨gb, 0, none⟩), .int .i64 bal, .int .i64 rate, .int .i64 n] w fun e w' => e = .returned (.tuple #[.int .i64 0, .int .i64 1]) ∧ w' = w := by
  have hno : bal < 0 ∨ (0 ≤ bal ∧ 1000000000000000 < bal) ∨ (0 ≤ bal ∧ bal ≤ 1000000000000000 ∧ rate < 0) ∨ (0 ≤ bal ∧ bal ≤ 1000000000000000 ∧ 0 ≤ rate ∧ 1000000000 < rate) ∨ (0 ≤ bal ∧ bal ≤ 1000000000000000 ∧ 0 ≤ rate ∧ rate ≤ 1000000000 ∧ n < 0) ∨ (0 ≤ bal ∧ bal ≤ 1000000000000000 ∧ 0 ≤ rate ∧ rate ≤ 1000000000 ∧ 0 ≤ n ∧ 53436000 < n) := by
    unfold Gm.may at hm
    omega
  clear hm
  rcases hno with h1 | ⟨h1, h2⟩ | ⟨h1, h2, h3⟩ | ⟨h1, h2, h3, h4⟩ | ⟨h1, h2, h3, h4, h5⟩ | ⟨h1, h2, h3, h4, h5, h6⟩
  all_goals
    go_enter Try.func35, Try.ntmps35
    go_wp2_with fail
    go_ret2
    exact ⟨rfl, rfl⟩
theorem RefAt.put {w : World} {gb : Nat} {P rest : Int} {up : Bool} (A : RefAt w gb P up rest) (v : Int) : RefAt (w.setCell ⟨gb, 2, none⟩ (.int .i64 v)) gb P up v := by
  obtain ⟨c0, c1, c2, f2, lt⟩ := A
  refine ⟨?_, ?_, ?_, ?_, ?_⟩
  · rw [World.cell?_setCell_other _ _ _ _ (by simp)]; exact c0
  · rw [World.cell?_setCell_other _ _ _ _ (by simp)]; exact c1
  · simp [World.cell?_setCell_same, c2]
  · simp [go_sem, f2]
  · simp [go_sem]; exact lt
/-- Too much: what the upper digits tell already. -/
theorem too_much {l : List Int} (hd : Dg.Dig l) {k : Nat} (hk : 1 ≤ k) (hkl : k < l.length) {P q r V h rest x : Int} (hP : 360 ≤ P) (hV : Dg.val l = x + rest + 1000000000 * P) (hy : Dg.val (l.drop (k + 1)) = q * P + r) (r0 : 0 ≤ r) (hq : 4000000 < q) (h0 : 0 ≤ h) : 1000000000000000 < Gm.q (1000000000 * P) h rest x := by
  have h1 := Dg.val_ge hd (k + 1) (by omega)
  rw [hy] at h1
  have h2 : (1000000000000000000 : Int) ≤ 1000000000 ^ (k + 1) := by
    obtain ⟨j, rfl⟩ : ∃ j, k = j + 1 := ⟨k - 1, by omega⟩
    rw [Int.pow_succ, Int.pow_succ]
    have : (0 : Int) < 1000000000 ^ j := Int.pow_pos (by decide)
    omega
  have h3 : 4000001 * P ≤ q * P + r := by
    have := Int.mul_le_mul_of_nonneg_right (show 4000001 ≤ q by omega) (show 0 ≤ P by omega)
    omega
  have h4 : 1000000000000000000 * (4000001 * P) ≤ 1000000000 ^ (k + 1) * (q * P + r) := Int.mul_le_mul h2 h3 (by omega) (by omega)
  unfold Gm.q
  have h5 : 1000000000000001 * (1000000000 * P) ≤ x + (rest + h) := by omega
  have := (Int.le_ediv_iff_mul_le (show 0 < 1000000000 * P by omega)).2 h5
  omega
set_option maxHeartbeats 4000000 in
set_option maxRecDepth 100000 in
theorem rbear_may {gb : Nat} {P W h rest bal rate n : Int} {up : Bool} {w : World} (A : RefAt w gb P up rest) (p0 : 360 ≤ P) (p1 : P ≤ 133590) (hW : W = 1000000000 * P) (hh : up = true ∧ W = 2 * h ∨ up = false ∧ h = 0) (G : Good W h rest) (hm : Gm.may bal rate n) (x : Int × Int × Int) (hx : Gm.bear W h rest bal rate n = x) :
    Calls Try.prog 35 #[.pointer (some ⟨gb, 0, none⟩), .int .i64 bal, .int .i64 rate, .int .i64 n] w (RBore gb P up x w) := by
  subst hW
  obtain ⟨a0, a1, b0, b1, n0, n1⟩ := hm
  have AA := Aside0.mk A
  have GG := Aside0.mk G
  have HH := Aside0.mk hh
  have HX := Aside0.mk hx
  have hrest := And.intro G.r0 G.r1
  obtain ⟨g1, g2, g3, g4, g5, g6⟩ := G
  have dg0 : Dg.Dig [bal % 1000000000, bal / 1000000000] := Dg.Dig.cons (by omega) (by omega) (Dg.Dig.cons (by omega) (by omega) Dg.Dig.nil)
  have v0 : Dg.val [bal % 1000000000, bal / 1000000000] = bal := by simp [Dg.val]; omega
  obtain ⟨d1, v1, l1⟩ := Dg.tms_spec b0 b1 [bal % 1000000000, bal / 1000000000] 0 (by omega) (by omega) dg0
  obtain ⟨d2, v2, l2⟩ := Dg.tms_spec n0 (by omega) (Dg.tms rate 0 [bal % 1000000000, bal / 1000000000]) 0 (by omega) (by omega) d1
  rw [v1, v0, Int.add_zero, Int.add_zero] at v2
  obtain ⟨d3, v3, l3⟩ := Dg.pls_spec (Dg.tms n 0 (Dg.tms rate 0 [bal % 1000000000, bal / 1000000000])) (rest + 1000000000 * P) (by omega) (by omega) d2
  rw [v2] at v3
  have HD0 := Aside0.mk dg0
  have HD1 := Aside0.mk d1
  have HD2 := Aside0.mk d2
  have L1 : (Dg.tms rate 0 [bal % 1000000000, bal / 1000000000]).length ≤ 3 := by simpa using l1
  have L2 : (Dg.tms n 0 (Dg.tms rate 0 [bal % 1000000000, bal / 1000000000])).length ≤ 4 := by omega
  have hread : Kd.C (Kd.int .i64) (w.alloc (.cells #[.int .i64 (bal % 1000000000), .int .i64 (bal / 1000000000)] 2)) (some ⟨w.heap.size, 0, none⟩) [bal % 1000000000, bal / 1000000000].length [bal % 1000000000, bal / 1000000000] := by
    refine Kd.C_of_reads (d := (0 : Int)) ⟨rfl, by simp, fun _ => ⟨_, rfl, fun j hj => ?_⟩⟩
    simp at hj
    rcases (by omega : j = 0 ∨ j = 1) with rfl | rfl <;> simp [go_sem, Addr.add]
  have HRD := Aside0.mk hread
  have hpos := Int.mul_nonneg (Int.mul_nonneg a0 b0) n0
  have V3 := Aside0.mk (show Dg.val (Dg.pls (rest + 1000000000 * P) (Dg.tms n 0 (Dg.tms rate 0 [bal % 1000000000, bal / 1000000000]))) = bal * rate * n + rest + 1000000000 * P by rw [v3]; omega)
  have HD3 := Aside0.mk d3
  have HPOS := Aside0.mk hpos
  clear dg0 d1 d2 d3 v0 v1 v2 v3 l1 l2 hread hh hx A hpos
  go_enter Try.func35, Try.ntmps35
  go_wp2_with fail
  refine (times_any (l := [bal % 1000000000, bal / 1000000000]) (c0 := 2) HRD.out (by simp) HD0.out (by simp) b0 b1).mono ?_
  rintro e w1 ⟨A1, c1, rfl, hc1, hle1, hA1, hb1⟩
  have HC1 := Aside0.mk hc1
  have HB1 := Aside0.mk (((Below.refl w.heap.size w).alloc (Nat.le_refl _) (.cells #[.int .i64 (bal % 1000000000), .int .i64 (bal / 1000000000)] 2)).trans (hb1.mono (by simp)))
  clear hc1 hb1 hA1 HRD
  generalize Dg.tms rate 0 [bal % 1000000000, bal / 1000000000] = t1 at *
  go_wp2_with fail
  refine (times_any HC1.out hle1 HD1.out (by omega) n0 (by omega)).mono ?_
  rintro e w2 ⟨A2, c2, rfl, hc2, hle2, hA2, hb2⟩
  have HC2 := Aside0.mk hc2
  have HA2 := Aside0.mk hA2
  have HB2 := Aside0.mk (below_step HB1.out hb2)
  clear hc2 hb2 hA2 HC1 HB1
  generalize Dg.tms n 0 t1 = t2 at *
  have R2 := Aside0.mk (AA.out.below HB2.out)
  go_wp2_with fail
  have k0 := R2.out.c0
  have k2 := R2.out.c2
  go_still_tail 8, (by kernel_rfl)
  have R2d := R2.out.below (Below.drew (Below.refl _ _))
  have HC2d := Aside0.mk (Kd.C_drew HC2.out)
  have HB2d := Aside0.mk HB2.out.drew
  have RD := Aside0.mk R2d
  still_call (rwhole_any R2d (by omega) p1)
  still_step
  refine wpStill_nil ?_
  clear R2d k0 k2 R2 HC2 HB2
  go_wp2_with fail
  refine (plus_any HC2d.out hle2 HA2.out HD2.out (by omega) (v := rest + 1000000000 * P) (by omega) (by omega)).mono ?_
  rintro e w4 ⟨A3, c3, rfl, hc3, hle3, hA3, hb3⟩
  have HC3 := Aside0.mk hc3
  have HB3 := Aside0.mk (below_step HB2d.out hb3)
  have R3 := Aside0.mk (RD.out.below hb3)
  clear hc3 hb3 hA3 HC2d HB2d RD
  generalize Dg.pls (rest + 1000000000 * P) t2 = l at *
  have k0 := R3.out.c0
  go_wp2_with fail
  have hl0 : 0 < l.length := by
    rcases Nat.eq_zero_or_pos l.length with h' | h'
    · have hv := V3.out
      rw [List.eq_nil_of_length_eq_zero h'] at hv
      have := HPOS.out
      simp only [Dg.val] at hv
      omega
    · exact h'
  have hl10 : l.length ≤ 10 := by omega
  have hp2 : (P == 0) = false := by simp; omega
  have hp3 : (P == -1) = false := by simp; omega
  clear k0 l3
  go_loopg [11, 12, 13] l.length (fun gq qv rv iv w' => ∃ (k : Nat) (q r : Int), k < l.length ∧ iv = .int .i64 (k : Int) ∧ qv = .int .i64 q ∧ rv = .int .i64 r ∧ 0 ≤ q ∧ q ≤ 4100000000000000 ∧ 0 ≤ r ∧ r < P ∧ Aside0 (gq = k + 1) ∧ Aside0 (Dg.val (l.drop (k + 1)) = q * P + r) ∧ Drawn0 w4 w')
  case atStart => exact ⟨l.length - 1, 0, 0, by omega, by congr 1; omega, rfl, rfl, by omega, by omega, by omega, by omega, ⟨by omega⟩, ⟨by rw [show l.length - 1 + 1 = l.length by omega, List.drop_length]; simp [Dg.val]⟩, Drawn0.refl _⟩
  case round =>
    obtain ⟨k, q, r, kl, rfl, rfl, rfl, q0, q1, r0, r1, hg, hy, ⟨m1, rfl⟩⟩ := hrel
    have RK := Aside0.mk (R3.out.below (w1 := w4.drewN m1) (Drawn0.below ⟨_, rfl⟩))
    have c0 := R3.out.c0
    obtain ⟨ad, e0, hx0⟩ := Kd.at_int HC3.out (k : Int) (by omega) (by omega)
    subst e0
    rw [Int.toNat_natCast] at hx0
    obtain ⟨hdv, hdd0, hdd1⟩ := Dg.val_drop HD3.out k kl
    have hrd : rd l (k : Int) = l.getD k 0 := by simp [rd]
    rw [hrd] at hx0
    generalize l.getD k 0 = d at *
    have HDV := Aside0.mk hdv
    clear hdv hrd
    by_cases hk : 1 ≤ k
    · by_cases hq : 4000000 < q
      · have hbig := too_much (V := 0) HD3.out hk kl p0 V3.out hy.out r0 hq g3
        have ex : x = (0, 3, rest) := by
          rw [← HX.out]
          unfold Gm.bear
          rw [if_pos ⟨a0, a1, b0, b1, n0, n1⟩, if_neg (by omega)]
        subst ex
        have BUT := Aside0.mk (But.of (gb := gb) (pw_below_drewN HB3.out m1))
        clear hx0 hbig c0
        go_wp2_with fail
        go_ret2
        exact ⟨rfl, RK.out, BUT.out⟩
      · obtain ⟨s1, s2, s3, s4, s5⟩ := Dg.div_step (P := P) (by omega) hy.out r0 r1 hdd0 hdd1
        have HY := Aside0.mk (HDV.out.trans s1)
        obtain ⟨vv, hvv⟩ : ∃ vv, r * 1000000000 + d = vv := ⟨_, rfl⟩
        rw [hvv] at s1 s2 s3 s4 s5 HY
        have vv0 : 0 ≤ vv := by omega
        have vv1 : vv ≤ 140000000000000 := by omega
        obtain ⟨dq, hdq⟩ : ∃ dq, vv / P = dq := ⟨_, rfl⟩
        obtain ⟨dr, hdr⟩ : ∃ dr, vv % P = dr := ⟨_, rfl⟩
        have t1 : Int.tdiv vv P = dq := by rw [Int.tdiv_eq_ediv_of_nonneg vv0]; exact hdq
        have t2 : Int.tmod vv P = dr := by rw [Int.tmod_eq_emod_of_nonneg vv0]; exact hdr
        rw [hdq, hdr] at HY
        rw [hdq] at s2 s3
        rw [hdr] at s4 s5
        have w1 : IntKind.i64.wrap (q * 1000000000) = q * 1000000000 := IntWalk.i64_in _ (by omega)
        have w2 : IntKind.i64.wrap dq = dq := IntWalk.i64_in _ (by omega)
        have w3 : IntKind.i64.wrap dr = dr := IntWalk.i64_in _ (by omega)
        have w4 : IntKind.i64.wrap (q * 1000000000 + dq) = q * 1000000000 + dq := IntWalk.i64_in _ (by omega)
        have hvv2 : IntKind.i64.wrap (r * 1000000000 + d) = vv := by rw [hvv]; exact IntWalk.i64_in _ (by omega)
        have W1 := Aside0.mk w1
        have W2 := Aside0.mk w2
        have W3 := Aside0.mk w3
        have W4 := Aside0.mk w4
        clear s1 hdq hdr w1 w2 w3 w4
        go_wp2_with fail
        have w1 := W1.out
        have w2 := W2.out
        have w3 := W3.out
        have w4 := W4.out
        go_quiet (fail)
        clear w1 w2 w3 w4 t1 t2 hvv hvv2
        go_wp2_with fail
        go_roundg k
        case measure => have := hg.out; omega
        case rel => exact ⟨k - 1, q * 1000000000 + dq, dr, by omega, by congr 1; omega, rfl, rfl, by omega, by omega, by omega, by omega, ⟨by omega⟩, ⟨by rw [show k - 1 + 1 = k by omega]; exact HY.out⟩, ⟨_, by first | rfl | (simp only [World.drewN_drewN]; rfl)⟩⟩
    · obtain rfl : k = 0 := by omega
      have hx1 : w4.cell? ad = some (.int .i64 d) := by simpa [Addr.add] using hx0
      have hV := V3.out
      have hdv := HDV.out
      have hyo := hy.out
      rw [List.drop_zero] at hdv
      have hvl : bal * rate * n + rest + 1000000000 * P = q * (1000000000 * P) + (r * 1000000000 + d) := by
        rw [← hV, hdv, hyo, Int.mul_add, show q * (1000000000 * P) = 1000000000 * (q * P) by rw [← Int.mul_assoc, Int.mul_comm q, Int.mul_assoc]]
        omega
      obtain ⟨en1, en2⟩ := Dg.ends (P := P) (W := 1000000000 * P) (h := h) (by omega) rfl hvl (by omega) (by omega) up HH.out
      have kc0 := RK.out.c0
      have kc1 := RK.out.c1
      clear hx0 c0 hV hdv hyo hvl
      cases up with
      | true =>
        by_cases hge : 1000000000 * P - (r * 1000000000 + d) ≤ r * 1000000000 + d
        · obtain ⟨e1, e2⟩ := en1 ⟨rfl, hge⟩
          clear en1 en2
          by_cases hmost : q ≤ 1000000000000000
          · have ex : x = (q, 0, r * 1000000000 + d - 1000000000 * P) := by
              rw [← HX.out]
              unfold Gm.bear
              rw [if_pos ⟨a0, a1, b0, b1, n0, n1⟩, e1, e2, if_pos hmost]
            subst ex
            have BUT := Aside0.mk ((But.of (gb := gb) (pw_below_drewN HB3.out m1)).setCell (p := ⟨gb, 2, none⟩) (Or.inl rfl) (.int .i64 (r * 1000000000 + d - 1000000000 * P)))
            have RKo := RK.out
            have k2 := RKo.c2
            have kf := RKo.f2
            have RN := Aside0.mk (RefAt.put RKo (r * 1000000000 + d - 1000000000 * P))
            clear e1 e2 RKo
            go_wp2_with fail
            refine (rwhole_any RK.out (by omega) p1).mono ?_
            rintro e _ ⟨rfl, rfl⟩
            go_wp2_with fail
            refine (rwhole_any RK.out (by omega) p1).mono ?_
            rintro e _ ⟨rfl, rfl⟩
            go_wp2_with fail
            go_ret2
            exact ⟨rfl, RN.out, BUT.out⟩
          · have ex : x = (0, 3, rest) := by
              rw [← HX.out]
              unfold Gm.bear
              rw [if_pos ⟨a0, a1, b0, b1, n0, n1⟩, e1, if_neg hmost]
            subst ex
            have BUT := Aside0.mk (But.of (gb := gb) (pw_below_drewN HB3.out m1))
            clear e1 e2
            go_wp2_with fail
            refine (rwhole_any RK.out (by omega) p1).mono ?_
            rintro e _ ⟨rfl, rfl⟩
            go_wp2_with fail
            refine (rwhole_any RK.out (by omega) p1).mono ?_
            rintro e _ ⟨rfl, rfl⟩
            go_wp2_with fail
            go_ret2
            exact ⟨rfl, RK.out, BUT.out⟩
        · obtain ⟨e1, e2⟩ := en2 (fun h' => hge h'.2)
          have hge2 : r * 1000000000 + d < 1000000000 * P - (r * 1000000000 + d) := by omega
          clear en1 en2 hge
          by_cases hmost : q - 1 ≤ 1000000000000000
          · have ex : x = (q - 1, 0, r * 1000000000 + d) := by
              rw [← HX.out]
              unfold Gm.bear
              rw [if_pos ⟨a0, a1, b0, b1, n0, n1⟩, e1, e2, if_pos hmost]
            subst ex
            have BUT := Aside0.mk ((But.of (gb := gb) (pw_below_drewN HB3.out m1)).setCell (p := ⟨gb, 2, none⟩) (Or.inl rfl) (.int .i64 (r * 1000000000 + d)))
            have RKo := RK.out
            have k2 := RKo.c2
            have kf := RKo.f2
            have RN := Aside0.mk (RefAt.put RKo (r * 1000000000 + d))
            clear e1 e2 RKo
            go_wp2_with fail
            refine (rwhole_any RK.out (by omega) p1).mono ?_
            rintro e _ ⟨rfl, rfl⟩
            go_wp2_with fail
            go_ret2
            exact ⟨rfl, RN.out, BUT.out⟩
          · have ex : x = (0, 3, rest) := by
              rw [← HX.out]
              unfold Gm.bear
              rw [if_pos ⟨a0, a1, b0, b1, n0, n1⟩, e1, if_neg hmost]
            subst ex
            have BUT := Aside0.mk (But.of (gb := gb) (pw_below_drewN HB3.out m1))
            clear e1 e2
            go_wp2_with fail
            refine (rwhole_any RK.out (by omega) p1).mono ?_
            rintro e _ ⟨rfl, rfl⟩
            go_wp2_with fail
            go_ret2
            exact ⟨rfl, RK.out, BUT.out⟩
      | false =>
        obtain ⟨e1, e2⟩ := en2 (fun h' => by cases h'.1)
        clear en1 en2
        by_cases hmost : q - 1 ≤ 1000000000000000
        · have ex : x = (q - 1, 0, r * 1000000000 + d) := by
            rw [← HX.out]
            unfold Gm.bear
            rw [if_pos ⟨a0, a1, b0, b1, n0, n1⟩, e1, e2, if_pos hmost]
          subst ex
          have BUT := Aside0.mk ((But.of (gb := gb) (pw_below_drewN HB3.out m1)).setCell (p := ⟨gb, 2, none⟩) (Or.inl rfl) (.int .i64 (r * 1000000000 + d)))
          have RKo := RK.out
          have k2 := RKo.c2
          have kf := RKo.f2
          have RN := Aside0.mk (RefAt.put RKo (r * 1000000000 + d))
          clear e1 e2 RKo
          go_wp2_with fail
          go_ret2
          exact ⟨rfl, RN.out, BUT.out⟩
        · have ex : x = (0, 3, rest) := by
            rw [← HX.out]
            unfold Gm.bear
            rw [if_pos ⟨a0, a1, b0, b1, n0, n1⟩, e1, if_neg hmost]
          subst ex
          have BUT := Aside0.mk (But.of (gb := gb) (pw_below_drewN HB3.out m1))
          clear e1 e2
          go_wp2_with fail
          go_ret2
          exact ⟨rfl, RK.out, BUT.out⟩
theorem rbear_any {gb : Nat} {P W h rest bal rate n : Int} {up : Bool} {w : World} (A : RefAt w gb P up rest) (p0 : 360 ≤ P) (p1 : P ≤ 133590) (hW : W = 1000000000 * P) (hh : up = true ∧ W = 2 * h ∨ up = false ∧ h = 0) (G : Good W h rest) :
    Calls Try.prog 35 #[.pointer (some ⟨gb, 0, none⟩), .int .i64 bal, .int .i64 rate, .int .i64 n] w (RBore gb P up (Gm.bear W h rest bal rate n) w) := by
  by_cases hm : Gm.may bal rate n
  · exact rbear_may A p0 p1 hW hh G hm _ rfl
  · unfold Gm.bear
    rw [if_neg hm]
    exact (rbear_arg hm w).mono fun e w' ⟨h1, h2⟩ => by subst h2; exact ⟨h1, A, But.of (Below.refl _ _)⟩
end Go.Proofs.Ytliapjhjofmliaa.H
