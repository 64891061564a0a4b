/- The law BusinessNear, walked. -/
import Derived.Test.YtabdgpjkjpbolaaG6
namespace Go.Proofs.Ytabdgpjkjpbolaa.H
open Go.RowKit Go.Proofs.YtabdgpjkjpbolaaW.PrintWords Go.Proofs.YtabdgpjkjpbolaaW.PrintLast Go.Proofs.YtabdgpjkjpbolaaW.PrintMore Go.Proofs.Ytabdgpjkjpbolaa.HW
open Go.Proofs.Ytabdgpjkjpbolaa.Math
set_option linter.unusedVariables false
set_option linter.unusedSimpArgs false
theorem near_to {s : List Int} {d : Int} (hS : Some (d - 15) (d + 14) s) (d1 : 10000 ≤ d) (d2 : d ≤ 59999) :
    ∃ a b c, rollS s d 2 = (a, 0) ∧ rollS s d 4 = (b, 0) ∧ rollS s d 3 = (c, 0) ∧ (c = a ∨ c = b) ∧ d ≤ a ∧ a ≤ d + 60 ∧ b ≤ d ∧ d - 60 ≤ b ∧ openB s a = true ∧ openB s b = true ∧ ∀ z, b < z → z < a → openB s z = false := by
  have hd : isDay d := ⟨by omega, by omega⟩
  obtain ⟨ya, ya1, ya2, ya3⟩ := week_open (l := s) (n := d + 15) ⟨by omega, by omega⟩ ⟨by omega, by omega⟩ (fun x hx => by have := hS.2 x hx; omega)
  obtain ⟨yb, yb1, yb2, yb3⟩ := week_open (l := s) (n := d - 18) ⟨by omega, by omega⟩ ⟨by omega, by omega⟩ (fun x hx => by have := hS.2 x hx; omega)
  obtain ⟨a, b, ea, eb, a1, a2, b1, b2, oa, ob, hz, h⟩ := roll_spec (how := 3) hd ya3 yb3 (by omega) (by omega) (by omega) (by omega)
  rcases h with ⟨e, _⟩ | ⟨e, _⟩
  · exact ⟨a, b, a, ea, eb, e, Or.inl rfl, a1, by omega, b1, by omega, oa, ob, hz⟩
  · exact ⟨a, b, b, ea, eb, e, Or.inr rfl, a1, by omega, b1, by omega, oa, ob, hz⟩
set_option maxHeartbeats 2000000 in
set_option maxRecDepth 100000 in
theorem businessNear_walk (a0 : Option Addr) (c0 : Nat) (l : List Int) (a1 : Int) (w : World) (hr0 : Kd.C (Kd.int .i64) w a0 l.length l) (hc0 : l.length ≤ c0) (hn0 : a0 = none → c0 = 0) (hy : l.length * 8 ≤ 140737488351232) (hw0 : ∀ x ∈ l, (Lit.int .i64 x).wf = true) (w1 : (Lit.int .i64 a1).wf = true) :
    Calls Try.prog 15 #[.slice a0 l.length c0, .int .i64 a1] w fun e w' => e = .returned (.bool true) ∧ Below w.heap.size w w' := by
  have HR0 := Aside0.mk hr0
  clear hr0 hw0 hn0
  obtain ⟨u, hu⟩ : ∃ u, IntKind.u64.wrap a1 = u := ⟨_, rfl⟩
  obtain ⟨u1, u2⟩ : 0 ≤ u ∧ u ≤ 18446744073709551615 := by rw [← hu]; exact u64_bd a1
  obtain ⟨d, hd⟩ : ∃ d, 10000 + u % 50000 = d := ⟨_, rfl⟩
  have d1 : 10000 ≤ d := by omega
  have d2 : d ≤ 59999 := by omega
  clear w1
  go_enter Try.func15, Try.ntmps15
  go_wp2_with fail
  clear hu u1 u2 hd
  go_loopg [5, 6] 31 (fun gq sv i w' => ∃ (k : Nat), k ≤ 30 ∧ k ≤ l.length ∧ i = .int .i64 k ∧ Aside0 (gq = 31 - k) ∧ Kept w w' sv (d - 15) (d + 14) k)
  case atStart => exact ⟨0, by omega, by omega, rfl, ⟨rfl⟩, Kept.start _ _ _⟩
  case round =>
    obtain ⟨k, k40, kl, rfl, hg, hK⟩ := hrel
    obtain ⟨A, c, s, rfl, hA, hsc, hsk, hS, hC, hown, hbel⟩ := hK.form
    have HS := Aside0.mk hS
    have HC := Aside0.mk hC
    have HO := Aside0.mk hown
    have HB := Aside0.mk hbel
    have HA := Aside0.mk hA
    clear hS hC hown hbel hK hA
    by_cases hlt : k < l.length ∧ k < 30
    · obtain ⟨hlt1, hlt2⟩ := hlt
      obtain ⟨ad, e0, hx0⟩ := Kd.at_int (Kd.C_below HR0.out HB.out) (k : Int) (by omega) (by omega)
      subst e0
      rw [Int.toNat_natCast] at hx0
      obtain ⟨u, hu⟩ : ∃ u, IntKind.u64.wrap (rd l (k : Int)) = u := ⟨_, rfl⟩
      have hu0 := u64_bd (rd l (k : Int))
      rw [hu] at hu0
      obtain ⟨u1, u2⟩ := hu0
      obtain ⟨x, hx⟩ : ∃ x, d - 15 + u % 30 = x := ⟨_, rfl⟩
      have x1 : d - 15 ≤ x := by omega
      have x2 : x ≤ d + 14 := by omega
      obtain ⟨i0, hi, hz0, hz1, hz2⟩ := info_parts info_int
      rcases (by omega : s.length = 0 ∨ 0 < s.length) with hs | hs
      · obtain rfl : s = [] := List.eq_nil_of_length_eq_zero hs
        have HO0 := Aside0.mk (show wr.ownsRow w.heap.size 3 1 (.slice A 0 c) 0 [] from HO.out)
        clear hs
        go_wp2_with ((at_builtin; refine wpList_append_own _ rfl _ _ 42 rfl w.heap.size 3 i0 (.int .i64 0) 1 8 Try.underlying42 hi hz0 hz1 hz2 rfl (by decide) _ _ _ rfl (HO0.out.alloc _) ⟨wr.heap.size, 0, none⟩ 1 1 [.int .i64 x] rfl rfl (new_one wr x 3) (one_one x) (by unfold maxLen; omega) (by omega) (by have := HB.out.size; simp; omega) ?_); intro v' w1 hown1 hgrow _)
        have HK := Aside0.mk (Kept.more (n := k) HS.out hsk x1 x2 (Or.inl rfl) (own_base HO.out) HB.out hown1 hgrow)
        clear hown1 hgrow
        go_wp2_with fail
        go_roundg (31 - (k + 1))
        case measure => have := hg.out; omega
        case rel => exact ⟨k + 1, by omega, by omega, by simp, ⟨rfl⟩, HK.out⟩
      · obtain ⟨ad2, e2, hx2⟩ := Kd.at_int HC.out ((s.length - 1 : Nat) : Int) (by omega) (by omega)
        subst e2
        rw [Int.toNat_natCast] at hx2
        obtain ⟨y, hyy⟩ : ∃ y, rd s ((s.length - 1 : Nat) : Int) = y := ⟨_, rfl⟩
        rw [hyy] at hx2
        have HY := Aside0.mk hyy
        clear hyy
        have g0 : (s = []) = False := by simp; intro h; rw [h] at hs; exact absurd hs (by decide)
        have g1 : (0 : Int) ≤ (s.length : Int) - 1 := by omega
        by_cases hgt : y < x
        · go_wp2_with ((at_builtin; refine wpList_append_own _ rfl _ _ 42 rfl w.heap.size 3 i0 (.int .i64 0) 1 8 Try.underlying42 hi hz0 hz1 hz2 rfl (by decide) _ _ _ rfl (HO.out.alloc _) ⟨wr.heap.size, 0, none⟩ 1 1 [.int .i64 x] rfl rfl (new_one wr x 3) (one_one x) (by unfold maxLen; omega) (by omega) (by have := HB.out.size; simp; omega) ?_); intro v' w1 hown1 hgrow _)
          have HK := Aside0.mk (Kept.more (n := k) HS.out hsk x1 x2 (Or.inr (by rw [show ((s.length : Int) - 1) = ((s.length - 1 : Nat) : Int) by omega, HY.out]; exact hgt)) (own_base HO.out) HB.out hown1 hgrow)
          clear hown1 hgrow
          go_wp2_with fail
          go_roundg (31 - (k + 1))
          case measure => have := hg.out; omega
          case rel => exact ⟨k + 1, by omega, by omega, by simp, ⟨rfl⟩, HK.out⟩
        · go_wp2_with fail
          go_roundg (31 - (k + 1))
          case measure => have := hg.out; omega
          case rel => exact ⟨k + 1, by omega, by omega, by simp, ⟨rfl⟩, ⟨s, by omega, HS.out, HO.out, HB.out⟩⟩
    · rcases (by omega : l.length ≤ k ∨ (k < l.length ∧ 30 ≤ k)) with h1 | ⟨h1, h2⟩
      all_goals
        clear hlt
        go_wp2_with fail
        refine (new_any A c s _ HC.out hsc HA.out (by omega)).mono ?_
        rintro e w1 ⟨hb, _, hm⟩
        obtain ⟨gb, hg, rfl, hc⟩ := hm (HS.out.right ⟨by omega, by omega⟩ ⟨by omega, by omega⟩ (by omega))
        have HC1 := Aside0.mk hc
        have HB1 := Aside0.mk (below_step HB.out hb)
        clear hb hm hc HC HO HB HA
        go_wp2_with fail
        refine (bus_awake _).mono ?_
        rintro e w2 ⟨rfl, hb⟩
        have HC2 := Aside0.mk (HC1.out.below hb)
        have HB2 := Aside0.mk (below_step HB1.out hb)
        clear hb HC1 HB1
        obtain ⟨a, b, x, ea, eb, ex, hx, p1, p2, p3, p4, oa, ob, hz⟩ := near_to HS.out d1 d2
        have EA := Aside0.mk ea
        have EB := Aside0.mk eb
        have EX := Aside0.mk ex
        have HX := Aside0.mk hx
        have OA := Aside0.mk oa
        have OB := Aside0.mk ob
        have HZ := Aside0.mk hz
        clear ea eb ex hx oa ob hz
        go_wp2_with fail
        refine (roll_any HC2.out EA.out).mono ?_
        rintro e w3 ⟨rfl, hb⟩
        have HC3 := Aside0.mk (HC2.out.below hb)
        have HB3 := Aside0.mk (below_step HB2.out hb)
        clear hb HC2 HB2
        go_wp2_with fail
        refine (roll_any HC3.out EB.out).mono ?_
        rintro e w4 ⟨rfl, hb⟩
        have HC4 := Aside0.mk (HC3.out.below hb)
        have HB4 := Aside0.mk (below_step HB3.out hb)
        clear hb HC3 HB3
        go_wp2_with fail
        refine (open_any HC4.out OA.out).mono ?_
        rintro e w5 ⟨rfl, ⟨m1, rfl⟩⟩
        go_wp2_with fail
        refine (open_any (HC4.out.drawn ⟨_, rfl⟩) OB.out).mono ?_
        rintro e w6 ⟨rfl, ⟨m2, rfl⟩⟩
        go_wp2_with fail
        have HC6 := Aside0.mk (HC4.out.drawn (w1 := w4.drewN (m1 + m2)) ⟨_, rfl⟩)
        have HB6 := Aside0.mk (pw_below_drewN HB4.out (m1 + m2))
        clear HC4 HB4
        go_loopg [14] (a - b + 1).toNat (fun gq iv w' => ∃ (z : Int), b + 1 ≤ z ∧ z ≤ a + 1 ∧ iv = .int .i64 z ∧ Aside0 (gq = (a - z + 2).toNat) ∧ Aside0 (CalAt w' gb s) ∧ Aside0 (Below w.heap.size w w'))
        case atStart => exact ⟨b + 1, by omega, by omega, rfl, ⟨by omega⟩, HC6, HB6⟩
        case round =>
          obtain ⟨z, z1, z2, rfl, hg, hC, hBB⟩ := hrel
          by_cases hza : z < a
          · have HO := Aside0.mk (HZ.out z (by omega) hza)
            go_wp2_with fail
            refine (open_any hC.out HO.out).mono ?_
            rintro e w7 ⟨rfl, ⟨m3, rfl⟩⟩
            have C7 := Aside0.mk (hC.out.drawn (w1 := wr.drewN m3) ⟨_, rfl⟩)
            have B7 := Aside0.mk (pw_below_drewN hBB.out m3)
            go_wp2_with fail
            go_roundg (a - z + 1).toNat
            case measure => have := hg.out; omega
            case rel => exact ⟨z + 1, by omega, by omega, rfl, ⟨by omega⟩, C7, B7⟩
          · go_wp2_with fail
            refine (roll_any hC.out EX.out).mono ?_
            rintro e w7 ⟨rfl, hb⟩
            have B7 := Aside0.mk (below_step hBB.out hb)
            clear hb hC hBB hg
            rcases (by rcases HX.out with h | h; exact Or.inl h; by_cases h' : x = a; exact Or.inl h'; exact Or.inr ⟨h', h⟩ : x = a ∨ (¬ x = a ∧ x = b)) with rfl | ⟨hxa, rfl⟩
            · go_wp2_with fail
              go_ret
              exact ⟨rfl, B7.out⟩
            · go_wp2_with fail
              go_ret
              exact ⟨rfl, B7.out⟩
end Go.Proofs.Ytabdgpjkjpbolaa.H
