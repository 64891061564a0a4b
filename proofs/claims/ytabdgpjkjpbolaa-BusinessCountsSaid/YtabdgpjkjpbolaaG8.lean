/- The law BusinessCounts, walked. -/
import Derived.Test.YtabdgpjkjpbolaaG6
import Derived.Test.YtabdgpjkjpbolaaB3
namespace Go.Proofs.Ytabdgpjkjpbolaa.H
open Go.RowKit Go.Proofs.YtabdgpjkjpbolaaW.PrintWords Go.Proofs.YtabdgpjkjpbolaaW.PrintLast Go.Proofs.YtabdgpjkjpbolaaW.PrintMore Go.Proofs.Ytabdgpjkjpbolaa.HW
open Go.Proofs.Ytabdgpjkjpbolaa.Math
set_option linter.unusedVariables false
set_option linter.unusedSimpArgs false
set_option maxHeartbeats 4000000 in
set_option maxRecDepth 100000 in
theorem businessCounts_walk (a0 : Option Addr) (c0 : Nat) (l : List Int) (a1 a2 a3 : Int) (w : World) (hr0 : Kd.C (Kd.int .i64) w a0 l.length l) (hc0 : l.length ≤ c0) (hn0 : a0 = none → c0 = 0) (hy : l.length * 8 ≤ 140737488351232) (hw0 : ∀ x ∈ l, (Lit.int .i64 x).wf = true) (w1 : (Lit.int .i64 a1).wf = true) (w2 : (Lit.int .i64 a2).wf = true) (w3 : (Lit.int .i64 a3).wf = true) :
    Calls Try.prog 18 #[.slice a0 l.length c0, .int .i64 a1, .int .i64 a2, .int .i64 a3] w fun e w' => e = .returned (.bool true) ∧ Below w.heap.size w w' := by
  have HR0 := Aside0.mk hr0
  clear hr0 hw0 hn0
  obtain ⟨u, hu⟩ : ∃ u, IntKind.u64.wrap a1 = u := ⟨_, rfl⟩
  obtain ⟨u1, u2⟩ : 0 ≤ u ∧ u ≤ 18446744073709551615 := by rw [← hu]; exact u64_bd a1
  obtain ⟨v, hv⟩ : ∃ v, IntKind.u64.wrap a2 = v := ⟨_, rfl⟩
  obtain ⟨v1, v2⟩ : 0 ≤ v ∧ v ≤ 18446744073709551615 := by rw [← hv]; exact u64_bd a2
  obtain ⟨z, hz⟩ : ∃ z, IntKind.u64.wrap a3 = z := ⟨_, rfl⟩
  obtain ⟨z1, z2⟩ : 0 ≤ z ∧ z ≤ 18446744073709551615 := by rw [← hz]; exact u64_bd a3
  obtain ⟨d, hd⟩ : ∃ d, 10000 + u % 50000 = d := ⟨_, rfl⟩
  obtain ⟨n, hn⟩ : ∃ n, v % 200 = n := ⟨_, rfl⟩
  obtain ⟨m, hm⟩ : ∃ m, z % 200 = m := ⟨_, rfl⟩
  have d1 : 10000 ≤ d := by omega
  have d2 : d ≤ 59999 := by omega
  have n1 : 0 ≤ n := by omega
  have n2 : n ≤ 199 := by omega
  have m1 : 0 ≤ m := by omega
  have m2 : m ≤ 199 := by omega
  clear w1 w2 w3
  go_enter Try.func18, Try.ntmps18
  go_wp2_with fail
  clear hu u1 u2 hd hv v1 v2 hz z1 z2 hn hm
  go_loopg [9, 10] 31 (fun gq sv i w' => ∃ (k : Nat), k ≤ 30 ∧ k ≤ l.length ∧ i = .int .i64 k ∧ Aside0 (gq = 31 - k) ∧ Kept w w' sv (d) (d + 399) k)
  case atStart => exact ⟨0, by omega, by omega, rfl, ⟨rfl⟩, Kept.start _ _ _⟩
  case round =>
    obtain ⟨k, k40, kl, rfl, hg, hK⟩ := hrel
    obtain ⟨A, c, s, rfl, hA, hsc, hsk, hS, hC, hown, hbel⟩ := hK.form
    have HS := Aside0.mk hS
    have HC := Aside0.mk hC
    have HO := Aside0.mk hown
    have HB := Aside0.mk hbel
    have HA := Aside0.mk hA
    clear hS hC hown hbel hK hA
    by_cases hlt : k < l.length ∧ k < 30
    · obtain ⟨hlt1, hlt2⟩ := hlt
      obtain ⟨ad, e0, hx0⟩ := Kd.at_int (Kd.C_below HR0.out HB.out) (k : Int) (by omega) (by omega)
      subst e0
      rw [Int.toNat_natCast] at hx0
      obtain ⟨u, hu⟩ : ∃ u, IntKind.u64.wrap (rd l (k : Int)) = u := ⟨_, rfl⟩
      have hu0 := u64_bd (rd l (k : Int))
      rw [hu] at hu0
      obtain ⟨u1, u2⟩ := hu0
      obtain ⟨x, hx⟩ : ∃ x, d + u % 400 = x := ⟨_, rfl⟩
      have x1 : d ≤ x := by omega
      have x2 : x ≤ d + 399 := by omega
      obtain ⟨i0, hi, hz0, hz1, hz2⟩ := info_parts info_int
      rcases (by omega : s.length = 0 ∨ 0 < s.length) with hs | hs
      · obtain rfl : s = [] := List.eq_nil_of_length_eq_zero hs
        have HO0 := Aside0.mk (show wr.ownsRow w.heap.size 3 1 (.slice A 0 c) 0 [] from HO.out)
        clear hs
        go_wp2_with ((at_builtin; refine wpList_append_own _ rfl _ _ 42 rfl w.heap.size 3 i0 (.int .i64 0) 1 8 Try.underlying42 hi hz0 hz1 hz2 rfl (by decide) _ _ _ rfl (HO0.out.alloc _) ⟨wr.heap.size, 0, none⟩ 1 1 [.int .i64 x] rfl rfl (new_one wr x 3) (one_one x) (by unfold maxLen; omega) (by omega) (by have := HB.out.size; simp; omega) ?_); intro v' w1 hown1 hgrow _)
        have HK := Aside0.mk (Kept.more (n := k) HS.out hsk x1 x2 (Or.inl rfl) (own_base HO.out) HB.out hown1 hgrow)
        clear hown1 hgrow
        go_wp2_with fail
        go_roundg (31 - (k + 1))
        case measure => have := hg.out; omega
        case rel => exact ⟨k + 1, by omega, by omega, by simp, ⟨rfl⟩, HK.out⟩
      · obtain ⟨ad2, e2, hx2⟩ := Kd.at_int HC.out ((s.length - 1 : Nat) : Int) (by omega) (by omega)
        subst e2
        rw [Int.toNat_natCast] at hx2
        obtain ⟨y, hyy⟩ : ∃ y, rd s ((s.length - 1 : Nat) : Int) = y := ⟨_, rfl⟩
        rw [hyy] at hx2
        have HY := Aside0.mk hyy
        clear hyy
        have g0 : (s = []) = False := by simp; intro h; rw [h] at hs; exact absurd hs (by decide)
        have g1 : (0 : Int) ≤ (s.length : Int) - 1 := by omega
        by_cases hgt : y < x
        · go_wp2_with ((at_builtin; refine wpList_append_own _ rfl _ _ 42 rfl w.heap.size 3 i0 (.int .i64 0) 1 8 Try.underlying42 hi hz0 hz1 hz2 rfl (by decide) _ _ _ rfl (HO.out.alloc _) ⟨wr.heap.size, 0, none⟩ 1 1 [.int .i64 x] rfl rfl (new_one wr x 3) (one_one x) (by unfold maxLen; omega) (by omega) (by have := HB.out.size; simp; omega) ?_); intro v' w1 hown1 hgrow _)
          have HK := Aside0.mk (Kept.more (n := k) HS.out hsk x1 x2 (Or.inr (by rw [show ((s.length : Int) - 1) = ((s.length - 1 : Nat) : Int) by omega, HY.out]; exact hgt)) (own_base HO.out) HB.out hown1 hgrow)
          clear hown1 hgrow
          go_wp2_with fail
          go_roundg (31 - (k + 1))
          case measure => have := hg.out; omega
          case rel => exact ⟨k + 1, by omega, by omega, by simp, ⟨rfl⟩, HK.out⟩
        · go_wp2_with fail
          go_roundg (31 - (k + 1))
          case measure => have := hg.out; omega
          case rel => exact ⟨k + 1, by omega, by omega, by simp, ⟨rfl⟩, ⟨s, by omega, HS.out, HO.out, HB.out⟩⟩
    · rcases (by omega : l.length ≤ k ∨ (k < l.length ∧ 30 ≤ k)) with h1 | ⟨h1, h2⟩
      all_goals
        clear hlt
        go_wp2_with fail
        refine (new_any A c s _ HC.out hsc HA.out (by omega)).mono ?_
        rintro e w1 ⟨hb, _, hm⟩
        obtain ⟨gb, hg, rfl, hc⟩ := hm (HS.out.right ⟨by omega, by omega⟩ ⟨by omega, by omega⟩ (by omega))
        have HC1 := Aside0.mk hc
        have HB1 := Aside0.mk (below_step HB.out hb)
        clear hb hm hc HC HO HB HA
        go_wp2_with fail
        refine (new_any none 0 [] _ ⟨rfl, by simp, fun h => absurd h (Nat.lt_irrefl 0)⟩ (Nat.le_refl _) (fun _ => rfl) (by simp)).mono ?_
        rintro e w2 ⟨hb, _, hm⟩
        obtain ⟨g2, hg2, rfl, hc⟩ := hm (by decide)
        have HC2 := Aside0.mk (HC1.out.below hb)
        have HD2 := Aside0.mk hc
        have HB2 := Aside0.mk (below_step HB1.out hb)
        clear hb hm hc HC1 HB1
        go_wp2_with fail
        refine (bus_awake _).mono ?_
        rintro e w3 ⟨rfl, hb⟩
        have HC3 := Aside0.mk (HC2.out.below hb)
        have HD3 := Aside0.mk (HD2.out.below hb)
        have HB3 := Aside0.mk (below_step HB2.out hb)
        clear hb HC2 HD2 HB2
        obtain ⟨r1, r2, r5, e1, e2, e3, e4, e5, le1, le2, q1, q2, q3, q4, q5, q6⟩ := counts_are s d1 d2 n1 m1
        have E1 := Aside0.mk e1
        have E2 := Aside0.mk e2
        have E3 := Aside0.mk e3
        have E4 := Aside0.mk e4
        have E5 := Aside0.mk e5
        clear e1 e2 e3 e4 e5
        go_wp2_with fail
        refine (count_any HC3.out (r := r1) ⟨by omega, by omega⟩ ⟨by omega, by omega⟩ (by omega) E1.out).mono ?_
        rintro e w4 ⟨rfl, hb⟩
        have HC4 := Aside0.mk (HC3.out.drawn hb)
        have HD4 := Aside0.mk (HD3.out.drawn hb)
        have HB4 := Aside0.mk (below_step HB3.out hb.below)
        clear hb HC3 HD3 HB3
        go_wp2_with fail
        refine (count_any HC4.out (r := r2) ⟨by omega, by omega⟩ ⟨by omega, by omega⟩ (by omega) E2.out).mono ?_
        rintro e w5 ⟨rfl, hb⟩
        have HC5 := Aside0.mk (HC4.out.drawn hb)
        have HD5 := Aside0.mk (HD4.out.drawn hb)
        have HB5 := Aside0.mk (below_step HB4.out hb.below)
        clear hb HC4 HD4 HB4
        go_wp2_with fail
        refine (count_any HC5.out (r := r1 + r2) ⟨by omega, by omega⟩ ⟨by omega, by omega⟩ (by omega) E3.out).mono ?_
        rintro e w6 ⟨rfl, hb⟩
        have HD6 := Aside0.mk (HD5.out.drawn hb)
        have HB6 := Aside0.mk (below_step HB5.out hb.below)
        clear hb HC5 HD5 HB5
        go_wp2_with fail
        refine (count_any HD6.out (r := 5) ⟨by omega, by omega⟩ ⟨by omega, by omega⟩ (by omega) E4.out).mono ?_
        rintro e w7 ⟨rfl, hb⟩
        have HD7 := Aside0.mk (HD6.out.drawn hb)
        have HB7 := Aside0.mk (below_step HB6.out hb.below)
        clear hb HD6 HB6
        go_wp2_with fail
        refine (count_any HD7.out (r := r5) ⟨by omega, by omega⟩ ⟨by omega, by omega⟩ (by omega) E5.out).mono ?_
        rintro e w8 ⟨rfl, hb⟩
        have HB8 := Aside0.mk (below_step HB7.out hb.below)
        clear hb HD7 HB7
        go_wp2_with fail
        go_ret
        exact ⟨rfl, HB8.out⟩
end Go.Proofs.Ytabdgpjkjpbolaa.H
