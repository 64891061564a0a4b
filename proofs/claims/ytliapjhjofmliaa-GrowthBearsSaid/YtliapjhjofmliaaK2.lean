/- Contracts by hand: growth: borne. -/
import Derived.Test.YtliapjhjofmliaaK1
import Derived.BigQuiet
namespace Go.Proofs.Ytliapjhjofmliaa.H
open Go.RowKit Go.Proofs.YtliapjhjofmliaaW.PrintWords Go.Proofs.YtliapjhjofmliaaW.PrintLast Go.Proofs.YtliapjhjofmliaaW.PrintMore Go.Proofs.Ytliapjhjofmliaa.HW
set_option linter.unusedVariables false
set_option linter.unusedSimpArgs false
set_option maxHeartbeats 1000000 in
theorem borne_yes {gb : Nat} {W h rest bal rate n : Int} {w : World} (A : BearAt w gb W h rest) (G : Good W h rest) (hm : Gm.may bal rate n) (hq : Gm.q W h rest (bal * rate * n) ≤ 1000000000000000) :
    Calls Try.prog 46 #[.pointer (some ⟨gb, 0, none⟩), .int .u64 bal, .int .u64 rate, .int .u64 n] w fun e w' => e = .returned (.tuple #[.int .i64 (Gm.q W h rest (bal * rate * n)), .int .i64 (Gm.r W h rest (bal * rate * n))]) ∧ Drawn0 w w' := by
  obtain ⟨a0, a1, b0, b1, n0, n1⟩ := hm
  obtain ⟨w0, w1, h0, h1, r0, r1⟩ := G
  obtain ⟨c0, c1, c2, f2, lt⟩ := A
  obtain ⟨high, low, over, lo, u, lo3, carry, e1, e2, e3, e4, e5, p1, p2, p3, p4, p5, p6, p7, p8, p9, p10, e6, e7, p11, p12, p13, p14, tot⟩ := parts128 a0 a1 b0 b1 n0 n1 (show 0 ≤ rest + h by omega) (by omega)
  obtain ⟨st1, st2, st3, st4⟩ := Gm.step (W := W) (h := h) (rest := rest) (x := bal * rate * n) (by omega) (Int.mul_nonneg (Int.mul_nonneg a0 b0) n0) r0
  have eq1 : ((u + over + carry) * 18446744073709551616 + lo3) / W = Gm.q W h rest (bal * rate * n) := by rw [tot]; rfl
  have eq2 : ((u + over + carry) * 18446744073709551616 + lo3) % W = Gm.r W h rest (bal * rate * n) + h := by rw [tot]; unfold Gm.r; omega
  have hlt : u + over + carry < W := by
    rcases Int.lt_or_le (u + over + carry) W with hh | hh
    · exact hh
    · exfalso
      have hh2 : 18446744073709551616 ≤ Gm.q W h rest (bal * rate * n) := by
        rw [← eq1]
        refine (Int.le_ediv_iff_mul_le (by omega)).2 ?_
        omega
      omega
  generalize Gm.q W h rest (bal * rate * n) = q at *
  generalize Gm.r W h rest (bal * rate * n) = r at *
  have U := Aside0.mk e5
  have E1 := Aside0.mk e1
  have E2 := Aside0.mk e2
  have E3 := Aside0.mk e3
  have E4 := Aside0.mk e4
  have E6 := Aside0.mk e6
  have E7 := Aside0.mk e7
  have Q1 := Aside0.mk eq1
  have Q2 := Aside0.mk eq2
  clear e1 e2 e3 e4 e6 e7 eq1 eq2 tot st4
  go_enter Try.func46, Try.ntmps46
  go_wp2_with fail
  refine (mul_any a0 (by omega) b0 (by omega) E1.out E2.out _).mono ?_
  rintro e w1 ⟨rfl, ⟨m1, rfl⟩⟩
  go_wp2_with fail
  refine (mul_any p3 p4 n0 (by omega) E3.out E4.out _).mono ?_
  rintro e w1 ⟨rfl, ⟨m2, rfl⟩⟩
  go_wp2_with fail
  obtain ⟨s, hs⟩ : ∃ s, rest + h = s := ⟨_, rfl⟩
  have hi64 : IntKind.i64.wrap (rest + h) = s := by rw [hs]; exact IntWalk.i64_in _ (by omega)
  have hu64 : IntKind.u64.wrap s = s := IntWalk.u64_in _ (by omega)
  have hadd : ∀ w : World, (callFunc 55 #[.int .u64 lo, .int .u64 s, .int .u64 0]).run Try.prog w = .ok (.value (.tuple #[.int .u64 lo3, .int .u64 carry])) w := fun w => by rw [add64_run lo s (by omega) (by omega) w, ← hs, E6.out, E7.out]
  clear hs
  go_quiet (fail)
  clear hi64 hu64 hadd
  have hWu : IntKind.u64.wrap W = W := IntWalk.u64_in _ (by omega)
  go_wp2_with fail
  refine (div_any (by omega) (by omega) (by omega) (by omega) (by omega) Q1.out Q2.out _).mono ?_
  rintro e w1 ⟨rfl, ⟨m3, rfl⟩⟩
  have hq2 : decide (1000000000000000 < q) = false := decide_eq_false (by omega)
  go_wp2_with fail
  have k1 : IntKind.i64.wrap q = q := IntWalk.i64_in _ (by omega)
  have k2 : IntKind.i64.wrap (r + h) = r + h := IntWalk.i64_in _ (by omega)
  have k3 : IntKind.i64.wrap (r + h - h) = r := by rw [show r + h - h = r by omega]; exact IntWalk.i64_in _ (by omega)
  go_quiet (fail)
  go_wp2_with fail
  go_ret2
  exact ⟨rfl, ⟨_, by first | rfl | (simp only [World.drewN_drewN]; rfl)⟩⟩
set_option maxHeartbeats 1000000 in
theorem borne_no {gb : Nat} {W h rest bal rate n : Int} {w : World} (A : BearAt w gb W h rest) (G : Good W h rest) (hm : Gm.may bal rate n) (hq : 1000000000000000 < Gm.q W h rest (bal * rate * n)) :
    Calls Try.prog 46 #[.pointer (some ⟨gb, 0, none⟩), .int .u64 bal, .int .u64 rate, .int .u64 n] w fun e w' => e = .panicked [{ v := .iface 78 (.int .i64 3), recovered := false }] ∧ Drawn0 w w' := by
  obtain ⟨a0, a1, b0, b1, n0, n1⟩ := hm
  obtain ⟨w0, w1, h0, h1, r0, r1⟩ := G
  obtain ⟨c0, c1, c2, f2, lt⟩ := A
  obtain ⟨high, low, over, lo, u, lo3, carry, e1, e2, e3, e4, e5, p1, p2, p3, p4, p5, p6, p7, p8, p9, p10, e6, e7, p11, p12, p13, p14, tot⟩ := parts128 a0 a1 b0 b1 n0 n1 (show 0 ≤ rest + h by omega) (by omega)
  obtain ⟨st1, st2, st3, st4⟩ := Gm.step (W := W) (h := h) (rest := rest) (x := bal * rate * n) (by omega) (Int.mul_nonneg (Int.mul_nonneg a0 b0) n0) r0
  have eq1 : ((u + over + carry) * 18446744073709551616 + lo3) / W = Gm.q W h rest (bal * rate * n) := by rw [tot]; rfl
  have eq2 : ((u + over + carry) * 18446744073709551616 + lo3) % W = Gm.r W h rest (bal * rate * n) + h := by rw [tot]; unfold Gm.r; omega
  have hqm : u + over + carry < W → Gm.q W h rest (bal * rate * n) < 18446744073709551616 := by
    intro hh
    rw [← eq1]
    refine Int.ediv_lt_of_lt_mul (by omega) ?_
    omega
  generalize Gm.q W h rest (bal * rate * n) = q at *
  generalize Gm.r W h rest (bal * rate * n) = r at *
  have U := Aside0.mk e5
  have E1 := Aside0.mk e1
  have E2 := Aside0.mk e2
  have E3 := Aside0.mk e3
  have E4 := Aside0.mk e4
  have E6 := Aside0.mk e6
  have E7 := Aside0.mk e7
  have Q1 := Aside0.mk eq1
  have Q2 := Aside0.mk eq2
  have QM := Aside0.mk hqm
  clear e1 e2 e3 e4 e6 e7 eq1 eq2 tot st4 hqm
  have hadd0 := Aside0.mk (fun (s : Int) (hs : rest + h = s) (w : World) => show (callFunc 55 #[.int .u64 lo, .int .u64 s, .int .u64 0]).run Try.prog w = .ok (.value (.tuple #[.int .u64 lo3, .int .u64 carry])) w by rw [add64_run lo s (by omega) (by omega) w, ← hs, E6.out, E7.out])
  by_cases hlt : u + over + carry < W
  · have hqm := QM.out hlt
    go_enter Try.func46, Try.ntmps46
    go_wp2_with fail
    refine (mul_any a0 (by omega) b0 (by omega) E1.out E2.out _).mono ?_
    rintro e w1 ⟨rfl, ⟨m1, rfl⟩⟩
    go_wp2_with fail
    refine (mul_any p3 p4 n0 (by omega) E3.out E4.out _).mono ?_
    rintro e w1 ⟨rfl, ⟨m2, rfl⟩⟩
    go_wp2_with fail
    obtain ⟨s, hs⟩ : ∃ s, rest + h = s := ⟨_, rfl⟩
    have hi64 : IntKind.i64.wrap (rest + h) = s := by rw [hs]; exact IntWalk.i64_in _ (by omega)
    have hu64 : IntKind.u64.wrap s = s := IntWalk.u64_in _ (by omega)
    have hadd := hadd0.out s hs
    clear hs
    go_quiet (fail)
    clear hi64 hu64 hadd
    have hWu : IntKind.u64.wrap W = W := IntWalk.u64_in _ (by omega)
    go_wp2_with fail
    refine (div_any (by omega) (by omega) (by omega) (by omega) (by omega) Q1.out Q2.out _).mono ?_
    rintro e w1 ⟨rfl, ⟨m3, rfl⟩⟩
    have hq2 : decide (1000000000000000 < q) = true := decide_eq_true (by omega)
    go_wp2_with fail
    exact ⟨rfl, rfl, ⟨_, by first | rfl | (simp only [World.drewN_drewN]; rfl)⟩⟩
  · go_enter Try.func46, Try.ntmps46
    go_wp2_with fail
    refine (mul_any a0 (by omega) b0 (by omega) E1.out E2.out _).mono ?_
    rintro e w1 ⟨rfl, ⟨m1, rfl⟩⟩
    go_wp2_with fail
    refine (mul_any p3 p4 n0 (by omega) E3.out E4.out _).mono ?_
    rintro e w1 ⟨rfl, ⟨m2, rfl⟩⟩
    go_wp2_with fail
    obtain ⟨s, hs⟩ : ∃ s, rest + h = s := ⟨_, rfl⟩
    have hi64 : IntKind.i64.wrap (rest + h) = s := by rw [hs]; exact IntWalk.i64_in _ (by omega)
    have hu64 : IntKind.u64.wrap s = s := IntWalk.u64_in _ (by omega)
    have hadd := hadd0.out s hs
    clear hs
    go_quiet (fail)
    clear hi64 hu64 hadd
    have hWu : IntKind.u64.wrap W = W := IntWalk.u64_in _ (by omega)
    go_wp2_with fail
    exact ⟨rfl, rfl, ⟨_, by first | rfl | (simp only [World.drewN_drewN]; rfl)⟩⟩
end Go.Proofs.Ytliapjhjofmliaa.H
