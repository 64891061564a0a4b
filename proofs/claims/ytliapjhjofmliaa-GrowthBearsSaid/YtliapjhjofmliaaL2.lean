/- The law GrowthYear, walked. -/
import Derived.Test.YtliapjhjofmliaaL0
import Derived.Test.YtliapjhjofmliaaL1
namespace Go.Proofs.Ytliapjhjofmliaa.H
open Go.RowKit Go.Proofs.YtliapjhjofmliaaW.PrintWords Go.Proofs.YtliapjhjofmliaaW.PrintLast Go.Proofs.YtliapjhjofmliaaW.PrintMore Go.Proofs.Ytliapjhjofmliaa.HW
set_option linter.unusedVariables false
set_option linter.unusedSimpArgs false
theorem u64_bd (x : Int) : 0 ≤ IntKind.u64.wrap x ∧ IntKind.u64.wrap x ≤ 18446744073709551615 := by
  rw [IntKind.wrap_u64]; omega
theorem year_all {c bal : Int} (hc : c = 1 ∨ c = 2 ∨ c = 3) (b0 : 0 ≤ bal) (b1 : bal ≤ 1000000000000000) : Gm.bear (Gm.whole c) (Gm.half c 3) 0 bal 1000000000 (Gm.gp c) = (bal, 0, 0) := by
  have g := gp_bd c
  have hw := Gm.whole_bd c
  have hW : Gm.whole c = 1000000000 * Gm.gp c := rfl
  have e : bal * 1000000000 * Gm.gp c = bal * Gm.whole c := by rw [hW, ← Int.mul_assoc]
  obtain ⟨h1, h2⟩ := Gm.uniq (W := Gm.whole c) (h := Gm.half c 3) (x := bal * Gm.whole c) (s := bal) (by omega) (by rw [Gm.half_no (by decide)]; omega) (by rw [Gm.half_no (by decide)]; omega)
  unfold Gm.bear
  rw [if_pos ⟨b0, b1, by omega, by omega, by omega, by omega⟩, e, h1, h2, if_pos b1]
  congr 2; omega
theorem year_half {c bal : Int} (hc : c = 1 ∨ c = 2 ∨ c = 3) (b0 : 0 ≤ bal) (b1 : bal ≤ 1000000000000000) : (Gm.bear (Gm.whole c) (Gm.half c 3) 0 bal 500000000 (Gm.gp c)).1 = bal / 2 ∧ (Gm.bear (Gm.whole c) (Gm.half c 3) 0 bal 500000000 (Gm.gp c)).2.1 = 0 := by
  have g := gp_bd c
  have hw := Gm.whole_bd c
  have hW : Gm.whole c = 1000000000 * Gm.gp c := rfl
  have e : bal * 500000000 * Gm.gp c - bal / 2 * Gm.whole c = (bal % 2) * (500000000 * Gm.gp c) := by
    rw [hW, show bal / 2 * (1000000000 * Gm.gp c) = bal / 2 * 1000000000 * Gm.gp c from (Int.mul_assoc _ _ _).symm, ← Int.sub_mul, ← Int.mul_assoc]
    congr 1; omega
  have h01 : bal % 2 = 0 ∨ bal % 2 = 1 := by omega
  have eb : 0 ≤ (bal % 2) * (500000000 * Gm.gp c) ∧ (bal % 2) * (500000000 * Gm.gp c) < Gm.whole c := by
    rcases h01 with h | h <;> rw [h] <;> omega
  obtain ⟨h1, h2⟩ := Gm.uniq (W := Gm.whole c) (h := Gm.half c 3) (x := bal * 500000000 * Gm.gp c) (s := bal / 2) (by omega) (by rw [Gm.half_no (by decide), e]; omega) (by rw [Gm.half_no (by decide), e]; omega)
  unfold Gm.bear
  rw [if_pos ⟨b0, b1, by omega, by omega, by omega, by omega⟩, h1, if_pos (by omega)]
  exact ⟨rfl, rfl⟩
theorem growthYear_walk (a0 a1 : Int) (w : World) (w0 : (Lit.int .i64 a0).wf = true) (w1 : (Lit.int .i64 a1).wf = true) : Calls Try.prog 12 #[.int .i64 a0, .int .i64 a1] w fun e w' => e = .returned (.bool true) ∧ Below w.heap.size w w' := by
  obtain ⟨u, hu⟩ : ∃ u, IntKind.u64.wrap a0 = u := ⟨_, rfl⟩
  obtain ⟨v, hv⟩ : ∃ v, IntKind.u64.wrap a1 = v := ⟨_, rfl⟩
  have hu0 := u64_bd a0
  have hv0 := u64_bd a1
  rw [hu] at hu0
  rw [hv] at hv0
  obtain ⟨u1, u2⟩ := hu0
  obtain ⟨v1, v2⟩ := hv0
  obtain ⟨c, hcd⟩ : ∃ c, 1 + u % 3 = c := ⟨_, rfl⟩
  obtain ⟨b, hb⟩ : ∃ b, v % 1000000000000001 = b := ⟨_, rfl⟩
  have hc : Aside0 (c = 1 ∨ c = 2 ∨ c = 3) := ⟨by omega⟩
  have b0 : 0 ≤ b := by omega
  have b1 : b ≤ 1000000000000000 := by omega
  clear w0 w1
  go_enter Try.func12, Try.ntmps12
  go_wp2_with fail
  clear hu hv u1 u2 v1 v2 hcd hb
  refine (bnew_any hc.out (by decide) _).mono ?_
  rintro e w1 ⟨hb, gb, hg, rfl, A⟩
  have AA := Aside0.mk A
  have HB := Aside0.mk hb
  clear A hb
  go_wp2_with fail
  refine (rnew_any (up := false) hc.out (by decide) _).mono ?_
  rintro e w2 ⟨hb, g2, hg2, rfl, A⟩
  have A2 := Aside0.mk A
  have AA2 := Aside0.mk (AA.out.below hb)
  have HB2 := Aside0.mk (below_step HB.out hb)
  have hne : g2 ≠ gb := by have := AA.out.lt; omega
  have hgb : w.heap.size ≤ g2 := Nat.le_trans HB.out.size hg2
  clear A hb AA HB
  go_wp2_with fail
  refine (grow_awake _).mono ?_
  rintro e w3 ⟨rfl, hb⟩
  have R3 := Aside0.mk (A2.out.below hb)
  have B3 := Aside0.mk (AA2.out.below hb)
  have HB3 := Aside0.mk (below_step HB2.out hb)
  clear hb A2 AA2 HB2
  have rc := R3.out.c0
  go_wp2_with fail
  refine (bear_any B3.out (good_new c 3)).mono ?_
  rw [year_all hc.out b0 b1]
  rintro e w4 ⟨rfl, A, hbut⟩
  have B4 := Aside0.mk A
  have R4 := Aside0.mk (R3.out.but hbut hne)
  have HB4 := Aside0.mk (hbut.below HB3.out HB3.out.size hg)
  clear A hbut HB3 B3 R3 rc
  have rc := R4.out.c0
  go_wp2_with fail
  refine (bear_any B4.out (good_new c 3)).mono ?_
  obtain ⟨y1, y2⟩ := year_half hc.out b0 b1
  rintro e w5 ⟨rfl, A, hbut⟩
  rw [y1, y2]
  have HB5 := Aside0.mk (hbut.below HB4.out HB4.out.size hg)
  clear A hbut HB4 B4 R4 rc y1 y2
  go_wp2_with fail
  go_ret
  exact ⟨rfl, HB5.out⟩
end Go.Proofs.Ytliapjhjofmliaa.H
