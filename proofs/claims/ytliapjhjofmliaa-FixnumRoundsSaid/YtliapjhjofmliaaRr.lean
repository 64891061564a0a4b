/- The document's Ratio, walked. -/
import Derived.Test.YtliapjhjofmliaaRq
namespace Go.Proofs.Ytliapjhjofmliaa.H
open Go.RowKit Go.Proofs.YtliapjhjofmliaaW.PrintWords Go.Proofs.YtliapjhjofmliaaW.PrintLast Go.Proofs.YtliapjhjofmliaaW.PrintMore
open Go.Proofs.Ytliapjhjofmliaa.Math
set_option linter.unusedVariables false
set_option linter.unusedSimpArgs false
theorem rsize_is {v : Int} (h1 : -9223372036854775808 ≤ v) (h2 : v ≤ 9223372036854775807) (w : World) : Calls Try.prog 42 #[.int .i64 v] w fun e w' => e = .returned (.int .u64 (ab v)) ∧ Drawn0 w w' := by
  by_cases hv : v < 0
  · have e1 : wrap64 (v + 1) = v + 1 := w64 (by omega) (by omega)
    have e2 : wrap64 (-(v + 1)) = -(v + 1) := w64 (by omega) (by omega)
    have e3 : IntKind.u64.wrap (-(v + 1)) = -(v + 1) := by rw [u64_mod]; omega
    have e4 : IntKind.u64.wrap (-(v + 1) + 1) = ab v := by unfold ab; rw [u64_mod, if_pos hv]; omega
    go_enter Try.func42, Try.ntmps42
    go_wp2_with fail
    go_ret
    exact ⟨by simp [*], Drawn0.refl _⟩
  · have e3 : IntKind.u64.wrap v = ab v := by unfold ab; rw [u64_mod, if_neg hv]; omega
    go_enter Try.func42, Try.ntmps42
    go_wp2_with fail
    go_ret
    exact ⟨by simp [*], Drawn0.refl _⟩
theorem and_one {x : Int} (h0 : 0 ≤ x) (h1 : x < 18446744073709551616) : Go.bits .and .u64 x 1 = x % 2 := by
  obtain ⟨n, rfl⟩ := Int.eq_ofNat_of_zero_le h0
  rw [u64_and (n : Int) 1 (by omega) h1 (by omega) (by omega)]
  simp only [Int.toNat_natCast]
  rw [show (1 : Int).toNat = 1 from rfl, Nat.and_one_is_mod]
  omega
theorem or_bit {x b : Int} (h0 : 0 ≤ x) (h1 : 2 * x + 1 < 18446744073709551616) (b0 : 0 ≤ b) (b1 : b ≤ 1) : Go.bits .or .u64 (2 * x) b = 2 * x + b := by
  obtain ⟨n, rfl⟩ := Int.eq_ofNat_of_zero_le h0
  obtain ⟨c, rfl⟩ := Int.eq_ofNat_of_zero_le b0
  have h := or_sum (P := 2) (hi := n) (b := c) (i := 1) rfl (by omega) (by omega)
  rw [show ((n * 2 : Nat) : Int) = 2 * (n : Int) by omega] at h
  rw [h]; omega
theorem up_seven (mode qv rv d : Int) (bl : Bool) : (rv = 0 ∧ ¬ refUp mode qv rv d bl) ∨ (¬ rv = 0 ∧ mode = 3 ∧ (refUp mode qv rv d bl ↔ bl = true)) ∨
    (¬ rv = 0 ∧ ¬ mode = 3 ∧ ¬ rv = d - rv ∧ decide (d - rv < rv) = true ∧ refUp mode qv rv d bl) ∨ (¬ rv = 0 ∧ ¬ mode = 3 ∧ ¬ rv = d - rv ∧ decide (d - rv < rv) = false ∧ ¬ refUp mode qv rv d bl) ∨
    (¬ rv = 0 ∧ ¬ mode = 3 ∧ rv = d - rv ∧ mode = 2 ∧ qv % 2 = 1 ∧ refUp mode qv rv d bl) ∨ (¬ rv = 0 ∧ ¬ mode = 3 ∧ rv = d - rv ∧ mode = 2 ∧ ¬ qv % 2 = 1 ∧ ¬ refUp mode qv rv d bl) ∨
    (¬ rv = 0 ∧ ¬ mode = 3 ∧ rv = d - rv ∧ ¬ mode = 2 ∧ (refUp mode qv rv d bl ↔ bl = false)) := by
  unfold refUp
  by_cases z : rv = 0
  · exact Or.inl ⟨z, fun h => h.1 z⟩
  refine Or.inr ?_
  by_cases m : mode = 3
  · refine Or.inl ⟨z, m, fun h => ?_, fun h => ⟨z, Or.inl ⟨m, h⟩⟩⟩
    rcases h.2 with h | h
    · exact h.2
    · exact absurd m h.1
  refine Or.inr ?_
  have no : ∀ {q : Prop}, (mode = 3 ∧ bl = true) ∨ (mode ≠ 3 ∧ q) → q := fun h => by
    rcases h with h | h
    · exact absurd h.1 m
    · exact h.2
  by_cases e : rv = d - rv
  · refine Or.inr (Or.inr ?_)
    by_cases m2 : mode = 2
    · by_cases o : qv % 2 = 1
      · exact Or.inl ⟨z, m, e, m2, o, z, Or.inr ⟨m, Or.inr ⟨e, Or.inl ⟨m2, o⟩⟩⟩⟩
      · refine Or.inr (Or.inl ⟨z, m, e, m2, o, fun h => ?_⟩)
        rcases no h.2 with h | ⟨_, h | h⟩
        · exact h.1 e
        · exact o h.2
        · exact h.1 m2
    · refine Or.inr (Or.inr ⟨z, m, e, m2, fun h => ?_, fun h => ⟨z, Or.inr ⟨m, Or.inr ⟨e, Or.inr ⟨m2, h⟩⟩⟩⟩⟩)
      rcases no h.2 with h | ⟨_, h | h⟩
      · exact absurd e h.1
      · exact absurd h.1 m2
      · exact h.2
  · by_cases l : d - rv < rv
    · exact Or.inl ⟨z, m, e, decide_eq_true l, z, Or.inr ⟨m, Or.inl ⟨e, l⟩⟩⟩
    · refine Or.inr (Or.inl ⟨z, m, e, decide_eq_false l, fun h => ?_⟩)
      rcases no h.2 with h | h
      · exact l h.2
      · exact e h.1
def part (p0 p1 p2 p3 : Int) (j : Nat) : Int := if j = 0 then p0 else if j = 1 then p1 else if j = 2 then p2 else p3
theorem parts_at {p0 p1 p2 p3 P : Int} {j : Nat} (hs : p0 + 4294967296 * p1 + 18446744073709551616 * p2 + 79228162514264337593543950336 * p3 = P) (h0 : 0 ≤ p0 ∧ p0 < 4294967296) (h1 : 0 ≤ p1 ∧ p1 < 4294967296) (h2 : 0 ≤ p2 ∧ p2 < 4294967296) (h3 : 0 ≤ p3 ∧ p3 < 4294967296) (hj : j < 4) :
    ∃ M : Int, P / 2 ^ (32 * j) = part p0 p1 p2 p3 j + 4294967296 * M ∧ 0 ≤ part p0 p1 p2 p3 j ∧ part p0 p1 p2 p3 j < 4294967296 := by
  rcases (by omega : j = 0 ∨ j = 1 ∨ j = 2 ∨ j = 3) with rfl | rfl | rfl | rfl
  · refine ⟨p1 + 4294967296 * p2 + 18446744073709551616 * p3, ?_, h0⟩
    rw [show (2 : Int) ^ (32 * 0) = 1 by simp]
    show P / 1 = p0 + _
    omega
  · refine ⟨p2 + 4294967296 * p3, ?_, h1⟩
    rw [show (2 : Int) ^ (32 * 1) = 4294967296 by simp]
    show P / 4294967296 = p1 + _
    omega
  · refine ⟨p3, ?_, h2⟩
    rw [show (2 : Int) ^ (32 * 2) = 18446744073709551616 by simp]
    show P / 18446744073709551616 = p2 + _
    omega
  · refine ⟨0, ?_, h3⟩
    rw [show (2 : Int) ^ (32 * 3) = 79228162514264337593543950336 by simp]
    show P / 79228162514264337593543950336 = p3 + _
    omega
set_option maxRecDepth 100000 in
set_option maxHeartbeats 4000000 in
theorem rratio_any {mode a b d : Int} (m1 : 1 ≤ mode) (m3 : mode ≤ 3) (a1 : -9223372036854775808 ≤ a) (a2 : a ≤ 9223372036854775807) (b1 : -9223372036854775808 ≤ b) (b2 : b ≤ 9223372036854775807) (d0 : 0 < d) (d1 : d ≤ 9223372036854775807) (w : World) :
    Calls Try.prog 21 #[.int .i64 mode, .int .i64 a, .int .i64 b, .int .i64 d] w fun e w' => e = .returned (.tuple #[.int .i64 (ratio mode a b d).1, .int .i64 (ratio mode a b d).2]) ∧ Below w.heap.size w w' := by
  have HA := Aside0.mk (fun w0 => rsize_is a1 a2 w0)
  have HB := Aside0.mk (fun w0 => rsize_is b1 b2 w0)
  obtain ⟨A0, A1⟩ := ab_bd a1 a2
  obtain ⟨B0, B1⟩ := ab_bd b1 b2
  have hP0 := Int.mul_nonneg A0 B0
  have HL := Aside0.mk (fun w0 => limbs_any (a := ab a) (b := ab b) A0 (by omega) B0 (by omega) w0)
  have hPb : ab a * ab b < 2 ^ 128 := by
    have h := Int.mul_le_mul A1 B1 B0 (by omega)
    have : (9223372036854775808 : Int) * 9223372036854775808 < 2 ^ 128 := by decide
    omega
  have HO := Aside0.mk (fun (q rest : Int) (ov : Bool) (hr : rest = (ab a * ab b) % d) (h1 : ov = false → q = (ab a * ab b) / d) (h2 : ov = true → 1000000000000001 < (ab a * ab b) / d) => refOut_is (a := a) (b := b) m1 m3 d0 _ rfl hP0 hr h1 h2)
  generalize hP : ab a * ab b = P at *
  generalize ratio mode a b d = out at *
  clear hP
  have ed : IntKind.u64.wrap d = d := by rw [u64_mod]; omega
  have HP0 := Aside0.mk hP0
  have HPb := Aside0.mk hPb
  clear hP0 hPb A0 A1 B0 B1
  go_enter Try.func21, Try.ntmps21
  go_wp2_with fail
  refine (HA.out _).mono ?_
  rintro e w1 ⟨rfl, ⟨n1, rfl⟩⟩
  go_wp2_with fail
  refine (HB.out _).mono ?_
  rintro e w1 ⟨rfl, ⟨n2, rfl⟩⟩
  go_wp2_with fail
  refine (HL.out _).mono ?_
  rintro e w2 ⟨p0, p1, p2, p3, rfl, hb, hs, hp0, hp1, hp2, hp3⟩
  have HB2 := Aside0.mk (below_step (pw_below_drewN (Below.refl _ w) (n1 + n2)) hb)
  have HS := Aside0.mk (fun j hj => parts_at (j := j) hs hp0 hp1 hp2 hp3 hj)
  clear hb hs hp0 hp1 hp2 hp3
  go_wp2_with fail
  have HBW := Aside0.mk (HB2.out.alloc HB2.out.size (.cells #[.int .u64 p0, .int .u64 p1, .int .u64 p2, .int .u64 p3] 71))
  have HC := Aside0.mk (fun (j : Nat) (hj : j < 4) => show (w2.alloc (.cells #[.int .u64 p0, .int .u64 p1, .int .u64 p2, .int .u64 p3] 71)).cell? ⟨w2.heap.size, j, none⟩ = some (.int .u64 (part p0 p1 p2 p3 j)) by
    rcases (by omega : j = 0 ∨ j = 1 ∨ j = 2 ∨ j = 3) with rfl | rfl | rfl | rfl <;> simp [go_sem, part])
  generalize (w2.alloc (.cells #[.int .u64 p0, .int .u64 p1, .int .u64 p2, .int .u64 p3] 71)) = W at *
  generalize w2.heap.size = g at *
  clear HB2
  have HZ := Aside0.mk (show Rnd P d 128 0 0 false from ⟨by omega, by omega, by omega, by omega, by rw [Int.ediv_eq_zero_of_lt HP0.out HPb.out]; rfl, fun _ => by rw [Int.ediv_eq_zero_of_lt HP0.out HPb.out]; simp, fun h => by cases h⟩)
  go_loopg [12, 13, 14, 15] 129 (fun gq q rest ov i w' => ∃ (k : Nat) (qv rv im : Int) (o : Bool), k ≤ 128 ∧ q = .int .u64 qv ∧ rest = .int .u64 rv ∧ ov = .bool o ∧ i = .int .i64 im ∧ Aside0 (im = (k : Int) - 1) ∧ Aside0 (Rnd P d k qv rv o) ∧ Aside0 (gq = k + 1) ∧ w' = W)
  case atStart => exact ⟨128, 0, 0, 127, false, by omega, rfl, rfl, rfl, rfl, ⟨rfl⟩, HZ, ⟨rfl⟩, rfl⟩
  case round =>
    obtain ⟨k, qv, rv, im, o, hk, rfl, rfl, rfl, rfl, him, hR, hgq, rfl⟩ := hrel
    by_cases hk0 : k = 0
    · subst hk0
      obtain rfl : im = -1 := him.out
      obtain ⟨r0, r1, q0, q1, rr, no, yes⟩ := hR.out
      rw [show P / 2 ^ 0 = P by simp] at rr no yes
      have HQ := Aside0.mk (HO.out qv rv o rr (fun h => (no h).1) (fun h => by have := yes h; omega))
      have HN := Aside0.mk (fun h => (no h).2)
      clear hR him hgq HZ HC HS HP0 HPb rr no yes HO
      have es : IntKind.u64.wrap (d - rv) = d - rv := by rw [u64_mod]; omega
      have et : Go.bits .and .u64 qv 1 = qv % 2 := and_one q0 q1
      obtain ⟨bl, hbl⟩ : ∃ x, (decide (a < 0) != decide (b < 0)) = x := ⟨_, rfl⟩
      rw [hbl] at HQ
      have cases7 : (rv = 0 ∧ ¬ refUp mode qv rv d bl) ∨ (¬ rv = 0 ∧ mode = 3 ∧ (refUp mode qv rv d bl ↔ bl = true)) ∨
          (¬ rv = 0 ∧ ¬ mode = 3 ∧ ¬ rv = d - rv ∧ decide (d - rv < rv) = true ∧ refUp mode qv rv d bl) ∨ (¬ rv = 0 ∧ ¬ mode = 3 ∧ ¬ rv = d - rv ∧ decide (d - rv < rv) = false ∧ ¬ refUp mode qv rv d bl) ∨
          (¬ rv = 0 ∧ ¬ mode = 3 ∧ rv = d - rv ∧ mode = 2 ∧ qv % 2 = 1 ∧ refUp mode qv rv d bl) ∨ (¬ rv = 0 ∧ ¬ mode = 3 ∧ rv = d - rv ∧ mode = 2 ∧ ¬ qv % 2 = 1 ∧ ¬ refUp mode qv rv d bl) ∨
          (¬ rv = 0 ∧ ¬ mode = 3 ∧ rv = d - rv ∧ ¬ mode = 2 ∧ (refUp mode qv rv d bl ↔ bl = false)) := by
        exact up_seven mode qv rv d bl
      clear m1 m3 a1 a2 b1 b2 r0
      have hbl2 : (!(decide (a < 0) == decide (b < 0))) = bl := hbl
      clear hbl
      cases bl
      · rcases cases7 with ⟨z, hu⟩ | ⟨z, c3, hu⟩ | ⟨z, c3, ce, cl, hu⟩ | ⟨z, c3, ce, cl, hu⟩ | ⟨z, c3, ce, c2, co, hu⟩ | ⟨z, c3, ce, c2, co, hu⟩ | ⟨z, c3, ce, c2, hu⟩
        · skip
          have hv : refV mode qv rv d false = qv := if_neg hu
          clear hu
          cases o
          · have hq3 := HN.out rfl
            by_cases hm : 1000000000000000 < qv
            · have ho : out = (0, 3) := by rw [← HQ.out]; unfold refOut; rw [hv]; exact if_pos (Or.inr hm)
              subst ho
              clear HQ hv
              go_wp2_with fail
              go_ret2
              exact ⟨rfl, HBW.out⟩
            · have ho : out = (qv, 0) := by rw [← HQ.out]; unfold refOut; rw [hv]; exact if_neg (fun h => by rcases h with h | h; cases h; exact hm h)
              subst ho
              have e10 : wrap64 qv = qv := w64 (by omega) (by omega)
              have e11 : wrap64 (-qv) = -qv := w64 (by omega) (by omega)
              clear HQ hv
              go_wp2_with fail
              go_ret2
              exact ⟨rfl, HBW.out⟩
          · have ho : out = (0, 3) := by rw [← HQ.out]; unfold refOut; exact if_pos (Or.inl rfl)
            subst ho
            clear HQ hv
            go_wp2_with fail
            go_ret2
            exact ⟨rfl, HBW.out⟩
        · have hu : ¬ refUp mode qv rv d false := by intro h; cases hu.1 h
          have hv : refV mode qv rv d false = qv := if_neg hu
          clear hu
          cases o
          · have hq3 := HN.out rfl
            by_cases hm : 1000000000000000 < qv
            · have ho : out = (0, 3) := by rw [← HQ.out]; unfold refOut; rw [hv]; exact if_pos (Or.inr hm)
              subst ho
              clear HQ hv
              go_wp2_with fail
              go_ret2
              exact ⟨rfl, HBW.out⟩
            · have ho : out = (qv, 0) := by rw [← HQ.out]; unfold refOut; rw [hv]; exact if_neg (fun h => by rcases h with h | h; cases h; exact hm h)
              subst ho
              have e10 : wrap64 qv = qv := w64 (by omega) (by omega)
              have e11 : wrap64 (-qv) = -qv := w64 (by omega) (by omega)
              clear HQ hv
              go_wp2_with fail
              go_ret2
              exact ⟨rfl, HBW.out⟩
          · have ho : out = (0, 3) := by rw [← HQ.out]; unfold refOut; exact if_pos (Or.inl rfl)
            subst ho
            clear HQ hv
            go_wp2_with fail
            go_ret2
            exact ⟨rfl, HBW.out⟩
        · skip
          have hv : refV mode qv rv d false = (qv + 1) := if_pos hu
          clear hu
          cases o
          · have hq3 := HN.out rfl
            have e9 : IntKind.u64.wrap (qv + 1) = qv + 1 := by rw [u64_mod]; omega
            by_cases hm : 1000000000000000 < (qv + 1)
            · have ho : out = (0, 3) := by rw [← HQ.out]; unfold refOut; rw [hv]; exact if_pos (Or.inr hm)
              subst ho
              clear HQ hv
              go_wp2_with fail
              go_ret2
              exact ⟨rfl, HBW.out⟩
            · have ho : out = ((qv + 1), 0) := by rw [← HQ.out]; unfold refOut; rw [hv]; exact if_neg (fun h => by rcases h with h | h; cases h; exact hm h)
              subst ho
              have e10 : wrap64 (qv + 1) = (qv + 1) := w64 (by omega) (by omega)
              have e11 : wrap64 (-(qv + 1)) = -(qv + 1) := w64 (by omega) (by omega)
              clear HQ hv
              go_wp2_with fail
              go_ret2
              exact ⟨rfl, HBW.out⟩
          · have ho : out = (0, 3) := by rw [← HQ.out]; unfold refOut; exact if_pos (Or.inl rfl)
            subst ho
            clear HQ hv
            go_wp2_with fail
            go_ret2
            exact ⟨rfl, HBW.out⟩
        · skip
          have hv : refV mode qv rv d false = qv := if_neg hu
          clear hu
          cases o
          · have hq3 := HN.out rfl
            by_cases hm : 1000000000000000 < qv
            · have ho : out = (0, 3) := by rw [← HQ.out]; unfold refOut; rw [hv]; exact if_pos (Or.inr hm)
              subst ho
              clear HQ hv
              go_wp2_with fail
              go_ret2
              exact ⟨rfl, HBW.out⟩
            · have ho : out = (qv, 0) := by rw [← HQ.out]; unfold refOut; rw [hv]; exact if_neg (fun h => by rcases h with h | h; cases h; exact hm h)
              subst ho
              have e10 : wrap64 qv = qv := w64 (by omega) (by omega)
              have e11 : wrap64 (-qv) = -qv := w64 (by omega) (by omega)
              clear HQ hv
              go_wp2_with fail
              go_ret2
              exact ⟨rfl, HBW.out⟩
          · have ho : out = (0, 3) := by rw [← HQ.out]; unfold refOut; exact if_pos (Or.inl rfl)
            subst ho
            clear HQ hv
            go_wp2_with fail
            go_ret2
            exact ⟨rfl, HBW.out⟩
        · have es' : IntKind.u64.wrap (d - rv) = rv := es.trans ce.symm
          clear es ce
          have hv : refV mode qv rv d false = (qv + 1) := if_pos hu
          clear hu
          cases o
          · have hq3 := HN.out rfl
            have e9 : IntKind.u64.wrap (qv + 1) = qv + 1 := by rw [u64_mod]; omega
            by_cases hm : 1000000000000000 < (qv + 1)
            · have ho : out = (0, 3) := by rw [← HQ.out]; unfold refOut; rw [hv]; exact if_pos (Or.inr hm)
              subst ho
              clear HQ hv
              go_wp2_with fail
              go_ret2
              exact ⟨rfl, HBW.out⟩
            · have ho : out = ((qv + 1), 0) := by rw [← HQ.out]; unfold refOut; rw [hv]; exact if_neg (fun h => by rcases h with h | h; cases h; exact hm h)
              subst ho
              have e10 : wrap64 (qv + 1) = (qv + 1) := w64 (by omega) (by omega)
              have e11 : wrap64 (-(qv + 1)) = -(qv + 1) := w64 (by omega) (by omega)
              clear HQ hv
              go_wp2_with fail
              go_ret2
              exact ⟨rfl, HBW.out⟩
          · have ho : out = (0, 3) := by rw [← HQ.out]; unfold refOut; exact if_pos (Or.inl rfl)
            subst ho
            clear HQ hv
            go_wp2_with fail
            go_ret2
            exact ⟨rfl, HBW.out⟩
        · have es' : IntKind.u64.wrap (d - rv) = rv := es.trans ce.symm
          clear es ce
          have hv : refV mode qv rv d false = qv := if_neg hu
          clear hu
          cases o
          · have hq3 := HN.out rfl
            by_cases hm : 1000000000000000 < qv
            · have ho : out = (0, 3) := by rw [← HQ.out]; unfold refOut; rw [hv]; exact if_pos (Or.inr hm)
              subst ho
              clear HQ hv
              go_wp2_with fail
              go_ret2
              exact ⟨rfl, HBW.out⟩
            · have ho : out = (qv, 0) := by rw [← HQ.out]; unfold refOut; rw [hv]; exact if_neg (fun h => by rcases h with h | h; cases h; exact hm h)
              subst ho
              have e10 : wrap64 qv = qv := w64 (by omega) (by omega)
              have e11 : wrap64 (-qv) = -qv := w64 (by omega) (by omega)
              clear HQ hv
              go_wp2_with fail
              go_ret2
              exact ⟨rfl, HBW.out⟩
          · have ho : out = (0, 3) := by rw [← HQ.out]; unfold refOut; exact if_pos (Or.inl rfl)
            subst ho
            clear HQ hv
            go_wp2_with fail
            go_ret2
            exact ⟨rfl, HBW.out⟩
        · have hu : refUp mode qv rv d false := by exact hu.2 rfl
          have es' : IntKind.u64.wrap (d - rv) = rv := es.trans ce.symm
          clear es ce
          have hv : refV mode qv rv d false = (qv + 1) := if_pos hu
          clear hu
          cases o
          · have hq3 := HN.out rfl
            have e9 : IntKind.u64.wrap (qv + 1) = qv + 1 := by rw [u64_mod]; omega
            by_cases hm : 1000000000000000 < (qv + 1)
            · have ho : out = (0, 3) := by rw [← HQ.out]; unfold refOut; rw [hv]; exact if_pos (Or.inr hm)
              subst ho
              clear HQ hv
              go_wp2_with fail
              go_ret2
              exact ⟨rfl, HBW.out⟩
            · have ho : out = ((qv + 1), 0) := by rw [← HQ.out]; unfold refOut; rw [hv]; exact if_neg (fun h => by rcases h with h | h; cases h; exact hm h)
              subst ho
              have e10 : wrap64 (qv + 1) = (qv + 1) := w64 (by omega) (by omega)
              have e11 : wrap64 (-(qv + 1)) = -(qv + 1) := w64 (by omega) (by omega)
              clear HQ hv
              go_wp2_with fail
              go_ret2
              exact ⟨rfl, HBW.out⟩
          · have ho : out = (0, 3) := by rw [← HQ.out]; unfold refOut; exact if_pos (Or.inl rfl)
            subst ho
            clear HQ hv
            go_wp2_with fail
            go_ret2
            exact ⟨rfl, HBW.out⟩
      · rcases cases7 with ⟨z, hu⟩ | ⟨z, c3, hu⟩ | ⟨z, c3, ce, cl, hu⟩ | ⟨z, c3, ce, cl, hu⟩ | ⟨z, c3, ce, c2, co, hu⟩ | ⟨z, c3, ce, c2, co, hu⟩ | ⟨z, c3, ce, c2, hu⟩
        · skip
          have hv : refV mode qv rv d true = qv := if_neg hu
          clear hu
          cases o
          · have hq3 := HN.out rfl
            by_cases hm : 1000000000000000 < qv
            · have ho : out = (0, 3) := by rw [← HQ.out]; unfold refOut; rw [hv]; exact if_pos (Or.inr hm)
              subst ho
              clear HQ hv
              go_wp2_with fail
              go_ret2
              exact ⟨rfl, HBW.out⟩
            · have ho : out = (-qv, 0) := by rw [← HQ.out]; unfold refOut; rw [hv]; exact if_neg (fun h => by rcases h with h | h; cases h; exact hm h)
              subst ho
              have e10 : wrap64 qv = qv := w64 (by omega) (by omega)
              have e11 : wrap64 (-qv) = -qv := w64 (by omega) (by omega)
              clear HQ hv
              go_wp2_with fail
              go_ret2
              exact ⟨rfl, HBW.out⟩
          · have ho : out = (0, 3) := by rw [← HQ.out]; unfold refOut; exact if_pos (Or.inl rfl)
            subst ho
            clear HQ hv
            go_wp2_with fail
            go_ret2
            exact ⟨rfl, HBW.out⟩
        · have hu : refUp mode qv rv d true := by exact hu.2 rfl
          have hv : refV mode qv rv d true = (qv + 1) := if_pos hu
          clear hu
          cases o
          · have hq3 := HN.out rfl
            have e9 : IntKind.u64.wrap (qv + 1) = qv + 1 := by rw [u64_mod]; omega
            by_cases hm : 1000000000000000 < (qv + 1)
            · have ho : out = (0, 3) := by rw [← HQ.out]; unfold refOut; rw [hv]; exact if_pos (Or.inr hm)
              subst ho
              clear HQ hv
              go_wp2_with fail
              go_ret2
              exact ⟨rfl, HBW.out⟩
            · have ho : out = (-(qv + 1), 0) := by rw [← HQ.out]; unfold refOut; rw [hv]; exact if_neg (fun h => by rcases h with h | h; cases h; exact hm h)
              subst ho
              have e10 : wrap64 (qv + 1) = (qv + 1) := w64 (by omega) (by omega)
              have e11 : wrap64 (-(qv + 1)) = -(qv + 1) := w64 (by omega) (by omega)
              clear HQ hv
              go_wp2_with fail
              go_ret2
              exact ⟨rfl, HBW.out⟩
          · have ho : out = (0, 3) := by rw [← HQ.out]; unfold refOut; exact if_pos (Or.inl rfl)
            subst ho
            clear HQ hv
            go_wp2_with fail
            go_ret2
            exact ⟨rfl, HBW.out⟩
        · skip
          have hv : refV mode qv rv d true = (qv + 1) := if_pos hu
          clear hu
          cases o
          · have hq3 := HN.out rfl
            have e9 : IntKind.u64.wrap (qv + 1) = qv + 1 := by rw [u64_mod]; omega
            by_cases hm : 1000000000000000 < (qv + 1)
            · have ho : out = (0, 3) := by rw [← HQ.out]; unfold refOut; rw [hv]; exact if_pos (Or.inr hm)
              subst ho
              clear HQ hv
              go_wp2_with fail
              go_ret2
              exact ⟨rfl, HBW.out⟩
            · have ho : out = (-(qv + 1), 0) := by rw [← HQ.out]; unfold refOut; rw [hv]; exact if_neg (fun h => by rcases h with h | h; cases h; exact hm h)
              subst ho
              have e10 : wrap64 (qv + 1) = (qv + 1) := w64 (by omega) (by omega)
              have e11 : wrap64 (-(qv + 1)) = -(qv + 1) := w64 (by omega) (by omega)
              clear HQ hv
              go_wp2_with fail
              go_ret2
              exact ⟨rfl, HBW.out⟩
          · have ho : out = (0, 3) := by rw [← HQ.out]; unfold refOut; exact if_pos (Or.inl rfl)
            subst ho
            clear HQ hv
            go_wp2_with fail
            go_ret2
            exact ⟨rfl, HBW.out⟩
        · skip
          have hv : refV mode qv rv d true = qv := if_neg hu
          clear hu
          cases o
          · have hq3 := HN.out rfl
            by_cases hm : 1000000000000000 < qv
            · have ho : out = (0, 3) := by rw [← HQ.out]; unfold refOut; rw [hv]; exact if_pos (Or.inr hm)
              subst ho
              clear HQ hv
              go_wp2_with fail
              go_ret2
              exact ⟨rfl, HBW.out⟩
            · have ho : out = (-qv, 0) := by rw [← HQ.out]; unfold refOut; rw [hv]; exact if_neg (fun h => by rcases h with h | h; cases h; exact hm h)
              subst ho
              have e10 : wrap64 qv = qv := w64 (by omega) (by omega)
              have e11 : wrap64 (-qv) = -qv := w64 (by omega) (by omega)
              clear HQ hv
              go_wp2_with fail
              go_ret2
              exact ⟨rfl, HBW.out⟩
          · have ho : out = (0, 3) := by rw [← HQ.out]; unfold refOut; exact if_pos (Or.inl rfl)
            subst ho
            clear HQ hv
            go_wp2_with fail
            go_ret2
            exact ⟨rfl, HBW.out⟩
        · have es' : IntKind.u64.wrap (d - rv) = rv := es.trans ce.symm
          clear es ce
          have hv : refV mode qv rv d true = (qv + 1) := if_pos hu
          clear hu
          cases o
          · have hq3 := HN.out rfl
            have e9 : IntKind.u64.wrap (qv + 1) = qv + 1 := by rw [u64_mod]; omega
            by_cases hm : 1000000000000000 < (qv + 1)
            · have ho : out = (0, 3) := by rw [← HQ.out]; unfold refOut; rw [hv]; exact if_pos (Or.inr hm)
              subst ho
              clear HQ hv
              go_wp2_with fail
              go_ret2
              exact ⟨rfl, HBW.out⟩
            · have ho : out = (-(qv + 1), 0) := by rw [← HQ.out]; unfold refOut; rw [hv]; exact if_neg (fun h => by rcases h with h | h; cases h; exact hm h)
              subst ho
              have e10 : wrap64 (qv + 1) = (qv + 1) := w64 (by omega) (by omega)
              have e11 : wrap64 (-(qv + 1)) = -(qv + 1) := w64 (by omega) (by omega)
              clear HQ hv
              go_wp2_with fail
              go_ret2
              exact ⟨rfl, HBW.out⟩
          · have ho : out = (0, 3) := by rw [← HQ.out]; unfold refOut; exact if_pos (Or.inl rfl)
            subst ho
            clear HQ hv
            go_wp2_with fail
            go_ret2
            exact ⟨rfl, HBW.out⟩
        · have es' : IntKind.u64.wrap (d - rv) = rv := es.trans ce.symm
          clear es ce
          have hv : refV mode qv rv d true = qv := if_neg hu
          clear hu
          cases o
          · have hq3 := HN.out rfl
            by_cases hm : 1000000000000000 < qv
            · have ho : out = (0, 3) := by rw [← HQ.out]; unfold refOut; rw [hv]; exact if_pos (Or.inr hm)
              subst ho
              clear HQ hv
              go_wp2_with fail
              go_ret2
              exact ⟨rfl, HBW.out⟩
            · have ho : out = (-qv, 0) := by rw [← HQ.out]; unfold refOut; rw [hv]; exact if_neg (fun h => by rcases h with h | h; cases h; exact hm h)
              subst ho
              have e10 : wrap64 qv = qv := w64 (by omega) (by omega)
              have e11 : wrap64 (-qv) = -qv := w64 (by omega) (by omega)
              clear HQ hv
              go_wp2_with fail
              go_ret2
              exact ⟨rfl, HBW.out⟩
          · have ho : out = (0, 3) := by rw [← HQ.out]; unfold refOut; exact if_pos (Or.inl rfl)
            subst ho
            clear HQ hv
            go_wp2_with fail
            go_ret2
            exact ⟨rfl, HBW.out⟩
        · have hu : ¬ refUp mode qv rv d true := by intro h; cases hu.1 h
          have es' : IntKind.u64.wrap (d - rv) = rv := es.trans ce.symm
          clear es ce
          have hv : refV mode qv rv d true = qv := if_neg hu
          clear hu
          cases o
          · have hq3 := HN.out rfl
            by_cases hm : 1000000000000000 < qv
            · have ho : out = (0, 3) := by rw [← HQ.out]; unfold refOut; rw [hv]; exact if_pos (Or.inr hm)
              subst ho
              clear HQ hv
              go_wp2_with fail
              go_ret2
              exact ⟨rfl, HBW.out⟩
            · have ho : out = (-qv, 0) := by rw [← HQ.out]; unfold refOut; rw [hv]; exact if_neg (fun h => by rcases h with h | h; cases h; exact hm h)
              subst ho
              have e10 : wrap64 qv = qv := w64 (by omega) (by omega)
              have e11 : wrap64 (-qv) = -qv := w64 (by omega) (by omega)
              clear HQ hv
              go_wp2_with fail
              go_ret2
              exact ⟨rfl, HBW.out⟩
          · have ho : out = (0, 3) := by rw [← HQ.out]; unfold refOut; exact if_pos (Or.inl rfl)
            subst ho
            clear HQ hv
            go_wp2_with fail
            go_ret2
            exact ⟨rfl, HBW.out⟩
    · obtain ⟨m, rfl⟩ : ∃ m, k = m + 1 := ⟨k - 1, by omega⟩
      obtain rfl : im = (m : Int) := by have := him.out; omega
      have hc := HC.out (m / 32) (by omega)
      obtain ⟨M, hM, hv0, hv1⟩ := HS.out (m / 32) (by omega)
      have hbit := bit_at (r := m % 32) (j := m / 32) (by omega) hM
      rw [show 32 * (m / 32) + m % 32 = m by omega] at hbit
      generalize part p0 p1 p2 p3 (m / 32) = pv at *
      have hj4 : m / 32 < 4 := by omega
      have HM := Aside0.mk hM
      have HBT := Aside0.mk hbit
      have hgm : m + 1 < gk := by have := hgq.out; omega
      clear hM hbit him hgq HZ
      have rr0 := hR.out.r0
      have rr1 := hR.out.r1
      have qq0 := hR.out.q0
      have qq1 := hR.out.q1
      obtain ⟨sv, hsv⟩ : ∃ x, pv / 2 ^ (m % 32) = x := ⟨_, rfl⟩
      have sv0 : 0 ≤ sv := by rw [← hsv]; exact Int.ediv_nonneg hv0 (Int.le_of_lt (Int.pow_pos (by decide)))
      have sv1 : sv < 18446744073709551616 := by rw [← hsv]; exact Int.lt_of_le_of_lt (Int.ediv_le_self _ hv0) (by omega)
      have hB := HBT.out
      rw [hsv] at hB
      obtain ⟨bt, hbe⟩ : ∃ x, sv % 2 = x := ⟨_, rfl⟩
      rw [hbe] at hB
      have hbt : Go.bits .and .u64 sv 1 = bt := by rw [and_one sv0 sv1]; exact hbe
      have bt0 : 0 ≤ bt ∧ bt ≤ 1 := by omega
      obtain ⟨t, ht⟩ : ∃ x, 2 * rv + bt = x := ⟨_, rfl⟩
      have e3 : IntKind.u64.wrap (rv * 2) = 2 * rv := by rw [u64_mod]; omega
      have e4 : Go.bits .or .u64 (2 * rv) bt = t := by rw [or_bit rr0 (by omega) bt0.1 bt0.2]; exact ht
      obtain ⟨q2, hq2⟩ : ∃ x, 2 * qv % 18446744073709551616 = x := ⟨_, rfl⟩
      have e6 : IntKind.u64.wrap (qv * 2) = q2 := by rw [u64_mod, Int.mul_comm]; exact hq2
      have e8 : Go.bits .or .u64 q2 1 = q2 + 1 := by
        have : q2 = 2 * (q2 / 2) := by omega
        rw [this, or_bit (by omega) (by omega) (by omega) (by omega)]
      have HR2 := Aside0.mk (hR.out.step d0 d1 HP0.out bt hB.symm)
      rw [ht, hq2] at HR2
      have e7 : d ≤ t → IntKind.u64.wrap (t - d) = t - d := fun h => by rw [u64_mod]; omega
      clear HM HBT hbe hR ht hq2 hB hv0 hv1 sv0 sv1 rr0 rr1 qq0 qq1 bt0
      by_cases hge : d ≤ t
      · have f7 := e7 hge
        rw [if_pos hge, if_pos hge] at HR2
        have hdt : decide (d ≤ t) = true := decide_eq_true hge
        clear e7
        cases o
        all_goals
          go_wp2_with fail
          go_roundg (m + 1)
          case measure => exact hgm
          case rel => exact ⟨m, _, _, _, _, by omega, rfl, rfl, rfl, rfl, ⟨by omega⟩, ⟨by have h := HR2.out; simp only [Bool.false_or, Bool.true_or] at h; exact h⟩, ⟨rfl⟩, rfl⟩
      · rw [if_neg hge, if_neg hge] at HR2
        have hdt : decide (d ≤ t) = false := decide_eq_false hge
        clear e7
        cases o
        all_goals
          go_wp2_with fail
          go_roundg (m + 1)
          case measure => exact hgm
          case rel => exact ⟨m, _, _, _, _, by omega, rfl, rfl, rfl, rfl, ⟨by omega⟩, ⟨by have h := HR2.out; simp only [Bool.false_or, Bool.true_or] at h; exact h⟩, ⟨rfl⟩, rfl⟩
end Go.Proofs.Ytliapjhjofmliaa.H
