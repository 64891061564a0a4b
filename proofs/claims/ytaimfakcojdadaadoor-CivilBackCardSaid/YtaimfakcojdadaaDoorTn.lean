/- Plain law: there and back, by dates and by texts; later days have later texts. -/
import Derived.Test.YtaimfakcojdadaaDoorTl
namespace Go.Proofs.YtaimfakcojdadaaDoor.H
open Go.RowKit Go.Proofs.YtaimfakcojdadaaDoorW.PrintWords Go.Proofs.YtaimfakcojdadaaDoorW.PrintLast Go.Proofs.YtaimfakcojdadaaDoorW.PrintMore Go.Proofs.YtaimfakcojdadaaDoor.HW Go.Proofs.YtaimfakcojdadaaDoor.Ev
open Go.Proofs.YtaimfakcojdadaaDoor.Math
set_option linter.unusedVariables false
set_option linter.unusedSimpArgs false
theorem drawn_below {w w' : World} (h : Drawn0 w w') : Below w.heap.size w w' := by
  obtain ⟨k, rfl⟩ := h
  exact pw_below_drewN (Below.refl _ _) _
theorem law03_day (x : Int) : ∃ n, isDay n ∧ PA.quittancelaw03_day.f x = some n := by
  refine ⟨_, ?_, rfl⟩
  have h := Int.emod_nonneg x (show (18446744073709551616 : Int) ≠ 0 by omega)
  have e : IntKind.u64.wrap x = x % 18446744073709551616 := rfl
  rw [e, Int.tmod_eq_emod_of_nonneg h]
  have h1 := Int.emod_nonneg (x % 18446744073709551616) (show (109938 : Int) ≠ 0 by omega)
  have h2 := Int.emod_lt_of_pos (x % 18446744073709551616) (show (0 : Int) < 109938 by omega)
  rw [w64 (x := x % 18446744073709551616 % 109938) (by omega) (by omega), w64 (by omega) (by omega)]
  unfold isDay
  omega
theorem back_date (y m d : Int) : ∃ N i z1 z2 z3 j, number y m d = (N, i) ∧ date N = (z1, z2, z3, j) ∧ (i = 5 ∨ (i = 0 ∧ j = 0 ∧ z1 = y ∧ z2 = m ∧ z3 = d)) := by
  by_cases h : okDate y m d
  · have e := number_yes h
    obtain ⟨_, hd, e1, e2, e3⟩ := number_is e
    exact ⟨_, _, _, _, _, _, e, date_yes hd, Or.inr ⟨rfl, rfl, e1.symm, e2.symm, e3.symm⟩⟩
  · exact ⟨0, 5, _, _, _, _, number_no h, date_yes (n := 0) (by unfold isDay; omega), Or.inl rfl⟩
theorem takeP_text {n : Int} (h : isDay n) : takeP (textL n) = (n, 0) := by
  obtain ⟨y1, y2, m1, m2, d1, d2⟩ := date_bd h
  have a1 := digs_four_val (v := yearOf n) (by omega) (by omega)
  have a2 := digs_two_val (v := monthOf n) (by omega) (by omega)
  have a3 := digs_two_val (v := dayOf n) (by omega) (by omega)
  unfold four8 at a1
  unfold two8 at a2 a3
  show (if _ then number _ _ _ else (0, 4)) = _
  rw [a1, a2, a3, if_pos ⟨rfl, rfl, rfl, rfl, rfl⟩]
  exact number_date h
theorem d8_back {x : Int} {c : UInt8} (h : 48 + x = (c.toNat : Int)) : d8 x = c := by
  unfold d8
  rw [h, Int.toNat_natCast, UInt8.ofNat_toNat]
theorem byte_is {c : UInt8} {k : Nat} (hk : k < 256) (h : (c.toNat : Int) = (k : Int)) : c = UInt8.ofNat k := by
  rw [← UInt8.ofNat_toNat (x := c), show c.toNat = k by omega]
theorem good_of {l : List UInt8} {x : Int} {c : UInt8} (hc : c ∈ l) (h : (digs x l).2 = true) : ¬ ((c.toNat : Int) < 48 ∨ 57 < (c.toNat : Int)) := fun hb => by
  rw [digs_bad l x c hc hb] at h; cases h
theorem four_back {c0 c1 c2 c3 : UInt8} (h : (digs 0 [c0, c1, c2, c3]).2 = true) : four8 (digs 0 [c0, c1, c2, c3]).1 = [c0, c1, c2, c3] := by
  have b0 := good_of (c := c0) (by simp) h
  have b1 := good_of (c := c1) (by simp) h
  have b2 := good_of (c := c2) (by simp) h
  have b3 := good_of (c := c3) (by simp) h
  rw [digs_yes b0, digs_yes b1, digs_yes b2, digs_yes b3]
  simp only [digs, four8, List.cons.injEq, and_true]
  exact ⟨d8_back (by omega), d8_back (by omega), d8_back (by omega), d8_back (by omega)⟩
theorem two_back {c0 c1 : UInt8} (h : (digs 0 [c0, c1]).2 = true) : two8 (digs 0 [c0, c1]).1 = [c0, c1] := by
  have b0 := good_of (c := c0) (by simp) h
  have b1 := good_of (c := c1) (by simp) h
  rw [digs_yes b0, digs_yes b1]
  simp only [digs, two8, List.cons.injEq, and_true]
  exact ⟨d8_back (by omega), d8_back (by omega)⟩
theorem takeP_kinds (l : List UInt8) : (takeP l).2 = 4 ∨ (takeP l).2 = 5 ∨ ((takeP l).2 = 0 ∧ isDay (takeP l).1 ∧ textL (takeP l).1 = l) := by
  by_cases hl : l.length = 10
  · obtain ⟨c0, c1, c2, c3, c4, c5, c6, c7, c8, c9, rfl⟩ := list_ten hl
    unfold takeP
    simp only []
    by_cases hd : (c4.toNat : Int) = 45 ∧ (c7.toNat : Int) = 45 ∧ (digs 0 [c0, c1, c2, c3]).2 = true ∧ (digs 0 [c5, c6]).2 = true ∧ (digs 0 [c8, c9]).2 = true
    · rw [if_pos hd]
      obtain ⟨h4, h7, g1, g2, g3⟩ := hd
      have e1 := four_back g1
      have e2 := two_back g2
      have e3 := two_back g3
      generalize (digs 0 [c0, c1, c2, c3]).1 = Y at *
      generalize (digs 0 [c5, c6]).1 = M at *
      generalize (digs 0 [c8, c9]).1 = D at *
      by_cases ok : okDate Y M D
      · have e := number_yes ok
        obtain ⟨_, hd, f1, f2, f3⟩ := number_is e
        rw [e]
        refine Or.inr (Or.inr ⟨rfl, hd, ?_⟩)
        show four8 (yearOf _) ++ 45 :: (two8 (monthOf _) ++ 45 :: two8 (dayOf _)) = _
        rw [← f1, ← f2, ← f3, e1, e2, e3, byte_is (c := c4) (k := 45) (by omega) (by omega), byte_is (c := c7) (k := 45) (by omega) (by omega)]
        rfl
      · rw [number_no ok]; exact Or.inr (Or.inl rfl)
    · rw [if_neg hd]; exact Or.inl rfl
  · rw [takeP_long hl]; exact Or.inl rfl
theorem back_text (s : ByteArray) : ∃ v o u p, takeP s.data.toList = (v, o) ∧ textP v = (u, p) ∧ ((o = 4 ∨ o = 5) ∨ (o = 0 ∧ p = 0 ∧ u = s)) := by
  refine ⟨(takeP s.data.toList).1, (takeP s.data.toList).2, (textP (takeP s.data.toList).1).1, (textP (takeP s.data.toList).1).2, rfl, rfl, ?_⟩
  rcases takeP_kinds s.data.toList with h | h | ⟨h, hd, ht⟩
  · exact Or.inl (Or.inl h)
  · exact Or.inl (Or.inr h)
  · have e : textP (takeP s.data.toList).1 = (txt (textL (takeP s.data.toList).1), 0) := if_pos hd
    rw [e, ht, txt_self]
    exact Or.inr ⟨h, rfl, rfl⟩
end Go.Proofs.YtaimfakcojdadaaDoor.H
