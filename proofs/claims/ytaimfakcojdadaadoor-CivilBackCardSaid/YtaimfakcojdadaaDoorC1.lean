/- What the printed base functions of the calendar come to, in plain numbers; and their contracts in these words. -/
import Derived.Test.YtaimfakcojdadaaDoorMath
import Derived.Test.YtaimfakcojdadaaDoorPAx
namespace Go.Proofs.YtaimfakcojdadaaDoor.H
open Go.RowKit Go.Proofs.YtaimfakcojdadaaDoorW.PrintWords Go.Proofs.YtaimfakcojdadaaDoorW.PrintLast Go.Proofs.YtaimfakcojdadaaDoorW.PrintMore
open Go.Proofs.YtaimfakcojdadaaDoor.Math

theorem w64 {x : Int} (h1 : -9223372036854775808 ≤ x) (h2 : x ≤ 9223372036854775807) : wrap64 x = x := by unfold wrap64; omega

theorem long_cases (y : Int) : long y = decide (Int.tmod y 4 = 0 ∧ (¬ Int.tmod y 100 = 0 ∨ Int.tmod y 400 = 0)) := by
  simp only [tmod_zero]
  unfold long
  by_cases a : y % 4 = 0 <;> by_cases b : y % 100 = 0 <;> by_cases c : y % 400 = 0 <;> simp [a, b, c]

theorem civLong (y : Int) : PA.civil_Long.f y = some (long y) := by
  unfold PA.civil_Long.f
  rw [long_cases]
  by_cases a : Int.tmod y 4 = 0
  · by_cases b : Int.tmod y 100 = 0
    · rw [if_pos a, if_pos b]; by_cases c : Int.tmod y 400 = 0 <;> simp [a, b, c]
    · rw [if_pos a, if_neg b]; simp [a, b]
  · rw [if_neg a]; simp [a]
theorem refLong (y : Int) : PA.quittanceref03_Long.f y = some (long y) := by
  unfold PA.quittanceref03_Long.f
  rw [long_cases]
  by_cases c : Int.tmod y 400 = 0
  · have a : Int.tmod y 4 = 0 := by rw [tmod_zero] at *; omega
    rw [if_pos c]; simp [a, c]
  · by_cases a : Int.tmod y 4 = 0
    · rw [if_neg c, if_pos a]; by_cases b : Int.tmod y 100 = 0 <;> simp [a, b, c]
    · rw [if_neg c, if_neg a]; simp [a]

theorem long_bind {α : Type} (y : Int) (f : Bool → Option α) (g : Int → Option α) (h1 : f true = g 1) (h0 : f false = g 0) : f (long y) = g (leap y) := by
  cases h : long y with
  | true => rw [leap_of_long h, h1]
  | false => rw [leap_of_not h, h0]

theorem civMonth (k : Nat) (y m : Int) : PA.civil_Month.f (k + 1) y m = some (mlen y m) := by
  unfold PA.civil_Month.f
  simp only [PA.civil_Month.j0, civLong, Option.bind_some]
  by_cases h4 : m = 4
  · subst h4; simp [mlen]
  by_cases h6 : m = 6
  · subst h6; simp [mlen]
  by_cases h9 : m = 9
  · subst h9; simp [mlen]
  by_cases h11 : m = 11
  · subst h11; simp [mlen]
  rw [if_neg h4, if_neg h6, if_neg h9]
  have e : (m == 11) = false := by simpa using h11
  rw [e]
  simp only [Bool.false_eq_true, if_false]
  by_cases h2 : m = 2
  · subst h2
    rw [if_pos rfl]
    have : mlen y 2 = 28 + leap y := by simp [mlen]
    rw [this]
    exact long_bind y (fun b => if b = true then some 29 else some 28) (fun l => some (28 + l)) rfl rfl
  · rw [if_neg h2]
    unfold mlen
    by_cases a : m < 1
    · rw [if_pos a, if_pos a]
    · rw [if_neg a, if_neg a]
      by_cases b : m > 12
      · rw [if_pos b, if_pos b]
      · rw [if_neg b, if_neg b, if_neg h2, if_neg (by omega)]

theorem civOpens (y : Int) (h1 : 1 ≤ y) (h2 : y ≤ 1000000) : PA.civil_Opens.f y = some (opens y) := by
  unfold PA.civil_Opens.f opens
  have e1 : wrap64 (y - 1) = y - 1 := w64 (by omega) (by omega)
  rw [e1, tdiv_pos (by omega), tdiv_pos (by omega), tdiv_pos (by omega)]
  congr 1
  rw [w64 (x := 365 * (y - 1)) (by omega) (by omega), w64 (x := (y - 1) / 4) (by omega) (by omega), w64 (x := (y - 1) / 100) (by omega) (by omega), w64 (x := (y - 1) / 400) (by omega) (by omega)]
  rw [w64 (x := 365 * (y - 1) + (y - 1) / 4) (by omega) (by omega), w64 (x := 365 * (y - 1) + (y - 1) / 4 - (y - 1) / 100) (by omega) (by omega), w64 (x := 365 * (y - 1) + (y - 1) / 4 - (y - 1) / 100 + (y - 1) / 400) (by omega) (by omega)]
  rw [w64 (by omega) (by omega)]

/-- The day of the week. -/
def weekday (n : Int) : Int := (n + 3) % 7
theorem tmod7 (n : Int) : Int.tmod n 7 = n % 7 ∨ Int.tmod n 7 = n % 7 - 7 := by
  by_cases h : n < 0
  · have e : Int.tmod n 7 = -(Int.tmod (-n) 7) := by rw [Int.neg_tmod]; omega
    rw [e, tmod_pos (by omega)]
    omega
  · left; exact tmod_pos (by omega) 7
theorem tmod7_bd (n : Int) : -7 ≤ Int.tmod n 7 ∧ Int.tmod n 7 < 7 := by
  rcases tmod7 n with h | h <;> rw [h] <;> omega
theorem civWeekday (n : Int) : PA.civil_Weekday.f n = some (weekday n) := by
  unfold PA.civil_Weekday.f weekday
  have b1 := tmod7_bd n
  have c1 := tmod7 n
  rw [w64 (x := Int.tmod n 7 + 3) (by omega) (by omega)]
  have b2 := tmod7_bd (Int.tmod n 7 + 3)
  have c2 := tmod7 (Int.tmod n 7 + 3)
  rw [w64 (by omega) (by omega), tmod_pos (by omega)]
  congr 1
  omega
theorem refWeekday (n : Int) : PA.quittanceref03_Weekday.f n = some (weekday n) := by
  unfold PA.quittanceref03_Weekday.f weekday
  have b1 := tmod7_bd n
  have c1 := tmod7 n
  rw [w64 (x := Int.tmod n 7 + 3) (by omega) (by omega)]
  have b2 := tmod7_bd (Int.tmod n 7 + 3)
  have c2 := tmod7 (Int.tmod n 7 + 3)
  split
  · rw [w64 (by omega) (by omega)]; congr 1; omega
  · congr 1; omega
theorem refIs (n : Int) : PA.quittanceref03_Is.f n = some (decide (isDay n)) := by
  unfold PA.quittanceref03_Is.f isDay
  by_cases h : n ≥ -25567 <;> simp [h]

/-- Days from 1 January 1900 to a year's first. -/
theorem before_loop (d : Nat) : ∀ (k : Nat) (y x i : Int), 1900 ≤ y → y ≤ 3000 → 1900 ≤ i → i % 4 = 0 → (y - i ≤ 4 * (d : Int)) → d < k → 0 ≤ x → x + (y + 3 - i) ≤ 2000000 → i ≤ y + 3 →
    PA.quittanceref03_before.l0 k y x i = some (x + (if i < y then ((y - 1) / 4 - (y - 1) / 100 + (y - 1) / 400) - ((i - 1) / 4 - (i - 1) / 100 + (i - 1) / 400) else 0)) := by
  induction d with
  | zero =>
    intro k y x i h1 h2 h3 h4 h5 h6 h7 h8 h9
    obtain ⟨k, rfl⟩ : ∃ m, k = m + 1 := ⟨k - 1, by omega⟩
    simp only [PA.quittanceref03_before.l0]
    rw [if_neg (by omega), if_neg (by omega)]
    simp
  | succ d ih =>
    intro k y x i h1 h2 h3 h4 h5 h6 h7 h8 h9
    obtain ⟨k, rfl⟩ : ∃ m, k = m + 1 := ⟨k - 1, by omega⟩
    simp only [PA.quittanceref03_before.l0]
    by_cases hlt : i < y
    · rw [if_pos hlt, if_pos hlt, refLong]
      simp only [Option.bind_some]
      have e4 : wrap64 (i + 4) = i + 4 := w64 (by omega) (by omega)
      rw [e4]
      have hl : leap i = if ¬ i % 100 = 0 ∨ i % 400 = 0 then 1 else 0 := by unfold leap; simp [h4]
      have step : long i = true ∧ leap i = 1 ∨ long i = false ∧ leap i = 0 := by
        cases hb : long i with
        | true => exact Or.inl ⟨rfl, leap_of_long hb⟩
        | false => exact Or.inr ⟨rfl, leap_of_not hb⟩
      rcases step with ⟨e, e'⟩ | ⟨e, e'⟩
      · rw [e]
        simp only [if_true]
        rw [w64 (x := x + 1) (by omega) (by omega), ih k y (x + 1) (i + 4) h1 h2 (by omega) (by omega) (by omega) (by omega) (by omega) (by omega) (by omega)]
        congr 1
        rw [e'] at hl
        split at hl
        · split <;> omega
        · omega
      · rw [e]
        simp only [Bool.false_eq_true, if_false]
        rw [ih k y x (i + 4) h1 h2 (by omega) (by omega) (by omega) (by omega) (by omega) (by omega) (by omega)]
        congr 1
        rw [e'] at hl
        split at hl
        · omega
        · split <;> omega
    · rw [if_neg hlt, if_neg hlt]; simp
theorem refBefore (k : Nat) (hk : 400 ≤ k) (y : Int) (h1 : 1900 ≤ y) (h2 : y ≤ 3000) : PA.quittanceref03_before.f k y = some (opens y + 25567) := by
  unfold PA.quittanceref03_before.f
  rw [w64 (x := y - 1900) (by omega) (by omega), w64 (by omega) (by omega)]
  rw [before_loop 300 k y _ 1900 h1 h2 (by omega) (by omega) (by omega) (by omega) (by omega) (by omega) (by omega)]
  congr 1
  unfold opens
  split <;> omega

/-! ### The contracts in these words -/
def civil_Long.f (y : Int) : Option Bool := some (long y)
theorem civil_Long.calls (a0 : Int) (r : Bool) (w : World) (h : civil_Long.f a0 = some r) : Calls Tryd.prog 15 #[.int .i64 a0] w fun e w' => e = .returned (.bool r) ∧ Drawn0 w w' :=
  PA.civil_Long.calls a0 r w ((civLong a0).trans h)
def civil_Month.f (y m : Int) : Option Int := some (mlen y m)
theorem civil_Month.calls (a0 a1 r : Int) (w : World) (h : civil_Month.f a0 a1 = some r) : Calls Tryd.prog 17 #[.int .i64 a0, .int .i64 a1] w fun e w' => e = .returned (.int .i64 r) ∧ Drawn0 w w' :=
  PA.civil_Month.calls 1 a0 a1 r w ((civMonth 0 a0 a1).trans h)
def civil_Opens.f (y : Int) : Option Int := if 1 ≤ y ∧ y ≤ 1000000 then some (opens y) else none
theorem civil_Opens.calls (a0 r : Int) (w : World) (h : civil_Opens.f a0 = some r) : Calls Tryd.prog 22 #[.int .i64 a0] w fun e w' => e = .returned (.int .i64 r) ∧ Drawn0 w w' := by
  unfold civil_Opens.f at h
  split at h
  · rename_i hb; exact PA.civil_Opens.calls a0 r w ((civOpens a0 hb.1 hb.2).trans h)
  · cases h
def civil_Weekday.f (n : Int) : Option Int := some (weekday n)
theorem civil_Weekday.calls (a0 r : Int) (w : World) (h : civil_Weekday.f a0 = some r) : Calls Tryd.prog 19 #[.int .i64 a0] w fun e w' => e = .returned (.int .i64 r) ∧ Drawn0 w w' :=
  PA.civil_Weekday.calls a0 r w ((civWeekday a0).trans h)
def quittanceref03_Long.f (y : Int) : Option Bool := some (long y)
theorem quittanceref03_Long.calls (a0 : Int) (r : Bool) (w : World) (h : quittanceref03_Long.f a0 = some r) : Calls Tryd.prog 16 #[.int .i64 a0] w fun e w' => e = .returned (.bool r) ∧ Drawn0 w w' :=
  PA.quittanceref03_Long.calls a0 r w ((refLong a0).trans h)
def quittanceref03_Weekday.f (n : Int) : Option Int := some (weekday n)
theorem quittanceref03_Weekday.calls (a0 r : Int) (w : World) (h : quittanceref03_Weekday.f a0 = some r) : Calls Tryd.prog 20 #[.int .i64 a0] w fun e w' => e = .returned (.int .i64 r) ∧ Drawn0 w w' :=
  PA.quittanceref03_Weekday.calls a0 r w ((refWeekday a0).trans h)
def quittanceref03_Is.f (n : Int) : Option Bool := some (decide (isDay n))
theorem quittanceref03_Is.calls (a0 : Int) (r : Bool) (w : World) (h : quittanceref03_Is.f a0 = some r) : Calls Tryd.prog 24 #[.int .i64 a0] w fun e w' => e = .returned (.bool r) ∧ Drawn0 w w' :=
  PA.quittanceref03_Is.calls a0 r w ((refIs a0).trans h)
def quittanceref03_before.f (y : Int) : Option Int := if 1900 ≤ y ∧ y ≤ 3000 then some (opens y + 25567) else none
theorem quittanceref03_before.calls (a0 r : Int) (w : World) (h : quittanceref03_before.f a0 = some r) : Calls Tryd.prog 23 #[.int .i64 a0] w fun e w' => e = .returned (.int .i64 r) ∧ Drawn0 w w' := by
  unfold quittanceref03_before.f at h
  split at h
  · rename_i hb; exact PA.quittanceref03_before.calls 400 a0 r w ((refBefore 400 (by omega) a0 hb.1 hb.2).trans h)
  · cases h

/-! ### The reference's month: an array literal, indexed -/
def quittanceref03_Month.f (y m : Int) : Option Int := some (mlen y m)
theorem arr_at (m : Int) (h1 : 1 ≤ m) (h2 : m ≤ 12) (w : World) : (Instr.index 46 (.agg #[.int .i64 31, .int .i64 28, .int .i64 31, .int .i64 30, .int .i64 31, .int .i64 30, .int .i64 31, .int .i64 31, .int .i64 30, .int .i64 31, .int .i64 30, .int .i64 31]) (.int .i64 (m - 1))).run Tryd.prog w = .ok (.int .i64 (if m = 2 then 28 else if m = 4 ∨ m = 6 ∨ m = 9 ∨ m = 11 then 30 else 31)) w := by
  rcases cases12 h1 h2 with rfl | rfl | rfl | rfl | rfl | rfl | rfl | rfl | rfl | rfl | rfl | rfl <;> kernel_rfl
set_option maxHeartbeats 1000000 in
theorem quittanceref03_Month.calls (y m r : Int) (w : World) (h : quittanceref03_Month.f y m = some r) :
    Calls Tryd.prog 18 #[.int .i64 y, .int .i64 m] w fun e w' => e = .returned (.int .i64 r) ∧ Drawn0 w w' := by
  obtain rfl := Option.some.inj h
  clear h
  by_cases h1 : m < 1
  · have e : mlen y m = 0 := by unfold mlen; rw [if_pos h1]
    rw [e]
    have c : decide (m < 1) = true := decide_eq_true h1
    go_enter Tryd.func18, Tryd.ntmps18
    go_wp2
    go_ret
    exact ⟨rfl, Drawn0.refl _⟩
  by_cases h2 : 12 < m
  · have e : mlen y m = 0 := by unfold mlen; rw [if_neg h1, if_pos h2]
    rw [e]
    have c : decide (m < 1) = false := decide_eq_false h1
    have c2 : decide (12 < m) = true := decide_eq_true h2
    go_enter Tryd.func18, Tryd.ntmps18
    go_wp2
    go_ret
    exact ⟨rfl, Drawn0.refl _⟩
  have c : decide (m < 1) = false := decide_eq_false h1
  have c2 : decide (12 < m) = false := decide_eq_false h2
  have b1 : 1 ≤ m := by omega
  have b2 : m ≤ 12 := by omega
  clear h1 h2
  by_cases hm : m = 2
  · subst hm
    have ix : ∀ w, (Instr.index 46 (.agg #[.int .i64 31, .int .i64 28, .int .i64 31, .int .i64 30, .int .i64 31, .int .i64 30, .int .i64 31, .int .i64 31, .int .i64 30, .int .i64 31, .int .i64 30, .int .i64 31]) (.int .i64 1)).run Tryd.prog w = .ok (.int .i64 28) w := arr_at 2 (by omega) (by omega)
    have HL : Aside0 (quittanceref03_Long.f y = some (long y)) := ⟨rfl⟩
    cases hb : long y with
    | true =>
      have e : mlen y 2 = 29 := by simp [mlen, leap_of_long hb]
      rw [e]
      rw [hb] at HL
      clear hb e
      go_enter Tryd.func18, Tryd.ntmps18
      go_wp2_with (go_at_call 16; (refine (quittanceref03_Long.calls y true _ HL.out).mono ?_); rintro e w' ⟨rfl, ⟨nd, rfl⟩⟩)
      go_ret
      exact ⟨rfl, by repeat (first | exact Drawn0.refl _ | apply Drawn0.step)⟩
    | false =>
      have e : mlen y 2 = 28 := by simp [mlen, leap_of_not hb]
      rw [e]
      rw [hb] at HL
      clear hb e
      go_enter Tryd.func18, Tryd.ntmps18
      go_wp2_with (go_at_call 16; (refine (quittanceref03_Long.calls y false _ HL.out).mono ?_); rintro e w' ⟨rfl, ⟨nd, rfl⟩⟩)
      go_ret
      exact ⟨rfl, by repeat (first | exact Drawn0.refl _ | apply Drawn0.step)⟩
  have ix := arr_at m b1 b2
  have e : mlen y m = if m = 2 then 28 else if m = 4 ∨ m = 6 ∨ m = 9 ∨ m = 11 then 30 else 31 := by unfold mlen; rw [if_neg (by omega), if_neg (by omega), if_neg hm, if_neg hm]
  rw [e]
  generalize (if m = 2 then 28 else if m = 4 ∨ m = 6 ∨ m = 9 ∨ m = 11 then 30 else 31 : Int) = v at ix ⊢
  have c3 : (m == 2) = false := by simpa using hm
  clear hm e
  go_enter Tryd.func18, Tryd.ntmps18
  go_wp2
  go_ret
  exact ⟨rfl, Drawn0.refl _⟩
end Go.Proofs.YtaimfakcojdadaaDoor.H
