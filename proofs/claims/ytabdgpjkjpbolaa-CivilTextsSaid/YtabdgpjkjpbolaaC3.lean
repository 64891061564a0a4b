/- What the printed functions on months further on and on parts of a year come to, in plain numbers; and their contracts in these words. -/
import Derived.Test.YtabdgpjkjpbolaaC2
import Derived.Test.YtabdgpjkjpbolaaPDx
namespace Go.Proofs.Ytabdgpjkjpbolaa.H
open Go.RowKit Go.Proofs.YtabdgpjkjpbolaaW.PrintWords Go.Proofs.YtabdgpjkjpbolaaW.PrintLast Go.Proofs.YtabdgpjkjpbolaaW.PrintMore
open Go.Proofs.Ytabdgpjkjpbolaa.Math

theorem mn_min (a b : Int) : mn a b = min a b := by unfold mn; omega
theorem mx_max (a b : Int) : mx a b = max a b := by unfold mx; omega
theorem date_bd {n : Int} (h : isDay n) : 1900 ≤ yearOf n ∧ yearOf n ≤ 2200 ∧ 1 ≤ monthOf n ∧ monthOf n ≤ 12 ∧ 1 ≤ dayOf n ∧ dayOf n ≤ 31 := by
  obtain ⟨⟨y1, y2, d1, d2⟩, m1, m2, _⟩ := date_ok h
  have := mlen_bd (yearOf n) (monthOf n)
  exact ⟨y1, y2, m1, m2, d1, by omega⟩

theorem t_wrap {y m x : Int} (y1 : 1900 ≤ y) (y2 : y ≤ 2200) (m1 : 1 ≤ m) (m2 : m ≤ 12) (x1 : -4000 ≤ x) (x2 : x ≤ 4000) : wrap64 (wrap64 (wrap64 (wrap64 (12 * y) + m) - 1) + x) = 12 * y + m - 1 + x := by
  rw [w64 (x := 12 * y) (by omega) (by omega), w64 (x := 12 * y + m) (by omega) (by omega), w64 (x := 12 * y + m - 1) (by omega) (by omega), w64 (by omega) (by omega)]
theorem t_parts {t : Int} (h0 : 0 ≤ t) (h1 : t ≤ 1000000) : wrap64 (Int.tdiv t 12) = t / 12 ∧ wrap64 (Int.tmod t 12 + 1) = t % 12 + 1 := by
  rw [tdiv_pos h0, tmod_pos h0]
  exact ⟨w64 (by omega) (by omega), w64 (by omega) (by omega)⟩
theorem civAdd (k : Nat) (n x : Int) : PD.monthly_Add.f (k + 1) n x = some (add n x) := by
  unfold PD.monthly_Add.f add
  simp only [PD.monthly_Add.j0, civil_Date.f, civil_Month.f, civil_Number.f, Option.bind_some]
  by_cases hd : isDay n
  · rw [date_yes hd, if_pos hd]
    obtain ⟨y1, y2, m1, m2, d1, d2⟩ := date_bd hd
    simp only [if_true]
    by_cases h1 : x < -3612
    · rw [if_pos h1, if_pos (Or.inl h1)]
    rw [if_neg h1]
    by_cases h2 : x > 3612
    · rw [decide_eq_true h2, if_pos (Or.inr h2)]; simp
    rw [decide_eq_false h2, if_neg (show ¬ (x < -3612 ∨ 3612 < x) by omega)]
    simp only [Bool.false_eq_true, if_false]
    rw [t_wrap y1 y2 m1 m2 (by omega) (by omega)]
    obtain ⟨e1, e2⟩ := t_parts (t := 12 * yearOf n + monthOf n - 1 + x) (by omega) (by omega)
    rw [e1, e2, mn_min]
    rfl
  · rw [date_no hd, if_neg hd]
    simp
theorem refAdd (k : Nat) (n x : Int) : PD.quittanceref04_Add.f (k + 2) n x = some (add n x) := by
  unfold PD.quittanceref04_Add.f add
  simp only [PD.quittanceref04_Add.j0, PD.quittanceref04_Add.j1, quittanceref03_Date.f, quittanceref03_Month.f, quittanceref03_Number.f, Option.bind_some]
  by_cases hd : isDay n
  · rw [date_yes hd, if_pos hd]
    obtain ⟨y1, y2, m1, m2, d1, d2⟩ := date_bd hd
    simp only [if_true]
    by_cases h1 : x < -4000
    · rw [if_pos h1, if_pos (Or.inl (by omega))]
    rw [if_neg h1]
    by_cases h2 : x > 4000
    · rw [decide_eq_true h2, if_pos (Or.inr (by omega))]; simp
    rw [decide_eq_false h2]
    simp only [Bool.false_eq_true, if_false]
    rw [t_wrap y1 y2 m1 m2 (by omega) (by omega)]
    obtain ⟨e1, e2⟩ := t_parts (t := 12 * yearOf n + monthOf n - 1 + x) (by omega) (by omega)
    rw [e1, e2, mn_min]
    by_cases h3 : 12 * yearOf n + monthOf n - 1 + x < 22800
    · rw [if_pos h3]
      split
      · rfl
      · unfold addRaw; rw [number_no (by unfold okDate; omega)]
    rw [if_neg h3]
    by_cases h4 : 12 * yearOf n + monthOf n - 1 + x ≥ 26412
    · rw [decide_eq_true h4]
      simp only [if_true]
      split
      · rfl
      · unfold addRaw; rw [number_no (by unfold okDate; omega)]
    · rw [decide_eq_false h4, if_neg (show ¬ (x < -3612 ∨ 3612 < x) by omega)]
      simp only [Bool.false_eq_true, if_false]
      rfl
  · rw [date_no hd, if_neg hd]
    simp

/-- A day's place in years of twelve months of thirty days. -/
def thirty (n : Int) : Int := if isDay n then 360 * yearOf n + 30 * monthOf n + min (dayOf n) 30 else 0
theorem refThirty (n : Int) : PD.quittanceref06_thirty.f n = some (thirty n) := by
  unfold PD.quittanceref06_thirty.f thirty
  simp only [quittanceref03_Date.f, Option.bind_some]
  by_cases hd : isDay n
  · rw [date_yes hd, if_pos hd]
    obtain ⟨y1, y2, m1, m2, d1, d2⟩ := date_bd hd
    simp only [mn_min]
    rw [w64 (x := 360 * yearOf n) (by omega) (by omega), w64 (x := 30 * monthOf n) (by omega) (by omega), w64 (x := 360 * yearOf n + 30 * monthOf n) (by omega) (by omega), w64 (by omega) (by omega)]
  · rw [date_no hd, if_neg hd]; simp [wrap64, mn]
theorem thirty_bd (n : Int) : 0 ≤ thirty n ∧ thirty n ≤ 1000000 := by
  unfold thirty
  split
  · rename_i h
    obtain ⟨y1, y2, m1, m2, d1, d2⟩ := date_bd h
    omega
  · omega
/-- A day's place in years of 365 times 366 parts. -/
def actual (n : Int) : Int := 133590 * yearOf n + (n - opens (yearOf n)) * (366 - leap (yearOf n))
/-- How many parts lie between a day and the next one. -/
def one (c n : Int) : Int := if c = 2 then 1 else if c = 3 then 366 - leap (date n).1 else thirty (n + 1) - thirty n
theorem refOne (c n : Int) (h1 : -9223372036854775808 ≤ n) (h2 : n < 9223372036854775807) : PD.quittanceref06_One.f c n = some (one c n) := by
  unfold PD.quittanceref06_One.f one
  simp only [quittanceref03_Date.f, quittanceref03_Long.f, Option.bind_some]
  by_cases a : c = 2
  · rw [if_pos a, if_pos a]
  rw [if_neg a, if_neg a]
  by_cases b : c = 3
  · rw [if_pos b, if_pos b]
    exact long_bind _ (fun x => if x = true then some 365 else some 366) (fun l => some (366 - l)) rfl rfl
  · rw [if_neg b, if_neg b]
    rw [w64 (by omega) (by omega), refThirty, refThirty]
    simp only [Option.bind_some]
    have := thirty_bd n
    have := thirty_bd (n + 1)
    rw [w64 (by omega) (by omega)]
theorem busMonth (n : Int) : PD.business_month.f n = some (12 * (date n).1 + (date n).2.1) := by
  unfold PD.business_month.f
  simp only [civil_Date.f, Option.bind_some]
  by_cases hd : isDay n
  · rw [date_yes hd]
    obtain ⟨y1, y2, m1, m2, d1, d2⟩ := date_bd hd
    simp only []
    rw [w64 (x := 12 * yearOf n) (by omega) (by omega), w64 (by omega) (by omega)]
  · rw [date_no hd]; simp [wrap64]

/-! ### Parts between two days -/
theorem next_day {n : Int} (h : isDay n) (h' : isDay (n + 1)) : (yearOf (n + 1) = yearOf n ∧ n + 1 < opens (yearOf n + 1)) ∨ (yearOf (n + 1) = yearOf n + 1 ∧ n + 1 = opens (yearOf n + 1)) := by
  obtain ⟨y1, y2, y3, y4⟩ := yearOf_spec h
  obtain ⟨z1, z2, z3, z4⟩ := yearOf_spec h'
  by_cases e : n + 1 < opens (yearOf n + 1)
  · exact Or.inl ⟨(year_unique h' (by omega) e y1 y2).symm, e⟩
  · have e' : n + 1 = opens (yearOf n + 1) := by omega
    have ho := opens_succ (yearOf n + 1)
    have hl := leap_01 (yearOf n + 1)
    refine Or.inr ⟨(year_unique h' (by omega) (by omega) (by omega) ?_).symm, e'⟩
    by_cases e2 : yearOf n = 2200
    · rw [e2] at e'
      have : opens 2201 = 84371 := by decide
      obtain ⟨_, h2⟩ := h'
      rw [show (2200 : Int) + 1 = 2201 from rfl, this] at e'
      omega
    · omega
theorem actual_succ {n : Int} (h : isDay n) (h' : isDay (n + 1)) : actual (n + 1) = actual n + (366 - leap (yearOf n)) := by
  have hl := leap_01 (yearOf n)
  have ho := opens_succ (yearOf n)
  unfold actual
  rcases next_day h h' with ⟨e, e2⟩ | ⟨e, e2⟩
  · rw [e]
    rcases (by omega : leap (yearOf n) = 0 ∨ leap (yearOf n) = 1) with l | l <;> rw [l] <;> omega
  · rw [e, show n + 1 - opens (yearOf n + 1) = 0 by omega]
    rcases (by omega : leap (yearOf n) = 0 ∨ leap (yearOf n) = 1) with l | l <;> rw [l] at ho ⊢ <;> omega
theorem actual_bd {n : Int} (h : isDay n) : 0 ≤ actual n ∧ actual n ≤ 300000000 := by
  obtain ⟨y1, y2, y3, y4⟩ := yearOf_spec h
  have hl := leap_01 (yearOf n)
  have ho := opens_succ (yearOf n)
  unfold actual
  rcases (by omega : leap (yearOf n) = 0 ∨ leap (yearOf n) = 1) with l | l <;> rw [l] at ho ⊢ <;> omega
/-- A day's place, by a count. -/
def place (c n : Int) : Int := if c = 1 then thirty n else if c = 2 then n else actual n
theorem place_succ {c n : Int} (hc : c = 1 ∨ c = 2 ∨ c = 3) (h : isDay n) (h' : isDay (n + 1)) : place c (n + 1) = place c n + one c n := by
  unfold place one
  rcases hc with rfl | rfl | rfl
  · simp; omega
  · simp
  · simp only [show ¬ ((3 : Int) = 1) by decide, show ¬ ((3 : Int) = 2) by decide, if_false, if_true]
    rw [date_yes h]
    exact actual_succ h h'
theorem place_bd {c n : Int} (h : isDay n) : -300000000 ≤ place c n ∧ place c n ≤ 300000000 := by
  have a := thirty_bd n
  have b := actual_bd h
  obtain ⟨h1, h2⟩ := h
  unfold place
  repeat' split
  all_goals omega
/-- How many parts lie between two days, or which error. -/
def between (c a b : Int) : Int × Int := if c = 1 ∨ c = 2 ∨ c = 3 then (if isDay a ∧ isDay b then (place c b - place c a, 0) else (0, 5)) else (0, 1)
theorem between_loop (d : Nat) : ∀ (k : Nat) (c a b s i : Int), (c = 2 ∨ c = 3) → isDay a → isDay b → min a b ≤ i → max a b - i = d → d < k → s = place c i - place c (min a b) →
    PD.quittanceref06_Between.l0 k c a b s i = some (place c b - place c a, 0) := by
  induction d with
  | zero =>
    intro k c a b s i hc ha hb h1 h2 h3 h4
    obtain ⟨k, rfl⟩ : ∃ m, k = m + 1 := ⟨k - 1, by omega⟩
    obtain rfl : i = max a b := by omega
    have b1 := place_bd (c := c) ha
    have b2 := place_bd (c := c) hb
    simp only [PD.quittanceref06_Between.l0, mx_max]
    rw [if_neg (by omega)]
    by_cases hlt : b < a
    · rw [if_pos hlt, h4, show max a b = a by omega, show min a b = b by omega, w64 (by omega) (by omega)]
      congr 2; omega
    · rw [if_neg hlt, h4, show max a b = b by omega, show min a b = a by omega]
  | succ d ih =>
    intro k c a b s i hc ha hb h1 h2 h3 h4
    obtain ⟨k, rfl⟩ : ∃ m, k = m + 1 := ⟨k - 1, by omega⟩
    obtain ⟨a1, a2⟩ := id ha
    obtain ⟨b1, b2⟩ := id hb
    have hi : isDay i := ⟨by omega, by omega⟩
    have hi' : isDay (i + 1) := ⟨by omega, by omega⟩
    have hm : isDay (min a b) := ⟨by omega, by omega⟩
    have p1 := place_bd (c := c) hi
    have p2 := place_bd (c := c) hi'
    have p3 := place_bd (c := c) hm
    have hs := place_succ (c := c) (Or.inr hc) hi hi'
    simp only [PD.quittanceref06_Between.l0, mx_max]
    rw [if_pos (by omega), refOne c i (by omega) (by omega)]
    simp only [Option.bind_some]
    rw [w64 (x := s + one c i) (by omega) (by omega), w64 (x := i + 1) (by omega) (by omega)]
    exact ih k c a b _ _ hc ha hb (by omega) (by omega) (by omega) (by omega)
theorem refBetween (k : Nat) (hk : 120000 ≤ k) (c a b : Int) : PD.quittanceref06_Between.f k c a b = some (between c a b) := by
  obtain ⟨k, rfl⟩ : ∃ m, k = m + 2 := ⟨k - 2, by omega⟩
  unfold PD.quittanceref06_Between.f between
  simp only [PD.quittanceref06_Between.j0, PD.quittanceref06_Between.j1, quittanceref03_Is.f, Option.bind_some]
  by_cases h1 : c < 1
  · rw [if_pos h1, if_neg (show ¬ (c = 1 ∨ c = 2 ∨ c = 3) by omega)]; simp
  rw [if_neg h1]
  by_cases h2 : c > 3
  · rw [decide_eq_true h2, if_neg (show ¬ (c = 1 ∨ c = 2 ∨ c = 3) by omega)]; simp
  rw [decide_eq_false h2, if_pos (show c = 1 ∨ c = 2 ∨ c = 3 by omega)]
  simp only [Bool.false_eq_true, if_false]
  by_cases ha : isDay a
  · rw [decide_eq_true ha]
    simp only [if_true]
    by_cases hb : isDay b
    · rw [decide_eq_true hb, if_pos (show isDay a ∧ isDay b from ⟨ha, hb⟩)]
      simp only [Bool.not_true, Bool.false_eq_true, if_false]
      by_cases hc : c = 1
      · subst hc
        rw [if_pos rfl, refThirty, refThirty]
        simp only [Option.bind_some]
        have := thirty_bd a
        have := thirty_bd b
        rw [w64 (by omega) (by omega)]; rfl
      · rw [if_neg hc, mn_min]
        obtain ⟨a1, a2⟩ := id ha
        obtain ⟨b1, b2⟩ := id hb
        exact between_loop (max a b - min a b).toNat k c a b 0 (min a b) (by omega) ha hb (by omega) (by omega) (by omega) (by omega)
    · rw [decide_eq_false hb, if_neg (show ¬ (isDay a ∧ isDay b) from fun h => hb h.2)]; simp
  · rw [decide_eq_false ha, if_neg (show ¬ (isDay a ∧ isDay b) from fun h => ha h.1)]; simp

/-! ### The contracts in these words -/
def monthly_Add.f (n x : Int) : Option (Int × Int) := some (add n x)
theorem monthly_Add.calls (a0 a1 r1 r2 : Int) (w : World) (h : monthly_Add.f a0 a1 = some (r1, r2)) :
    Calls Try.prog 27 #[.int .i64 a0, .int .i64 a1] w fun e w' => e = .returned (.tuple #[.int .i64 r1, .int .i64 r2]) ∧ Below w.heap.size w w' :=
  PD.monthly_Add.calls 1 a0 a1 r1 r2 w ((civAdd 0 a0 a1).trans h)
def quittanceref04_Add.f (n x : Int) : Option (Int × Int) := some (add n x)
theorem quittanceref04_Add.calls (a0 a1 r1 r2 : Int) (w : World) (h : quittanceref04_Add.f a0 a1 = some (r1, r2)) :
    Calls Try.prog 31 #[.int .i64 a0, .int .i64 a1] w fun e w' => e = .returned (.tuple #[.int .i64 r1, .int .i64 r2]) ∧ Below w.heap.size w w' :=
  PD.quittanceref04_Add.calls 2 a0 a1 r1 r2 w ((refAdd 0 a0 a1).trans h)
def quittanceref06_thirty.f (n : Int) : Option Int := some (thirty n)
theorem quittanceref06_thirty.calls (a0 r : Int) (w : World) (h : quittanceref06_thirty.f a0 = some r) : Calls Try.prog 71 #[.int .i64 a0] w fun e w' => e = .returned (.int .i64 r) ∧ Below w.heap.size w w' :=
  PD.quittanceref06_thirty.calls a0 r w ((refThirty a0).trans h)
def quittanceref06_One.f (c n : Int) : Option Int := if -9223372036854775808 ≤ n ∧ n < 9223372036854775807 then some (one c n) else none
theorem quittanceref06_One.calls (a0 a1 r : Int) (w : World) (h : quittanceref06_One.f a0 a1 = some r) : Calls Try.prog 43 #[.int .i64 a0, .int .i64 a1] w fun e w' => e = .returned (.int .i64 r) ∧ Below w.heap.size w w' := by
  unfold quittanceref06_One.f at h
  split at h
  · rename_i hb; exact PD.quittanceref06_One.calls a0 a1 r w ((refOne a0 a1 hb.1 hb.2).trans h)
  · cases h
def business_month.f (n : Int) : Option Int := some (12 * (date n).1 + (date n).2.1)
theorem business_month.calls (a0 r : Int) (w : World) (h : business_month.f a0 = some r) : Calls Try.prog 75 #[.int .i64 a0] w fun e w' => e = .returned (.int .i64 r) ∧ Below w.heap.size w w' :=
  PD.business_month.calls a0 r w ((busMonth a0).trans h)
def quittanceref06_Between.f (c a b : Int) : Option (Int × Int) := some (between c a b)
theorem quittanceref06_Between.calls (a0 a1 a2 r1 r2 : Int) (w : World) (h : quittanceref06_Between.f a0 a1 a2 = some (r1, r2)) :
    Calls Try.prog 40 #[.int .i64 a0, .int .i64 a1, .int .i64 a2] w fun e w' => e = .returned (.tuple #[.int .i64 r1, .int .i64 r2]) ∧ Below w.heap.size w w' :=
  PD.quittanceref06_Between.calls 120000 a0 a1 a2 r1 r2 w ((refBetween 120000 (by omega) a0 a1 a2).trans h)
end Go.Proofs.Ytabdgpjkjpbolaa.H
