/- The calendar in plain numbers: years, months, days, what number a date has, which date a number is, months further on. No program in sight. -/
import Derived.Below
namespace Go.Proofs.YtaimfakcojdadaaDoor.Math

theorem tmod_pos {a : Int} (h : 0 ≤ a) (b : Int) : Int.tmod a b = a % b := Int.tmod_eq_emod_of_nonneg h
theorem tdiv_pos {a : Int} (h : 0 ≤ a) (b : Int) : Int.tdiv a b = a / b := Int.tdiv_eq_ediv_of_nonneg h
theorem tmod_zero (a b : Int) : (Int.tmod a b = 0) = (a % b = 0) := by
  have h1 := Int.dvd_iff_tmod_eq_zero (a := b) (b := a)
  have h2 := Int.dvd_iff_emod_eq_zero (a := b) (b := a)
  exact propext (h1.symm.trans h2)

/-- Has a year 366 days? -/
def long (y : Int) : Bool := y % 4 == 0 && (y % 100 != 0 || y % 400 == 0)
def leap (y : Int) : Int := if y % 4 = 0 ∧ (¬ y % 100 = 0 ∨ y % 400 = 0) then 1 else 0
theorem long_leap (y : Int) : long y = true ↔ leap y = 1 := by
  unfold long leap
  by_cases a : y % 4 = 0 <;> by_cases b : y % 100 = 0 <;> by_cases c : y % 400 = 0 <;> simp [a, b, c]
theorem leap_01 (y : Int) : 0 ≤ leap y ∧ leap y ≤ 1 := by unfold leap; split <;> omega
theorem leap_of_long {y : Int} (h : long y = true) : leap y = 1 := (long_leap y).1 h
theorem leap_of_not {y : Int} (h : long y = false) : leap y = 0 := by
  have := leap_01 y
  have h2 : ¬ leap y = 1 := fun e => by rw [(long_leap y).2 e] at h; cases h
  omega

/-- How many days a month has. -/
def mlen (y m : Int) : Int := if m < 1 then 0 else if m > 12 then 0 else if m = 2 then 28 + leap y else if m = 4 ∨ m = 6 ∨ m = 9 ∨ m = 11 then 30 else 31
theorem mlen_lo (y m : Int) (h1 : 1 ≤ m) (h2 : m ≤ 12) : 28 ≤ mlen y m ∧ mlen y m ≤ 31 := by
  have := leap_01 y
  unfold mlen; repeat' split
  all_goals omega
theorem mlen_bd (y m : Int) : 0 ≤ mlen y m ∧ mlen y m ≤ 31 := by
  have := leap_01 y
  unfold mlen; repeat' split
  all_goals omega

/-- The day on which a year begins. -/
def opens (y : Int) : Int := 365 * (y - 1) + (y - 1) / 4 - (y - 1) / 100 + (y - 1) / 400 - 719162
theorem opens_succ (y : Int) : opens (y + 1) = opens y + 365 + leap y := by
  unfold opens leap; split <;> omega
theorem opens_mono {a b : Int} (h : a < b) (hb : b ≤ a + 1000000) : opens (a + 1) ≤ opens b := by unfold opens; omega

/-- How many days of a year lie ahead of a month. -/
def cum (y m : Int) : Int :=
  if m ≤ 1 then 0 else if m = 2 then 31 else if m = 3 then 59 + leap y else if m = 4 then 90 + leap y else if m = 5 then 120 + leap y else if m = 6 then 151 + leap y
  else if m = 7 then 181 + leap y else if m = 8 then 212 + leap y else if m = 9 then 243 + leap y else if m = 10 then 273 + leap y else if m = 11 then 304 + leap y else if m = 12 then 334 + leap y else 365 + leap y
theorem cases12 {m : Int} (h1 : 1 ≤ m) (h2 : m ≤ 12) : m = 1 ∨ m = 2 ∨ m = 3 ∨ m = 4 ∨ m = 5 ∨ m = 6 ∨ m = 7 ∨ m = 8 ∨ m = 9 ∨ m = 10 ∨ m = 11 ∨ m = 12 := by omega
theorem cum_succ (y m : Int) (h1 : 1 ≤ m) (h2 : m ≤ 12) : cum y (m + 1) = cum y m + mlen y m := by
  rcases cases12 h1 h2 with rfl | rfl | rfl | rfl | rfl | rfl | rfl | rfl | rfl | rfl | rfl | rfl <;> simp [cum, mlen] <;> omega
theorem cases13 {m : Int} (h1 : 1 ≤ m) (h2 : m ≤ 13) : m = 1 ∨ m = 2 ∨ m = 3 ∨ m = 4 ∨ m = 5 ∨ m = 6 ∨ m = 7 ∨ m = 8 ∨ m = 9 ∨ m = 10 ∨ m = 11 ∨ m = 12 ∨ m = 13 := by omega
theorem cum_bd (y m : Int) (h1 : 1 ≤ m) (h2 : m ≤ 13) : 0 ≤ cum y m ∧ cum y m ≤ 366 := by
  have := leap_01 y
  rcases cases13 h1 h2 with rfl | rfl | rfl | rfl | rfl | rfl | rfl | rfl | rfl | rfl | rfl | rfl | rfl <;> simp [cum] <;> omega
theorem cum_le (y m : Int) (h1 : 1 ≤ m) (h2 : m ≤ 12) : cum y m + mlen y m ≤ 365 + leap y := by
  have := leap_01 y
  rcases cases12 h1 h2 with rfl | rfl | rfl | rfl | rfl | rfl | rfl | rfl | rfl | rfl | rfl | rfl <;> simp [cum, mlen] <;> omega

/-- There is such a date. -/
def okDate (y m d : Int) : Prop := 1900 ≤ y ∧ y ≤ 2200 ∧ 1 ≤ d ∧ d ≤ mlen y m
instance (y m d : Int) : Decidable (okDate y m d) := by unfold okDate; exact inferInstance
/-- The number of a date, or 5. -/
def number (y m d : Int) : Int × Int := if okDate y m d then (opens y + cum y m + d - 1, 0) else (0, 5)
theorem number_yes {y m d : Int} (h : okDate y m d) : number y m d = (opens y + cum y m + d - 1, 0) := if_pos h
theorem number_no {y m d : Int} (h : ¬ okDate y m d) : number y m d = (0, 5) := if_neg h
theorem okDate_month {y m d : Int} (h : okDate y m d) : 1 ≤ m ∧ m ≤ 12 := by
  obtain ⟨_, _, h3, h4⟩ := h
  unfold mlen at h4
  repeat' split at h4
  all_goals omega

/-- The year of a day; its month; its day of the month. -/
def guess (n : Int) : Int := 1900 + (n + 25567) / 366
def yearOf (n : Int) : Int := if opens (guess n + 1) ≤ n then guess n + 1 else guess n
def monthIn (y r : Int) : Int := if r < cum y 2 then 1 else if r < cum y 3 then 2 else if r < cum y 4 then 3 else if r < cum y 5 then 4 else if r < cum y 6 then 5 else if r < cum y 7 then 6
  else if r < cum y 8 then 7 else if r < cum y 9 then 8 else if r < cum y 10 then 9 else if r < cum y 11 then 10 else if r < cum y 12 then 11 else 12
def monthOf (n : Int) : Int := monthIn (yearOf n) (n - opens (yearOf n))
def dayOf (n : Int) : Int := n - opens (yearOf n) - cum (yearOf n) (monthOf n) + 1
/-- There is such a day. -/
def isDay (n : Int) : Prop := -25567 ≤ n ∧ n ≤ 84370
instance (n : Int) : Decidable (isDay n) := by unfold isDay; exact inferInstance
def date (n : Int) : Int × Int × Int × Int := if isDay n then (yearOf n, monthOf n, dayOf n, 0) else (0, 0, 0, 5)

theorem date_yes {n : Int} (h : isDay n) : date n = (yearOf n, monthOf n, dayOf n, 0) := if_pos h
theorem date_no {n : Int} (h : ¬ isDay n) : date n = (0, 0, 0, 5) := if_neg h
theorem guess_spec {n : Int} (h : isDay n) : 1900 ≤ guess n ∧ guess n ≤ 2200 ∧ opens (guess n) ≤ n ∧ n < opens (guess n + 2) := by
  obtain ⟨h1, h2⟩ := h
  unfold guess opens
  refine ⟨by omega, by omega, by omega, by omega⟩
theorem yearOf_spec {n : Int} (h : isDay n) : 1900 ≤ yearOf n ∧ yearOf n ≤ 2200 ∧ opens (yearOf n) ≤ n ∧ n < opens (yearOf n + 1) := by
  obtain ⟨g1, g2, g3, g4⟩ := guess_spec h
  obtain ⟨h1, h2⟩ := h
  unfold yearOf
  split
  · rename_i hl
    refine ⟨by omega, ?_, hl, by rw [show guess n + 1 + 1 = guess n + 2 by omega]; exact g4⟩
    by_cases e : guess n = 2200
    · rw [e] at hl; unfold opens at hl; omega
    · omega
  · exact ⟨g1, g2, g3, by omega⟩
theorem monthIn_spec {y r : Int} (h0 : 0 ≤ r) (h1 : r < 365 + leap y) : 1 ≤ monthIn y r ∧ monthIn y r ≤ 12 ∧ cum y (monthIn y r) ≤ r ∧ r < cum y (monthIn y r + 1) := by
  have hl := leap_01 y
  have c1 : cum y 1 = 0 := rfl
  have c13 : cum y 13 = 365 + leap y := rfl
  unfold monthIn
  repeat' split
  all_goals (refine ⟨by omega, by omega, ?_, ?_⟩ <;> first | omega | (simp only [Int.reduceAdd]; omega))
theorem date_ok {n : Int} (h : isDay n) : okDate (yearOf n) (monthOf n) (dayOf n) ∧ 1 ≤ monthOf n ∧ monthOf n ≤ 12 ∧ opens (yearOf n) + cum (yearOf n) (monthOf n) + dayOf n - 1 = n := by
  obtain ⟨y1, y2, y3, y4⟩ := yearOf_spec h
  have ho := opens_succ (yearOf n)
  obtain ⟨m1, m2, m3, m4⟩ := monthIn_spec (y := yearOf n) (r := n - opens (yearOf n)) (by omega) (by omega)
  change 1 ≤ monthOf n at m1
  change monthOf n ≤ 12 at m2
  change cum _ (monthOf n) ≤ _ at m3
  change _ < cum _ (monthOf n + 1) at m4
  have hc := cum_succ (yearOf n) (monthOf n) m1 m2
  refine ⟨⟨y1, y2, ?_, ?_⟩, m1, m2, ?_⟩ <;> unfold dayOf <;> omega
theorem number_date {n : Int} (h : isDay n) : number (yearOf n) (monthOf n) (dayOf n) = (n, 0) := by
  obtain ⟨a, _, _, b⟩ := date_ok h
  unfold number
  rw [if_pos a, b]
/-- A year is told by its days. -/
theorem year_unique {n y : Int} (h : isDay n) (h1 : opens y ≤ n) (h2 : n < opens (y + 1)) (hy1 : 1900 ≤ y) (hy2 : y ≤ 2200) : y = yearOf n := by
  obtain ⟨y1, y2, y3, y4⟩ := yearOf_spec h
  rcases Int.lt_trichotomy y (yearOf n) with hlt | e | hlt
  · have := opens_mono hlt (by omega); omega
  · exact e
  · have := opens_mono hlt (by omega); omega
theorem cum_mono {y a b : Int} (ha : 1 ≤ a) (hab : a < b) (hb : b ≤ 13) : cum y (a + 1) ≤ cum y b := by
  have hl := leap_01 y
  have hb' : b = 2 ∨ b = 3 ∨ b = 4 ∨ b = 5 ∨ b = 6 ∨ b = 7 ∨ b = 8 ∨ b = 9 ∨ b = 10 ∨ b = 11 ∨ b = 12 ∨ b = 13 := by omega
  rcases cases12 ha (by omega) with rfl | rfl | rfl | rfl | rfl | rfl | rfl | rfl | rfl | rfl | rfl | rfl <;>
    rcases hb' with rfl | rfl | rfl | rfl | rfl | rfl | rfl | rfl | rfl | rfl | rfl | rfl <;> first | omega | (simp [cum]; done) | (simp [cum]; omega)
theorem date_unique {n y m d : Int} (h : okDate y m d) (e : opens y + cum y m + d - 1 = n) : isDay n ∧ y = yearOf n ∧ m = monthOf n ∧ d = dayOf n := by
  obtain ⟨hm1, hm2⟩ := okDate_month h
  obtain ⟨y1, y2, d1, d2⟩ := h
  have hc := cum_le y m hm1 hm2
  have hb := cum_bd y m hm1 (by omega)
  have hs := opens_succ y
  have hl := leap_01 y
  have hd : isDay n := by
    have a1 : opens 1900 = -25567 := by decide
    have a2 : opens 2201 = 84371 := by decide
    refine ⟨?_, ?_⟩
    · by_cases e1 : y = 1900
      · subst e1; omega
      · have := opens_mono (a := 1900) (b := y) (by omega) (by omega)
        have h3 := opens_succ 1900
        have h4 := leap_01 1900
        omega
    · have := opens_mono (a := y) (b := 2201) (by omega) (by omega)
      omega
  have ey := year_unique hd (y := y) (by omega) (by omega) y1 y2
  obtain ⟨⟨_, _, e3, e4⟩, m1, m2, e5⟩ := date_ok hd
  rw [← ey] at e4 e5
  have k1 := cum_succ y m hm1 hm2
  have k2 := cum_succ y (monthOf n) m1 m2
  have em : m = monthOf n := by
    rcases Int.lt_trichotomy m (monthOf n) with hlt | e | hlt
    · have := cum_mono (y := y) hm1 hlt (by omega); omega
    · exact e
    · have := cum_mono (y := y) m1 hlt (by omega); omega
  exact ⟨hd, ey, em, by rw [← em] at e5; omega⟩
theorem number_is {y m d n : Int} (h : number y m d = (n, 0)) : okDate y m d ∧ isDay n ∧ y = yearOf n ∧ m = monthOf n ∧ d = dayOf n := by
  unfold number at h
  split at h
  · rename_i hk
    have e : opens y + cum y m + d - 1 = n := (Prod.mk.inj h).1
    exact ⟨hk, date_unique hk e⟩
  · have := (Prod.mk.inj h).2
    omega

/-- The day so many months further on, or 5. -/
def addRaw (n k : Int) : Int × Int :=
  let t := 12 * yearOf n + monthOf n - 1 + k
  number (t / 12) (t % 12 + 1) (min (dayOf n) (mlen (t / 12) (t % 12 + 1)))
def add (n k : Int) : Int × Int := if isDay n then (if k < -3612 ∨ 3612 < k then (0, 5) else addRaw n k) else (0, 5)
/-- The number of a month since the year 0; how long it is; its days. -/
def idx (n : Int) : Int := 12 * yearOf n + monthOf n - 1
def ml (t : Int) : Int := mlen (t / 12) (t % 12 + 1)
def dayAt (t d : Int) : Int := opens (t / 12) + cum (t / 12) (t % 12 + 1) + d - 1
theorem ml_bd (t : Int) : 28 ≤ ml t ∧ ml t ≤ 31 := mlen_lo _ _ (by omega) (by omega)
theorem idx_spec {n : Int} (h : isDay n) : 22800 ≤ idx n ∧ idx n ≤ 26411 ∧ 1 ≤ dayOf n ∧ dayOf n ≤ ml (idx n) ∧ n = dayAt (idx n) (dayOf n) ∧ idx n / 12 = yearOf n ∧ idx n % 12 + 1 = monthOf n := by
  obtain ⟨⟨y1, y2, d1, d2⟩, m1, m2, e⟩ := date_ok h
  have e1 : idx n / 12 = yearOf n := by unfold idx; omega
  have e2 : idx n % 12 + 1 = monthOf n := by unfold idx; omega
  refine ⟨by unfold idx; omega, by unfold idx; omega, d1, ?_, ?_, e1, e2⟩
  · unfold ml; rw [e1, e2]; exact d2
  · unfold dayAt; rw [e1, e2]; exact e.symm
theorem dayAt_spec {t d : Int} (h1 : 22800 ≤ t) (h2 : t ≤ 26411) (h3 : 1 ≤ d) (h4 : d ≤ ml t) : number (t / 12) (t % 12 + 1) d = (dayAt t d, 0) ∧ isDay (dayAt t d) ∧ idx (dayAt t d) = t ∧ dayOf (dayAt t d) = d := by
  have ok : okDate (t / 12) (t % 12 + 1) d := ⟨by omega, by omega, h3, h4⟩
  obtain ⟨a, b, c, e⟩ := date_unique (n := dayAt t d) ok rfl
  exact ⟨number_yes ok, a, by unfold idx; omega, e.symm⟩
theorem add_ok {n k : Int} (h : isDay n) (k1 : -3612 ≤ k) (k2 : k ≤ 3612) (t1 : 22800 ≤ idx n + k) (t2 : idx n + k ≤ 26411) :
    add n k = (dayAt (idx n + k) (min (dayOf n) (ml (idx n + k))), 0) ∧ isDay (dayAt (idx n + k) (min (dayOf n) (ml (idx n + k)))) ∧
      idx (dayAt (idx n + k) (min (dayOf n) (ml (idx n + k)))) = idx n + k ∧ dayOf (dayAt (idx n + k) (min (dayOf n) (ml (idx n + k)))) = min (dayOf n) (ml (idx n + k)) := by
  have hb := ml_bd (idx n + k)
  have hd := (idx_spec h).2.2.1
  obtain ⟨a, b, c, d⟩ := dayAt_spec (t := idx n + k) (d := min (dayOf n) (ml (idx n + k))) t1 t2 (by omega) (by omega)
  refine ⟨?_, b, c, d⟩
  unfold add
  rw [if_pos h, if_neg (show ¬ (k < -3612 ∨ 3612 < k) by omega)]
  exact a
theorem add_no {n k : Int} (h : isDay n) (h' : ¬ (-3612 ≤ k ∧ k ≤ 3612 ∧ 22800 ≤ idx n + k ∧ idx n + k ≤ 26411)) : add n k = (0, 5) := by
  unfold add
  rw [if_pos h]
  split
  · rfl
  · have : ¬ (22800 ≤ idx n + k ∧ idx n + k ≤ 26411) := by omega
    show number ((idx n + k) / 12) ((idx n + k) % 12 + 1) _ = _
    exact number_no (by unfold okDate; omega)
theorem dayAt_mono {t d d' : Int} : dayAt t d - dayAt t d' = d - d' := by unfold dayAt; omega
/-- The next month begins behind this one's last day. -/
theorem dayAt_next (t : Int) : dayAt (t + 1) 1 = dayAt t (ml t) + 1 := by
  unfold dayAt ml
  by_cases e : t % 12 = 11
  · have h1 : (t + 1) / 12 = t / 12 + 1 := by omega
    have h2 : (t + 1) % 12 = 0 := by omega
    have hc := cum_succ (t / 12) 12 (by omega) (by omega)
    have ho := opens_succ (t / 12)
    have c13 : cum (t / 12) (12 + 1) = 365 + leap (t / 12) := rfl
    have c1 : cum (t / 12 + 1) (0 + 1) = 0 := rfl
    rw [h1, h2, c1, e, show (11 : Int) + 1 = 12 from rfl]
    omega
  · have h1 : (t + 1) / 12 = t / 12 := by omega
    have h2 : (t + 1) % 12 + 1 = t % 12 + 1 + 1 := by omega
    have hc := cum_succ (t / 12) (t % 12 + 1) (by omega) (by omega)
    rw [h1, h2]
    omega
theorem dayAt_lt (j : Nat) : ∀ {t d d' : Int}, 1 ≤ d' → d ≤ ml t → dayAt t d < dayAt (t + 1 + j) d' := by
  induction j with
  | zero =>
    intro t d d' h1 h2
    have := dayAt_next t
    have a := dayAt_mono (t := t + 1) (d := d') (d' := 1)
    have b := dayAt_mono (t := t) (d := d) (d' := ml t)
    rw [show t + 1 + ((0 : Nat) : Int) = t + 1 by omega]
    omega
  | succ j ih =>
    intro t d d' h1 h2
    have hb := ml_bd (t + 1)
    have := ih (t := t + 1) (d := ml (t + 1)) h1 (Int.le_refl _)
    have n := dayAt_next t
    have b := dayAt_mono (t := t) (d := d) (d' := ml t)
    have c := dayAt_mono (t := t + 1) (d := ml (t + 1)) (d' := 1)
    rw [show t + 1 + ((j + 1 : Nat) : Int) = t + 1 + 1 + (j : Int) by omega]
    omega
/-- A later month's days are later. -/
theorem dayAt_less {t t' d d' : Int} (h : t < t') (h1 : 1 ≤ d') (h2 : d ≤ ml t) : dayAt t d < dayAt t' d' := by
  have := dayAt_lt (t' - t - 1).toNat (t := t) (d := d) (d' := d') h1 h2
  rwa [show t + 1 + ((t' - t - 1).toNat : Int) = t' by omega] at this
end Go.Proofs.YtaimfakcojdadaaDoor.Math
