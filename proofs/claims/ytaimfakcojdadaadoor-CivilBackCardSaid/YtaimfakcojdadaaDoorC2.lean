/- What the printed functions on dates come to, in plain numbers: which number a date has, which date a number is; and their contracts in these words. -/
import Derived.Test.YtaimfakcojdadaaDoorC1
import Derived.Test.YtaimfakcojdadaaDoorPBx
namespace Go.Proofs.YtaimfakcojdadaaDoor.H
open Go.RowKit Go.Proofs.YtaimfakcojdadaaDoorW.PrintWords Go.Proofs.YtaimfakcojdadaaDoorW.PrintLast Go.Proofs.YtaimfakcojdadaaDoorW.PrintMore
open Go.Proofs.YtaimfakcojdadaaDoor.Math

theorem opens_bd {y : Int} (h1 : 1 ≤ y) (h2 : y ≤ 1000000) : -1000000 ≤ opens y ∧ opens y ≤ 400000000 := by unfold opens; omega

theorem num_loop (d : Nat) : ∀ (k : Nat) (x i y m dd : Int), m - i = d → d < k → 1 ≤ i → i ≤ m → m ≤ 12 → -1000000000 ≤ x → x + 31 * (m - i) ≤ 1000000000 →
    PB.civil_Number.l0 k x i y m dd = some (x + cum y m - cum y i, 0) := by
  induction d with
  | zero =>
    intro k x i y m dd h1 h2 h3 h4 h5 h6 h7
    obtain ⟨k, rfl⟩ : ∃ m, k = m + 1 := ⟨k - 1, by omega⟩
    obtain rfl : m = i := by omega
    simp only [PB.civil_Number.l0]
    rw [if_neg (by omega)]
    congr 2; omega
  | succ d ih =>
    intro k x i y m dd h1 h2 h3 h4 h5 h6 h7
    obtain ⟨k, rfl⟩ : ∃ m, k = m + 1 := ⟨k - 1, by omega⟩
    have hl := mlen_bd y i
    have hc := cum_succ y i h3 (by omega)
    simp only [PB.civil_Number.l0, civil_Month.f, Option.bind_some]
    rw [if_pos (by omega), w64 (x := x + mlen y i) (by omega) (by omega), w64 (x := i + 1) (by omega) (by omega), ih k _ (i + 1) y m dd (by omega) (by omega) (by omega) (by omega) h5 (by omega) (by omega)]
    congr 2; omega
theorem mlen_pos {y m : Int} (h : 1 ≤ mlen y m) : 1 ≤ m ∧ m ≤ 12 := by
  unfold mlen at h
  repeat' split at h
  all_goals omega
theorem civNumber (k : Nat) (hk : 20 ≤ k) (y m d : Int) : PB.civil_Number.f k y m d = some (number y m d) := by
  obtain ⟨k, rfl⟩ : ∃ m, k = m + 1 := ⟨k - 1, by omega⟩
  unfold PB.civil_Number.f
  simp only [PB.civil_Number.j0, civil_Month.f, Option.bind_some]
  by_cases h1 : y < 1900
  · rw [if_pos h1, number_no (by unfold okDate; omega)]; simp
  rw [if_neg h1]
  by_cases h2 : y > 2200
  · rw [if_pos h2, number_no (by unfold okDate; omega)]; simp
  rw [if_neg h2]
  by_cases h3 : d < 1
  · rw [if_pos h3, number_no (by unfold okDate; omega)]; simp
  rw [if_neg h3]
  by_cases h4 : d > mlen y m
  · rw [number_no (by unfold okDate; omega), decide_eq_true h4]; simp
  rw [decide_eq_false h4, number_yes (by unfold okDate; omega)]
  have hm := mlen_pos (y := y) (m := m) (by omega)
  have hb := mlen_bd y m
  have ho := opens_bd (y := y) (by omega) (by omega)
  simp only [Bool.false_eq_true, if_false, civil_Opens.f]
  rw [if_pos (by omega)]
  simp only [Option.bind_some]
  rw [w64 (x := opens y + d) (by omega) (by omega), w64 (by omega) (by omega), num_loop (m - 1).toNat k _ 1 y m d (by omega) (by omega) (by omega) hm.1 hm.2 (by omega) (by omega)]
  have c1 : cum y 1 = 0 := rfl
  congr 2; omega

theorem rnum_loop (d : Nat) : ∀ (k : Nat) (x i y m dd : Int), m - i = d → d < k → 1 ≤ i → i ≤ m → m ≤ 12 → -1000000000 ≤ x → x + 31 * (m - i) ≤ 1000000000 →
    PB.quittanceref03_Number.l0 k x i y m dd = some (x + cum y m - cum y i, 0) := by
  induction d with
  | zero =>
    intro k x i y m dd h1 h2 h3 h4 h5 h6 h7
    obtain ⟨k, rfl⟩ : ∃ m, k = m + 1 := ⟨k - 1, by omega⟩
    obtain rfl : m = i := by omega
    simp only [PB.quittanceref03_Number.l0]
    rw [if_neg (by omega)]
    congr 2; omega
  | succ d ih =>
    intro k x i y m dd h1 h2 h3 h4 h5 h6 h7
    obtain ⟨k, rfl⟩ : ∃ m, k = m + 1 := ⟨k - 1, by omega⟩
    have hl := mlen_bd y i
    have hc := cum_succ y i h3 (by omega)
    simp only [PB.quittanceref03_Number.l0, quittanceref03_Month.f, Option.bind_some]
    rw [if_pos (by omega), w64 (x := x + mlen y i) (by omega) (by omega), w64 (x := i + 1) (by omega) (by omega), ih k _ (i + 1) y m dd (by omega) (by omega) (by omega) (by omega) h5 (by omega) (by omega)]
    congr 2; omega
theorem refNumber (k : Nat) (hk : 20 ≤ k) (y m d : Int) : PB.quittanceref03_Number.f k y m d = some (number y m d) := by
  obtain ⟨k, rfl⟩ : ∃ m, k = m + 1 := ⟨k - 1, by omega⟩
  unfold PB.quittanceref03_Number.f
  simp only [PB.quittanceref03_Number.j0, quittanceref03_Month.f, Option.bind_some]
  by_cases h1 : y < 1900
  · rw [if_pos h1, number_no (by unfold okDate; omega)]; simp
  rw [if_neg h1]
  by_cases h2 : y > 2200
  · rw [if_pos h2, number_no (by unfold okDate; omega)]; simp
  rw [if_neg h2]
  by_cases h3 : d < 1
  · rw [if_pos h3, number_no (by unfold okDate; omega)]; simp
  rw [if_neg h3]
  by_cases h4 : d > mlen y m
  · rw [number_no (by unfold okDate; omega), decide_eq_true h4]; simp
  rw [decide_eq_false h4, number_yes (by unfold okDate; omega)]
  have hm := mlen_pos (y := y) (m := m) (by omega)
  have hb := mlen_bd y m
  have ho := opens_bd (y := y) (by omega) (by omega)
  simp only [Bool.false_eq_true, if_false, quittanceref03_before.f]
  rw [if_pos (by omega)]
  simp only [Option.bind_some]
  rw [w64 (x := -25567 + (opens y + 25567)) (by omega) (by omega), w64 (x := -25567 + (opens y + 25567) + d) (by omega) (by omega), w64 (by omega) (by omega), rnum_loop (m - 1).toNat k _ 1 y m d (by omega) (by omega) (by omega) hm.1 hm.2 (by omega) (by omega)]
  have c1 : cum y 1 = 0 := rfl
  congr 2; omega

theorem month_test {y r i : Int} (h0 : 0 ≤ r) (h1 : r < 365 + leap y) (hi : 1 ≤ i) (hi2 : i ≤ 12) : (i < monthIn y r → mlen y i ≤ r - cum y i) ∧ (i = monthIn y r → ¬ mlen y i ≤ r - cum y i) := by
  obtain ⟨m1, m2, m3, m4⟩ := monthIn_spec h0 h1
  have hc := cum_succ y i hi hi2
  refine ⟨fun h => ?_, fun h => ?_⟩
  · have := cum_mono (y := y) hi h (by omega); omega
  · rw [← h] at m4; omega
theorem date_loop (d : Nat) : ∀ (k : Nat) (i y r : Int), 0 ≤ r → r < 365 + leap y → monthIn y r - i = d → d < k → 1 ≤ i →
    PB.civil_Date.l1 k y (r - cum y i) i = some (y, monthIn y r, r - cum y (monthIn y r) + 1, 0) := by
  induction d with
  | zero =>
    intro k i y r h0 h1 h2 h3 h4
    obtain ⟨k, rfl⟩ : ∃ m, k = m + 1 := ⟨k - 1, by omega⟩
    obtain ⟨m1, m2, m3, m4⟩ := monthIn_spec h0 h1
    have hl := leap_01 y
    have hb := cum_bd y (monthIn y r) m1 (by omega)
    have ht := (month_test h0 h1 h4 (by omega)).2 (by omega)
    simp only [PB.civil_Date.l1, civil_Month.f, Option.bind_some]
    obtain e : i = monthIn y r := by omega
    rw [if_neg ht, e, w64 (by omega) (by omega)]
  | succ d ih =>
    intro k i y r h0 h1 h2 h3 h4
    obtain ⟨k, rfl⟩ : ∃ m, k = m + 1 := ⟨k - 1, by omega⟩
    obtain ⟨m1, m2, m3, m4⟩ := monthIn_spec h0 h1
    have hl := leap_01 y
    have hb := cum_bd y i h4 (by omega)
    have hm := mlen_bd y i
    have hc := cum_succ y i h4 (by omega)
    have ht := (month_test h0 h1 h4 (by omega)).1 (by omega)
    simp only [PB.civil_Date.l1, civil_Month.f, Option.bind_some]
    rw [if_pos ht, w64 (by omega) (by omega), w64 (x := i + 1) (by omega) (by omega), show r - cum y i - mlen y i = r - cum y (i + 1) by omega]
    exact ih k (i + 1) y r h0 h1 (by omega) (by omega) (by omega)
theorem rdate_loop (d : Nat) : ∀ (k : Nat) (i y r z : Int), 0 ≤ r → r < 365 + leap y → monthIn y r - i = d → d < k → 1 ≤ i →
    PB.quittanceref03_Date.l1 k (r - cum y i) y i z = some (y, monthIn y r, r - cum y (monthIn y r) + 1, 0) := by
  induction d with
  | zero =>
    intro k i y r z h0 h1 h2 h3 h4
    obtain ⟨k, rfl⟩ : ∃ m, k = m + 1 := ⟨k - 1, by omega⟩
    obtain ⟨m1, m2, m3, m4⟩ := monthIn_spec h0 h1
    have hl := leap_01 y
    have hb := cum_bd y (monthIn y r) m1 (by omega)
    have ht := (month_test h0 h1 h4 (by omega)).2 (by omega)
    simp only [PB.quittanceref03_Date.l1, quittanceref03_Month.f, Option.bind_some]
    obtain e : i = monthIn y r := by omega
    rw [if_neg ht, e, w64 (by omega) (by omega)]
  | succ d ih =>
    intro k i y r z h0 h1 h2 h3 h4
    obtain ⟨k, rfl⟩ : ∃ m, k = m + 1 := ⟨k - 1, by omega⟩
    obtain ⟨m1, m2, m3, m4⟩ := monthIn_spec h0 h1
    have hl := leap_01 y
    have hb := cum_bd y i h4 (by omega)
    have hm := mlen_bd y i
    have hc := cum_succ y i h4 (by omega)
    have ht := (month_test h0 h1 h4 (by omega)).1 (by omega)
    simp only [PB.quittanceref03_Date.l1, quittanceref03_Month.f, Option.bind_some]
    rw [if_pos ht, w64 (by omega) (by omega), w64 (x := i + 1) (by omega) (by omega), show r - cum y i - mlen y i = r - cum y (i + 1) by omega]
    exact ih k (i + 1) y r z h0 h1 (by omega) (by omega) (by omega)

theorem date_in (k : Nat) (hk : 20 ≤ k) {n : Int} (h : isDay n) : PB.civil_Date.j2 k n (yearOf n) = some (date n) := by
  obtain ⟨k, rfl⟩ : ∃ m, k = m + 1 := ⟨k - 1, by omega⟩
  obtain ⟨y1, y2, y3, y4⟩ := yearOf_spec h
  have ho := opens_succ (yearOf n)
  obtain ⟨m1, m2, m3, m4⟩ := monthIn_spec (y := yearOf n) (r := n - opens (yearOf n)) (by omega) (by omega)
  have hb := opens_bd (y := yearOf n) (by omega) (by omega)
  obtain ⟨h1, h2⟩ := h
  simp only [PB.civil_Date.j2, civil_Opens.f]
  rw [if_pos (by omega)]
  simp only [Option.bind_some]
  have e := date_loop (monthIn (yearOf n) (n - opens (yearOf n)) - 1).toNat k 1 (yearOf n) (n - opens (yearOf n)) (by omega) (by omega) (by omega) (by omega) (by omega)
  have c1 : cum (yearOf n) 1 = 0 := rfl
  rw [c1, Int.sub_zero] at e
  rw [w64 (by omega) (by omega), e]
  rw [date_yes ⟨h1, h2⟩]
  rfl
theorem civDate (k : Nat) (hk : 30 ≤ k) (n : Int) : PB.civil_Date.f k n = some (date n) := by
  obtain ⟨k, rfl⟩ : ∃ m, k = m + 1 := ⟨k - 1, by omega⟩
  unfold PB.civil_Date.f
  simp only [PB.civil_Date.j0]
  by_cases h1 : n < -25567
  · rw [if_pos h1, date_no (by unfold isDay; omega)]; simp
  rw [if_neg h1]
  by_cases h2 : n > 84370
  · rw [decide_eq_true h2, date_no (by unfold isDay; omega)]; simp
  rw [decide_eq_false h2]
  simp only [Bool.false_eq_true, if_false]
  have hd : isDay n := ⟨by omega, by omega⟩
  obtain ⟨g1, g2, g3, g4⟩ := guess_spec hd
  have eg : wrap64 (1900 + wrap64 (Int.tdiv (wrap64 (n + 25567)) 366)) = guess n := by
    unfold guess
    rw [w64 (x := n + 25567) (by omega) (by omega), tdiv_pos (by omega), w64 (x := (n + 25567) / 366) (by omega) (by omega), w64 (by omega) (by omega)]
  rw [eg]
  obtain ⟨k, rfl⟩ : ∃ m, k = m + 2 := ⟨k - 2, by omega⟩
  have jd := date_in (k + 1) (by omega) hd
  have jd0 := date_in k (by omega) hd
  obtain ⟨y1, y2, y3, y4⟩ := yearOf_spec hd
  unfold yearOf at jd jd0 y2
  by_cases hlt : guess n < 2200
  · simp only [PB.civil_Date.l0, civil_Opens.f]
    rw [if_pos hlt, w64 (x := guess n + 1) (by omega) (by omega), if_pos (by omega)]
    simp only [Option.bind_some]
    by_cases hle : opens (guess n + 1) ≤ n
    · rw [if_pos hle]
      rw [if_pos hle] at jd jd0 y2
      by_cases hl2 : guess n + 1 < 2200
      · rw [if_pos hl2, w64 (x := guess n + 1 + 1) (by omega) (by omega), if_pos (by omega)]
        simp only [Option.bind_some]
        rw [if_neg (by rw [show guess n + 1 + 1 = guess n + 2 by omega]; omega)]
        exact jd0
      · rw [if_neg hl2]; exact jd0
    · rw [if_neg hle]
      rw [if_neg hle] at jd
      exact jd
  · have e : guess n = 2200 := by omega
    simp only [PB.civil_Date.l0]
    rw [if_neg hlt]
    have hle : ¬ opens (guess n + 1) ≤ n := fun hle => by rw [if_pos hle] at y2; omega
    rw [if_neg hle] at jd
    exact jd

theorem rdate_in (k : Nat) (hk : 20 ≤ k) {n : Int} (z : Int) (h : isDay n) : PB.quittanceref03_Date.l1 k (n - opens (yearOf n)) (yearOf n) 1 z = some (date n) := by
  obtain ⟨y1, y2, y3, y4⟩ := yearOf_spec h
  have ho := opens_succ (yearOf n)
  obtain ⟨m1, m2, m3, m4⟩ := monthIn_spec (y := yearOf n) (r := n - opens (yearOf n)) (by omega) (by omega)
  have e := rdate_loop (monthIn (yearOf n) (n - opens (yearOf n)) - 1).toNat k 1 (yearOf n) (n - opens (yearOf n)) z (by omega) (by omega) (by omega) (by omega) (by omega)
  have c1 : cum (yearOf n) 1 = 0 := rfl
  rw [c1, Int.sub_zero] at e
  rw [e]
  rw [date_yes h]
  rfl
theorem refDate (k : Nat) (hk : 30 ≤ k) (n : Int) : PB.quittanceref03_Date.f k n = some (date n) := by
  unfold PB.quittanceref03_Date.f
  simp only [quittanceref03_Is.f, Option.bind_some]
  by_cases hd : isDay n
  · rw [decide_eq_true hd]
    simp only [if_true]
    obtain ⟨g1, g2, g3, g4⟩ := guess_spec hd
    obtain ⟨h1, h2⟩ := id hd
    have e0 : wrap64 (n + 25567) = n + 25567 := w64 (by omega) (by omega)
    have eg : wrap64 (1900 + wrap64 (Int.tdiv (n + 25567) 366)) = guess n := by
      unfold guess
      rw [tdiv_pos (by omega), w64 (x := (n + 25567) / 366) (by omega) (by omega), w64 (by omega) (by omega)]
    rw [e0, eg]
    obtain ⟨k, rfl⟩ : ∃ m, k = m + 2 := ⟨k - 2, by omega⟩
    have jd := rdate_in (k + 1) (by omega) 0 hd
    have jd0 := rdate_in k (by omega) 0 hd
    obtain ⟨y1, y2, y3, y4⟩ := yearOf_spec hd
    have hob := opens_bd (y := guess n) (by omega) (by omega)
    have hob1 := opens_bd (y := guess n + 1) (by omega) (by omega)
    have hob2 := opens_bd (y := guess n + 2) (by omega) (by omega)
    unfold yearOf at jd jd0 y2
    simp only [PB.quittanceref03_Date.l0, quittanceref03_before.f]
    rw [w64 (x := guess n + 1) (by omega) (by omega), if_pos (by omega)]
    simp only [Option.bind_some]
    by_cases hle : opens (guess n + 1) ≤ n
    · rw [if_pos (by omega), w64 (x := guess n + 1 + 1) (by omega) (by omega), if_pos (by omega)]
      rw [if_pos hle] at jd0
      simp only [Option.bind_some]
      rw [if_neg (by rw [show guess n + 1 + 1 = guess n + 2 by omega]; omega)]
      rw [w64 (by omega) (by omega), show n + 25567 - (opens (guess n + 1) + 25567) = n - opens (guess n + 1) by omega]
      exact jd0
    · rw [if_neg (by omega), if_pos (by omega)]
      rw [if_neg hle] at jd
      simp only [Option.bind_some]
      rw [w64 (by omega) (by omega), show n + 25567 - (opens (guess n) + 25567) = n - opens (guess n) by omega]
      exact jd
  · rw [decide_eq_false hd]
    rw [date_no hd]; simp

/-! ### The contracts in these words -/
def civil_Number.f (y m d : Int) : Option (Int × Int) := some (number y m d)
theorem civil_Number.calls (a0_0 a0_1 a0_2 r1 r2 : Int) (w : World) (h : civil_Number.f a0_0 a0_1 a0_2 = some (r1, r2)) :
    Calls Tryd.prog 7 #[.agg #[.int .i64 a0_0, .int .i64 a0_1, .int .i64 a0_2]] w fun e w' => e = .returned (.tuple #[.int .i64 r1, .int .i64 r2]) ∧ Below w.heap.size w w' :=
  PB.civil_Number.calls 20 a0_0 a0_1 a0_2 r1 r2 w ((civNumber 20 (by omega) a0_0 a0_1 a0_2).trans h)
def quittanceref03_Number.f (y m d : Int) : Option (Int × Int) := some (number y m d)
theorem quittanceref03_Number.calls (a0_0 a0_1 a0_2 r1 r2 : Int) (w : World) (h : quittanceref03_Number.f a0_0 a0_1 a0_2 = some (r1, r2)) :
    Calls Tryd.prog 8 #[.agg #[.int .i64 a0_0, .int .i64 a0_1, .int .i64 a0_2]] w fun e w' => e = .returned (.tuple #[.int .i64 r1, .int .i64 r2]) ∧ Below w.heap.size w w' :=
  PB.quittanceref03_Number.calls 20 a0_0 a0_1 a0_2 r1 r2 w ((refNumber 20 (by omega) a0_0 a0_1 a0_2).trans h)
def civil_Date.f (n : Int) : Option (Int × Int × Int × Int) := some (date n)
theorem civil_Date.calls (a0 r1 r2 r3 r4 : Int) (w : World) (h : civil_Date.f a0 = some (r1, r2, r3, r4)) :
    Calls Tryd.prog 9 #[.int .i64 a0] w fun e w' => e = .returned (.tuple #[.agg #[.int .i64 r1, .int .i64 r2, .int .i64 r3], .int .i64 r4]) ∧ Below w.heap.size w w' :=
  PB.civil_Date.calls 30 a0 r1 r2 r3 r4 w ((civDate 30 (by omega) a0).trans h)
def quittanceref03_Date.f (n : Int) : Option (Int × Int × Int × Int) := some (date n)
theorem quittanceref03_Date.calls (a0 r1 r2 r3 r4 : Int) (w : World) (h : quittanceref03_Date.f a0 = some (r1, r2, r3, r4)) :
    Calls Tryd.prog 10 #[.int .i64 a0] w fun e w' => e = .returned (.tuple #[.agg #[.int .i64 r1, .int .i64 r2, .int .i64 r3], .int .i64 r4]) ∧ Below w.heap.size w w' :=
  PB.quittanceref03_Date.calls 30 a0 r1 r2 r3 r4 w ((refDate 30 (by omega) a0).trans h)
end Go.Proofs.YtaimfakcojdadaaDoor.H
