/- Plain law: which day is found, a step at a time. -/
import Derived.Test.YtabdgpjkjpbolaaG5
namespace Go.Proofs.Ytabdgpjkjpbolaa.H
open Go.RowKit Go.Proofs.YtabdgpjkjpbolaaW.PrintWords Go.Proofs.YtabdgpjkjpbolaaW.PrintLast Go.Proofs.YtabdgpjkjpbolaaW.PrintMore Go.Proofs.Ytabdgpjkjpbolaa.HW
open Go.Proofs.Ytabdgpjkjpbolaa.Math
set_option linter.unusedVariables false
set_option linter.unusedSimpArgs false
theorem seek_up_spec (l : List Int) (y : Int) (hy : openB l y = true) (d : Nat) : ∀ (k : Nat) (day : Int), isDay day → day ≤ y → y - day = d → d < k →
    ∃ x, seekS l 1 k day = (x, 0) ∧ day ≤ x ∧ x ≤ y ∧ openB l x = true ∧ ∀ z, day ≤ z → z < x → openB l z = false := by
  induction d with
  | zero =>
    intro k day hd h1 h2 h3
    obtain ⟨k, rfl⟩ : ∃ m, k = m + 1 := ⟨k - 1, by omega⟩
    obtain rfl : day = y := by omega
    refine ⟨day, ?_, by omega, by omega, hy, fun z _ _ => by omega⟩
    simp only [seekS]
    rw [if_pos hd, if_pos hy]
  | succ d ih =>
    intro k day hd h1 h2 h3
    obtain ⟨k, rfl⟩ : ∃ m, k = m + 1 := ⟨k - 1, by omega⟩
    simp only [seekS]
    rw [if_pos hd]
    cases ho : openB l day with
    | true => exact ⟨day, if_pos rfl, by omega, by omega, ho, fun z _ _ => by omega⟩
    | false =>
      rw [if_neg (by decide)]
      have hyd := openB_day hy
      obtain ⟨x, e, x1, x2, x3, x4⟩ := ih k (day + 1) ⟨by have := hd.1; omega, by have := hyd.2; omega⟩ (by omega) (by omega) (by omega)
      refine ⟨x, e, by omega, x2, x3, fun z z1 z2 => ?_⟩
      rcases Int.lt_or_le day z with h | h
      · exact x4 z (by omega) z2
      · obtain rfl : z = day := by omega
        exact ho
theorem seek_down_spec (l : List Int) (y : Int) (hy : openB l y = true) (d : Nat) : ∀ (k : Nat) (day : Int), isDay day → y ≤ day → day - y = d → d < k →
    ∃ x, seekS l (-1) k day = (x, 0) ∧ x ≤ day ∧ y ≤ x ∧ openB l x = true ∧ ∀ z, x < z → z ≤ day → openB l z = false := by
  induction d with
  | zero =>
    intro k day hd h1 h2 h3
    obtain ⟨k, rfl⟩ : ∃ m, k = m + 1 := ⟨k - 1, by omega⟩
    obtain rfl : day = y := by omega
    refine ⟨day, ?_, by omega, by omega, hy, fun z _ _ => by omega⟩
    simp only [seekS]
    rw [if_pos hd, if_pos hy]
  | succ d ih =>
    intro k day hd h1 h2 h3
    obtain ⟨k, rfl⟩ : ∃ m, k = m + 1 := ⟨k - 1, by omega⟩
    simp only [seekS]
    rw [if_pos hd]
    cases ho : openB l day with
    | true => exact ⟨day, if_pos rfl, by omega, by omega, ho, fun z _ _ => by omega⟩
    | false =>
      rw [if_neg (by decide)]
      have hyd := openB_day hy
      obtain ⟨x, e, x1, x2, x3, x4⟩ := ih k (day + -1) ⟨by have := hyd.1; omega, by have := hd.2; omega⟩ (by omega) (by omega) (by omega)
      refine ⟨x, e, by omega, x2, x3, fun z z1 z2 => ?_⟩
      rcases Int.lt_or_le z day with h | h
      · exact x4 z z1 (by omega)
      · obtain rfl : z = day := by omega
        exact ho
theorem seekS_succ (l : List Int) (step : Int) (k : Nat) (day : Int) : seekS l step (k + 1) day = if isDay day then (if openB l day = true then (day, 0) else seekS l step k (day + step)) else (0, 5) := rfl
theorem seek_self {l : List Int} {x step : Int} (h : openB l x = true) : seekS l step 200000 x = (x, 0) := by
  rw [show (200000 : Nat) = 199999 + 1 from rfl, seekS_succ, if_pos (openB_day h), if_pos h]
/-- A day of the week, at a time. -/
theorem week_open {l : List Int} {n : Int} (h1 : isDay n) (h2 : isDay (n + 2)) (h0 : ∀ x ∈ l, x < n ∨ n + 2 < x) : ∃ y, n ≤ y ∧ y ≤ n + 2 ∧ openB l y = true := by
  obtain ⟨y, y1, y2, y3⟩ : ∃ y, n ≤ y ∧ y ≤ n + 2 ∧ weekday y < 5 := by
    unfold weekday
    by_cases a : (n + 3) % 7 < 5
    · exact ⟨n, by omega, by omega, a⟩
    · by_cases b : (n + 1 + 3) % 7 < 5
      · exact ⟨n + 1, by omega, by omega, b⟩
      · exact ⟨n + 2, by omega, by omega, by omega⟩
  refine ⟨y, y1, y2, ?_⟩
  unfold openB
  rw [decide_eq_true (show isDay y from ⟨by have := h1.1; omega, by have := h2.2; omega⟩), decide_eq_true y3]
  have : l.contains y = false := by
    rw [Bool.eq_false_iff]
    intro h
    have := h0 y (List.contains_iff_mem.1 h)
    omega
  rw [this]; rfl
theorem roll_self {l : List Int} {x how : Int} (h : openB l x = true) (h1 : 1 ≤ how) (h2 : how ≤ 4) : rollS l x how = (x, 0) := by
  unfold rollS
  rw [if_neg (fun h' => h' (openB_day h)), if_neg (by omega), seek_self h, seek_self h]
  by_cases a : how = 1
  · rw [if_pos a]
  · rw [if_neg a]
    by_cases b : how = 4
    · rw [if_pos b]
    · rw [if_neg b, if_neg (by rintro ⟨_, h | h⟩ <;> exact h rfl)]
/-- What is rolled: the days around it, with an open one ahead and one behind. -/
theorem roll_spec {l : List Int} {day how ya yb : Int} (hd : isDay day) (ha : openB l ya = true) (hb : openB l yb = true) (a1 : day ≤ ya) (b1 : yb ≤ day) (h1 : 2 ≤ how) (h2 : how ≤ 4) :
    ∃ a b, rollS l day 2 = (a, 0) ∧ rollS l day 4 = (b, 0) ∧ day ≤ a ∧ a ≤ ya ∧ b ≤ day ∧ yb ≤ b ∧ openB l a = true ∧ openB l b = true ∧ (∀ z, b < z → z < a → openB l z = false) ∧
      ((rollS l day how = (a, 0) ∧ (how = 2 ∨ how = 3 ∧ mon a = mon day)) ∨ (rollS l day how = (b, 0) ∧ (how = 4 ∨ how = 3))) := by
  have hya := openB_day ha
  have hyb := openB_day hb
  have d1 := hd.1
  have d2 := hd.2
  obtain ⟨a, ea, a2, a3, a4, a5⟩ := seek_up_spec l ya ha (ya - day).toNat 200000 day hd a1 (by omega) (by have := hya.2; omega)
  obtain ⟨b, eb, b2, b3, b4, b5⟩ := seek_down_spec l yb hb (day - yb).toNat 200000 day hd b1 (by omega) (by have := hyb.1; omega)
  have e2 : rollS l day 2 = (a, 0) := by
    unfold rollS
    rw [if_neg (fun h' => h' hd), if_neg (by omega), if_neg (by omega), if_neg (by omega), if_neg (by omega), ea]
  have e4 : rollS l day 4 = (b, 0) := by
    unfold rollS
    rw [if_neg (fun h' => h' hd), if_neg (by omega), if_neg (by omega), if_pos rfl, eb]
  refine ⟨a, b, e2, e4, a2, a3, b2, b3, a4, b4, fun z z1 z2 => ?_, ?_⟩
  · rcases Int.lt_or_le z day with h | h
    · exact b5 z z1 (by omega)
    · exact a5 z h z2
  · rcases (by omega : how = 2 ∨ how = 3 ∨ how = 4) with rfl | rfl | rfl
    · exact Or.inl ⟨e2, Or.inl rfl⟩
    · by_cases hm : mon a = mon day
      · refine Or.inl ⟨?_, Or.inr ⟨rfl, hm⟩⟩
        unfold rollS
        rw [if_neg (fun h' => h' hd), if_neg (by omega), if_neg (by omega), if_neg (by omega), ea, if_neg]
        rintro ⟨_, h | h⟩
        · exact h rfl
        · exact h hm
      · refine Or.inr ⟨?_, Or.inr rfl⟩
        unfold rollS
        rw [if_neg (fun h' => h' hd), if_neg (by omega), if_neg (by omega), if_neg (by omega), ea, if_pos ⟨rfl, Or.inr hm⟩, eb]
    · exact Or.inr ⟨e4, Or.inl rfl⟩
/-- Same months of all: same months of a year. -/
theorem mon_month {a b : Int} (ha : isDay a) (hb : isDay b) (h : mon a = mon b) : (date a).2.1 = (date b).2.1 := by
  unfold mon at h
  obtain ⟨_, _, m1, m2, _, _⟩ := date_bd ha
  obtain ⟨_, _, m3, m4, _, _⟩ := date_bd hb
  rw [date_yes ha, date_yes hb] at h ⊢
  simp only at h ⊢
  omega

/-! ### Some days, that rise -/
def Some (lo hi : Int) (s : List Int) : Prop := s.Pairwise (· < ·) ∧ ∀ x ∈ s, lo ≤ x ∧ x ≤ hi
theorem Some.nil (lo hi : Int) : Some lo hi [] := ⟨List.Pairwise.nil, by simp⟩
theorem Some.snoc {lo hi x : Int} {s : List Int} (h : Some lo hi s) (h1 : lo ≤ x) (h2 : x ≤ hi) (h3 : s = [] ∨ rd s ((s.length : Int) - 1) < x) : Some lo hi (s ++ [x]) := by
  obtain ⟨p, a⟩ := h
  refine ⟨List.pairwise_append.2 ⟨p, List.pairwise_singleton _ _, fun y hy z hz => ?_⟩, fun y hy => ?_⟩
  · obtain rfl : z = x := by simpa using hz
    rcases h3 with rfl | h3
    · simp at hy
    · obtain ⟨j, hj, e⟩ := List.getElem_of_mem hy
      rw [← rd_nat s j hj] at e
      have hl : ((s.length : Int) - 1) = ((s.length - 1 : Nat) : Int) := by omega
      rw [hl] at h3
      rcases (by omega : j < s.length - 1 ∨ j = s.length - 1) with h | h
      · have := rises_lt p h (by omega)
        omega
      · rw [h] at e; omega
  · rcases List.mem_append.1 hy with h | h
    · exact a y h
    · obtain rfl : y = x := by simpa using h
      exact ⟨h1, h2⟩
theorem Some.right {lo hi : Int} {s : List Int} (h : Some lo hi s) (h1 : isDay lo) (h2 : isDay hi) (hl : s.length ≤ 200) : rightB s = true := by
  unfold rightB
  rw [decide_eq_true hl, Bool.and_true]
  exact rises_of _ (fun x hx => by obtain ⟨a, b⟩ := h.2 x hx; have := h1.1; have := h2.2; exact ⟨⟨by omega, by omega⟩, by omega⟩) h.1
end Go.Proofs.Ytabdgpjkjpbolaa.H
