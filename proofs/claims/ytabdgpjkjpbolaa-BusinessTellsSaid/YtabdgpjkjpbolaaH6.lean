/- Contracts by hand: a calendar: which days are open. -/
import Derived.Test.YtabdgpjkjpbolaaB1
import Derived.Test.YtabdgpjkjpbolaaC3
import Derived.Deep.LoopGhost
import Derived.Deep.QuietTactic
import Derived.WalkLawsBesides
import Derived.WalkSpells
namespace Go.Proofs.Ytabdgpjkjpbolaa.H
open Go.RowKit Go.Proofs.YtabdgpjkjpbolaaW.PrintWords Go.Proofs.YtabdgpjkjpbolaaW.PrintLast Go.Proofs.YtabdgpjkjpbolaaW.PrintMore Go.Proofs.Ytabdgpjkjpbolaa.HW
open Go.Proofs.Ytabdgpjkjpbolaa.Math
set_option linter.unusedVariables false
set_option linter.unusedSimpArgs false

/-- A calendar lies in block gb, with these holidays. -/
def CalAt (w : World) (gb : Nat) (l : List Int) : Prop := ∃ A c, w.cell? ⟨gb, 0, none⟩ = some (.slice A l.length c) ∧ Kd.C (Kd.int .i64) w A l.length l ∧ l.length ≤ c ∧ l.length ≤ 200 ∧ l.Pairwise (· < ·) ∧ gb < w.heap.size
theorem CalAt.below {w w1 : World} {gb : Nat} {l : List Int} (h : CalAt w gb l) (hb : Below w.heap.size w w1) : CalAt w1 gb l := by
  obtain ⟨A, c, h1, h2, h3, h4, h5, h6⟩ := h
  exact ⟨A, c, by rw [hb.cell (by exact h6)]; exact h1, Kd.C_below h2 hb, h3, h4, h5, Nat.lt_of_lt_of_le h6 hb.size⟩
theorem CalAt.drawn {w w1 : World} {gb : Nat} {l : List Int} (h : CalAt w gb l) (hb : Drawn0 w w1) : CalAt w1 gb l := h.below hb.below
/-- Is a day open? -/
def openB (l : List Int) (day : Int) : Bool := decide (isDay day) && (decide (weekday day < 5) && !(l.contains day))
theorem openB_day {l : List Int} {day : Int} (h : openB l day = true) : isDay day := by
  unfold openB at h
  simp only [Bool.and_eq_true, decide_eq_true_eq] at h
  exact h.1

theorem there_any (n : Int) (w : World) : Calls Try.prog 72 #[.int .i64 n] w fun e w' => e = .returned (.bool (decide (isDay n))) ∧ Drawn0 w w' := business_there.calls n _ w rfl
theorem wk_any (n : Int) (w : World) : Calls Try.prog 30 #[.int .i64 n] w fun e w' => e = .returned (.int .i64 (weekday n)) ∧ Drawn0 w w' := civil_Weekday.calls n _ w rfl
theorem wk_bd (n : Int) : 0 ≤ weekday n ∧ weekday n ≤ 6 := by unfold weekday; omega

theorem open_nil (day : Int) (w : World) : Calls Try.prog 49 #[.pointer none, .int .i64 day] w fun e w' => e = .returned (.bool false) ∧ Drawn0 w w' := by
  go_enter Try.func49, Try.ntmps49
  go_wp2_with fail
  go_ret
  exact ⟨rfl, Drawn0.refl _⟩
theorem open_any {gb : Nat} {l : List Int} {day : Int} {r : Bool} {w : World} (h : CalAt w gb l) (hr : openB l day = r) : Calls Try.prog 49 #[.pointer (some ⟨gb, 0, none⟩), .int .i64 day] w fun e w' => e = .returned (.bool r) ∧ Drawn0 w w' := by
  have HA := Aside0.mk h
  have HR := Aside0.mk hr
  clear h hr
  by_cases hd : isDay day
  · by_cases hw : weekday day < 5
    · have hd1 := decide_eq_true hd
      have hw1 : decide (5 ≤ weekday day) = false := decide_eq_false (by omega)
      have HO := Aside0.mk (show (!(l.contains day)) = r by rw [← HR.out]; unfold openB; rw [hd1, decide_eq_true hw]; rfl)
      clear hd hw HR
      obtain ⟨A, c, c1, c2, c3, c4, c5, c6⟩ := HA.out
      have C2 := Aside0.mk c2
      have C5 := Aside0.mk c5
      have C3 := Aside0.mk c3
      clear c2 c5 c3
      go_enter Try.func49, Try.ntmps49
      go_wp2_with fail
      refine (there_any day _).mono ?_
      rintro e w1 ⟨rfl, ⟨m1, rfl⟩⟩
      go_wp2_with fail
      refine (wk_any day _).mono ?_
      rintro e w2 ⟨rfl, ⟨m2, rfl⟩⟩
      go_wp2_with fail
      refine (search_any A c l day _ (Kd.C_drewN C2.out _) C3.out (by omega) C5.out).mono ?_
      rintro e w3 ⟨⟨i, rfl⟩, ⟨m3, rfl⟩⟩
      go_wp2_with fail
      go_ret
      exact ⟨by rw [← HO.out]; simp, ⟨_, rfl⟩⟩
    · have hd1 := decide_eq_true hd
      have hw1 : decide (5 ≤ weekday day) = true := decide_eq_true (by omega)
      obtain rfl : r = false := by rw [← HR.out]; unfold openB; rw [hd1, decide_eq_false hw]; rfl
      clear hd hw HR HA
      go_enter Try.func49, Try.ntmps49
      go_wp2_with fail
      refine (there_any day _).mono ?_
      rintro e w1 ⟨rfl, ⟨m1, rfl⟩⟩
      go_wp2_with fail
      refine (wk_any day _).mono ?_
      rintro e w2 ⟨rfl, ⟨m2, rfl⟩⟩
      go_wp2_with fail
      go_ret
      exact ⟨rfl, ⟨_, rfl⟩⟩
  · have hd1 := decide_eq_false hd
    obtain rfl : r = false := by rw [← HR.out]; unfold openB; rw [hd1]; rfl
    clear hd HR HA
    go_enter Try.func49, Try.ntmps49
    go_wp2_with fail
    refine (there_any day _).mono ?_
    rintro e w1 ⟨rfl, ⟨m1, rfl⟩⟩
    go_wp2_with fail
    go_ret
    exact ⟨rfl, ⟨_, rfl⟩⟩

/-- The first open day, a step at a time. -/
def seekS (l : List Int) (step : Int) : Nat → Int → Int × Int
  | 0, _ => (0, 5)
  | k + 1, day => if isDay day then (if openB l day = true then (day, 0) else seekS l step k (day + step)) else (0, 5)
set_option maxHeartbeats 1000000 in
theorem seek_any {gb : Nat} {l : List Int} {day step : Int} {r1 r2 : Int} {w : World} (h : CalAt w gb l) (hs : step = 1 ∨ step = -1) (k0 : Nat) (hk : (if step = 1 then 84371 - day else day + 25568) < (k0 : Int)) (b1 : -1000000 ≤ day) (b2 : day ≤ 1000000) (hr : seekS l step k0 day = (r1, r2)) :
    Calls Try.prog 74 #[.func (.func 49) #[.pointer (some ⟨gb, 0, none⟩)] #[], .int .i64 day, .int .i64 step] w fun e w' => e = .returned (.tuple #[.int .i64 r1, .int .i64 r2]) ∧ Drawn0 w w' := by
  have HA := Aside0.mk h
  have HR := Aside0.mk hr
  have HS := Aside0.mk hs
  have HK := Aside0.mk hk
  have hsb : -1 ≤ step ∧ step ≤ 1 := by omega
  clear h hr hs hk
  go_enter Try.func74, Try.ntmps74
  go_wp2
  go_loopg [1] k0 (fun gq i w' => ∃ (x : Int), -1000000 ≤ x ∧ x ≤ 1000000 ∧ i = .int .i64 x ∧ Aside0 (seekS l step gq x = (r1, r2)) ∧ Aside0 ((if step = 1 then 84371 - x else x + 25568) < (gq : Int)) ∧ Drawn0 w w')
  case atStart => exact ⟨day, b1, b2, rfl, HR, HK, Drawn0.refl _⟩
  case round =>
    obtain ⟨x, x1, x2, rfl, hq, hm, ⟨m1, rfl⟩⟩ := hrel
    by_cases hd : isDay x
    · have hd1 := decide_eq_true hd
      have hp : 0 < gk := by have := hm.out; unfold isDay at hd; split at this <;> omega
      obtain ⟨k, rfl⟩ : ∃ m, gk = m + 1 := ⟨gk - 1, by omega⟩
      have hx1 : -25567 ≤ x := hd.1
      have hx2 : x ≤ 84370 := hd.2
      cases ho : openB l x with
      | true =>
        have HO := Aside0.mk ho
        clear ho
        have e := hq.out
        simp only [seekS] at e
        rw [if_pos hd, if_pos HO.out] at e
        obtain ⟨rfl, rfl⟩ := Prod.mk.inj e
        clear hq hd e
        go_wp2_with fail
        refine (there_any x _).mono ?_
        rintro e w1 ⟨rfl, ⟨m2, rfl⟩⟩
        go_wp2_with fail
        refine (open_any (HA.out.drawn ⟨_, rfl⟩) HO.out).mono ?_
        rintro e w2 ⟨rfl, ⟨m3, rfl⟩⟩
        go_wp2_with fail
        refine (there_any x _).mono ?_
        rintro e w1 ⟨rfl, ⟨m4, rfl⟩⟩
        go_wp2_with fail
        go_ret2
        exact ⟨rfl, ⟨_, rfl⟩⟩
      | false =>
        have HO := Aside0.mk ho
        clear ho
        have HQ := Aside0.mk (show seekS l step k (x + step) = (r1, r2) by have := hq.out; simp only [seekS] at this; rw [if_pos hd, if_neg (by rw [HO.out]; decide)] at this; exact this)
        clear hq hd
        go_wp2_with fail
        refine (there_any x _).mono ?_
        rintro e w1 ⟨rfl, ⟨m2, rfl⟩⟩
        go_wp2_with fail
        refine (open_any (HA.out.drawn ⟨_, rfl⟩) HO.out).mono ?_
        rintro e w2 ⟨rfl, ⟨m3, rfl⟩⟩
        go_wp2_with fail
        go_roundg k
        case measure => omega
        case rel => exact ⟨x + step, by omega, by omega, rfl, HQ, ⟨by have h1 := hm.out; have h2 := HS.out; split at h1 <;> rename_i h3 <;> (first | rw [if_pos h3] | rw [if_neg h3]) <;> omega⟩, ⟨_, rfl⟩⟩
    · have hd1 := decide_eq_false hd
      have e : ((0 : Int), (5 : Int)) = (r1, r2) := by
        rw [← hq.out]
        cases gk with
        | zero => rfl
        | succ k => simp only [seekS]; rw [if_neg hd]
      obtain ⟨rfl, rfl⟩ := Prod.mk.inj e
      clear hq hd e
      go_wp2_with fail
      refine (there_any x _).mono ?_
      rintro e w1 ⟨rfl, ⟨m2, rfl⟩⟩
      go_wp2_with fail
      refine (there_any x _).mono ?_
      rintro e w1 ⟨rfl, ⟨m4, rfl⟩⟩
      go_wp2_with fail
      go_ret2
      exact ⟨rfl, ⟨_, rfl⟩⟩

/-- How many days are open, of so many from a day on. -/
def countS (l : List Int) : Nat → Int → Int
  | 0, _ => 0
  | k + 1, day => (if openB l day = true then 1 else 0) + countS l k (day + 1)
theorem countS_bd (l : List Int) (k : Nat) : ∀ day, 0 ≤ countS l k day ∧ countS l k day ≤ k := by
  induction k with
  | zero => intro day; simp [countS]
  | succ k ih => intro day; have := ih (day + 1); simp only [countS]; split <;> omega
theorem count_nil (a b : Int) (w : World) : Calls Try.prog 55 #[.pointer none, .int .i64 a, .int .i64 b] w fun e w' => e = .returned (.tuple #[.int .i64 0, .int .i64 2]) ∧ Drawn0 w w' := by
  go_enter Try.func55, Try.ntmps55
  go_wp2_with fail
  go_ret2
  exact ⟨rfl, Drawn0.refl _⟩
theorem count_no {gb : Nat} {a b : Int} (h : ¬ (isDay a ∧ isDay b ∧ a ≤ b)) (w : World) : Calls Try.prog 55 #[.pointer (some ⟨gb, 0, none⟩), .int .i64 a, .int .i64 b] w fun e w' => e = .returned (.tuple #[.int .i64 0, .int .i64 5]) ∧ Drawn0 w w' := by
  by_cases h1 : isDay a
  · have d1 := decide_eq_true h1
    by_cases h2 : isDay b
    · have d2 := decide_eq_true h2
      have h3 : b < a := by
        rcases Int.lt_or_le b a with h3 | h3
        · exact h3
        · exact absurd ⟨h1, h2, h3⟩ h
      clear h h1 h2
      go_enter Try.func55, Try.ntmps55
      go_wp2_with fail
      refine (there_any a _).mono ?_
      rintro e w1 ⟨rfl, ⟨m2, rfl⟩⟩
      go_wp2_with fail
      refine (there_any b _).mono ?_
      rintro e w1 ⟨rfl, ⟨m2, rfl⟩⟩
      go_wp2_with fail
      go_ret2
      exact ⟨rfl, ⟨_, rfl⟩⟩
    · have d2 := decide_eq_false h2
      clear h h1 h2
      go_enter Try.func55, Try.ntmps55
      go_wp2_with fail
      refine (there_any a _).mono ?_
      rintro e w1 ⟨rfl, ⟨m2, rfl⟩⟩
      go_wp2_with fail
      refine (there_any b _).mono ?_
      rintro e w1 ⟨rfl, ⟨m2, rfl⟩⟩
      go_wp2_with fail
      go_ret2
      exact ⟨rfl, ⟨_, rfl⟩⟩
  · have d1 := decide_eq_false h1
    clear h h1
    go_enter Try.func55, Try.ntmps55
    go_wp2_with fail
    refine (there_any a _).mono ?_
    rintro e w1 ⟨rfl, ⟨m2, rfl⟩⟩
    go_wp2_with fail
    go_ret2
    exact ⟨rfl, ⟨_, rfl⟩⟩
set_option maxHeartbeats 1000000 in
theorem count_any {gb : Nat} {l : List Int} {a b r : Int} {w : World} (h : CalAt w gb l) (ha : isDay a) (hb : isDay b) (hab : a ≤ b) (hr : countS l (b + 1 - a).toNat a = r) :
    Calls Try.prog 55 #[.pointer (some ⟨gb, 0, none⟩), .int .i64 a, .int .i64 b] w fun e w' => e = .returned (.tuple #[.int .i64 r, .int .i64 0]) ∧ Drawn0 w w' := by
  have HA := Aside0.mk h
  have HR := Aside0.mk hr
  have d1 := decide_eq_true ha
  have d2 := decide_eq_true hb
  obtain ⟨a1, a2⟩ := ha
  obtain ⟨b1, b2⟩ := hb
  clear h hr
  go_enter Try.func55, Try.ntmps55
  go_wp2_with fail
  refine (there_any a _).mono ?_
  rintro e w1 ⟨rfl, ⟨m2, rfl⟩⟩
  go_wp2_with fail
  refine (there_any b _).mono ?_
  rintro e w1 ⟨rfl, ⟨m3, rfl⟩⟩
  go_wp2_with fail
  go_loopg [8, 10] (b + 1 - a).toNat (fun gq n i w' => ∃ (x s : Int), a ≤ x ∧ x ≤ b + 1 ∧ i = .int .i64 x ∧ n = .int .i64 s ∧ 0 ≤ s ∧ Aside0 (s + (b + 1 - x) ≤ b + 1 - a) ∧ Aside0 (gq = (b + 1 - x).toNat) ∧ Aside0 (s + countS l gq x = r) ∧ Drawn0 w w')
  case atStart => exact ⟨a, 0, Int.le_refl _, by omega, rfl, rfl, Int.le_refl _, ⟨by omega⟩, ⟨rfl⟩, ⟨by rw [HR.out]; omega⟩, ⟨_, rfl⟩⟩
  case round =>
    obtain ⟨x, s, x1, x2, rfl, rfl, s1, s2, hg, hq, ⟨m1, rfl⟩⟩ := hrel
    by_cases hlt : x ≤ b
    · obtain ⟨k, rfl⟩ : ∃ m, gk = m + 1 := ⟨gk - 1, by have := hg.out; omega⟩
      have s3 : s ≤ 200000 := by have := s2.out; omega
      cases ho : openB l x with
      | true =>
        have HO := Aside0.mk ho
        clear ho
        have HQ := Aside0.mk (show s + 1 + countS l k (x + 1) = r by have := hq.out; simp only [countS] at this; rw [if_pos HO.out] at this; omega)
        clear hq
        go_wp2_with fail
        refine (open_any (HA.out.drawn ⟨_, rfl⟩) HO.out).mono ?_
        rintro e w2 ⟨rfl, ⟨m3, rfl⟩⟩
        go_wp2_with fail
        go_roundg k
        case measure => omega
        case rel => exact ⟨x + 1, s + 1, by omega, by omega, rfl, rfl, by omega, ⟨by have := s2.out; omega⟩, ⟨by have := hg.out; omega⟩, HQ, ⟨_, rfl⟩⟩
      | false =>
        have HO := Aside0.mk ho
        clear ho
        have HQ := Aside0.mk (show s + countS l k (x + 1) = r by have := hq.out; simp only [countS] at this; rw [if_neg (by rw [HO.out]; decide)] at this; omega)
        clear hq
        go_wp2_with fail
        refine (open_any (HA.out.drawn ⟨_, rfl⟩) HO.out).mono ?_
        rintro e w2 ⟨rfl, ⟨m3, rfl⟩⟩
        go_wp2_with fail
        go_roundg k
        case measure => omega
        case rel => exact ⟨x + 1, s, by omega, by omega, rfl, rfl, by omega, ⟨by have := s2.out; omega⟩, ⟨by have := hg.out; omega⟩, HQ, ⟨_, rfl⟩⟩
    · have e0 : gk = 0 := by have := hg.out; omega
      subst e0
      have e := hq.out
      simp only [countS, Int.add_zero] at e
      subst e
      clear hq
      go_wp2_with fail
      go_ret2
      exact ⟨rfl, ⟨_, rfl⟩⟩
end Go.Proofs.Ytabdgpjkjpbolaa.H
