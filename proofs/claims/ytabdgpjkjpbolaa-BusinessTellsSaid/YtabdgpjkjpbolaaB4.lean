/- The document's calendar, in plain words. -/
import Derived.Test.YtabdgpjkjpbolaaB2
import Derived.Test.YtabdgpjkjpbolaaPBUx1
namespace Go.Proofs.Ytabdgpjkjpbolaa.H
open Go.RowKit Go.Proofs.YtabdgpjkjpbolaaW.PrintWords Go.Proofs.YtabdgpjkjpbolaaW.PrintLast Go.Proofs.YtabdgpjkjpbolaaW.PrintMore Go.Proofs.Ytabdgpjkjpbolaa.HW
open Go.Proofs.Ytabdgpjkjpbolaa.Math
set_option linter.unusedVariables false
set_option linter.unusedSimpArgs false
theorem rOpen (l : List Int) (hm : l.length ≤ 1000000000) (x : Int) : PBU.quittanceref05_Open.f l x = some (openB l x) := by
  unfold PBU.quittanceref05_Open.f openB quittanceref03_Is.f quittanceref03_Weekday.f help_In_int.f
  simp only [Option.bind_some]
  by_cases h1 : isDay x
  · rw [decide_eq_true h1, if_pos rfl]
    by_cases h2 : weekday x < 5
    · rw [if_pos h2, if_pos hm, decide_eq_true h2]; rfl
    · rw [if_neg h2, decide_eq_false h2]; rfl
  · rw [decide_eq_false h1, if_neg (by decide)]; rfl
theorem seekS_form (l : List Int) (step : Int) (k : Nat) : ∀ x, seekS l step k x = (0, 5) ∨ ∃ y, seekS l step k x = (y, 0) ∧ isDay y := by
  induction k with
  | zero => intro x; exact Or.inl rfl
  | succ k ih =>
    intro x
    rw [seekS_succ]
    by_cases h1 : isDay x
    · rw [if_pos h1]
      by_cases h2 : openB l x = true
      · rw [if_pos h2]; exact Or.inr ⟨x, rfl, h1⟩
      · rw [if_neg h2]; exact ih _
    · rw [if_neg h1]; exact Or.inl rfl
def seekR (p : Int × Int) : Int × Bool := if p.2 = 0 then (p.1, true) else (0, false)
theorem rSeek (l : List Int) (hm : l.length ≤ 1000000000) {step : Int} (hs : step = 1 ∨ step = -1) (d : Nat) : ∀ (k : Nat) (x : Int), -100000 ≤ x → x ≤ 100000 → (if step = 1 then 84371 - x else x + 25568) ≤ (d : Int) → d < k →
    PBU.quittanceref05_seek.l0 k l step x = some (seekR (seekS l step d x)) := by
  induction d with
  | zero =>
    intro k x b1 b2 h1 h2
    obtain ⟨k, rfl⟩ : ∃ m, k = m + 1 := ⟨k - 1, by omega⟩
    have hd : ¬ isDay x := by
      intro hd
      have := hd.1
      have := hd.2
      split at h1 <;> omega
    simp only [PBU.quittanceref05_seek.l0, quittanceref03_Is.f, Option.bind_some]
    rw [decide_eq_false hd, if_neg (by decide)]
    rfl
  | succ d ih =>
    intro k x b1 b2 h1 h2
    obtain ⟨k, rfl⟩ : ∃ m, k = m + 1 := ⟨k - 1, by omega⟩
    simp only [PBU.quittanceref05_seek.l0, quittanceref03_Is.f, Option.bind_some]
    rw [seekS_succ]
    by_cases hd : isDay x
    · have := hd.1
      have := hd.2
      rw [decide_eq_true hd, if_pos rfl, rOpen l hm, if_pos hd]
      simp only [Option.bind_some]
      by_cases ho : openB l x = true
      · rw [if_pos ho, if_pos ho]; rfl
      · rw [if_neg ho, if_neg ho, w64 (by omega) (by omega), ih k (x + step) (by omega) (by omega) ?_ (by omega)]
        split at h1 <;> rename_i h3 <;> (first | rw [if_pos h3] | rw [if_neg h3]) <;> omega
    · rw [decide_eq_false hd, if_neg (by decide), if_neg hd]; rfl
theorem rSeek_up (l : List Int) (hm : l.length ≤ 1000000000) (k : Nat) (hk : 200000 < k) {x : Int} (hd : isDay x) : PBU.quittanceref05_seek.f k l x 1 = some (seekR (seekS l 1 200000 x)) := by
  have := hd.1
  have := hd.2
  exact rSeek l hm (Or.inl rfl) 200000 k x (by omega) (by omega) (by rw [if_pos rfl]; omega) hk
theorem rSeek_down (l : List Int) (hm : l.length ≤ 1000000000) (k : Nat) (hk : 200000 < k) {x : Int} (hd : isDay x) : PBU.quittanceref05_seek.f k l x (-1) = some (seekR (seekS l (-1) 200000 x)) := by
  have := hd.1
  have := hd.2
  exact rSeek l hm (Or.inr rfl) 200000 k x (by omega) (by omega) (by rw [if_neg (by decide)]; omega) hk
theorem rRoll_j2 (k : Nat) (how : Int) (p q : Int × Int) (hp : p = (0, 5) ∨ ∃ y, p = (y, 0) ∧ isDay y) (hq : q = (0, 5) ∨ ∃ y, q = (y, 0) ∧ isDay y) : PBU.quittanceref05_Roll.j2 (k + 1) how (seekR p).1 (seekR p).2 (seekR q).1 (seekR q).2 = some (if how = 4 then q else p) := by
  simp only [PBU.quittanceref05_Roll.j2]
  by_cases h : how = 4
  · rw [if_pos h, if_pos h]
    rcases hq with rfl | ⟨y, rfl, _⟩
    · rw [if_neg (by decide)]
    · rw [if_pos (by simp [seekR])]; rfl
  · rw [if_neg h, if_neg h]
    rcases hp with rfl | ⟨y, rfl, _⟩
    · rw [if_neg (by decide)]
    · rw [if_pos (by simp [seekR])]; rfl
theorem mon_eq {a b : Int} (ha : isDay a) (hb : isDay b) : mon a = mon b ↔ (date a).2.1 = (date b).2.1 ∧ (date a).1 = (date b).1 := by
  unfold mon
  obtain ⟨_, _, m1, m2, _, _⟩ := date_bd ha
  obtain ⟨_, _, m3, m4, _, _⟩ := date_bd hb
  rw [date_yes ha, date_yes hb]
  simp only
  omega
theorem rRoll (l : List Int) (hm : l.length ≤ 1000000000) (day how : Int) : PBU.quittanceref05_Roll.f 200010 l day how = some (rollS l day how) := by
  unfold PBU.quittanceref05_Roll.f rollS quittanceref03_Is.f
  simp only [Option.bind_some]
  by_cases hd : isDay day
  · rw [decide_eq_true hd, if_pos rfl, if_neg (show ¬ ¬ isDay day from fun h => h hd)]
    by_cases h1 : how < 1 ∨ 4 < how
    · rw [if_pos h1]
      by_cases h2 : how < 1
      · rw [if_pos h2]; rfl
      · rw [if_neg h2, decide_eq_true (show how > 4 by omega)]; rfl
    · rw [if_neg h1, if_neg (show ¬ how < 1 by omega), decide_eq_false (show ¬ how > 4 by omega)]
      show PBU.quittanceref05_Roll.j0 (200009 + 1) l day how false = _
      rw [PBU.quittanceref05_Roll.j0, if_neg (by decide)]
      have hj1 : PBU.quittanceref05_Roll.j1 (200008 + 1) l day how true = some (day, 0) := by rw [PBU.quittanceref05_Roll.j1, if_pos rfl]
      by_cases h2 : how = 1
      · rw [if_pos h2, if_pos h2, hj1]
      · rw [if_neg h2, if_neg h2, rOpen l hm]
        simp only [Option.bind_some]
        by_cases ho : openB l day = true
        · rw [ho, hj1, seek_self ho, seek_self ho]
          by_cases h4 : how = 4
          · rw [if_pos h4]
          · rw [if_neg h4, if_neg (by rintro ⟨_, h | h⟩ <;> exact h rfl)]
        · rw [show openB l day = false by simpa using ho]
          show PBU.quittanceref05_Roll.j1 (200008 + 1) l day how false = _
          rw [PBU.quittanceref05_Roll.j1, if_neg (by decide), rSeek_up l hm _ (by omega) hd, rSeek_down l hm _ (by omega) hd]
          simp only [Option.bind_some]
          have hu := seekS_form l 1 200000 day
          have hw := seekS_form l (-1) 200000 day
          generalize seekS l 1 200000 day = p at *
          generalize seekS l (-1) 200000 day = q at *
          by_cases h3 : how = 3
          · subst h3
            rw [if_pos rfl, if_neg (show ¬ (3 : Int) = 4 by decide)]
            simp only [quittanceref03_Date.f, Option.bind_some]
            rcases hu with rfl | ⟨y, rfl, hy⟩
            · rw [if_neg (by decide), rRoll_j2 _ 4 _ _ (Or.inl rfl) hw, if_pos rfl, if_pos ⟨trivial, Or.inl (by decide)⟩]
            · have e1 : (seekR (y, 0)).1 = y := by simp [seekR]
              have e2 : (seekR (y, 0)).2 = true := by simp [seekR]
              rw [if_pos e2]
              by_cases hmon : mon y = mon day
              · obtain ⟨g1, g2⟩ := (mon_eq hy hd).1 hmon
                rw [e1, if_pos g1.symm, if_pos g2.symm]
                have := rRoll_j2 200007 3 (y, 0) q (Or.inr ⟨y, rfl, hy⟩) hw
                rw [e1] at this
                rw [this, if_neg (by decide), if_neg]
                rintro ⟨_, h | h⟩
                · exact h rfl
                · exact h hmon
              · have := rRoll_j2 200007 4 (y, 0) q (Or.inr ⟨y, rfl, hy⟩) hw
                rw [e1] at this
                rw [e1, if_pos (show True ∧ ((y, (0 : Int)).2 ≠ 0 ∨ mon (y, (0 : Int)).1 ≠ mon day) from ⟨trivial, Or.inr hmon⟩)]
                by_cases g1 : (date day).2.1 = (date y).2.1
                · rw [if_pos g1]
                  by_cases g2 : (date day).1 = (date y).1
                  · exact absurd ((mon_eq hy hd).2 ⟨g1.symm, g2.symm⟩) hmon
                  · rw [if_neg g2, this, if_pos rfl]
                · rw [if_neg g1, this, if_pos rfl]
          · rw [if_neg h3, rRoll_j2 _ how _ _ hu hw]
            congr 1
            by_cases h4 : how = 4
            · rw [if_pos h4, if_pos h4]
            · rw [if_neg h4, if_neg h4, if_neg (fun h => h3 h.1)]
  · rw [decide_eq_false hd, if_neg (by decide), if_pos hd]
/-- How many days are open, or why not. -/
def countA (l : List Int) (a b : Int) : Int × Int := if isDay a ∧ isDay b ∧ a ≤ b then (countS l (b + 1 - a).toNat a, 0) else (0, 5)
theorem rCount_loop (l : List Int) (hm : l.length ≤ 1000000000) (b : Int) (hb : b ≤ 84370) (d : Nat) : ∀ (k : Nat) (x s : Int), -25567 ≤ x → (b + 1 - x).toNat = d → x ≤ b + 1 → d < k → 0 ≤ s → s + d ≤ 200000 →
    PBU.quittanceref05_Count.l0 k l b s x = some (s + countS l d x, 0) := by
  induction d with
  | zero =>
    intro k x s h0 h1 h2 h3 h4 h5
    obtain ⟨k, rfl⟩ : ∃ m, k = m + 1 := ⟨k - 1, by omega⟩
    simp only [PBU.quittanceref05_Count.l0]
    rw [if_neg (by omega)]
    simp [countS]
  | succ d ih =>
    intro k x s h0 h1 h2 h3 h4 h5
    obtain ⟨k, rfl⟩ : ∃ m, k = m + 1 := ⟨k - 1, by omega⟩
    simp only [PBU.quittanceref05_Count.l0]
    rw [if_pos (by omega), rOpen l hm]
    simp only [Option.bind_some, countS]
    by_cases ho : openB l x = true
    · rw [if_pos ho, if_pos ho, w64 (x := s + 1) (by omega) (by omega), w64 (by omega) (by omega), ih k (x + 1) (s + 1) (by omega) (by omega) (by omega) (by omega) (by omega) (by omega)]
      congr 2; omega
    · rw [if_neg ho, if_neg ho, w64 (by omega) (by omega), ih k (x + 1) s (by omega) (by omega) (by omega) (by omega) (by omega) (by omega)]
      congr 2; omega
theorem rCount (l : List Int) (hm : l.length ≤ 1000000000) (a b : Int) : PBU.quittanceref05_Count.f 200010 l a b = some (countA l a b) := by
  unfold PBU.quittanceref05_Count.f countA quittanceref03_Is.f
  simp only [Option.bind_some]
  have hj : ∀ c, PBU.quittanceref05_Count.j0 (200009 + 1) l a b c = if c = true then some (0, 5) else PBU.quittanceref05_Count.l0 200009 l b 0 a := fun c => by rw [PBU.quittanceref05_Count.j0]
  by_cases h1 : isDay a
  · rw [decide_eq_true h1, if_pos rfl]
    by_cases h2 : isDay b
    · rw [decide_eq_true h2, if_pos rfl]
      show PBU.quittanceref05_Count.j0 (200009 + 1) l a b _ = _
      rw [hj]
      by_cases h3 : b < a
      · rw [if_pos (decide_eq_true h3), if_neg (fun h => by have := h.2.2; omega)]
      · rw [if_neg (by simpa using h3), if_pos ⟨h1, h2, by omega⟩]
        have e1 := h1.1
        have e2 := h1.2
        have e3 := h2.1
        have e4 := h2.2
        rw [rCount_loop l hm b (by omega) _ _ a 0 (by omega) rfl (by omega) (by omega) (by omega) (by omega), Int.zero_add]
    · rw [decide_eq_false h2, if_neg (by decide), if_neg (fun h => h2 h.2.1)]
      show PBU.quittanceref05_Count.j0 (200009 + 1) l a b _ = _
      rw [hj, if_pos rfl]
  · rw [decide_eq_false h1, if_neg (by decide), if_neg (fun h => h1 h.1)]
    show PBU.quittanceref05_Count.j0 (200009 + 1) l a b _ = _
    rw [hj, if_pos rfl]
end Go.Proofs.Ytabdgpjkjpbolaa.H
