/- Plain law: how many days are open. -/
import Derived.Test.YtabdgpjkjpbolaaB2
namespace Go.Proofs.Ytabdgpjkjpbolaa.H
open Go.RowKit Go.Proofs.YtabdgpjkjpbolaaW.PrintWords Go.Proofs.YtabdgpjkjpbolaaW.PrintLast Go.Proofs.YtabdgpjkjpbolaaW.PrintMore Go.Proofs.Ytabdgpjkjpbolaa.HW
open Go.Proofs.Ytabdgpjkjpbolaa.Math
set_option linter.unusedVariables false
set_option linter.unusedSimpArgs false
theorem countS_add (l : List Int) (i : Nat) : ∀ (j : Nat) (a : Int), countS l (i + j) a = countS l i a + countS l j (a + i) := by
  induction i with
  | zero => intro j a; simp [countS]
  | succ i ih =>
    intro j a
    rw [show i + 1 + j = (i + j) + 1 by omega]
    simp only [countS]
    rw [ih j (a + 1), show a + 1 + (i : Int) = a + ((i + 1 : Nat) : Int) by omega]
    omega
theorem open_none {l : List Int} {x : Int} (h : openB l x = true) : openB [] x = true := by
  unfold openB at h ⊢
  simp only [Bool.and_eq_true] at h ⊢
  exact ⟨h.1, h.2.1, by simp⟩
theorem open_some {l : List Int} {x : Int} (h : openB [] x = true) (hl : openB l x = false) : x ∈ l := by
  unfold openB at h hl
  simp only [Bool.and_eq_true] at h
  rw [h.1, h.2.1, Bool.true_and, Bool.true_and] at hl
  have : l.contains x = true := by
    cases hc : l.contains x with
    | true => rfl
    | false => rw [hc] at hl; cases hl
  exact List.contains_iff_mem.1 this
theorem countP_step (l : List Int) (a : Int) (k : Nat) : (if a ∈ l then 1 else 0) + l.countP (fun x => decide (a + 1 ≤ x ∧ x < a + 1 + k)) ≤ l.countP (fun x => decide (a ≤ x ∧ x < a + ((k + 1 : Nat) : Int))) := by
  induction l with
  | nil => simp
  | cons y ys ih =>
    rw [List.countP_cons, List.countP_cons]
    by_cases hy : y = a
    · subst hy
      rw [if_neg (show ¬ decide (y + 1 ≤ y ∧ y < y + 1 + (k : Int)) = true by simp; omega), if_pos (show decide (y ≤ y ∧ y < y + ((k + 1 : Nat) : Int)) = true by simp; omega), if_pos (List.mem_cons_self)]
      have : ys.countP (fun x => decide (y + 1 ≤ x ∧ x < y + 1 + k)) ≤ ys.countP (fun x => decide (y ≤ x ∧ x < y + ((k + 1 : Nat) : Int))) := by
        have := ih; omega
      omega
    · have hm : (a ∈ y :: ys) ↔ a ∈ ys := by
        simp; intro h; exact absurd h.symm hy
      have e : (if decide (a + 1 ≤ y ∧ y < a + 1 + (k : Int)) = true then 1 else 0) ≤ (if decide (a ≤ y ∧ y < a + ((k + 1 : Nat) : Int)) = true then 1 else 0) := by
        by_cases h1 : a + 1 ≤ y ∧ y < a + 1 + (k : Int)
        · rw [if_pos (decide_eq_true h1), if_pos (decide_eq_true ⟨by omega, by omega⟩)]; exact Nat.le_refl _
        · rw [if_neg (by simpa using h1)]; exact Nat.zero_le _
      by_cases ha : a ∈ ys
      · rw [if_pos (hm.2 ha)]; rw [if_pos ha] at ih; omega
      · rw [if_neg (fun h => ha (hm.1 h))]; rw [if_neg ha] at ih; omega
theorem count_less (l : List Int) (k : Nat) : ∀ a : Int, countS l k a ≤ countS [] k a ∧ countS [] k a - countS l k a ≤ (l.countP (fun x => decide (a ≤ x ∧ x < a + (k : Int))) : Nat) := by
  induction k with
  | zero => intro a; simp [countS]
  | succ k ih =>
    intro a
    obtain ⟨h1, h2⟩ := ih (a + 1)
    have h3 := countP_step l a k
    simp only [countS]
    cases ho : openB l a with
    | true =>
      rw [if_pos rfl, if_pos (open_none ho)]
      omega
    | false =>
      rw [if_neg (by decide)]
      cases hn : openB [] a with
      | true => rw [if_pos rfl]; rw [if_pos (open_some hn ho)] at h3; omega
      | false => rw [if_neg (by decide)]; omega
theorem count_diff (l : List Int) (k : Nat) (a : Int) : countS l k a ≤ countS [] k a ∧ countS [] k a - countS l k a ≤ (l.length : Int) := by
  obtain ⟨h1, h2⟩ := count_less l k a
  have : l.countP (fun x => decide (a ≤ x ∧ x < a + (k : Int))) ≤ l.length := List.countP_le_length
  exact ⟨h1, by omega⟩
theorem week_five {f : Int} (h1 : -25567 ≤ f) (h2 : f ≤ 80000) : countS [] 7 f = 5 := by
  have h : ∀ x : Int, f ≤ x → x ≤ f + 6 → openB [] x = decide ((x + 3) % 7 < 5) := by
    intro x a b
    unfold openB weekday
    rw [decide_eq_true (show isDay x from ⟨by omega, by omega⟩)]
    simp
  simp only [countS]
  rw [h f (by omega) (by omega), h (f + 1) (by omega) (by omega), h (f + 1 + 1) (by omega) (by omega), h (f + 1 + 1 + 1) (by omega) (by omega), h (f + 1 + 1 + 1 + 1) (by omega) (by omega), h (f + 1 + 1 + 1 + 1 + 1) (by omega) (by omega), h (f + 1 + 1 + 1 + 1 + 1 + 1) (by omega) (by omega)]
  simp only [decide_eq_true_eq]
  rcases (by omega : (f + 3) % 7 = 0 ∨ (f + 3) % 7 = 1 ∨ (f + 3) % 7 = 2 ∨ (f + 3) % 7 = 3 ∨ (f + 3) % 7 = 4 ∨ (f + 3) % 7 = 5 ∨ (f + 3) % 7 = 6) with e | e | e | e | e | e | e
  all_goals
    repeat (first | rw [if_pos (show (_ : Int) < 5 by omega)] | rw [if_neg (show ¬ (_ : Int) < 5 by omega)])
    rfl
/-- The counts of the law. -/
theorem counts_are (s : List Int) {f n m : Int} (f1 : 10000 ≤ f) (f2 : f ≤ 59999) (n0 : 0 ≤ n) (m0 : 0 ≤ m) :
    ∃ r1 r2 r5 : Int, countS s (f + n + 1 - f).toNat f = r1 ∧ countS s (f + n + 1 + m + 1 - (f + n + 1)).toNat (f + n + 1) = r2 ∧ countS s (f + n + 1 + m + 1 - f).toNat f = r1 + r2 ∧ countS [] (f + 6 + 1 - f).toNat f = 5 ∧ countS [] (f + n + 1 + m + 1 - f).toNat f = r5 ∧
      r1 + r2 ≤ r5 ∧ r5 - (r1 + r2) ≤ (s.length : Int) ∧ 0 ≤ r1 ∧ r1 ≤ n + 1 ∧ 0 ≤ r2 ∧ r2 ≤ m + 1 ∧ 0 ≤ r5 ∧ r5 ≤ n + m + 2 := by
  have ea : (f + n + 1 - f).toNat = (n + 1).toNat := by congr 1; omega
  have eb : (f + n + 1 + m + 1 - (f + n + 1)).toNat = (m + 1).toNat := by congr 1; omega
  have ec : (f + n + 1 + m + 1 - f).toNat = (n + 1).toNat + (m + 1).toNat := by omega
  have ed : (f + 6 + 1 - f).toNat = 7 := by omega
  have e2 : f + ((n + 1).toNat : Int) = f + n + 1 := by omega
  have h1 := countS_add s (n + 1).toNat (m + 1).toNat f
  rw [e2] at h1
  obtain ⟨d1, d2⟩ := count_diff s ((n + 1).toNat + (m + 1).toNat) f
  have b1 := countS_bd s (n + 1).toNat f
  have b2 := countS_bd s (m + 1).toNat (f + n + 1)
  have b5 := countS_bd [] ((n + 1).toNat + (m + 1).toNat) f
  rw [ea, eb, ec, ed]
  refine ⟨_, _, _, rfl, rfl, h1, week_five (by omega) (by omega), rfl, ?_, ?_, b1.1, ?_, b2.1, ?_, b5.1, ?_⟩ <;> omega
end Go.Proofs.Ytabdgpjkjpbolaa.H
