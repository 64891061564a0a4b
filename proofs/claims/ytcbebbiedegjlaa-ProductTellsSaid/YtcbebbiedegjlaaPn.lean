/- Plain law: a word among the words of grammar. -/
import Derived.Lib.IndexMore
import Derived.Test.YtcbebbiedegjlaaPm
namespace Go.Proofs.Ytcbebbiedegjlaa.Pm
open Go
set_option linter.unusedVariables false
theorem index_cons_pos (b : UInt8) (l sub : List UInt8) : 0 ≤ Lib.index (b :: l) sub ↔ sub.isPrefixOf (b :: l) = true ∨ 0 ≤ Lib.index l sub := by
  have hg := Lib.index_ge l sub
  rw [Lib.index]
  by_cases h : sub.isPrefixOf (b :: l) = true
  · rw [if_pos h]; simp [h]
  · rw [if_neg h]
    by_cases e : Lib.index l sub = -1
    · rw [if_pos (by rw [e]; rfl), e]; simp [h]
    · rw [if_neg (by simpa using e)]
      simp only [h, false_or]
      constructor <;> intro <;> omega
theorem index_nil_neg (a : UInt8) (t : List UInt8) : ¬ 0 ≤ Lib.index [] (a :: t) := by simp [Lib.index]
theorem index_skip (t L : List UInt8) : ∀ w : List UInt8, (32 : UInt8) ∉ w → (0 ≤ Lib.index (w ++ L) (32 :: t) ↔ 0 ≤ Lib.index L (32 :: t))
  | [], _ => by simp
  | b :: w, hw => by
    have h1 : ((32 : UInt8) == b) = false := by
      rw [beq_eq_false_iff_ne]; intro e; exact hw (by simp [e])
    have ih := index_skip t L w (fun h => hw (List.mem_cons_of_mem _ h))
    rw [List.cons_append, index_cons_pos, ih]
    simp [List.isPrefixOf, h1]
theorem index_joined (s : List UInt8) (hs : (32 : UInt8) ∉ s) : ∀ ws : List (List UInt8), (∀ w ∈ ws, (32 : UInt8) ∉ w) → (0 ≤ Lib.index (joined ws) (32 :: (s ++ [32])) ↔ s ∈ ws)
  | [], _ => by
    rw [joined, index_cons_pos]
    have h := index_nil_neg 32 (s ++ [32])
    have h2 : ¬ (s ++ [32]).isPrefixOf ([] : List UInt8) = true := by cases s <;> simp [List.isPrefixOf]
    simp [List.isPrefixOf, h, h2]
  | w :: ws, hw => by
    obtain ⟨t, ht⟩ := joined_head ws
    have ih := index_joined s hs ws (fun v hv => hw v (List.mem_cons_of_mem _ hv))
    have hw0 := hw w (by simp)
    rw [joined, index_cons_pos, index_skip _ _ w hw0, ih]
    have hp := pre_word s w t hs hw0
    simp only [List.isPrefixOf, beq_self_eq_true, Bool.true_and, List.mem_cons]
    rw [ht, hp]
theorem words_no : ∀ w ∈ wordsL, (32 : UInt8) ∉ w := by decide +kernel
theorem contains_word (s : List UInt8) (hs : (32 : UInt8) ∉ s) : Lib.contains (joined wordsL) (32 :: (s ++ [32])) = isWord s := by
  unfold Lib.contains isWord
  rw [Bool.eq_iff_iff, decide_eq_true_iff, List.contains_iff_mem]
  exact index_joined s hs wordsL words_no
theorem letter_no (c : UInt8) (h : letter c = true) : c ≠ 32 := by
  intro e; subst e; revert h; decide
theorem chars_no {l : List UInt8} (h : chars l = true) : (32 : UInt8) ∉ l := by
  cases l with
  | nil => simp
  | cons c l =>
    simp only [chars, Bool.and_eq_true, List.all_eq_true] at h
    intro hm
    rcases List.mem_cons.1 hm with rfl | hm
    · exact letter_no _ (by unfold letter; rw [h.1]; rfl) rfl
    · exact letter_no _ (h.2 _ hm) rfl
end Go.Proofs.Ytcbebbiedegjlaa.Pm
