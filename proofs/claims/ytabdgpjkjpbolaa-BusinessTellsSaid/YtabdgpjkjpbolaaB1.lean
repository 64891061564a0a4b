/- Lists of days: which may be holidays, and whether a day is among them. -/
import Derived.Test.YtabdgpjkjpbolaaPAx2
import Derived.Test.YtabdgpjkjpbolaaC1
import Derived.IntWalk
namespace Go.Proofs.Ytabdgpjkjpbolaa.H
open Go.RowKit Go.Proofs.YtabdgpjkjpbolaaW.PrintWords Go.Proofs.YtabdgpjkjpbolaaW.PrintLast Go.Proofs.YtabdgpjkjpbolaaW.PrintMore
open Go.Proofs.Ytabdgpjkjpbolaa.Math
set_option linter.unusedVariables false
set_option linter.unusedSimpArgs false
theorem rd_nat (l : List Int) (k : Nat) (h : k < l.length) : rd l (k : Int) = l[k] := by
  simp [rd, h]
theorem rd_cons (l : List Int) (k : Nat) (h : k < l.length) : l.drop k = rd l (k : Int) :: l.drop (k + 1) := by
  rw [List.drop_eq_getElem_cons h, rd_nat l k h]
/-- Each one is a day, and behind the one ahead. -/
def rises : Int → List Int → Bool
  | _, [] => true
  | p, x :: xs => decide (isDay x) && (decide (p < x) && rises x xs)
def rightB (l : List Int) : Bool := rises (-25568) l && decide (l.length ≤ 200)
theorem rises_all (l : List Int) : ∀ p, rises p l = true → ∀ x ∈ l, isDay x ∧ p < x := by
  induction l with
  | nil => intro p _ x hx; simp at hx
  | cons y ys ih =>
    intro p h x hx
    simp only [rises, Bool.and_eq_true, decide_eq_true_eq] at h
    obtain ⟨h1, h2, h3⟩ := h
    rcases List.mem_cons.1 hx with rfl | hx
    · exact ⟨h1, h2⟩
    · obtain ⟨h4, h5⟩ := ih y h3 x hx
      exact ⟨h4, by omega⟩
theorem rises_pair (l : List Int) : ∀ p, rises p l = true → l.Pairwise (· < ·) := by
  induction l with
  | nil => intro p _; exact List.Pairwise.nil
  | cons y ys ih =>
    intro p h
    simp only [rises, Bool.and_eq_true, decide_eq_true_eq] at h
    exact List.Pairwise.cons (fun x hx => (rises_all ys y h.2.2 x hx).2) (ih y h.2.2)
theorem rises_lt {l : List Int} (h : l.Pairwise (· < ·)) {i j : Nat} (hij : i < j) (hj : j < l.length) : rd l (i : Int) < rd l (j : Int) := by
  rw [rd_nat l i (by omega), rd_nat l j hj]
  exact List.pairwise_iff_getElem.1 h i j (by omega) hj hij
theorem rises_of {l : List Int} : ∀ (p : Int), (∀ x ∈ l, isDay x ∧ p < x) → l.Pairwise (· < ·) → rises p l = true := by
  induction l with
  | nil => intro p _ _; rfl
  | cons y ys ih =>
    intro p h hp
    obtain ⟨h1, h2⟩ := h y (List.mem_cons_self)
    cases hp with
    | cons h3 h4 =>
      simp only [rises, Bool.and_eq_true, decide_eq_true_eq]
      exact ⟨h1, h2, ih y (fun x hx => ⟨(h x (List.mem_cons_of_mem _ hx)).1, h3 x hx⟩) h4⟩

theorem in_loop (l : List Int) (x : Int) (hm : l.length ≤ 1000000000) (d : Nat) : ∀ (k i : Nat), i ≤ l.length → l.length - i = d → d < k → PA.quittancehelp_In_int.l0 k l x (i : Int) = some ((l.drop i).contains x) := by
  induction d with
  | zero =>
    intro k i h1 h2 h3
    obtain ⟨k, rfl⟩ : ∃ m, k = m + 1 := ⟨k - 1, by omega⟩
    simp only [PA.quittancehelp_In_int.l0]
    rw [if_neg (by omega), List.drop_eq_nil_of_le (by omega)]; rfl
  | succ d ih =>
    intro k i h1 h2 h3
    obtain ⟨k, rfl⟩ : ∃ m, k = m + 1 := ⟨k - 1, by omega⟩
    simp only [PA.quittancehelp_In_int.l0]
    rw [if_pos (by omega), if_pos (by omega), rd_cons l i (by omega), List.contains_cons]
    by_cases e : rd l (i : Int) = x
    · rw [if_pos e]; simp [e]
    · have e' : (x == rd l (i : Int)) = false := by simpa using fun h => e h.symm
      rw [if_neg e, w64 (by omega) (by omega), show (i : Int) + 1 = ((i + 1 : Nat) : Int) by omega, ih k (i + 1) (by omega) (by omega) (by omega), e', Bool.false_or]
theorem in_is (l : List Int) (x : Int) (hm : l.length ≤ 1000000000) : PA.quittancehelp_In_int.f 1000000001 l x = some (l.contains x) := in_loop l x hm l.length 1000000001 0 (by omega) (by omega) (by omega)

theorem right_loop (l : List Int) (hm : l.length ≤ 1000000000) (d : Nat) : ∀ (k i : Nat) (p : Int), i ≤ l.length → l.length - i = d → d < k → (i = 0 ∧ p = -25568 ∨ 0 < i ∧ p = rd l ((i : Int) - 1)) →
    PA.quittanceref05_Right.l0 k l (i : Int) = some (rises p (l.drop i) && decide (l.length ≤ 200)) := by
  induction d with
  | zero =>
    intro k i p h1 h2 h3 hp
    obtain ⟨k, rfl⟩ : ∃ m, k = m + 1 := ⟨k - 1, by omega⟩
    simp only [PA.quittanceref05_Right.l0]
    rw [if_neg (by omega), List.drop_eq_nil_of_le (by omega)]
    simp only [rises, Bool.true_and]
    congr 1
    rw [decide_eq_decide]; omega
  | succ d ih =>
    intro k i p h1 h2 h3 hp
    obtain ⟨k, rfl⟩ : ∃ m, k = m + 1 := ⟨k - 1, by omega⟩
    simp only [PA.quittanceref05_Right.l0]
    rw [if_pos (by omega), if_pos (by omega), refIs, rd_cons l i (by omega)]
    simp only [Option.bind_some, rises]
    have hstep := ih k (i + 1) (rd l (i : Int)) (by omega) (by omega) (by omega) (Or.inr ⟨by omega, by rw [show (((i + 1 : Nat) : Int) - 1) = (i : Int) by omega]⟩)
    by_cases hd : isDay (rd l (i : Int))
    · rw [decide_eq_true hd, if_pos rfl, Bool.true_and]
      rcases hp with ⟨rfl, rfl⟩ | ⟨h0, rfl⟩
      · rw [if_neg (by omega), w64 (by omega) (by omega), show ((0 : Nat) : Int) + 1 = ((0 + 1 : Nat) : Int) by omega, hstep]
        have : decide (-25568 < rd l ((0 : Nat) : Int)) = true := decide_eq_true (by have := hd.1; omega)
        rw [this, Bool.true_and]
      · rw [if_pos (by omega), w64 (x := (i : Int) - 1) (by omega) (by omega), if_pos (by omega), if_pos (by omega)]
        by_cases hle : rd l (i : Int) ≤ rd l ((i : Int) - 1)
        · rw [if_pos hle, decide_eq_false (show ¬ rd l ((i : Int) - 1) < rd l (i : Int) by omega)]; rfl
        · rw [if_neg hle, w64 (by omega) (by omega), show (i : Int) + 1 = ((i + 1 : Nat) : Int) by omega, hstep, decide_eq_true (show rd l ((i : Int) - 1) < rd l (i : Int) by omega), Bool.true_and]
    · rw [decide_eq_false hd, if_neg (by decide)]; rfl
theorem right_is (l : List Int) (hm : l.length ≤ 1000000000) : PA.quittanceref05_Right.f 1000000001 l = some (rightB l) := right_loop l hm l.length 1000000001 0 (-25568) (by omega) (by omega) (by omega) (Or.inl ⟨rfl, rfl⟩)

theorem less_is (a b : Int) : PA.cmp_Less_int.f a b = some (decide (a < b)) := by simp [PA.cmp_Less_int.f, PA.cmp_isNaN_int.f]
theorem mid_is {x y : Int} (h0 : 0 ≤ x) (h1 : x < y) (h2 : y ≤ 1000000000) : wrap64 (IntKind.u64.wrap (wrap64 (x + y)) / 2) = (x + y) / 2 := by
  rw [w64 (x := x + y) (by omega) (by omega), show IntKind.u64.wrap (x + y) = x + y from IntWalk.u64_in _ (by omega), w64 (by omega) (by omega)]
theorem bs_loop (l : List Int) (x : Int) (hm : l.length ≤ 1000000000) (hs : l.Pairwise (· < ·)) (d : Nat) : ∀ (k lo hi : Nat), lo ≤ hi → hi ≤ l.length → hi - lo ≤ d → d < k →
    (∀ j : Nat, j < lo → rd l (j : Int) < x) → (∀ j : Nat, hi ≤ j → j < l.length → x ≤ rd l (j : Int)) → ∃ i, PA.slices_BinarySearch_int_int.l0 k l x (l.length : Int) (lo : Int) (hi : Int) = some (i, l.contains x) := by
  induction d with
  | zero =>
    intro k lo hi h1 h2 h3 h4 hL hH
    obtain ⟨k, rfl⟩ : ∃ m, k = m + 1 := ⟨k - 1, by omega⟩
    obtain rfl : hi = lo := by omega
    refine ⟨(hi : Int), ?_⟩
    have hc : l.contains x = true ↔ hi < l.length ∧ rd l (hi : Int) = x := by
      constructor
      · intro h
        obtain ⟨j, hj, e⟩ := List.getElem_of_mem (List.contains_iff_mem.1 h)
        rw [← rd_nat l j hj] at e
        have a : ¬ j < hi := fun h => by have := hL j h; omega
        have b : hi < l.length := by omega
        refine ⟨b, ?_⟩
        by_cases c : j = hi
        · rw [← c]; exact e
        · have := rises_lt hs (show hi < j by omega) hj
          have := hH hi (Nat.le_refl _) b
          omega
      · rintro ⟨h, e⟩
        rw [List.contains_iff_mem, ← e, rd_nat l hi h]
        exact List.getElem_mem _
    simp only [PA.slices_BinarySearch_int_int.l0]
    rw [if_neg (by omega)]
    by_cases hl : hi < l.length
    · rw [if_pos (by omega), if_pos (by omega), if_pos (by omega)]
      by_cases e : rd l (hi : Int) = x
      · rw [if_pos e, hc.2 ⟨hl, e⟩]
      · rw [if_neg e]
        have : l.contains x = false := by rw [Bool.eq_false_iff]; exact fun h => e (hc.1 h).2
        rw [this]
        simp [PA.slices_isNaN_int.f]
    · rw [if_neg (by omega)]
      have : l.contains x = false := by rw [Bool.eq_false_iff]; exact fun h => hl (hc.1 h).1
      rw [this]
  | succ d ih =>
    intro k lo hi h1 h2 h3 h4 hL hH
    by_cases hlt : lo < hi
    · obtain ⟨k, rfl⟩ : ∃ m, k = m + 1 := ⟨k - 1, by omega⟩
      simp only [PA.slices_BinarySearch_int_int.l0]
      rw [if_pos (by omega), mid_is (by omega) (by omega) (by omega), if_pos (by omega), if_pos (by omega), less_is]
      simp only [Option.bind_some, decide_eq_true_eq]
      have em : ((lo : Int) + (hi : Int)) / 2 = (((lo + hi) / 2 : Nat) : Int) := by omega
      rw [em]
      by_cases hlx : rd l (((lo + hi) / 2 : Nat) : Int) < x
      · rw [if_pos hlx, w64 (by omega) (by omega), show ((((lo + hi) / 2 : Nat) : Int) + 1) = (((lo + hi) / 2 + 1 : Nat) : Int) by omega]
        refine ih k _ hi (by omega) h2 (by omega) (by omega) (fun j hj => ?_) hH
        rcases (by omega : j < (lo + hi) / 2 ∨ j = (lo + hi) / 2) with h | rfl
        · have := rises_lt hs h (by omega)
          omega
        · exact hlx
      · rw [if_neg hlx]
        refine ih k lo _ (by omega) (by omega) (by omega) (by omega) hL (fun j hj hj2 => ?_)
        rcases (by omega : (lo + hi) / 2 < j ∨ j = (lo + hi) / 2) with h | rfl
        · have := rises_lt hs h hj2
          omega
        · omega
    · exact Nat.lt_irrefl 0 |> fun _ => by
        obtain ⟨i, h⟩ := ih k lo hi h1 h2 (by omega) (by omega) hL hH
        exact ⟨i, h⟩
theorem bs_is (l : List Int) (x : Int) (hm : l.length ≤ 1000000000) (hs : l.Pairwise (· < ·)) : ∃ i, PA.slices_BinarySearch_int_int.f 1000000001 l x = some (i, l.contains x) :=
  bs_loop l x hm hs l.length 1000000001 0 l.length (by omega) (by omega) (by omega) (by omega) (fun j hj => by omega) (fun j h1 h2 => by omega)

/-! ### Contracts, restated -/
def help_In_int.f (l : List Int) (x : Int) : Option Bool := if l.length ≤ 1000000000 then some (l.contains x) else none
theorem help_In_int.calls (A0 : Option Addr) (c0 : Nat) (l0 : List Int) (a1 : Int) (r : Bool) (w : World) (hr0 : Kd.C (Kd.int .i64) w A0 l0.length l0) (hc0 : l0.length ≤ c0) (h : help_In_int.f l0 a1 = some r) :
    Calls Try.prog 79 #[.slice A0 l0.length c0, .int .i64 a1] w fun e w' => e = .returned (.bool r) ∧ Drawn0 w w' := by
  unfold help_In_int.f at h
  split at h
  · rename_i hm
    exact PA.quittancehelp_In_int.calls 1000000001 A0 c0 l0 a1 r w hr0 hc0 ((in_is l0 a1 hm).trans h)
  · cases h
def ref05_Right.f (l : List Int) : Option Bool := if l.length ≤ 1000000000 then some (rightB l) else none
theorem ref05_Right.calls (A0 : Option Addr) (c0 : Nat) (l0 : List Int) (r : Bool) (w : World) (hr0 : Kd.C (Kd.int .i64) w A0 l0.length l0) (hc0 : l0.length ≤ c0) (h : ref05_Right.f l0 = some r) :
    Calls Try.prog 51 #[.slice A0 l0.length c0] w fun e w' => e = .returned (.bool r) ∧ Drawn0 w w' := by
  unfold ref05_Right.f at h
  split at h
  · rename_i hm
    exact PA.quittanceref05_Right.calls 1000000001 A0 c0 l0 r w hr0 hc0 ((right_is l0 hm).trans h)
  · cases h
theorem search_any (A0 : Option Addr) (c0 : Nat) (l0 : List Int) (a1 : Int) (w : World) (hr0 : Kd.C (Kd.int .i64) w A0 l0.length l0) (hc0 : l0.length ≤ c0) (hm : l0.length ≤ 1000000000) (hs : l0.Pairwise (· < ·)) :
    Calls Try.prog 76 #[.slice A0 l0.length c0, .int .i64 a1] w fun e w' => (∃ i : Int, e = .returned (.tuple #[.int .i64 i, .bool (l0.contains a1)])) ∧ Drawn0 w w' := by
  obtain ⟨i, h⟩ := bs_is l0 a1 hm hs
  exact (PA.slices_BinarySearch_int_int.calls 1000000001 A0 c0 l0 a1 _ _ w hr0 hc0 h).mono fun e w' ⟨h1, h2⟩ => ⟨⟨i, h1⟩, h2⟩
end Go.Proofs.Ytabdgpjkjpbolaa.H
