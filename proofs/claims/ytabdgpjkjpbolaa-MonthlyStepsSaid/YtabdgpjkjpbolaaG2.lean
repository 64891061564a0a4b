/- The days so many months apart, in plain words. -/
import Derived.Test.YtabdgpjkjpbolaaC3
namespace Go.Proofs.Ytabdgpjkjpbolaa.Steps
open Go.RowKit
open Go.Proofs.Ytabdgpjkjpbolaa.Math
set_option linter.unusedVariables false
set_option linter.unusedSimpArgs false
/-- The days so many months apart, i of them being told. -/
def dates : Nat → Int → Int → Int → List Int → List Int × Int
  | 0, _, _, _, l => (l, 0)
  | m + 1, n, e, i, l => if (add n ((i + 1) * e)).2 = 0 then dates m n e (i + 1) (l ++ [(add n ((i + 1) * e)).1]) else ([], (add n ((i + 1) * e)).2)
/-- The day so many months behind. -/
def D (n k : Int) : Int := dayAt (idx n + k) (min (dayOf n) (ml (idx n + k)))
def row (n e : Int) : Nat → Int → List Int
  | 0, _ => []
  | m + 1, i => D n ((i + 1) * e) :: row n e m (i + 1)
theorem row_len (n e : Int) : ∀ (m : Nat) (i : Int), (row n e m i).length = m
  | 0, i => rfl
  | m + 1, i => by simp [row, row_len n e m (i + 1)]
theorem mul_small {i e : Int} (h1 : 0 ≤ i) (h2 : i ≤ 100) (e1 : 1 ≤ e) (e2 : e ≤ 12) : 0 ≤ i * e ∧ i * e ≤ 1200 := by
  have a := Int.mul_le_mul_of_nonneg_right h2 (show 0 ≤ e by omega)
  have b := Int.mul_nonneg h1 (show 0 ≤ e by omega)
  omega
theorem dates_spec {n e : Int} (hd : isDay n) (e1 : 1 ≤ e) (e2 : e ≤ 12) : ∀ (m : Nat) (i : Int) (l : List Int), 0 ≤ i → i + m ≤ 24 →
    dates m n e i l = (l ++ row n e m i, 0) ∧ idx n + (i + m) * e ≤ 26411 ∨ dates m n e i l = ([], 5) ∨ (m = 0 ∧ dates m n e i l = (l, 0))
  | 0, i, l, i0, h => Or.inr (Or.inr ⟨rfl, rfl⟩)
  | m + 1, i, l, i0, h => by
    obtain ⟨p1, p2⟩ := mul_small (i := i + 1) (by omega) (by omega) e1 e2
    have hs := (idx_spec hd).1
    unfold dates
    by_cases ht : idx n + (i + 1) * e ≤ 26411
    · obtain ⟨a1, a2, a3, a4⟩ := add_ok hd (k := (i + 1) * e) (by omega) (by omega) (by omega) ht
      rw [a1]
      simp only [if_true]
      rcases dates_spec hd e1 e2 m (i + 1) (l ++ [D n ((i + 1) * e)]) (by omega) (by omega) with ⟨b, c⟩ | b | ⟨b, c⟩
      · left
        refine ⟨?_, by rw [show i + ((m + 1 : Nat) : Int) = i + 1 + m by omega]; exact c⟩
        show dates m n e (i + 1) (l ++ [D n ((i + 1) * e)]) = _
        rw [b]; simp [row]
      · right; left; exact b
      · left
        subst b
        refine ⟨?_, by simpa using ht⟩
        show dates 0 n e (i + 1) (l ++ [D n ((i + 1) * e)]) = _
        rw [c]; simp [row]
    · rw [add_no hd (k := (i + 1) * e) (by omega)]
      right; left
      simp
end Go.Proofs.Ytabdgpjkjpbolaa.Steps
