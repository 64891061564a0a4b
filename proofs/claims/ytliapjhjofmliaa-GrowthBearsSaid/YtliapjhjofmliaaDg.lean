/- Plain arithmetic: numbers as digits of a thousand million each. -/
import Derived.Test.YtliapjhjofmliaaGm
namespace Go.Proofs.Ytliapjhjofmliaa.Dg
/-- The number that digits are, the lowest first. -/
def val : List Int → Int
  | [] => 0
  | d :: ds => d + 1000000000 * val ds
def Dig (l : List Int) : Prop := ∀ d ∈ l, 0 ≤ d ∧ d < 1000000000
theorem Dig.nil : Dig [] := fun d h => by simp at h
theorem Dig.cons {d : Int} {l : List Int} (h1 : 0 ≤ d) (h2 : d < 1000000000) (h : Dig l) : Dig (d :: l) := fun x hx => by
  rcases List.mem_cons.1 hx with rfl | hx
  · exact ⟨h1, h2⟩
  · exact h x hx
theorem Dig.tail {d : Int} {l : List Int} (h : Dig (d :: l)) : Dig l := fun x hx => h x (List.mem_cons_of_mem _ hx)
theorem Dig.head {d : Int} {l : List Int} (h : Dig (d :: l)) : 0 ≤ d ∧ d < 1000000000 := h d List.mem_cons_self
theorem val_nonneg {l : List Int} (h : Dig l) : 0 ≤ val l := by
  induction l with
  | nil => exact Int.le_refl _
  | cons d ds ih => have := ih h.tail; have := h.head; simp only [val]; omega
/-- So many times. -/
def tms (n : Int) : Int → List Int → List Int
  | c, [] => if 0 < c then [c] else []
  | c, d :: ds => (d * n + c) % 1000000000 :: tms n ((d * n + c) / 1000000000) ds
theorem step_bd {d n c : Int} (d0 : 0 ≤ d) (d1 : d < 1000000000) (n0 : 0 ≤ n) (n1 : n ≤ 1000000000) (c0 : 0 ≤ c) (c1 : c < 1000000000) : 0 ≤ d * n ∧ d * n ≤ 999999999000000000 ∧ 0 ≤ d * n + c ∧ d * n + c < 1000000000000000000 ∧ (d * n + c) / 1000000000 < 1000000000 := by
  obtain ⟨h1, h2⟩ := Gm.mul_le d0 n0 (show d ≤ 999999999 by omega) n1
  omega
theorem tms_spec {n : Int} (n0 : 0 ≤ n) (n1 : n ≤ 1000000000) (l : List Int) : ∀ c, 0 ≤ c → c < 1000000000 → Dig l → Dig (tms n c l) ∧ val (tms n c l) = val l * n + c ∧ (tms n c l).length ≤ l.length + 1 := by
  induction l with
  | nil =>
    intro c c0 c1 _
    simp only [tms]
    by_cases h : 0 < c
    · rw [if_pos h]; exact ⟨Dig.cons c0 c1 Dig.nil, by simp [val], by simp⟩
    · rw [if_neg h]; exact ⟨Dig.nil, by simp [val]; omega, by simp⟩
  | cons d ds ih =>
    intro c c0 c1 hd
    obtain ⟨h1, h2, h3, h4, h5⟩ := step_bd hd.head.1 hd.head.2 n0 n1 c0 c1
    obtain ⟨i1, i2, i3⟩ := ih ((d * n + c) / 1000000000) (by omega) h5 hd.tail
    simp only [tms]
    refine ⟨Dig.cons (by omega) (by omega) i1, ?_, by simp; omega⟩
    simp only [val]
    rw [i2, Int.add_mul, Int.mul_add, Int.mul_assoc]
    generalize val ds * n = z
    generalize d * n = y at *
    omega
/-- So many more. -/
def pls : Int → List Int → List Int
  | v, [] => if 0 < v then (if 0 < v / 1000000000 then [v % 1000000000, v / 1000000000] else [v % 1000000000]) else []
  | v, d :: ds => if 0 < v then (v + d) % 1000000000 :: pls ((v + d) / 1000000000) ds else d :: ds
theorem pls_zero (l : List Int) : pls 0 l = l := by cases l <;> simp [pls]
theorem pls_spec (l : List Int) : ∀ v, 0 ≤ v → v ≤ 1000000000000000 → Dig l → Dig (pls v l) ∧ val (pls v l) = val l + v ∧ (pls v l).length ≤ l.length + 2 := by
  induction l with
  | nil =>
    intro v v0 v1 _
    simp only [pls]
    by_cases h : 0 < v
    · rw [if_pos h]
      by_cases h2 : 0 < v / 1000000000
      · rw [if_pos h2]; exact ⟨Dig.cons (by omega) (by omega) (Dig.cons (by omega) (by omega) Dig.nil), by simp [val]; omega, by simp⟩
      · rw [if_neg h2]; exact ⟨Dig.cons (by omega) (by omega) Dig.nil, by simp [val]; omega, by simp⟩
    · rw [if_neg h]; exact ⟨Dig.nil, by simp [val]; omega, by simp⟩
  | cons d ds ih =>
    intro v v0 v1 hd
    simp only [pls]
    have := hd.head
    by_cases h : 0 < v
    · rw [if_pos h]
      obtain ⟨i1, i2, i3⟩ := ih ((v + d) / 1000000000) (by omega) (by omega) hd.tail
      refine ⟨Dig.cons (by omega) (by omega) i1, ?_, by simp; omega⟩
      simp only [val]
      rw [i2]
      omega
    · rw [if_neg h]; exact ⟨hd, by omega, by simp⟩
/-- One digit more is divided. -/
theorem div_step {P q r d y : Int} (hP : 0 < P) (hy : y = q * P + r) (r0 : 0 ≤ r) (r1 : r < P) (d0 : 0 ≤ d) (d1 : d < 1000000000) :
    d + 1000000000 * y = (q * 1000000000 + (r * 1000000000 + d) / P) * P + (r * 1000000000 + d) % P ∧ 0 ≤ (r * 1000000000 + d) / P ∧ (r * 1000000000 + d) / P < 1000000000 ∧ 0 ≤ (r * 1000000000 + d) % P ∧ (r * 1000000000 + d) % P < P := by
  have e := Int.emod_add_mul_ediv (r * 1000000000 + d) P
  rw [Int.mul_comm P] at e
  have h1 := Int.emod_nonneg (r * 1000000000 + d) (show P ≠ 0 by omega)
  have h2 := Int.emod_lt_of_pos (r * 1000000000 + d) hP
  have h3 : 0 ≤ (r * 1000000000 + d) / P := Int.ediv_nonneg (by omega) (by omega)
  have h4 : (r * 1000000000 + d) / P < 1000000000 := Int.ediv_lt_of_lt_mul hP (by omega)
  refine ⟨?_, h3, h4, h1, h2⟩
  rw [hy, Int.add_mul, Int.mul_add]
  have e2 : q * 1000000000 * P = 1000000000 * (q * P) := by rw [Int.mul_comm q, Int.mul_assoc]
  rw [e2]
  generalize q * P = z
  generalize (r * 1000000000 + d) / P * P = y at *
  omega
theorem val_drop {l : List Int} (h : Dig l) (i : Nat) (hi : i < l.length) : val (l.drop i) = l.getD i 0 + 1000000000 * val (l.drop (i + 1)) ∧ 0 ≤ l.getD i 0 ∧ l.getD i 0 < 1000000000 := by
  rw [List.drop_eq_getElem_cons hi]
  simp only [val]
  have := h _ (List.getElem_mem hi)
  simp [hi]
  exact this
/-- The number is at least its upper digits. -/
theorem val_ge {l : List Int} (h : Dig l) (i : Nat) : i ≤ l.length → 1000000000 ^ i * val (l.drop i) ≤ val l := by
  induction i with
  | zero => intro _; simp
  | succ i ih =>
    intro hi
    obtain ⟨h1, h2, h3⟩ := val_drop h i (by omega)
    have := ih (by omega)
    have hp : (0 : Int) ≤ 1000000000 ^ i := Int.pow_nonneg (by decide)
    rw [h1, Int.mul_add] at this
    have h4 := Int.mul_nonneg hp h2
    rw [Int.pow_succ, Int.mul_assoc]
    omega
/-- What the document reckons, and what is borne. -/
theorem ends {P W h rest x q r : Int} (hP : 0 < P) (hW : W = 1000000000 * P) (e : x + rest + W = q * W + r) (r0 : 0 ≤ r) (r1 : r < W) (up : Bool) (hh : up = true ∧ W = 2 * h ∨ up = false ∧ h = 0) :
    (up = true ∧ W - r ≤ r → Gm.q W h rest x = q ∧ Gm.r W h rest x = r - W) ∧ (¬ (up = true ∧ W - r ≤ r) → Gm.q W h rest x = q - 1 ∧ Gm.r W h rest x = r) := by
  have hW0 : 0 < W := by omega
  have key : ∀ (s t : Int), x + (rest + h) = s * W + t → 0 ≤ t → t < W → Gm.q W h rest x = s ∧ Gm.r W h rest x = t - h := by
    intro s t e t0 t1
    unfold Gm.q Gm.r
    rw [e, Int.add_comm (s * W), Int.add_mul_ediv_right _ _ (by omega), Int.add_mul_emod_self_right, Int.ediv_eq_zero_of_lt t0 t1, Int.emod_eq_of_lt t0 t1]
    exact ⟨by omega, rfl⟩
  have eq1 : (q - 1) * W = q * W - W := by rw [Int.sub_mul, Int.one_mul]
  constructor
  · rintro ⟨hu, hr⟩
    have hwh : W = 2 * h := by rcases hh with h' | h'; exact h'.2; rw [hu] at h'; cases h'.1
    obtain ⟨g1, g2⟩ := key q (r + h - W) (by omega) (by omega) (by omega)
    exact ⟨g1, by omega⟩
  · intro hn
    rcases hh with ⟨hu, hwh⟩ | ⟨hu, h0⟩
    · have : r < W - r := by
        rcases Int.lt_or_le r (W - r) with h' | h'
        · exact h'
        · exact absurd ⟨hu, h'⟩ hn
      obtain ⟨g1, g2⟩ := key (q - 1) (r + h) (by omega) (by omega) (by omega)
      exact ⟨g1, by omega⟩
    · obtain ⟨g1, g2⟩ := key (q - 1) (r + h) (by omega) (by omega) (by omega)
      exact ⟨g1, by omega⟩
end Go.Proofs.Ytliapjhjofmliaa.Dg
