/- bits.Div64, as it is printed, is division. -/
import Derived.Test.YtliapjhjofmliaaD1
import Derived.Test.YtliapjhjofmliaaPAx
import Derived.Laws.BitsAllLaws
namespace Go.Proofs.Ytliapjhjofmliaa.H
open Go.RowKit Go.Proofs.YtliapjhjofmliaaW.PrintWords Go.Proofs.YtliapjhjofmliaaW.PrintLast Go.Proofs.YtliapjhjofmliaaW.PrintMore
open Go.Proofs.Ytliapjhjofmliaa.Math
set_option linter.unusedVariables false
set_option linter.unusedSimpArgs false

theorem u64w (x : Int) : IntKind.u64.wrap x = x % 18446744073709551616 := by simp [IntKind.wrap, IntKind.signed, IntKind.bits]
theorem u64s {x : Int} (h0 : 0 ≤ x) (h1 : x < 18446744073709551616) : IntKind.u64.wrap x = x := by rw [u64w]; omega
theorem w64 {x : Int} (h1 : -9223372036854775808 ≤ x) (h2 : x ≤ 9223372036854775807) : wrap64 x = x := by unfold wrap64; omega

theorem loop1 {y1 y0 u d : Int} (b : Base y1 y0 u d) (x2 x8 x14 : Int) (n : Nat) : ∀ (k : Nat) (q r : Int), 2 * n + 2 ≤ k → Inv y1 y0 u d q r → r < 4294967296 → 4294967296 ≤ r + n * 2147483648 →
    ∃ j, k ≤ j + 2 * n + 2 ∧ PA.bits_Div64.l0 k x2 x8 y1 y0 u d x14 q r = PA.bits_Div64.j2 j x2 x8 y1 y0 u d x14 (dig y1 y0 u d) := by
  induction n with
  | zero => intro k q r hk h hr hn; omega
  | succ n ih =>
    intro k q r hk h hr hn
    obtain ⟨k, rfl⟩ : ∃ m, k = m + 2 := ⟨k - 2, by omega⟩
    have hb := mul_bd b h.q0 h.q1
    have h0 := dig_lo b
    have a1 := h.q1
    have a2 := h.r0
    have a3 := b.y1lo
    have a4 := b.y1hi
    have a5 := b.dlo
    have a6 := b.dhi
    have e1 : IntKind.u64.wrap (q * y0) = q * y0 := u64s hb.1 (by omega)
    have e2 : IntKind.u64.wrap (IntKind.u64.wrap (4294967296 * r) + d) = 4294967296 * r + d := by rw [u64s (x := 4294967296 * r) (by omega) (by omega), u64s (by omega) (by omega)]
    have e3 : IntKind.u64.wrap (r + y1) = r + y1 := u64s (by omega) (by omega)
    -- a step down
    have down : dig y1 y0 u d < q → ∃ j, k + 2 ≤ j + 2 * (n + 1) + 2 ∧ PA.bits_Div64.j1 (k + 1) x2 x8 y1 y0 u d x14 q r true = PA.bits_Div64.j2 j x2 x8 y1 y0 u d x14 (dig y1 y0 u d) := by
      intro hl
      have e4 : IntKind.u64.wrap (q - 1) = q - 1 := u64s (by omega) (by omega)
      simp only [PA.bits_Div64.j1, if_true]
      rw [e3, e4]
      by_cases hr2 : r + y1 ≥ 4294967296
      · rw [if_pos hr2, h.last b hl hr2]
        exact ⟨k, by omega, rfl⟩
      · rw [if_neg hr2]
        obtain ⟨j, hj, e⟩ := ih k (q - 1) (r + y1) (by omega) (h.next b hl) (by omega) (by omega)
        exact ⟨j, by omega, e⟩
    simp only [PA.bits_Div64.l0]
    rw [e1, e2]
    by_cases c1 : q ≥ 4294967296
    · rw [if_pos c1]; exact down (h.big b c1)
    · rw [if_neg c1]
      by_cases c2 : q * y0 > 4294967296 * r + d
      · rw [decide_eq_true c2]; exact down (h.more b c2)
      · rw [decide_eq_false c2]
        simp only [PA.bits_Div64.j1, Bool.false_eq_true, if_false]
        rw [h.done b c2]
        exact ⟨k, by omega, rfl⟩

theorem loop2 {y1 y0 u d : Int} (b : Base y1 y0 u d) (x2 x8 x15 : Int) (h8 : 0 ≤ x8) (n : Nat) : ∀ (k : Nat) (q r : Int), 2 * n + 2 ≤ k → Inv y1 y0 u d q r → r < 4294967296 → 4294967296 ≤ r + n * 2147483648 →
    PA.bits_Div64.l1 k x2 x8 y1 y0 d x15 r u q = some (IntKind.u64.wrap (IntKind.u64.wrap (x15 * 4294967296) + dig y1 y0 u d), shr .u64 (IntKind.u64.wrap (IntKind.u64.wrap (IntKind.u64.wrap (u * 4294967296) + d) - IntKind.u64.wrap (dig y1 y0 u d * x2))) x8) := by
  induction n with
  | zero => intro k q r hk h hr hn; omega
  | succ n ih =>
    intro k q r hk h hr hn
    obtain ⟨k, rfl⟩ : ∃ m, k = m + 2 := ⟨k - 2, by omega⟩
    have hb := mul_bd b h.q0 h.q1
    have h0 := dig_lo b
    have a1 := h.q1
    have a2 := h.r0
    have a3 := b.y1lo
    have a4 := b.y1hi
    have a5 := b.dlo
    have a6 := b.dhi
    have e1 : IntKind.u64.wrap (q * y0) = q * y0 := u64s hb.1 (by omega)
    have e2 : IntKind.u64.wrap (IntKind.u64.wrap (4294967296 * r) + d) = 4294967296 * r + d := by rw [u64s (x := 4294967296 * r) (by omega) (by omega), u64s (by omega) (by omega)]
    have e3 : IntKind.u64.wrap (r + y1) = r + y1 := u64s (by omega) (by omega)
    have down : dig y1 y0 u d < q → PA.bits_Div64.j4 (k + 1) x2 x8 y1 y0 d x15 r u q true = some (IntKind.u64.wrap (IntKind.u64.wrap (x15 * 4294967296) + dig y1 y0 u d), shr .u64 (IntKind.u64.wrap (IntKind.u64.wrap (IntKind.u64.wrap (u * 4294967296) + d) - IntKind.u64.wrap (dig y1 y0 u d * x2))) x8) := by
      intro hl
      have e4 : IntKind.u64.wrap (q - 1) = q - 1 := u64s (by omega) (by omega)
      simp only [PA.bits_Div64.j4, if_true]
      rw [e3, e4]
      by_cases hr2 : r + y1 ≥ 4294967296
      · rw [if_pos hr2, if_pos h8, h.last b hl hr2]
      · rw [if_neg hr2]
        exact ih k (q - 1) (r + y1) (by omega) (h.next b hl) (by omega) (by omega)
    simp only [PA.bits_Div64.l1]
    rw [e1, e2]
    by_cases c1 : q ≥ 4294967296
    · rw [if_pos c1]; exact down (h.big b c1)
    · rw [if_neg c1]
      by_cases c2 : q * y0 > 4294967296 * r + d
      · rw [decide_eq_true c2]; exact down (h.more b c2)
      · rw [decide_eq_false c2]
        simp only [PA.bits_Div64.j4, Bool.false_eq_true, if_false]
        rw [if_pos h8, h.done b c2]
end Go.Proofs.Ytliapjhjofmliaa.H
