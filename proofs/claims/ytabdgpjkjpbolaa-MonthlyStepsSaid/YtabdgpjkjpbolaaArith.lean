/- Small arithmetic for the plain laws: whole numbers cut down by a remainder. -/
import Derived.Test.YtabdgpjkjpbolaaC1
namespace Go.Proofs.Ytabdgpjkjpbolaa.Pure
open Go.RowKit Go.Proofs.Ytabdgpjkjpbolaa.Math Go.Proofs.Ytabdgpjkjpbolaa.H
theorem u64_pos (a : Int) : 0 ≤ IntKind.u64.wrap a := by simp [IntKind.wrap, IntKind.signed, IntKind.bits]; omega
theorem umod (a m : Int) (h0 : 0 < m) (h1 : m ≤ 1000000000000) : 0 ≤ wrap64 (Int.tmod (IntKind.u64.wrap a) m) ∧ wrap64 (Int.tmod (IntKind.u64.wrap a) m) < m := by
  rw [tmod_pos (u64_pos a)]
  have h2 := Int.emod_nonneg (IntKind.u64.wrap a) (show m ≠ 0 by omega)
  have h3 := Int.emod_lt_of_pos (IntKind.u64.wrap a) h0
  rw [w64 (by omega) (by omega)]
  exact ⟨h2, h3⟩
end Go.Proofs.Ytabdgpjkjpbolaa.Pure
