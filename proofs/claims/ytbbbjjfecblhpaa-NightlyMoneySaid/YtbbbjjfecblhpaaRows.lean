/-
  No cell of these rows narrows 'for every input' (looked for: loops, veiled, ifaces, maps, wideKeys, modest, calm, conditions, laid).
  DERIVED. THE GIVEN ROWS OF THIS SEAT. 4 by the template 'for every input the law returns true; each argument reads behind the call as it read before'; 0 by the template 'total and deterministic' (their statements: YtbbbjjfecblhpaaTotals.lean).
  GIVEN WITH THE SEED: the statements are not yours to turn. If you find one false, say at which input.
  Laid BY PROGRAM, IN A SANDBOX (cutbox-rows.mjs): the forced cells as the released guide's own fill.sh prints them over the translation a9753aba123d50f4… (all of the seat's roots in one cut). By AI agents, Wed Nov 11 2026. No macro, syntax, notation, axiom, sorry.
-/
import Derived.Test.YtbbbjjfecblhpaaChecked
import GoSem.Claim
import GoSem.ClaimJoined
import GoSem.ClaimMapViews
import Derived.JoinedTies
import Derived.KernelRfl
namespace Go.Proofs.Ytbbbjjfecblhpaa
/- THE CELL 'sum', in the pinned program and in every row, IS THE sha256 OF THE DUMP (.gsa) THAT YtbbbjjfecblhpaaProg.lean LOADS. Nothing in Lean hashes anything: it is a label: what it is worth is what the hold of that sum in a sandbox is worth. -/
noncomputable def Try.pinned : Pinned := { name := "ytbbbjjfecblhpaa", sum := "a9753aba123d50f493f3b588f2211f7a6ec7fd4ea3816dedd23c1846f52a00d8", checked := Try.checked }
namespace Rows
def none {H : Type} : Left H := { results := [], args := [] }

/-- 'quittancelaw20.NightlySplits': WHATEVER THE INPUT: true; the input reads as it did. -/
def nightlySplitsSpec : ChangeSpec := { name := "nightlySplits", fn := fun _ => fun
  | [d1, d2, d3, d4] => { results := [.lit (.bool true)], args := [d1, d2, d3, d4] }
  | _ => none }
def nightlySplitsRow : OpenClaim := { program := "ytbbbjjfecblhpaa", sum := "a9753aba123d50f493f3b588f2211f7a6ec7fd4ea3816dedd23c1846f52a00d8", func := "quittance/quittancelaw20.NightlySplits", spec := "nightlySplits", inPlace := ["internal/bytealg.IndexByteString", "internal/bytealg.IndexString", "math/bits.Add64"], unfollowed := true, recurses := true, named := ["internal/bytealg.MaxLen", "math/bits.divideError", "math/bits.overflowError"], apart := false }
def NightlySplitsSaid : Prop := nightlySplitsRow.holds Try.pinned (OpenSpec.ofChange nightlySplitsSpec)

/-- ITS FALSE NEIGHBOUR: 'it returns false'. Refute it at one input. -/
def nightlySplitsWrong : ChangeSpec := { name := "nightlySplits", fn := fun _ => fun
  | [d1, d2, d3, d4] => { results := [.lit (.bool false)], args := [d1, d2, d3, d4] }
  | _ => none }
def NightlySplitsWrongFalsely : Prop := nightlySplitsRow.holds Try.pinned (OpenSpec.ofChange nightlySplitsWrong)

/-- 'quittancelaw20.NightlyMoney': WHATEVER THE INPUT: true; the input reads as it did. -/
def nightlyMoneySpec : ChangeSpec := { name := "nightlyMoney", fn := fun _ => fun
  | [d1, d2] => { results := [.lit (.bool true)], args := [d1, d2] }
  | _ => none }
def nightlyMoneyRow : OpenClaim := { program := "ytbbbjjfecblhpaa", sum := "a9753aba123d50f493f3b588f2211f7a6ec7fd4ea3816dedd23c1846f52a00d8", func := "quittance/quittancelaw20.NightlyMoney", spec := "nightlyMoney", inPlace := ["internal/bytealg.IndexByteString", "internal/bytealg.IndexString", "math/bits.Add64"], unfollowed := true, recurses := true, named := ["internal/bytealg.MaxLen", "math/bits.divideError", "math/bits.overflowError"], apart := false }
def NightlyMoneySaid : Prop := nightlyMoneyRow.holds Try.pinned (OpenSpec.ofChange nightlyMoneySpec)

/-- ITS FALSE NEIGHBOUR: 'it returns false'. Refute it at one input. -/
def nightlyMoneyWrong : ChangeSpec := { name := "nightlyMoney", fn := fun _ => fun
  | [d1, d2] => { results := [.lit (.bool false)], args := [d1, d2] }
  | _ => none }
def NightlyMoneyWrongFalsely : Prop := nightlyMoneyRow.holds Try.pinned (OpenSpec.ofChange nightlyMoneyWrong)

/-- 'quittancelaw20.NightlyRests': WHATEVER THE INPUT: true; the input reads as it did. -/
def nightlyRestsSpec : ChangeSpec := { name := "nightlyRests", fn := fun _ => fun
  | [d1, d2, d3, d4] => { results := [.lit (.bool true)], args := [d1, d2, d3, d4] }
  | _ => none }
def nightlyRestsRow : OpenClaim := { program := "ytbbbjjfecblhpaa", sum := "a9753aba123d50f493f3b588f2211f7a6ec7fd4ea3816dedd23c1846f52a00d8", func := "quittance/quittancelaw20.NightlyRests", spec := "nightlyRests", inPlace := ["internal/bytealg.IndexByteString", "internal/bytealg.IndexString", "math/bits.Add64"], unfollowed := true, recurses := true, named := ["internal/bytealg.MaxLen", "math/bits.divideError", "math/bits.overflowError"], apart := false }
def NightlyRestsSaid : Prop := nightlyRestsRow.holds Try.pinned (OpenSpec.ofChange nightlyRestsSpec)

/-- ITS FALSE NEIGHBOUR: 'it returns false'. Refute it at one input. -/
def nightlyRestsWrong : ChangeSpec := { name := "nightlyRests", fn := fun _ => fun
  | [d1, d2, d3, d4] => { results := [.lit (.bool false)], args := [d1, d2, d3, d4] }
  | _ => none }
def NightlyRestsWrongFalsely : Prop := nightlyRestsRow.holds Try.pinned (OpenSpec.ofChange nightlyRestsWrong)

/-- 'quittancelaw11.DuesTell': WHATEVER THE INPUT: true; the input reads as it did. -/
def duesTellSpec : ChangeSpec := { name := "duesTell", fn := fun _ => fun
  | [d1, d2, d3] => { results := [.lit (.bool true)], args := [d1, d2, d3] }
  | _ => none }
def duesTellRow : OpenClaim := { program := "ytbbbjjfecblhpaa", sum := "a9753aba123d50f493f3b588f2211f7a6ec7fd4ea3816dedd23c1846f52a00d8", func := "quittance/quittancelaw11.DuesTell", spec := "duesTell", inPlace := ["internal/bytealg.IndexByteString", "internal/bytealg.IndexString"], unfollowed := true, recurses := true, named := ["internal/bytealg.MaxLen"], apart := false }
def DuesTellSaid : Prop := duesTellRow.holds Try.pinned (OpenSpec.ofChange duesTellSpec)

/-- ITS FALSE NEIGHBOUR: 'it returns false'. Refute it at one input. -/
def duesTellWrong : ChangeSpec := { name := "duesTell", fn := fun _ => fun
  | [d1, d2, d3] => { results := [.lit (.bool false)], args := [d1, d2, d3] }
  | _ => none }
def DuesTellWrongFalsely : Prop := duesTellRow.holds Try.pinned (OpenSpec.ofChange duesTellWrong)

/- THE SECOND FORM. 'bulk': how many values and letters a reading holds, each counted each time it is reached (what is shared counts as often as it is met; a slice's spare places count too). A statement '..UptoSaid' is the law's where the arguments, and the package variables that the reading takes, are together of bulk at most 1048576: NARROWER than '..Said'. Prove '..Said' where nothing that the law and all that it calls make is longer than what came in: it says more and counts as full. Else prove '..UptoSaid'. A law counts once. -/
mutual
def uptoBulk {H : Type} : DataW H → Nat
  | .lit (.string bytes) => bytes.length + 1
  | .lit _ => 1
  | .nil => 1
  | .ptr d => uptoBulk d + 1
  | .slice elems spare => uptoBulkAll elems + uptoBulkAll spare + 1
  | .agg parts => uptoBulkAll parts + 1
  | .iface _ d => uptoBulk d + 1
  | .map entries => uptoBulkEntries entries + 1
  | .held _ => 1
def uptoBulkAll {H : Type} : List (DataW H) → Nat
  | [] => 0
  | d :: r => uptoBulk d + uptoBulkAll r
def uptoBulkEntries {H : Type} : List (Lit × DataW H) → Nat
  | [] => 0
  | x :: r => uptoBulkEntry x + uptoBulkEntries r
def uptoBulkEntry {H : Type} : Lit × DataW H → Nat
  | (.string bytes, d) => bytes.length + uptoBulk d + 1
  | (_, d) => uptoBulk d + 1
 end
def uptoSmall : (H : Type) → List (DataW H) → Bool := fun _ ds => decide (uptoBulkAll ds ≤ 1048576)
def OpenSpec.upto (s : _root_.Go.ChangeSpec) : _root_.Go.OpenSpec := { _root_.Go.OpenSpec.ofChange s with cond := some uptoSmall }

/-- 'quittancelaw20.NightlySplits', WHERE WHAT IT READS IS OF BULK AT MOST 1048576: true; the input reads as it did. -/
def nightlySplitsUptoRow : OpenClaim := { program := "ytbbbjjfecblhpaa", sum := "a9753aba123d50f493f3b588f2211f7a6ec7fd4ea3816dedd23c1846f52a00d8", func := "quittance/quittancelaw20.NightlySplits", spec := "nightlySplits", inPlace := ["internal/bytealg.IndexByteString", "internal/bytealg.IndexString", "math/bits.Add64"], unfollowed := true, recurses := true, named := ["internal/bytealg.MaxLen", "math/bits.divideError", "math/bits.overflowError"], apart := false, narrowed := true }
def NightlySplitsUptoSaid : Prop := nightlySplitsUptoRow.holds Try.pinned (OpenSpec.upto nightlySplitsSpec)

/-- 'quittancelaw20.NightlyMoney', WHERE WHAT IT READS IS OF BULK AT MOST 1048576: true; the input reads as it did. -/
def nightlyMoneyUptoRow : OpenClaim := { program := "ytbbbjjfecblhpaa", sum := "a9753aba123d50f493f3b588f2211f7a6ec7fd4ea3816dedd23c1846f52a00d8", func := "quittance/quittancelaw20.NightlyMoney", spec := "nightlyMoney", inPlace := ["internal/bytealg.IndexByteString", "internal/bytealg.IndexString", "math/bits.Add64"], unfollowed := true, recurses := true, named := ["internal/bytealg.MaxLen", "math/bits.divideError", "math/bits.overflowError"], apart := false, narrowed := true }
def NightlyMoneyUptoSaid : Prop := nightlyMoneyUptoRow.holds Try.pinned (OpenSpec.upto nightlyMoneySpec)

/-- 'quittancelaw20.NightlyRests', WHERE WHAT IT READS IS OF BULK AT MOST 1048576: true; the input reads as it did. -/
def nightlyRestsUptoRow : OpenClaim := { program := "ytbbbjjfecblhpaa", sum := "a9753aba123d50f493f3b588f2211f7a6ec7fd4ea3816dedd23c1846f52a00d8", func := "quittance/quittancelaw20.NightlyRests", spec := "nightlyRests", inPlace := ["internal/bytealg.IndexByteString", "internal/bytealg.IndexString", "math/bits.Add64"], unfollowed := true, recurses := true, named := ["internal/bytealg.MaxLen", "math/bits.divideError", "math/bits.overflowError"], apart := false, narrowed := true }
def NightlyRestsUptoSaid : Prop := nightlyRestsUptoRow.holds Try.pinned (OpenSpec.upto nightlyRestsSpec)

/-- 'quittancelaw11.DuesTell', WHERE WHAT IT READS IS OF BULK AT MOST 1048576: true; the input reads as it did. -/
def duesTellUptoRow : OpenClaim := { program := "ytbbbjjfecblhpaa", sum := "a9753aba123d50f493f3b588f2211f7a6ec7fd4ea3816dedd23c1846f52a00d8", func := "quittance/quittancelaw11.DuesTell", spec := "duesTell", inPlace := ["internal/bytealg.IndexByteString", "internal/bytealg.IndexString"], unfollowed := true, recurses := true, named := ["internal/bytealg.MaxLen"], apart := false, narrowed := true }
def DuesTellUptoSaid : Prop := duesTellUptoRow.holds Try.pinned (OpenSpec.upto duesTellSpec)

end Rows
end Go.Proofs.Ytbbbjjfecblhpaa
