/-
  No cell of these rows narrows 'for every input' (looked for: loops, veiled, ifaces, maps, wideKeys, modest, calm, conditions, laid).
  DERIVED. THE GIVEN ROWS OF THIS SEAT. 8 by the template 'for every input the law returns true; each argument reads behind the call as it read before'; 0 by the template 'total and deterministic' (their statements: YtcbebbiedegjlaaTotals.lean).
  GIVEN WITH THE SEED: the statements are not yours to turn. If you find one false, say at which input.
  Laid BY PROGRAM, IN A SANDBOX (cutbox-rows.mjs): the forced cells as the released guide's own fill.sh prints them over the translation 73563dffe254953b… (all of the seat's roots in one cut). By AI agents, Wed Nov 11 2026. No macro, syntax, notation, axiom, sorry.
-/
import Derived.Test.YtcbebbiedegjlaaChecked
import GoSem.Claim
import GoSem.ClaimJoined
import GoSem.ClaimMapViews
import Derived.JoinedTies
import Derived.KernelRfl
namespace Go.Proofs.Ytcbebbiedegjlaa
/- THE CELL 'sum', in the pinned program and in every row, IS THE sha256 OF THE DUMP (.gsa) THAT YtcbebbiedegjlaaProg.lean LOADS. Nothing in Lean hashes anything: it is a label: what it is worth is what the hold of that sum in a sandbox is worth. -/
noncomputable def Try.pinned : Pinned := { name := "ytcbebbiedegjlaa", sum := "73563dffe254953b041cca7fb4fd72c5608e4e28ec1a2f9a47c08041115bf58b", checked := Try.checked }
namespace Rows
def none {H : Type} : Left H := { results := [], args := [] }

/-- 'quittancelaw08.ProductTells': WHATEVER THE INPUT: true; the input reads as it did. -/
def productTellsSpec : ChangeSpec := { name := "productTells", fn := fun _ => fun
  | [d1, d2] => { results := [.lit (.bool true)], args := [d1, d2] }
  | _ => none }
def productTellsRow : OpenClaim := { program := "ytcbebbiedegjlaa", sum := "73563dffe254953b041cca7fb4fd72c5608e4e28ec1a2f9a47c08041115bf58b", func := "quittance/quittancelaw08.ProductTells", spec := "productTells", inPlace := ["internal/bytealg.IndexByteString", "internal/bytealg.IndexString"], unfollowed := true, recurses := true, named := ["internal/bytealg.MaxLen"], apart := false }
def ProductTellsSaid : Prop := productTellsRow.holds Try.pinned (OpenSpec.ofChange productTellsSpec)

/-- ITS FALSE NEIGHBOUR: 'it returns false'. Refute it at one input. -/
def productTellsWrong : ChangeSpec := { name := "productTells", fn := fun _ => fun
  | [d1, d2] => { results := [.lit (.bool false)], args := [d1, d2] }
  | _ => none }
def ProductTellsWrongFalsely : Prop := productTellsRow.holds Try.pinned (OpenSpec.ofChange productTellsWrong)

/-- 'quittancelaw08.ProductBounds': WHATEVER THE INPUT: true; the input reads as it did. -/
def productBoundsSpec : ChangeSpec := { name := "productBounds", fn := fun _ => fun
  | [d1, d2, d3] => { results := [.lit (.bool true)], args := [d1, d2, d3] }
  | _ => none }
def productBoundsRow : OpenClaim := { program := "ytcbebbiedegjlaa", sum := "73563dffe254953b041cca7fb4fd72c5608e4e28ec1a2f9a47c08041115bf58b", func := "quittance/quittancelaw08.ProductBounds", spec := "productBounds", inPlace := ["internal/bytealg.IndexByteString", "internal/bytealg.IndexString"], unfollowed := true, recurses := true, named := ["internal/bytealg.MaxLen"], apart := false }
def ProductBoundsSaid : Prop := productBoundsRow.holds Try.pinned (OpenSpec.ofChange productBoundsSpec)

/-- ITS FALSE NEIGHBOUR: 'it returns false'. Refute it at one input. -/
def productBoundsWrong : ChangeSpec := { name := "productBounds", fn := fun _ => fun
  | [d1, d2, d3] => { results := [.lit (.bool false)], args := [d1, d2, d3] }
  | _ => none }
def ProductBoundsWrongFalsely : Prop := productBoundsRow.holds Try.pinned (OpenSpec.ofChange productBoundsWrong)

/-- 'quittancelaw08.ProductOrders': WHATEVER THE INPUT: true; the input reads as it did. -/
def productOrdersSpec : ChangeSpec := { name := "productOrders", fn := fun _ => fun
  | [d1, d2, d3, d4, d5] => { results := [.lit (.bool true)], args := [d1, d2, d3, d4, d5] }
  | _ => none }
def productOrdersRow : OpenClaim := { program := "ytcbebbiedegjlaa", sum := "73563dffe254953b041cca7fb4fd72c5608e4e28ec1a2f9a47c08041115bf58b", func := "quittance/quittancelaw08.ProductOrders", spec := "productOrders", inPlace := ["internal/bytealg.IndexByteString", "internal/bytealg.IndexString"], unfollowed := true, recurses := true, named := ["internal/bytealg.MaxLen"], apart := false }
def ProductOrdersSaid : Prop := productOrdersRow.holds Try.pinned (OpenSpec.ofChange productOrdersSpec)

/-- ITS FALSE NEIGHBOUR: 'it returns false'. Refute it at one input. -/
def productOrdersWrong : ChangeSpec := { name := "productOrders", fn := fun _ => fun
  | [d1, d2, d3, d4, d5] => { results := [.lit (.bool false)], args := [d1, d2, d3, d4, d5] }
  | _ => none }
def ProductOrdersWrongFalsely : Prop := productOrdersRow.holds Try.pinned (OpenSpec.ofChange productOrdersWrong)

/-- 'quittancelaw08.ProductNames': WHATEVER THE INPUT: true; the input reads as it did. -/
def productNamesSpec : ChangeSpec := { name := "productNames", fn := fun _ => fun
  | [d1, d2] => { results := [.lit (.bool true)], args := [d1, d2] }
  | _ => none }
def productNamesRow : OpenClaim := { program := "ytcbebbiedegjlaa", sum := "73563dffe254953b041cca7fb4fd72c5608e4e28ec1a2f9a47c08041115bf58b", func := "quittance/quittancelaw08.ProductNames", spec := "productNames", inPlace := ["internal/bytealg.IndexByteString", "internal/bytealg.IndexString"], unfollowed := true, recurses := true, named := ["internal/bytealg.MaxLen"], apart := false }
def ProductNamesSaid : Prop := productNamesRow.holds Try.pinned (OpenSpec.ofChange productNamesSpec)

/-- ITS FALSE NEIGHBOUR: 'it returns false'. Refute it at one input. -/
def productNamesWrong : ChangeSpec := { name := "productNames", fn := fun _ => fun
  | [d1, d2] => { results := [.lit (.bool false)], args := [d1, d2] }
  | _ => none }
def ProductNamesWrongFalsely : Prop := productNamesRow.holds Try.pinned (OpenSpec.ofChange productNamesWrong)

/-- 'quittancelaw17.LatefeeTells': WHATEVER THE INPUT: true; the input reads as it did. -/
def latefeeTellsSpec : ChangeSpec := { name := "latefeeTells", fn := fun _ => fun
  | [d1, d2, d3, d4, d5, d6, d7, d8, d9] => { results := [.lit (.bool true)], args := [d1, d2, d3, d4, d5, d6, d7, d8, d9] }
  | _ => none }
def latefeeTellsRow : OpenClaim := { program := "ytcbebbiedegjlaa", sum := "73563dffe254953b041cca7fb4fd72c5608e4e28ec1a2f9a47c08041115bf58b", func := "quittance/quittancelaw17.LatefeeTells", spec := "latefeeTells", inPlace := ["internal/bytealg.IndexByteString", "internal/bytealg.IndexString"], unfollowed := true, recurses := true, named := ["internal/bytealg.MaxLen"], apart := false }
def LatefeeTellsSaid : Prop := latefeeTellsRow.holds Try.pinned (OpenSpec.ofChange latefeeTellsSpec)

/-- ITS FALSE NEIGHBOUR: 'it returns false'. Refute it at one input. -/
def latefeeTellsWrong : ChangeSpec := { name := "latefeeTells", fn := fun _ => fun
  | [d1, d2, d3, d4, d5, d6, d7, d8, d9] => { results := [.lit (.bool false)], args := [d1, d2, d3, d4, d5, d6, d7, d8, d9] }
  | _ => none }
def LatefeeTellsWrongFalsely : Prop := latefeeTellsRow.holds Try.pinned (OpenSpec.ofChange latefeeTellsWrong)

/-- 'quittancelaw17.LatefeeOnce': WHATEVER THE INPUT: true; the input reads as it did. -/
def latefeeOnceSpec : ChangeSpec := { name := "latefeeOnce", fn := fun _ => fun
  | [d1, d2, d3, d4, d5] => { results := [.lit (.bool true)], args := [d1, d2, d3, d4, d5] }
  | _ => none }
def latefeeOnceRow : OpenClaim := { program := "ytcbebbiedegjlaa", sum := "73563dffe254953b041cca7fb4fd72c5608e4e28ec1a2f9a47c08041115bf58b", func := "quittance/quittancelaw17.LatefeeOnce", spec := "latefeeOnce", inPlace := ["internal/bytealg.IndexByteString", "internal/bytealg.IndexString"], unfollowed := true, recurses := true, named := ["internal/bytealg.MaxLen"], apart := false }
def LatefeeOnceSaid : Prop := latefeeOnceRow.holds Try.pinned (OpenSpec.ofChange latefeeOnceSpec)

/-- ITS FALSE NEIGHBOUR: 'it returns false'. Refute it at one input. -/
def latefeeOnceWrong : ChangeSpec := { name := "latefeeOnce", fn := fun _ => fun
  | [d1, d2, d3, d4, d5] => { results := [.lit (.bool false)], args := [d1, d2, d3, d4, d5] }
  | _ => none }
def LatefeeOnceWrongFalsely : Prop := latefeeOnceRow.holds Try.pinned (OpenSpec.ofChange latefeeOnceWrong)

/-- 'quittancelaw17.LatefeeMany': WHATEVER THE INPUT: true; the input reads as it did. -/
def latefeeManySpec : ChangeSpec := { name := "latefeeMany", fn := fun _ => fun
  | [d1, d2, d3, d4, d5, d6, d7] => { results := [.lit (.bool true)], args := [d1, d2, d3, d4, d5, d6, d7] }
  | _ => none }
def latefeeManyRow : OpenClaim := { program := "ytcbebbiedegjlaa", sum := "73563dffe254953b041cca7fb4fd72c5608e4e28ec1a2f9a47c08041115bf58b", func := "quittance/quittancelaw17.LatefeeMany", spec := "latefeeMany", inPlace := ["internal/bytealg.IndexByteString", "internal/bytealg.IndexString"], unfollowed := true, recurses := true, named := ["internal/bytealg.MaxLen"], apart := false }
def LatefeeManySaid : Prop := latefeeManyRow.holds Try.pinned (OpenSpec.ofChange latefeeManySpec)

/-- ITS FALSE NEIGHBOUR: 'it returns false'. Refute it at one input. -/
def latefeeManyWrong : ChangeSpec := { name := "latefeeMany", fn := fun _ => fun
  | [d1, d2, d3, d4, d5, d6, d7] => { results := [.lit (.bool false)], args := [d1, d2, d3, d4, d5, d6, d7] }
  | _ => none }
def LatefeeManyWrongFalsely : Prop := latefeeManyRow.holds Try.pinned (OpenSpec.ofChange latefeeManyWrong)

/-- 'quittancelaw17.LatefeeRefuses': WHATEVER THE INPUT: true; the input reads as it did. -/
def latefeeRefusesSpec : ChangeSpec := { name := "latefeeRefuses", fn := fun _ => fun
  | [d1, d2, d3] => { results := [.lit (.bool true)], args := [d1, d2, d3] }
  | _ => none }
def latefeeRefusesRow : OpenClaim := { program := "ytcbebbiedegjlaa", sum := "73563dffe254953b041cca7fb4fd72c5608e4e28ec1a2f9a47c08041115bf58b", func := "quittance/quittancelaw17.LatefeeRefuses", spec := "latefeeRefuses", inPlace := ["internal/bytealg.IndexByteString", "internal/bytealg.IndexString"], unfollowed := true, recurses := true, named := ["internal/bytealg.MaxLen"], apart := false }
def LatefeeRefusesSaid : Prop := latefeeRefusesRow.holds Try.pinned (OpenSpec.ofChange latefeeRefusesSpec)

/-- ITS FALSE NEIGHBOUR: 'it returns false'. Refute it at one input. -/
def latefeeRefusesWrong : ChangeSpec := { name := "latefeeRefuses", fn := fun _ => fun
  | [d1, d2, d3] => { results := [.lit (.bool false)], args := [d1, d2, d3] }
  | _ => none }
def LatefeeRefusesWrongFalsely : Prop := latefeeRefusesRow.holds Try.pinned (OpenSpec.ofChange latefeeRefusesWrong)

/- THE SECOND FORM. 'bulk': how many values and letters a reading holds, each counted each time it is reached (what is shared counts as often as it is met; a slice's spare places count too). A statement '..UptoSaid' is the law's where the arguments, and the package variables that the reading takes, are together of bulk at most 1048576: NARROWER than '..Said'. Prove '..Said' where nothing that the law and all that it calls make is longer than what came in: it says more and counts as full. Else prove '..UptoSaid'. A law counts once. -/
mutual
def uptoBulk {H : Type} : DataW H → Nat
  | .lit (.string bytes) => bytes.length + 1
  | .lit _ => 1
  | .nil => 1
  | .ptr d => uptoBulk d + 1
  | .slice elems spare => uptoBulkAll elems + uptoBulkAll spare + 1
  | .agg parts => uptoBulkAll parts + 1
  | .iface _ d => uptoBulk d + 1
  | .map entries => uptoBulkEntries entries + 1
  | .held _ => 1
def uptoBulkAll {H : Type} : List (DataW H) → Nat
  | [] => 0
  | d :: r => uptoBulk d + uptoBulkAll r
def uptoBulkEntries {H : Type} : List (Lit × DataW H) → Nat
  | [] => 0
  | x :: r => uptoBulkEntry x + uptoBulkEntries r
def uptoBulkEntry {H : Type} : Lit × DataW H → Nat
  | (.string bytes, d) => bytes.length + uptoBulk d + 1
  | (_, d) => uptoBulk d + 1
 end
def uptoSmall : (H : Type) → List (DataW H) → Bool := fun _ ds => decide (uptoBulkAll ds ≤ 1048576)
def OpenSpec.upto (s : _root_.Go.ChangeSpec) : _root_.Go.OpenSpec := { _root_.Go.OpenSpec.ofChange s with cond := some uptoSmall }

/-- 'quittancelaw08.ProductTells', WHERE WHAT IT READS IS OF BULK AT MOST 1048576: true; the input reads as it did. -/
def productTellsUptoRow : OpenClaim := { program := "ytcbebbiedegjlaa", sum := "73563dffe254953b041cca7fb4fd72c5608e4e28ec1a2f9a47c08041115bf58b", func := "quittance/quittancelaw08.ProductTells", spec := "productTells", inPlace := ["internal/bytealg.IndexByteString", "internal/bytealg.IndexString"], unfollowed := true, recurses := true, named := ["internal/bytealg.MaxLen"], apart := false, narrowed := true }
def ProductTellsUptoSaid : Prop := productTellsUptoRow.holds Try.pinned (OpenSpec.upto productTellsSpec)

/-- 'quittancelaw08.ProductBounds', WHERE WHAT IT READS IS OF BULK AT MOST 1048576: true; the input reads as it did. -/
def productBoundsUptoRow : OpenClaim := { program := "ytcbebbiedegjlaa", sum := "73563dffe254953b041cca7fb4fd72c5608e4e28ec1a2f9a47c08041115bf58b", func := "quittance/quittancelaw08.ProductBounds", spec := "productBounds", inPlace := ["internal/bytealg.IndexByteString", "internal/bytealg.IndexString"], unfollowed := true, recurses := true, named := ["internal/bytealg.MaxLen"], apart := false, narrowed := true }
def ProductBoundsUptoSaid : Prop := productBoundsUptoRow.holds Try.pinned (OpenSpec.upto productBoundsSpec)

/-- 'quittancelaw08.ProductOrders', WHERE WHAT IT READS IS OF BULK AT MOST 1048576: true; the input reads as it did. -/
def productOrdersUptoRow : OpenClaim := { program := "ytcbebbiedegjlaa", sum := "73563dffe254953b041cca7fb4fd72c5608e4e28ec1a2f9a47c08041115bf58b", func := "quittance/quittancelaw08.ProductOrders", spec := "productOrders", inPlace := ["internal/bytealg.IndexByteString", "internal/bytealg.IndexString"], unfollowed := true, recurses := true, named := ["internal/bytealg.MaxLen"], apart := false, narrowed := true }
def ProductOrdersUptoSaid : Prop := productOrdersUptoRow.holds Try.pinned (OpenSpec.upto productOrdersSpec)

/-- 'quittancelaw08.ProductNames', WHERE WHAT IT READS IS OF BULK AT MOST 1048576: true; the input reads as it did. -/
def productNamesUptoRow : OpenClaim := { program := "ytcbebbiedegjlaa", sum := "73563dffe254953b041cca7fb4fd72c5608e4e28ec1a2f9a47c08041115bf58b", func := "quittance/quittancelaw08.ProductNames", spec := "productNames", inPlace := ["internal/bytealg.IndexByteString", "internal/bytealg.IndexString"], unfollowed := true, recurses := true, named := ["internal/bytealg.MaxLen"], apart := false, narrowed := true }
def ProductNamesUptoSaid : Prop := productNamesUptoRow.holds Try.pinned (OpenSpec.upto productNamesSpec)

/-- 'quittancelaw17.LatefeeTells', WHERE WHAT IT READS IS OF BULK AT MOST 1048576: true; the input reads as it did. -/
def latefeeTellsUptoRow : OpenClaim := { program := "ytcbebbiedegjlaa", sum := "73563dffe254953b041cca7fb4fd72c5608e4e28ec1a2f9a47c08041115bf58b", func := "quittance/quittancelaw17.LatefeeTells", spec := "latefeeTells", inPlace := ["internal/bytealg.IndexByteString", "internal/bytealg.IndexString"], unfollowed := true, recurses := true, named := ["internal/bytealg.MaxLen"], apart := false, narrowed := true }
def LatefeeTellsUptoSaid : Prop := latefeeTellsUptoRow.holds Try.pinned (OpenSpec.upto latefeeTellsSpec)

/-- 'quittancelaw17.LatefeeOnce', WHERE WHAT IT READS IS OF BULK AT MOST 1048576: true; the input reads as it did. -/
def latefeeOnceUptoRow : OpenClaim := { program := "ytcbebbiedegjlaa", sum := "73563dffe254953b041cca7fb4fd72c5608e4e28ec1a2f9a47c08041115bf58b", func := "quittance/quittancelaw17.LatefeeOnce", spec := "latefeeOnce", inPlace := ["internal/bytealg.IndexByteString", "internal/bytealg.IndexString"], unfollowed := true, recurses := true, named := ["internal/bytealg.MaxLen"], apart := false, narrowed := true }
def LatefeeOnceUptoSaid : Prop := latefeeOnceUptoRow.holds Try.pinned (OpenSpec.upto latefeeOnceSpec)

/-- 'quittancelaw17.LatefeeMany', WHERE WHAT IT READS IS OF BULK AT MOST 1048576: true; the input reads as it did. -/
def latefeeManyUptoRow : OpenClaim := { program := "ytcbebbiedegjlaa", sum := "73563dffe254953b041cca7fb4fd72c5608e4e28ec1a2f9a47c08041115bf58b", func := "quittance/quittancelaw17.LatefeeMany", spec := "latefeeMany", inPlace := ["internal/bytealg.IndexByteString", "internal/bytealg.IndexString"], unfollowed := true, recurses := true, named := ["internal/bytealg.MaxLen"], apart := false, narrowed := true }
def LatefeeManyUptoSaid : Prop := latefeeManyUptoRow.holds Try.pinned (OpenSpec.upto latefeeManySpec)

/-- 'quittancelaw17.LatefeeRefuses', WHERE WHAT IT READS IS OF BULK AT MOST 1048576: true; the input reads as it did. -/
def latefeeRefusesUptoRow : OpenClaim := { program := "ytcbebbiedegjlaa", sum := "73563dffe254953b041cca7fb4fd72c5608e4e28ec1a2f9a47c08041115bf58b", func := "quittance/quittancelaw17.LatefeeRefuses", spec := "latefeeRefuses", inPlace := ["internal/bytealg.IndexByteString", "internal/bytealg.IndexString"], unfollowed := true, recurses := true, named := ["internal/bytealg.MaxLen"], apart := false, narrowed := true }
def LatefeeRefusesUptoSaid : Prop := latefeeRefusesUptoRow.holds Try.pinned (OpenSpec.upto latefeeRefusesSpec)

end Rows
end Go.Proofs.Ytcbebbiedegjlaa
