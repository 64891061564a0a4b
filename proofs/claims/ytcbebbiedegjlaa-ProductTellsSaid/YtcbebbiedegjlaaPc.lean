/- Contracts by hand: a product is looked at. -/
import Derived.Test.YtcbebbiedegjlaaPr
import Derived.Test.YtcbebbiedegjlaaPo
import Derived.Test.YtcbebbiedegjlaaPl
import Derived.Test.YtcbebbiedegjlaaPd
import Derived.Lib.Hide
namespace Go.Proofs.Ytcbebbiedegjlaa.Pd
open Go.RowKit Go.Proofs.YtcbebbiedegjlaaW.PrintWords Go.Proofs.YtcbebbiedegjlaaW.PrintLast Go.Proofs.YtcbebbiedegjlaaW.PrintMore Go.Proofs.Ytcbebbiedegjlaa.HW
open Pm
set_option linter.unusedVariables false
set_option linter.unusedSimpArgs false
/-- What does not recover is walked as ever. -/
theorem rest_plainP {P : Program} {c : Code} {Q0 : Exit → Act → List Frame → World → Prop} {a : Act} {cs : List Frame} {w : World}
    (h : ∀ Q : Exit → Act → World → Prop, Aside0 (∀ e a' w', Q0 e a' cs w' → Q e a' w') → c.wp P Q a w) : c.wpS P Q0 a cs w :=
  wpS_of_wp (h _ ⟨fun _ _ _ x => x⟩)
theorem check_idle (pe : Addr) (w : World) :
    CallsD Try.prog 31 #[.pointer (some pe)] .returning w fun e u' w' => e = .returned (.tuple #[]) ∧ u' = .returning ∧ w' = w := by
  refine callsD_of_wpS Try.func31 rfl fun c₀ cs hu => ?_
  simp only [Try.ntmps31, List.size_toArray, List.length_cons, List.length_nil, Nat.reduceAdd, Nat.reduceSub, Array.replicate_succ, Array.replicate_zero, List.push_toArray, List.append_toArray, List.nil_append, List.cons_append]
  apply wpS_seq
  apply wpS_region
  simp [wpOpsS, go_sem, recoverD, hu, Exit.thenS]
  refine rest_plainP fun Q HQ => ?_
  go_wp2
  refine HQ.out _ _ _ ?_
  clear HQ
  simp [bodyPostS, results, Try.results31, hu]
  cases c₀
  simp_all
theorem check_thrown (pe : Addr) (y : Int) (older : List PanicEntry) (w : World) (hy : w.cell? pe = some (.int .i64 y)) (fy : w.frozen? pe = false) :
    CallsD Try.prog 31 #[.pointer (some pe)] (.panicking ({ v := .iface 66 (.agg #[]), recovered := false } :: older)) w fun e u' w' =>
      e = .returned (.tuple #[]) ∧ u' = .panicking ({ v := .iface 66 (.agg #[]), recovered := true } :: older) ∧ w' = (w.alloc (.cells #[] 66)).setCell pe (.int .i64 9) := by
  refine callsD_of_wpS Try.func31 rfl fun c₀ cs hu => ?_
  simp only [Try.ntmps31, List.size_toArray, List.length_cons, List.length_nil, Nat.reduceAdd, Nat.reduceSub, Array.replicate_succ, Array.replicate_zero, List.push_toArray, List.append_toArray, List.nil_append, List.cons_append]
  apply wpS_seq
  apply wpS_region
  simp [wpOpsS, go_sem, recoverD, hu, Exit.thenS]
  refine rest_plainP fun Q HQ => ?_
  have hta : ∀ w, (Instr.typeAssert (.iface 66 (.agg #[])) 20 66 true).run Try.prog w = .ok (.tuple #[.agg #[], .bool true]) w := fun _ => by kernel_rfl
  have hlt := cell_ltR hy
  have hb := (Below.refl w.heap.size w).alloc (Nat.le_refl _) (.cells #[] 66)
  have hy2 : (w.alloc (.cells #[] 66)).cell? pe = some (.int .i64 y) := by rw [hb.cell hlt]; exact hy
  have fy2 : (w.alloc (.cells #[] 66)).frozen? pe = false := by rw [hb.frozen hlt]; exact fy
  clear hb
  go_wp2
  refine HQ.out _ _ _ ?_
  clear HQ
  simp [bodyPostS, results, Try.results31, hu]
/-- The result's cell. -/
structure Res1 (w W : World) (g : Nat) (x : Value) : Prop where
  below : Below w.heap.size w W
  ge : w.heap.size ≤ g
  c0 : W.cell? ⟨g, 0, none⟩ = some x
  f0 : W.frozen? ⟨g, 0, none⟩ = false
theorem Res1.lt {w W : World} {g : Nat} {x : Value} (h : Res1 w W g x) : g < W.heap.size := cell_ltR h.c0
theorem Res1.step {w W W' : World} {g : Nat} {x : Value} (h : Res1 w W g x) (hb : Below W.heap.size W W') : Res1 w W' g x :=
  ⟨below_step h.below hb, h.ge, by rw [hb.cell (by exact h.lt)]; exact h.c0, by rw [hb.frozen (by exact h.lt)]; exact h.f0⟩
theorem Res1.of {w W : World} {g : Nat} {cs : Array Value} {x : Value} {t : TypeId} (hb : Below w.heap.size w W) (hg : w.heap.size ≤ g) (h : W.heap[g]? = some (.cells cs t (0, 0))) (hx : cs[0]? = some x) : Res1 w W g x :=
  ⟨hb, hg, (blk_cell h 0).trans hx, frozen_of_row W g 0 _ _ h⟩
theorem built_looks (p : Prod) (A1 : Option Addr) (c1 : Nat) (A2 : Option Addr) (c2 : Nat) (A3 : Option Addr) (c3 : Nat) :
    Try.prog.built 68 [(0, .agg (pcs p A1 c1 A2 c2 A3 c3))] = some (pcs p A1 c1 A2 c2 A3 c3) := by kernel_rfl
section
variable {P : Program} {ops : Array Oper} {rest : List Oper} {a : Act} {Q : Exit → Act → World → Prop}
theorem build_event {W : World} {o : Oper} (hg : o.guard = none) {t : TypeId} {parts : Array (Nat × Operand)} (ho : o.op = .build t parts) {cs : Array Value}
    (hb : P.built t ((parts.map fun (i, x) => (i, a.eval x)).toList) = some cs) (h : wpList P ops Q rest (a.put o.dst (.agg cs)) W) : wpList P ops Q (o :: rest) a W :=
  wpList_build hg t parts ho (by rw [hb]; rfl) (by rw [hb]; exact h)
end
end Go.Proofs.Ytcbebbiedegjlaa.Pd
