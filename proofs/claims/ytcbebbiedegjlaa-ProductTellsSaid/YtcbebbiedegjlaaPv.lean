/- Contracts by hand: a product by value; what is thrown of it. -/
import Derived.Test.YtcbebbiedegjlaaNw
import Derived.Test.YtcbebbiedegjlaaPn
import Derived.Test.YtcbebbiedegjlaaOp
import Derived.Defers
import Derived.Laws.Rows
import Derived.Laws.Tables
import Derived.Deep.WholeRow
import Derived.Recover
import Derived.Deep.QuietTactic
import Derived.BigQuiet
import Derived.StillTailTactics
namespace Go.Proofs.Ytcbebbiedegjlaa.Pd
open Go.RowKit Go.Proofs.YtcbebbiedegjlaaW.PrintWords Go.Proofs.YtcbebbiedegjlaaW.PrintLast Go.Proofs.YtcbebbiedegjlaaW.PrintMore Go.Proofs.Ytcbebbiedegjlaa.HW
open Pm
set_option linter.unusedVariables false
set_option linter.unusedSimpArgs false
/-- A product, by value. -/
abbrev pv (p : Prod) (A1 : Option Addr) (c1 : Nat) (A2 : Option Addr) (c2 : Nat) (A3 : Option Addr) (c3 : Nat) : Value :=
  .agg #[.string p.name, .int .i64 p.count, .int .i64 p.round, .int .i64 p.kind, .int .i64 p.every, .int .i64 p.times, .int .i64 p.grace, .int .i64 p.rate, .slice A1 p.resets.length c1, .int .i64 p.penalty, .int .i64 p.o1, .int .i64 p.o2, .int .i64 p.o3, .int .i64 p.o4, .int .i64 p.over, .slice A2 p.late.length c2, .int .i64 p.cap, .int .i64 p.roll, .slice A3 p.hol.length c3]
/-- What a product leads to. -/
structure ProdAt (w : World) (p : Prod) (A1 : Option Addr) (c1 : Nat) (A2 : Option Addr) (c2 : Nat) (A3 : Option Addr) (c3 : Nat) : Prop where
  r1 : Op.IntRows w A1 2 p.resets
  l1 : p.resets.length ≤ c1
  n1 : A1 = none → c1 = 0
  r2 : Op.IntRows w A2 2 p.late
  l2 : p.late.length ≤ c2
  n2 : A2 = none → c2 = 0
  r3 : Kd.C (Kd.int .i64) w A3 p.hol.length p.hol
  l3 : p.hol.length ≤ c3
  n3 : A3 = none → c3 = 0
theorem ProdAt.below {w w1 : World} {p : Prod} {A1 : Option Addr} {c1 : Nat} {A2 : Option Addr} {c2 : Nat} {A3 : Option Addr} {c3 : Nat} (h : ProdAt w p A1 c1 A2 c2 A3 c3) (hb : Below w.heap.size w w1) : ProdAt w1 p A1 c1 A2 c2 A3 c3 :=
  ⟨h.r1.below hb, h.l1, h.n1, h.r2.below hb, h.l2, h.n2, Kd.C_below h.r3 hb, h.l3, h.n3⟩
/-- Not too long. -/
structure Small (p : Prod) : Prop where
  name : p.name.size ≤ 1000000
  s1 : p.resets.length ≤ 1000000
  s2 : p.late.length ≤ 1000000
  s3 : p.hol.length ≤ 1000000
/-- Numbers that an int holds. -/
structure Fit (p : Prod) : Prop where
  times : (Lit.int .i64 p.times).wf = true
theorem must_yes (w : World) : Calls Try.prog 49 #[.bool true] w fun e w' => e = .returned (.tuple #[]) ∧ w = w' := by
  go_enter Try.func49, Try.ntmps49
  go_wp2
  go_end0
  exact ⟨rfl, rfl⟩
/-- Thrown: a product that may not be. -/
abbrev refusedE : Ending := .panicked [{ v := .iface 66 (.agg #[]), recovered := false }]
theorem must_no (w : World) : Calls Try.prog 49 #[.bool false] w fun e w' => e = refusedE ∧ w = w' := by
  go_enter Try.func49, Try.ntmps49
  go_wp2
  exact ⟨rfl, rfl, rfl⟩
theorem within_i (v a b : Int) (w : World) : Calls Try.prog 50 #[.int .i64 v, .int .i64 a, .int .i64 b] w fun e w' => e = .returned (.bool (decide (a ≤ v ∧ v ≤ b))) ∧ w = w' := by
  by_cases h1 : a ≤ v
  · by_cases h2 : v ≤ b
    · have hd : decide (a ≤ v ∧ v ≤ b) = true := decide_eq_true ⟨h1, h2⟩
      rw [hd]
      clear hd
      go_enter Try.func50, Try.ntmps50
      go_wp2
      go_ret
      exact ⟨rfl, rfl⟩
    · have hd : decide (a ≤ v ∧ v ≤ b) = false := decide_eq_false (fun h => h2 h.2)
      rw [hd]
      have q : decide (v ≤ b) = false := decide_eq_false h2
      clear hd
      go_enter Try.func50, Try.ntmps50
      go_wp2
      go_ret
      exact ⟨rfl, rfl⟩
  · have hd : decide (a ≤ v ∧ v ≤ b) = false := decide_eq_false (fun h => h1 h.1)
    rw [hd]
    have q : decide (a ≤ v) = false := decide_eq_false h1
    clear hd
    go_enter Try.func50, Try.ntmps50
    go_wp2
    go_ret
    exact ⟨rfl, rfl⟩
theorem within_l (v a b : Int) (w : World) : Calls Try.prog 51 #[.int .i64 v, .int .i64 a, .int .i64 b] w fun e w' => e = .returned (.bool (decide (a ≤ v ∧ v ≤ b))) ∧ w = w' := by
  by_cases h1 : a ≤ v
  · by_cases h2 : v ≤ b
    · have hd : decide (a ≤ v ∧ v ≤ b) = true := decide_eq_true ⟨h1, h2⟩
      rw [hd]
      clear hd
      go_enter Try.func51, Try.ntmps51
      go_wp2
      go_ret
      exact ⟨rfl, rfl⟩
    · have hd : decide (a ≤ v ∧ v ≤ b) = false := decide_eq_false (fun h => h2 h.2)
      rw [hd]
      have q : decide (v ≤ b) = false := decide_eq_false h2
      clear hd
      go_enter Try.func51, Try.ntmps51
      go_wp2
      go_ret
      exact ⟨rfl, rfl⟩
  · have hd : decide (a ≤ v ∧ v ≤ b) = false := decide_eq_false (fun h => h1 h.1)
    rw [hd]
    have q : decide (a ≤ v) = false := decide_eq_false h1
    clear hd
    go_enter Try.func51, Try.ntmps51
    go_wp2
    go_ret
    exact ⟨rfl, rfl⟩
theorem within_i_is {v a b : Int} {r : Bool} (h : decide (a ≤ v ∧ v ≤ b) = r) (w : World) : Calls Try.prog 50 #[.int .i64 v, .int .i64 a, .int .i64 b] w fun e w' => e = .returned (.bool r) ∧ w = w' := h ▸ within_i v a b w
theorem within_l_is {v a b : Int} {r : Bool} (h : decide (a ≤ v ∧ v ≤ b) = r) (w : World) : Calls Try.prog 51 #[.int .i64 v, .int .i64 a, .int .i64 b] w fun e w' => e = .returned (.bool r) ∧ w = w' := h ▸ within_l v a b w
section
variable {P : Program} {ops : Array Oper} {rest : List Oper} {a : Act} {Q : Exit → Act → World → Prop}
/-- A new variable, and a whole value into it at once. -/
theorem copy_event {W : World} {o1 o2 : Oper} (hg1 : o1.guard = none) {N : Tmp} (hd1 : o1.dst = some N) (hg2 : o2.guard = none) (hd2 : o2.dst = none) {t : TypeId} {v : Operand} (ho2 : o2.op = .store t (.tmp N) v) {cs zs : Array Value}
    (hrun : (execOp a.eval o1).run P W = .ok (.value (.pointer (some ⟨W.heap.size, 0, none⟩))) (W.alloc (.cells zs t (0, 0))))
    (hp : (a.put o1.dst (.pointer (some ⟨W.heap.size, 0, none⟩))).eval (.tmp N) = .pointer (some ⟨W.heap.size, 0, none⟩))
    (hv : (a.put o1.dst (.pointer (some ⟨W.heap.size, 0, none⟩))).eval v = .agg cs)
    (hi : (P.info? t).map (·.size) = some cs.size) (hz : zs.size = cs.size) (h1 : cs.all (·.oneCell') = true)
    (h : ∀ g, g = W.heap.size → ∀ w1, w1.heap[g]? = some (.cells cs t (0, 0)) → Below W.heap.size W w1 → wpList P ops Q rest (a.put o1.dst (.pointer (some ⟨g, 0, none⟩))) w1) : wpList P ops Q (o1 :: o2 :: rest) a W := by
  refine Kd.event_run hg1 hrun ?_
  refine wpList_store_row hg2 t (.tmp N) v ho2 W.heap.size cs hp hv t zs (heap_alloc_new W _) hi hz h1 ?_
  rw [hd2, World.setRow_alloc_new]
  exact h _ rfl _ (blk_new W _) (below_alloc (Below.refl _ _) _)
end
theorem info_prod : (Try.prog.info? 27).map (·.size) = some 19 := by kernel_rfl
theorem info_looks : (Try.prog.info? 68).map (·.size) = some 19 := by kernel_rfl
/-- The cells of a product. -/
abbrev pcs (p : Prod) (A1 : Option Addr) (c1 : Nat) (A2 : Option Addr) (c2 : Nat) (A3 : Option Addr) (c3 : Nat) : Array Value :=
  #[.string p.name, .int .i64 p.count, .int .i64 p.round, .int .i64 p.kind, .int .i64 p.every, .int .i64 p.times, .int .i64 p.grace, .int .i64 p.rate, .slice A1 p.resets.length c1, .int .i64 p.penalty, .int .i64 p.o1, .int .i64 p.o2, .int .i64 p.o3, .int .i64 p.o4, .int .i64 p.over, .slice A2 p.late.length c2, .int .i64 p.cap, .int .i64 p.roll, .slice A3 p.hol.length c3]
theorem pcs_one (p : Prod) (A1 : Option Addr) (c1 : Nat) (A2 : Option Addr) (c2 : Nat) (A3 : Option Addr) (c3 : Nat) : (pcs p A1 c1 A2 c2 A3 c3).all (·.oneCell') = true := by
  simp [Value.oneCell']
/-- A product's cells, of nothing. -/
abbrev pzs : Array Value :=
  #[.string ⟨#[]⟩, .int .i64 0, .int .i64 0, .int .i64 0, .int .i64 0, .int .i64 0, .int .i64 0, .int .i64 0, .slice none 0 0, .int .i64 0, .int .i64 0, .int .i64 0, .int .i64 0, .int .i64 0, .int .i64 0, .slice none 0 0, .int .i64 0, .int .i64 0, .slice none 0 0]
theorem pc_cells {p : Prod} {A1 : Option Addr} {c1 : Nat} {A2 : Option Addr} {c2 : Nat} {A3 : Option Addr} {c3 : Nat} {w : World} {g : Nat} {t : TypeId} (h : w.heap[g]? = some (.cells (pcs p A1 c1 A2 c2 A3 c3) t (0, 0))) :
    w.cell? ⟨g, 0, none⟩ = some (.string p.name) ∧ w.cell? ⟨g, 1, none⟩ = some (.int .i64 p.count) ∧ w.cell? ⟨g, 2, none⟩ = some (.int .i64 p.round) ∧ w.cell? ⟨g, 3, none⟩ = some (.int .i64 p.kind) ∧ w.cell? ⟨g, 4, none⟩ = some (.int .i64 p.every) ∧ w.cell? ⟨g, 5, none⟩ = some (.int .i64 p.times) ∧ w.cell? ⟨g, 6, none⟩ = some (.int .i64 p.grace) ∧ w.cell? ⟨g, 7, none⟩ = some (.int .i64 p.rate) ∧ w.cell? ⟨g, 8, none⟩ = some (.slice A1 p.resets.length c1) ∧ w.cell? ⟨g, 9, none⟩ = some (.int .i64 p.penalty) ∧ w.cell? ⟨g, 10, none⟩ = some (.int .i64 p.o1) ∧ w.cell? ⟨g, 11, none⟩ = some (.int .i64 p.o2) ∧ w.cell? ⟨g, 12, none⟩ = some (.int .i64 p.o3) ∧ w.cell? ⟨g, 13, none⟩ = some (.int .i64 p.o4) ∧ w.cell? ⟨g, 14, none⟩ = some (.int .i64 p.over) ∧ w.cell? ⟨g, 15, none⟩ = some (.slice A2 p.late.length c2) ∧ w.cell? ⟨g, 16, none⟩ = some (.int .i64 p.cap) ∧ w.cell? ⟨g, 17, none⟩ = some (.int .i64 p.roll) ∧ w.cell? ⟨g, 18, none⟩ = some (.slice A3 p.hol.length c3) :=
  ⟨(blk_cell h 0).trans rfl, (blk_cell h 1).trans rfl, (blk_cell h 2).trans rfl, (blk_cell h 3).trans rfl, (blk_cell h 4).trans rfl, (blk_cell h 5).trans rfl, (blk_cell h 6).trans rfl, (blk_cell h 7).trans rfl, (blk_cell h 8).trans rfl, (blk_cell h 9).trans rfl, (blk_cell h 10).trans rfl, (blk_cell h 11).trans rfl, (blk_cell h 12).trans rfl, (blk_cell h 13).trans rfl, (blk_cell h 14).trans rfl, (blk_cell h 15).trans rfl, (blk_cell h 16).trans rfl, (blk_cell h 17).trans rfl, (blk_cell h 18).trans rfl⟩
theorem blk_below {w w1 : World} {g : Nat} {o : Obj} (h : w.heap[g]? = some o) (hb : Below w.heap.size w w1) : w1.heap[g]? = some o := by rw [hb.block g (blk_lt h)]; exact h
theorem must_yes_of {b : Bool} (h : b = true) (w : World) : Calls Try.prog 49 #[.bool b] w fun e w' => e = .returned (.tuple #[]) ∧ w = w' := h ▸ must_yes w
theorem must_no_of {b : Bool} (h : b = false) (w : World) : Calls Try.prog 49 #[.bool b] w fun e w' => e = refusedE ∧ w = w' := h ▸ must_no w
end Go.Proofs.Ytcbebbiedegjlaa.Pd
