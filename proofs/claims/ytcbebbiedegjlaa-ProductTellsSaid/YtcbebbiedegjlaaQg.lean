/- Words by hand: stores into a block that is known whole; rows of a literal. -/
import Derived.Test.YtcbebbiedegjlaaQf
import Derived.Deep.MidRow
namespace Go.Proofs.Ytcbebbiedegjlaa.Pd
open Go.RowKit Go.Proofs.YtcbebbiedegjlaaW.PrintWords Go.Proofs.YtcbebbiedegjlaaW.PrintLast Go.Proofs.YtcbebbiedegjlaaW.PrintMore Go.Proofs.Ytcbebbiedegjlaa.HW
open Pm
set_option linter.unusedVariables false
set_option linter.unusedSimpArgs false
/-- As it was, but for one block. -/
structure But (g : Nat) (w w1 : World) : Prop where
  os : w1.os = w.os
  tape : w1.tape = w.tape
  output : w1.output = w.output
  size : w.heap.size ≤ w1.heap.size
  block : ∀ k, k < w.heap.size → k ≠ g → w1.heap[k]? = w.heap[k]?
theorem But.below {g B : Nat} {w0 w w1 : World} (h : But g w w1) (hb : Below B w0 w) (hB : B ≤ g) (hs : B ≤ w.heap.size) : Below B w0 w1 :=
  ⟨h.os.trans hb.os, h.tape.trans hb.tape, h.output.trans hb.output, Nat.le_trans hb.size h.size, fun k hk => (h.block k (by omega) (by omega)).trans (hb.block k hk)⟩
theorem But.blk {g k : Nat} {w w1 : World} {o : Obj} (h : But g w w1) (hk : w.heap[k]? = some o) (hn : k ≠ g) : w1.heap[k]? = some o := by rw [h.block k (blk_lt hk) hn]; exact hk
theorem But.setCell (w : World) (a : Addr) (x : Value) : But a.block w (w.setCell a x) := by
  refine ⟨rfl, rfl, rfl, by simp, fun k hk hn => ?_⟩
  exact heap_setCell_other w a k x hn
theorem But.of {g : Nat} {w w1 : World} (h : Below w.heap.size w w1) : But g w w1 := ⟨h.os, h.tape, h.output, h.size, fun k hk _ => h.block k hk⟩
theorem But.trans {g : Nat} {w w1 w2 : World} (h : But g w w1) (h2 : But g w1 w2) : But g w w2 :=
  ⟨h2.os.trans h.os, h2.tape.trans h.tape, h2.output.trans h.output, Nat.le_trans h.size h2.size, fun k hk hn => (h2.block k (Nat.lt_of_lt_of_le hk h.size) hn).trans (h.block k hk hn)⟩
/-- Some cells of a row, set. -/
def setAll (cs : Array Value) : Nat → List Value → Array Value
  | _, [] => cs
  | i, v :: r => setAll (cs.setIfInBounds i v) (i + 1) r
theorem setCells_blk (g : Nat) (T : TypeId) : ∀ (vs : List Value) (i : Nat) (cs : Array Value) (w : World), w.heap[g]? = some (.cells cs T (0, 0)) → (w.setCells g i vs).heap[g]? = some (.cells (setAll cs i vs) T (0, 0))
  | [], _, _, _, h => h
  | v :: r, i, cs, w, h => setCells_blk g T r (i + 1) _ _ (heap_setCell_same w g i cs T v h)
theorem setCells_but (g : Nat) : ∀ (vs : List Value) (i : Nat) (w : World), But g w (w.setCells g i vs)
  | [], _, w => But.of (Below.refl _ _)
  | v :: r, i, w => (But.setCell w ⟨g, i, none⟩ v).trans (setCells_but g r (i + 1) _)
section
variable {P : Program} {ops : Array Oper} {rest : List Oper} {a : Act} {Q : Exit → Act → World → Prop}
/-- One cell of a known row is written. -/
theorem put_event {W : World} {o : Oper} (hgd : o.guard = none) {t : TypeId} {p : Tmp} {v : Operand} (_ho : o.op = .store t (.tmp p) v) (hd : o.dst = none) {g i : Nat} {cs cs' : Array Value} {T : TypeId} {x : Value}
    (hrun : (execOp a.eval o).run P W = .ok .skip (W.setCell ⟨g, i, none⟩ x)) (hb : W.heap[g]? = some (.cells cs T (0, 0))) (hc : cs.setIfInBounds i x = cs')
    (h : ∀ w1, w1.heap[g]? = some (.cells cs' T (0, 0)) → But g W w1 → wpList P ops Q rest a w1) : wpList P ops Q (o :: rest) a W := by
  refine store_event hgd _ho hd hrun ?_
  rintro w' rfl
  exact h _ (by rw [heap_setCell_same W g i cs T x hb, hc]) (But.setCell W ⟨g, i, none⟩ x)
/-- Some cells of a known row are written. -/
theorem puts_event {W : World} {o : Oper} (hgd : o.guard = none) {t : TypeId} {p : Tmp} {v : Operand} (ho : o.op = .store t (.tmp p) v) (hd : o.dst = none) {g i : Nat} {cs cs' vs : Array Value} {T : TypeId}
    (hx : a.eval (.tmp p) = .pointer (some ⟨g, i, none⟩)) (hy : a.eval v = .agg vs) (hb : W.heap[g]? = some (.cells cs T (0, 0))) (hn : i + vs.size ≤ cs.size) (hi : (P.info? t).map (·.size) = some vs.size) (h1 : vs.all (·.oneCell') = true)
    (hc : setAll cs i vs.toList = cs') (h : ∀ w1, w1.heap[g]? = some (.cells cs' T (0, 0)) → But g W w1 → wpList P ops Q rest a w1) : wpList P ops Q (o :: rest) a W := by
  refine wpList_store_mid hgd t (.tmp p) v ho g i vs hx hy (fun j hj => ⟨?_, frozen_of_row W g (i + j) cs T hb⟩) hi h1 ?_
  · rw [blk_cell hb (i + j), Array.getElem?_eq_getElem (by omega)]; rfl
  · rw [hd]
    exact h _ (by rw [← hc]; exact setCells_blk g T vs.toList i cs W hb) (setCells_but g vs.toList i W)
/-- A literal slice. -/
theorem lit_event {W : World} {o : Oper} (hgd : o.guard = none) {N : Tmp} (_hd : o.dst = some N) {cs : Array Value} {t : TypeId} {n : Nat}
    (hrun : (execOp a.eval o).run P W = .ok (.value (.slice (some ⟨W.heap.size, 0, none⟩) n n)) (W.alloc (.cells cs t (0, 0))))
    (h : ∀ g, g = W.heap.size → ∀ w1, w1.heap[g]? = some (.cells cs t (0, 0)) → Below W.heap.size W w1 → wpList P ops Q rest (a.put o.dst (.slice (some ⟨g, 0, none⟩) n n)) w1) : wpList P ops Q (o :: rest) a W :=
  Kd.event_run hgd hrun (h _ rfl _ (blk_new W _) (below_alloc (Below.refl _ _) _))
end
theorem rows_one {W : World} {g : Nat} {x y : Int} {T : TypeId} (h : W.heap[g]? = some (.cells #[.int .i64 x, .int .i64 y] T (0, 0))) (wx : (Lit.int .i64 x).wf = true) (wy : (Lit.int .i64 y).wf = true) : Op.IntRows W (some ⟨g, 0, none⟩) 2 [[x, y]] := by
  refine ⟨fun r hr => ?_, fun i r hi => ?_⟩
  · obtain rfl : r = [x, y] := by simpa using hr
    exact ⟨rfl, fun z hz => by simp at hz; rcases hz with rfl | rfl <;> assumption⟩
  · have h0 : i = 0 := by
      have := (List.getElem?_eq_some_iff.1 hi).1
      simpa using this
    subst h0
    obtain rfl : [x, y] = r := by simpa using hi
    refine ⟨_, rfl, fun j z hj => ?_⟩
    rcases (show j = 0 ∨ j = 1 by have := (List.getElem?_eq_some_iff.1 hj).1; simp at this; omega) with rfl | rfl
    · obtain rfl : x = z := by simpa using hj
      exact (blk_cell h 0).trans rfl
    · obtain rfl : y = z := by simpa using hj
      exact (blk_cell h 1).trans rfl
theorem rows_two {W : World} {g : Nat} {x y x' y' : Int} {T : TypeId} (h : W.heap[g]? = some (.cells #[.int .i64 x, .int .i64 y, .int .i64 x', .int .i64 y'] T (0, 0))) (wx : (Lit.int .i64 x).wf = true) (wy : (Lit.int .i64 y).wf = true) (wx' : (Lit.int .i64 x').wf = true) (wy' : (Lit.int .i64 y').wf = true) : Op.IntRows W (some ⟨g, 0, none⟩) 2 [[x, y], [x', y']] := by
  refine ⟨fun r hr => ?_, fun i r hi => ?_⟩
  · simp at hr
    rcases hr with rfl | rfl
    · exact ⟨rfl, fun z hz => by simp at hz; rcases hz with rfl | rfl <;> assumption⟩
    · exact ⟨rfl, fun z hz => by simp at hz; rcases hz with rfl | rfl <;> assumption⟩
  · rcases (show i = 0 ∨ i = 1 by have := (List.getElem?_eq_some_iff.1 hi).1; simp at this; omega) with rfl | rfl
    · obtain rfl : [x, y] = r := by simpa using hi
      refine ⟨_, rfl, fun j z hj => ?_⟩
      rcases (show j = 0 ∨ j = 1 by have := (List.getElem?_eq_some_iff.1 hj).1; simp at this; omega) with rfl | rfl
      · obtain rfl : x = z := by simpa using hj
        exact (blk_cell h 0).trans rfl
      · obtain rfl : y = z := by simpa using hj
        exact (blk_cell h 1).trans rfl
    · obtain rfl : [x', y'] = r := by simpa using hi
      refine ⟨_, rfl, fun j z hj => ?_⟩
      rcases (show j = 0 ∨ j = 1 by have := (List.getElem?_eq_some_iff.1 hj).1; simp at this; omega) with rfl | rfl
      · obtain rfl : x' = z := by simpa using hj
        exact (blk_cell h 2).trans rfl
      · obtain rfl : y' = z := by simpa using hj
        exact (blk_cell h 3).trans rfl
theorem hols_blk {W : World} {g : Nat} {T : TypeId} (l : List Int) (h : W.heap[g]? = some (.cells (l.map (Value.int .i64)).toArray T (0, 0))) (hm : l.length ≤ 1000000) : Kd.C (Kd.int .i64) W (some ⟨g, 0, none⟩) l.length l := by
  refine Kd.C_of_reads (d := (0 : Int)) ?_
  refine ⟨rfl, by omega, fun hn => ⟨_, rfl, fun j hj => ?_⟩⟩
  rw [Addr.add_mid, Nat.zero_add, blk_cell h j, List.getElem?_toArray, List.getElem?_map, List.getElem?_eq_getElem hj]
  simp [hj]
end Go.Proofs.Ytcbebbiedegjlaa.Pd
