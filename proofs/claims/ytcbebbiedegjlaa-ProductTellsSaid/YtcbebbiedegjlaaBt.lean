/- Words: all blocks but one are as they were; a row of numbers of one's own. -/
import Derived.Test.YtcbebbiedegjlaaHW
import Derived.OwnWalk
import Derived.Laws.OwnMore
import Derived.Test.YtcbebbiedegjlaaProg
namespace Go.Proofs.Ytcbebbiedegjlaa.H
open Go.RowKit Go.Proofs.YtcbebbiedegjlaaW.PrintWords Go.Proofs.YtcbebbiedegjlaaW.PrintLast Go.Proofs.YtcbebbiedegjlaaW.PrintMore
set_option linter.unusedVariables false
set_option linter.unusedSimpArgs false
/-- All blocks but one are as they were. -/
structure But (gb : Nat) (w w' : World) : Prop where
  os : w'.os = w.os
  tape : w'.tape = w.tape
  output : w'.output = w.output
  size : w.heap.size ≤ w'.heap.size
  block : ∀ k, k < w.heap.size → k ≠ gb → w'.heap[k]? = w.heap[k]?
theorem But.of {gb : Nat} {w w' : World} (h : Below w.heap.size w w') : But gb w w' := ⟨h.os, h.tape, h.output, h.size, fun k hk _ => h.block k hk⟩
theorem But.below {B gb : Nat} {a w w' : World} (h : Below B a w) (hw : B ≤ w.heap.size) (hg : B ≤ gb) (hb : But gb w w') : Below B a w' :=
  h.trans ⟨hb.os, hb.tape, hb.output, hb.size, fun k hk => hb.block k (by omega) (by omega)⟩
theorem But.setCell {gb : Nat} {a w : World} (h : But gb a w) {p : Addr} (hp : p.block = gb ∨ a.heap.size ≤ p.block) (u : Value) : But gb a (w.setCell p u) :=
  ⟨h.os, h.tape, h.output, by have := h.size; simp [World.setCell]; omega, fun k hk hn => by rw [Below.heap_setCell _ _ _ _ (by omega)]; exact h.block k hk hn⟩
theorem But.cell {gb : Nat} {w w' : World} (h : But gb w w') {p : Addr} (hp : p.block < w.heap.size) (hn : p.block ≠ gb) : w'.cell? p = w.cell? p := World.cell?_of_block (w := w) (h.block p.block hp hn)
theorem But.frozen {gb : Nat} {w w' : World} (h : But gb w w') {p : Addr} (hp : p.block < w.heap.size) (hn : p.block ≠ gb) : w'.frozen? p = w.frozen? p := World.frozen?_of_block (w := w) (h.block p.block hp hn)

/-- A block of cells, all told; it may be written. -/
def Blk (w : World) (g : Nat) (e : TypeId) (vs : List Value) : Prop := w.heap[g]? = some (.cells vs.toArray e (0, 0))
theorem Blk.lt {w : World} {g : Nat} {e : TypeId} {vs : List Value} (h : Blk w g e vs) : g < w.heap.size := by
  rcases Nat.lt_or_ge g w.heap.size with h1 | h1
  · exact h1
  · unfold Blk at h; rw [Array.getElem?_eq_none h1] at h; cases h
theorem Blk.same {w w1 : World} {g : Nat} {e : TypeId} {vs : List Value} (h : Blk w g e vs) (hb : w1.heap[g]? = w.heap[g]?) : Blk w1 g e vs := hb.trans h
theorem Blk.below {w w1 : World} {g : Nat} {e : TypeId} {vs : List Value} (h : Blk w g e vs) (hb : Below w.heap.size w w1) : Blk w1 g e vs := h.same (hb.block g h.lt)
theorem Blk.but {w w1 : World} {g g2 : Nat} {e : TypeId} {vs : List Value} (h : Blk w g e vs) (hb : But g2 w w1) (hn : g ≠ g2) : Blk w1 g e vs := h.same (hb.block g h.lt hn)
theorem Blk.cell {w : World} {g : Nat} {e : TypeId} {vs : List Value} (h : Blk w g e vs) (j : Nat) : w.cell? ⟨g, j, none⟩ = vs[j]? := by
  rw [cell_of_row w g j _ e (0, 0) h]; simp
theorem Blk.frozen {w : World} {g : Nat} {e : TypeId} {vs : List Value} (h : Blk w g e vs) (j : Nat) : w.frozen? ⟨g, j, none⟩ = false := frozen_of_row w g j _ e h
theorem Blk.put {w : World} {g : Nat} {e : TypeId} {vs : List Value} (h : Blk w g e vs) (j : Nat) (u : Value) : Blk (w.setCell ⟨g, j, none⟩ u) g e (vs.set j u) := by
  have h1 := heap_setCell_same w g j _ e u h
  unfold Blk
  rw [h1]
  congr 2
  apply Array.ext'
  simp
theorem Blk.made (w : World) (e : TypeId) (vs : List Value) : Blk (w.alloc (.cells vs.toArray e)) w.heap.size e vs := heap_alloc_new w _
/-- What the call owns, all told. -/
theorem Blk.ofOwn {w : World} {base B n cap : Nat} {e : TypeId} {size : Nat} {xs : List Value} (h : w.ownsRow base e size (.slice (some ⟨B, 0, none⟩) n cap) n xs) : ∃ t : List Value, t.length = (cap - n) * size ∧ Blk w B e (xs ++ t) ∧ n ≤ cap := by
  rcases h.2 with ⟨h, _⟩ | ⟨g', cap', cur, e', _, hh, h1, h2, h3, h4⟩
  · cases h
  · injection e' with e1 e2 e3
    injection e1 with e1
    injection e1 with e4
    subst e4
    subst e3
    have ee : cur.toList = xs ++ cur.toList.drop (n * size) := by rw [← h4, List.take_append_drop]
    refine ⟨cur.toList.drop (n * size), by rw [List.length_drop, Array.length_toList, h3, Nat.sub_mul], ?_, h1⟩
    unfold Blk
    rw [← ee, hh]
/-- Numbers in a block, read. -/
theorem Blk.reads {w : World} {g : Nat} {e : TypeId} {k : IntKind} {l : List Int} {t : List Value} (h : Blk w g e (nums k l ++ t)) (hm : l.length ≤ 9223372036854775807) : Kd.C (Kd.int k) w (some ⟨g, 0, none⟩) l.length l := by
  refine Kd.C_of_reads (d := (0 : Int)) ⟨rfl, hm, fun _ => ⟨_, rfl, fun j hj => ?_⟩⟩
  have e' : (⟨g, 0, none⟩ : Addr).add j = ⟨g, j, none⟩ := by simp [Addr.add]; try exact fun h => h.symm
  rw [e', h.cell j, List.getElem?_append_left (by rw [nums_length]; exact hj)]
  simp [nums, hj]
end Go.Proofs.Ytcbebbiedegjlaa.H
