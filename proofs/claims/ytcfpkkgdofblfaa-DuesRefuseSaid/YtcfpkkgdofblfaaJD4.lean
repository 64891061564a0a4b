/- Texts of this claim, joined in build order. -/
import Derived.Deep.Slices
import Derived.Deep.Fields
import Derived.ChangeSame
import Derived.Lib.SmallJoins
import Derived.RowKit
import Derived.WalkKit
import Derived.ProofKit
import Derived.Below
import Derived.Defers
import Derived.Laws.Rows
import Derived.Laws.Tables
import Derived.Deep.WholeRow
import Derived.Recover
import Derived.Deep.QuietTactic
import Derived.BigQuiet
import Derived.StillTailTactics
import Derived.Shelf.Small.Bits
import Derived.Shelf.Strconv.Itoa0
import Derived.Shelf.Strings.Search1
import Derived.Shelf.Strings.Search2
import Derived.Shelf.Strings.Search3
import Derived.Shelf.LaysM
import Derived.Shelf.Strings.Shaped
import Derived.Shelf.Bits.Mul64
import Derived.Test.YtcfpkkgdofblfaaProg
import Derived.Lib.ConvBytes
import Derived.Lib.SlBytesConst
import Derived.Deep.RegionWith
import Derived.Deep.LoopGhost
import Derived.IntWalk
import Derived.Lib.Hide
import Derived.Test.YtcfpkkgdofblfaaJD1
import Derived.Test.YtcfpkkgdofblfaaJD2
import Derived.Test.YtcfpkkgdofblfaaJD3
/- Arguments opened: structs of whole numbers, and slices of them. -/
namespace Go.Proofs.Ytcfpkkgdofblfaa.Op
open Go.ChangeShapes Go.WideShapes Go.Deep Go.RowKit Go.Joins
/-- Rows of so many whole numbers each, in memory. -/
def IntRows (w : World) (A : Option Addr) (sz : Nat) (rows : List (List Int)) : Prop :=
  (∀ r ∈ rows, r.length = sz ∧ ∀ x ∈ r, (Lit.int .i64 x).wf = true) ∧ ∀ (i : Nat) (r : List Int), rows[i]? = some r → ∃ ad, A = some ad ∧ ∀ (j : Nat) (x : Int), r[j]? = some x → w.cell? (ad.add (i * sz + j)) = some (.int .i64 x)
theorem list_of {α : Type} {P : Nat → α → Prop} (n : Nat) : (∀ i, i < n → ∃ x, P i x) → ∃ l : List α, l.length = n ∧ ∀ (i : Nat) (x : α), l[i]? = some x → P i x := by
  induction n with
  | zero => intro _; exact ⟨[], rfl, fun i x h => by simp at h⟩
  | succ n ih =>
    intro h
    obtain ⟨l, hl, hp⟩ := ih (fun i hi => h i (by omega))
    obtain ⟨x, hx⟩ := h n (by omega)
    refine ⟨l ++ [x], by simp [hl], fun i y hy => ?_⟩
    rcases Nat.lt_or_ge i l.length with h1 | h1
    · rw [List.getElem?_append_left h1] at hy; exact hp i y hy
    · rw [List.getElem?_append_right h1] at hy
      have : i - l.length = 0 := by
        rcases Nat.eq_zero_or_pos (i - l.length) with h2 | h2
        · exact h2
        · rw [List.getElem?_eq_none (by simp only [List.length_cons, List.length_nil]; omega)] at hy; cases hy
      rw [this] at hy
      simp at hy
      subst hy
      obtain rfl : i = n := by omega
      exact hx
section
variable {H : Type} {enc : TypeId × Value → H} {P : Program} {w : World} {base : Nat} {spare : Nat → Bool} {held : Bool}
theorem hone_of' {P : Program} {fs : Array Field} (h : oneCellFields P fs = true) (j : Nat) (f : Field) (hj : fs[j]? = some f) : f.offset = j ∧ P.cellsOf f.type = 1 := hone_of h j f hj
theorem open_rows {t e : TypeId} {fs : Array Field} {v : Value} {d : DataW H} {p : List MemPlace} (ht : P.underlying t = some (.slice e)) (he : P.underlying e = some (.struct fs))
    (hone : oneCellFields P fs = true) (hC : P.cellsOf e = fs.size) (hint : ∀ (j : Nat) (f : Field), fs[j]? = some f → P.underlying f.type = some (.int .i64)) {r0 : Reach} {b0 : Nat} (hv : Value.okWide P w r0 b0 t v) (h : DataW.Trod enc P w base spare held t v d p) :
    ∃ (A : Option Addr) (cap : Nat) (rows : List (List Int)), v = .slice A rows.length cap ∧ (A = none → cap = 0) ∧ rows.length ≤ cap ∧ cap ≤ maxLen ∧ IntRows w A fs.size rows := by
  obtain ⟨A0, n0, c0, rfl⟩ := okWide_slice ht hv
  obtain ⟨fuel, hf⟩ := h
  rcases open_slice ht hf with ⟨h0, _⟩ | ⟨a, len, cap, m, n, D, Pl, hcs, hb, hl, hm, hmm, hx, hi⟩
  · simp [Value.cells] at h0
    obtain ⟨rfl, rfl, rfl⟩ := h0
    exact ⟨none, 0, [], rfl, fun _ => rfl, Nat.le_refl _, Nat.zero_le _, fun r hr => by simp at hr, fun i r h => by simp at h⟩
  · simp [Value.cells] at hcs
    obtain ⟨rfl, rfl, rfl⟩ := hcs
    have hlm : n0 ≤ m := by rw [hmm]; split <;> omega
    obtain ⟨rows, hrl, hrows⟩ := list_of (P := fun i (r : List Int) => (r.length = fs.size ∧ ∀ x ∈ r, (Lit.int .i64 x).wf = true) ∧ ∀ (j : Nat) (x : Int), r[j]? = some x → w.cell? (a.add (i * fs.size + j)) = some (.int .i64 x)) n0 (fun i hin => by
      obtain ⟨cs', hc, ht'⟩ := hi i (by omega)
      rw [hC] at hc
      obtain ⟨ys, n', hn', hy, hlen, hyl, hfl⟩ := DataW.trod_struct he ht'
      obtain ⟨_, hcl, hat⟩ := World.cells?_some hc
      obtain ⟨r, hr1, hr2⟩ := list_of (P := fun j (x : Int) => w.cell? (a.add (i * fs.size + j)) = some (.int .i64 x) ∧ (Lit.int .i64 x).wf = true) fs.size (fun j hj => by
        obtain ⟨f, hfj⟩ : ∃ f, fs[j]? = some f := ⟨_, Array.getElem?_eq_getElem hj⟩
        obtain ⟨ho, hk⟩ := hone_of' hone j f hfj
        have h1 := hfl j f hfj
        rw [ho, hk] at h1
        have hone' : (cs'.drop j).take 1 = [cs'[j]'(by omega)] := by
          rw [List.drop_eq_getElem_cons (by omega)]
          rfl
        rw [hone'] at h1
        have hys : ys[j]? = some (ys[j]'(by omega)) := List.getElem?_eq_getElem (by omega)
        rw [hys] at h1
        obtain ⟨x, hx1, _, hx3⟩ := DataW.trod_int (hint j f hfj) h1
        simp at hx1
        refine ⟨x, ?_, hx3⟩
        rw [← Go.Deep.add_add, hat j hj, List.getElem?_eq_getElem (by omega), hx1])
      exact ⟨r, ⟨hr1, fun x hx => by
        obtain ⟨j, hj, rfl⟩ := List.getElem_of_mem hx
        exact (hr2 j _ (List.getElem?_eq_getElem hj)).2⟩, fun j x hj => (hr2 j x hj).1⟩)
    subst hrl
    refine ⟨some a, c0, rows, rfl, (fun h => by cases h), hl, hm, fun r hr => ?_, fun i r hi => ⟨a, rfl, (hrows i r hi).2⟩⟩
    obtain ⟨i, hi2, rfl⟩ := List.getElem_of_mem hr
    exact (hrows i _ (List.getElem?_eq_getElem hi2)).1
theorem open_ints3 {r : Reach} {b0 : Nat} {t : TypeId} {f0 f1 f2 : Field} {v : Value} {d : DataW H} {p : List MemPlace} (hs : P.underlying t = some (.struct #[f0, f1, f2])) (hone : oneCellFields P #[f0, f1, f2] = true) (hC : P.cellsOf t = 3)
    (u0 : P.underlying f0.type = some (.int .i64)) (u1 : P.underlying f1.type = some (.int .i64)) (u2 : P.underlying f2.type = some (.int .i64))
    (hv : Value.okWide P w r b0 t v) (h : DataW.Trod enc P w base spare held t v d p) :
    ∃ x y z : Int, v = .agg #[.int .i64 x, .int .i64 y, .int .i64 z] ∧ (Lit.int .i64 x).wf = true ∧ (Lit.int .i64 y).wf = true ∧ (Lit.int .i64 z).wf = true := by
  obtain ⟨v0, v1, v2, y0, y1, y2, n, rfl, _, _, h0, h1, h2⟩ := open_agg3 hs hone hC hv h
  obtain ⟨x, e0, _, w0⟩ := DataW.trod_int u0 h0
  obtain ⟨y, e1, _, w1⟩ := DataW.trod_int u1 h1
  obtain ⟨z, e2, _, w2⟩ := DataW.trod_int u2 h2
  simp at e0 e1 e2
  subst e0 e1 e2
  exact ⟨x, y, z, rfl, w0, w1, w2⟩
end
theorem IntRows.below {w w1 : World} {A : Option Addr} {sz : Nat} {rows : List (List Int)} (h : IntRows w A sz rows) (hb : Below w.heap.size w w1) : IntRows w1 A sz rows := by
  refine ⟨h.1, fun i r hi => ?_⟩
  obtain ⟨ad, e, hc⟩ := h.2 i r hi
  refine ⟨ad, e, fun j x hj => ?_⟩
  have hj' := hc j x hj
  have hlt : (ad.add (i * sz + j)).block < w.heap.size := by
    rcases Nat.lt_or_ge (ad.add (i * sz + j)).block w.heap.size with h1 | h1
    · exact h1
    · exfalso
      have e : w.heap[(ad.add (i * sz + j)).block]? = none := Array.getElem?_eq_none h1
      simp [World.cell?, e] at hj'
  rw [hb.cell hlt]; exact hj'
/-- A row of three. -/
theorem IntRows.three {w : World} {A : Option Addr} {rows : List (List Int)} (h : IntRows w A 3 rows) (k : Nat) (hk : k < rows.length) : ∃ ad x y z, A = some ad ∧ rows[k]? = some [x, y, z] ∧ w.cell? (ad.add (k * 3 + 0)) = some (.int .i64 x) ∧ w.cell? (ad.add (k * 3 + 1)) = some (.int .i64 y) ∧ w.cell? (ad.add (k * 3 + 2)) = some (.int .i64 z) ∧ (Lit.int .i64 x).wf = true ∧ (Lit.int .i64 y).wf = true ∧ (Lit.int .i64 z).wf = true := by
  obtain ⟨h1, h2⟩ := h.1 _ (List.getElem_mem hk)
  obtain ⟨ad, e, hc⟩ := h.2 k _ (List.getElem?_eq_getElem hk)
  rw [List.getElem?_eq_getElem hk]
  generalize rows[k] = r at *
  match r, h1 with
  | [x, y, z], _ => exact ⟨ad, x, y, z, e, rfl, hc 0 x rfl, hc 1 y rfl, hc 2 z rfl, h2 x (by simp), h2 y (by simp), h2 z (by simp)⟩
end Go.Proofs.Ytcfpkkgdofblfaa.Op
/- Contracts by hand: a product by value; what is thrown of it. -/
namespace Go.Proofs.Ytcfpkkgdofblfaa.Pd
open Go.RowKit Go.Proofs.YtcfpkkgdofblfaaW.PrintWords Go.Proofs.YtcfpkkgdofblfaaW.PrintLast Go.Proofs.YtcfpkkgdofblfaaW.PrintMore Go.Proofs.Ytcfpkkgdofblfaa.HW
open Pm
set_option linter.unusedVariables false
set_option linter.unusedSimpArgs false
/-- A product, by value. -/
abbrev pv (p : Prod) (A1 : Option Addr) (c1 : Nat) (A2 : Option Addr) (c2 : Nat) (A3 : Option Addr) (c3 : Nat) : Value :=
  .agg #[.string p.name, .int .i64 p.count, .int .i64 p.round, .int .i64 p.kind, .int .i64 p.every, .int .i64 p.times, .int .i64 p.grace, .int .i64 p.rate, .slice A1 p.resets.length c1, .int .i64 p.penalty, .int .i64 p.o1, .int .i64 p.o2, .int .i64 p.o3, .int .i64 p.o4, .int .i64 p.over, .slice A2 p.late.length c2, .int .i64 p.cap, .int .i64 p.roll, .slice A3 p.hol.length c3]
/-- What a product leads to. -/
structure ProdAt (w : World) (p : Prod) (A1 : Option Addr) (c1 : Nat) (A2 : Option Addr) (c2 : Nat) (A3 : Option Addr) (c3 : Nat) : Prop where
  r1 : Op.IntRows w A1 2 p.resets
  l1 : p.resets.length ≤ c1
  n1 : A1 = none → c1 = 0
  r2 : Op.IntRows w A2 2 p.late
  l2 : p.late.length ≤ c2
  n2 : A2 = none → c2 = 0
  r3 : Kd.C (Kd.int .i64) w A3 p.hol.length p.hol
  l3 : p.hol.length ≤ c3
  n3 : A3 = none → c3 = 0
theorem ProdAt.below {w w1 : World} {p : Prod} {A1 : Option Addr} {c1 : Nat} {A2 : Option Addr} {c2 : Nat} {A3 : Option Addr} {c3 : Nat} (h : ProdAt w p A1 c1 A2 c2 A3 c3) (hb : Below w.heap.size w w1) : ProdAt w1 p A1 c1 A2 c2 A3 c3 :=
  ⟨h.r1.below hb, h.l1, h.n1, h.r2.below hb, h.l2, h.n2, Kd.C_below h.r3 hb, h.l3, h.n3⟩
/-- Not too long. -/
structure Small (p : Prod) : Prop where
  name : p.name.size ≤ 1000000
  s1 : p.resets.length ≤ 1000000
  s2 : p.late.length ≤ 1000000
  s3 : p.hol.length ≤ 1000000
/-- Numbers that an int holds. -/
structure Fit (p : Prod) : Prop where
  times : (Lit.int .i64 p.times).wf = true
theorem must_yes (w : World) : Calls Try.prog 81 #[.bool true] w fun e w' => e = .returned (.tuple #[]) ∧ w = w' := by
  go_enter Try.func81, Try.ntmps81
  go_wp2
  go_end0
  exact ⟨rfl, rfl⟩
/-- Thrown: a product that may not be. -/
abbrev refusedE : Ending := .panicked [{ v := .iface 86 (.agg #[]), recovered := false }]
theorem must_no (w : World) : Calls Try.prog 81 #[.bool false] w fun e w' => e = refusedE ∧ w = w' := by
  go_enter Try.func81, Try.ntmps81
  go_wp2
  exact ⟨rfl, rfl, rfl⟩
theorem within_i (v a b : Int) (w : World) : Calls Try.prog 83 #[.int .i64 v, .int .i64 a, .int .i64 b] w fun e w' => e = .returned (.bool (decide (a ≤ v ∧ v ≤ b))) ∧ w = w' := by
  by_cases h1 : a ≤ v
  · by_cases h2 : v ≤ b
    · have hd : decide (a ≤ v ∧ v ≤ b) = true := decide_eq_true ⟨h1, h2⟩
      rw [hd]
      clear hd
      go_enter Try.func83, Try.ntmps83
      go_wp2
      go_ret
      exact ⟨rfl, rfl⟩
    · have hd : decide (a ≤ v ∧ v ≤ b) = false := decide_eq_false (fun h => h2 h.2)
      rw [hd]
      have q : decide (v ≤ b) = false := decide_eq_false h2
      clear hd
      go_enter Try.func83, Try.ntmps83
      go_wp2
      go_ret
      exact ⟨rfl, rfl⟩
  · have hd : decide (a ≤ v ∧ v ≤ b) = false := decide_eq_false (fun h => h1 h.1)
    rw [hd]
    have q : decide (a ≤ v) = false := decide_eq_false h1
    clear hd
    go_enter Try.func83, Try.ntmps83
    go_wp2
    go_ret
    exact ⟨rfl, rfl⟩
theorem within_l (v a b : Int) (w : World) : Calls Try.prog 84 #[.int .i64 v, .int .i64 a, .int .i64 b] w fun e w' => e = .returned (.bool (decide (a ≤ v ∧ v ≤ b))) ∧ w = w' := by
  by_cases h1 : a ≤ v
  · by_cases h2 : v ≤ b
    · have hd : decide (a ≤ v ∧ v ≤ b) = true := decide_eq_true ⟨h1, h2⟩
      rw [hd]
      clear hd
      go_enter Try.func84, Try.ntmps84
      go_wp2
      go_ret
      exact ⟨rfl, rfl⟩
    · have hd : decide (a ≤ v ∧ v ≤ b) = false := decide_eq_false (fun h => h2 h.2)
      rw [hd]
      have q : decide (v ≤ b) = false := decide_eq_false h2
      clear hd
      go_enter Try.func84, Try.ntmps84
      go_wp2
      go_ret
      exact ⟨rfl, rfl⟩
  · have hd : decide (a ≤ v ∧ v ≤ b) = false := decide_eq_false (fun h => h1 h.1)
    rw [hd]
    have q : decide (a ≤ v) = false := decide_eq_false h1
    clear hd
    go_enter Try.func84, Try.ntmps84
    go_wp2
    go_ret
    exact ⟨rfl, rfl⟩
theorem within_i_is {v a b : Int} {r : Bool} (h : decide (a ≤ v ∧ v ≤ b) = r) (w : World) : Calls Try.prog 83 #[.int .i64 v, .int .i64 a, .int .i64 b] w fun e w' => e = .returned (.bool r) ∧ w = w' := h ▸ within_i v a b w
theorem within_l_is {v a b : Int} {r : Bool} (h : decide (a ≤ v ∧ v ≤ b) = r) (w : World) : Calls Try.prog 84 #[.int .i64 v, .int .i64 a, .int .i64 b] w fun e w' => e = .returned (.bool r) ∧ w = w' := h ▸ within_l v a b w
section
variable {P : Program} {ops : Array Oper} {rest : List Oper} {a : Act} {Q : Exit → Act → World → Prop}
/-- A new variable, and a whole value into it at once. -/
theorem copy_event {W : World} {o1 o2 : Oper} (hg1 : o1.guard = none) {N : Tmp} (hd1 : o1.dst = some N) (hg2 : o2.guard = none) (hd2 : o2.dst = none) {t : TypeId} {v : Operand} (ho2 : o2.op = .store t (.tmp N) v) {cs zs : Array Value}
    (hrun : (execOp a.eval o1).run P W = .ok (.value (.pointer (some ⟨W.heap.size, 0, none⟩))) (W.alloc (.cells zs t (0, 0))))
    (hp : (a.put o1.dst (.pointer (some ⟨W.heap.size, 0, none⟩))).eval (.tmp N) = .pointer (some ⟨W.heap.size, 0, none⟩))
    (hv : (a.put o1.dst (.pointer (some ⟨W.heap.size, 0, none⟩))).eval v = .agg cs)
    (hi : (P.info? t).map (·.size) = some cs.size) (hz : zs.size = cs.size) (h1 : cs.all (·.oneCell') = true)
    (h : ∀ g, g = W.heap.size → ∀ w1, w1.heap[g]? = some (.cells cs t (0, 0)) → Below W.heap.size W w1 → wpList P ops Q rest (a.put o1.dst (.pointer (some ⟨g, 0, none⟩))) w1) : wpList P ops Q (o1 :: o2 :: rest) a W := by
  refine Kd.event_run hg1 hrun ?_
  refine wpList_store_row hg2 t (.tmp N) v ho2 W.heap.size cs hp hv t zs (heap_alloc_new W _) hi hz h1 ?_
  rw [hd2, World.setRow_alloc_new]
  exact h _ rfl _ (blk_new W _) (below_alloc (Below.refl _ _) _)
end
theorem info_prod : (Try.prog.info? 27).map (·.size) = some 19 := by kernel_rfl
theorem info_looks : (Try.prog.info? 88).map (·.size) = some 19 := by kernel_rfl
/-- The cells of a product. -/
abbrev pcs (p : Prod) (A1 : Option Addr) (c1 : Nat) (A2 : Option Addr) (c2 : Nat) (A3 : Option Addr) (c3 : Nat) : Array Value :=
  #[.string p.name, .int .i64 p.count, .int .i64 p.round, .int .i64 p.kind, .int .i64 p.every, .int .i64 p.times, .int .i64 p.grace, .int .i64 p.rate, .slice A1 p.resets.length c1, .int .i64 p.penalty, .int .i64 p.o1, .int .i64 p.o2, .int .i64 p.o3, .int .i64 p.o4, .int .i64 p.over, .slice A2 p.late.length c2, .int .i64 p.cap, .int .i64 p.roll, .slice A3 p.hol.length c3]
theorem pcs_one (p : Prod) (A1 : Option Addr) (c1 : Nat) (A2 : Option Addr) (c2 : Nat) (A3 : Option Addr) (c3 : Nat) : (pcs p A1 c1 A2 c2 A3 c3).all (·.oneCell') = true := by
  simp [Value.oneCell']
/-- A product's cells, of nothing. -/
abbrev pzs : Array Value :=
  #[.string ⟨#[]⟩, .int .i64 0, .int .i64 0, .int .i64 0, .int .i64 0, .int .i64 0, .int .i64 0, .int .i64 0, .slice none 0 0, .int .i64 0, .int .i64 0, .int .i64 0, .int .i64 0, .int .i64 0, .int .i64 0, .slice none 0 0, .int .i64 0, .int .i64 0, .slice none 0 0]
theorem pc_cells {p : Prod} {A1 : Option Addr} {c1 : Nat} {A2 : Option Addr} {c2 : Nat} {A3 : Option Addr} {c3 : Nat} {w : World} {g : Nat} {t : TypeId} (h : w.heap[g]? = some (.cells (pcs p A1 c1 A2 c2 A3 c3) t (0, 0))) :
    w.cell? ⟨g, 0, none⟩ = some (.string p.name) ∧ w.cell? ⟨g, 1, none⟩ = some (.int .i64 p.count) ∧ w.cell? ⟨g, 2, none⟩ = some (.int .i64 p.round) ∧ w.cell? ⟨g, 3, none⟩ = some (.int .i64 p.kind) ∧ w.cell? ⟨g, 4, none⟩ = some (.int .i64 p.every) ∧ w.cell? ⟨g, 5, none⟩ = some (.int .i64 p.times) ∧ w.cell? ⟨g, 6, none⟩ = some (.int .i64 p.grace) ∧ w.cell? ⟨g, 7, none⟩ = some (.int .i64 p.rate) ∧ w.cell? ⟨g, 8, none⟩ = some (.slice A1 p.resets.length c1) ∧ w.cell? ⟨g, 9, none⟩ = some (.int .i64 p.penalty) ∧ w.cell? ⟨g, 10, none⟩ = some (.int .i64 p.o1) ∧ w.cell? ⟨g, 11, none⟩ = some (.int .i64 p.o2) ∧ w.cell? ⟨g, 12, none⟩ = some (.int .i64 p.o3) ∧ w.cell? ⟨g, 13, none⟩ = some (.int .i64 p.o4) ∧ w.cell? ⟨g, 14, none⟩ = some (.int .i64 p.over) ∧ w.cell? ⟨g, 15, none⟩ = some (.slice A2 p.late.length c2) ∧ w.cell? ⟨g, 16, none⟩ = some (.int .i64 p.cap) ∧ w.cell? ⟨g, 17, none⟩ = some (.int .i64 p.roll) ∧ w.cell? ⟨g, 18, none⟩ = some (.slice A3 p.hol.length c3) :=
  ⟨(blk_cell h 0).trans rfl, (blk_cell h 1).trans rfl, (blk_cell h 2).trans rfl, (blk_cell h 3).trans rfl, (blk_cell h 4).trans rfl, (blk_cell h 5).trans rfl, (blk_cell h 6).trans rfl, (blk_cell h 7).trans rfl, (blk_cell h 8).trans rfl, (blk_cell h 9).trans rfl, (blk_cell h 10).trans rfl, (blk_cell h 11).trans rfl, (blk_cell h 12).trans rfl, (blk_cell h 13).trans rfl, (blk_cell h 14).trans rfl, (blk_cell h 15).trans rfl, (blk_cell h 16).trans rfl, (blk_cell h 17).trans rfl, (blk_cell h 18).trans rfl⟩
theorem blk_below {w w1 : World} {g : Nat} {o : Obj} (h : w.heap[g]? = some o) (hb : Below w.heap.size w w1) : w1.heap[g]? = some o := by rw [hb.block g (blk_lt h)]; exact h
theorem must_yes_of {b : Bool} (h : b = true) (w : World) : Calls Try.prog 81 #[.bool b] w fun e w' => e = .returned (.tuple #[]) ∧ w = w' := h ▸ must_yes w
theorem must_no_of {b : Bool} (h : b = false) (w : World) : Calls Try.prog 81 #[.bool b] w fun e w' => e = refusedE ∧ w = w' := h ▸ must_no w
end Go.Proofs.Ytcfpkkgdofblfaa.Pd
/-
  DERIVED: THE SHELF's CONTRACTS AT THIS DUMP, IN PLAIN WORDS (tools/lay-plain.mjs out of 'TryShelf.lean', which tools/lay-shelf.mjs wrote): THE SAME DECLARATIONS UNDER THE SAME NAMES: 'import', 'namespace', 'open', 'def', 'theorem' AND NOTHING ELSE: no command of the shelf's: FOR A HAND-IN. Each laying: the table of numbers ('.._ren') and one theorem, a field a fact of the dump's own or the kernel's comparison; each contract: ONE APPLICATION.
-/
namespace Go.Proofs
open Go.Shelf
def Try.lays134_ren : Go.Shelf.Ren := ⟨fun | 134 => 113 | 129 => 116 | n => n, fun | 53 => 47 | 3 => 3 | 4 => 4 | 46 => 30 | 5 => 5 | 9 => 9 | n => n, fun | n => n⟩
theorem Try.lays134 : Go.Proofs.Lays.n134 Try.prog Try.lays134_ren := {
  mixed := by kernel_rfl
  f129 := Try.func116.trans (congrArg some (by kernel_rfl))
  f134 := Try.func113.trans (congrArg some (by kernel_rfl))
  t3 := Try.underlying3
  a3 := Try.isAgg3
  z3 := Try.sizeOf3
  v3 := Try.zeroValue3
  t4 := Try.underlying4
  a4 := Try.isAgg4
  z4 := Try.sizeOf4
  v4 := Try.zeroValue4
  t5 := Try.underlying5
  a5 := Try.isAgg5
  z5 := Try.sizeOf5
  v5 := Try.zeroValue5
  t9 := Try.underlying9
  a9 := Try.isAgg9
  z9 := Try.sizeOf9
  v9 := Try.zeroValue9
  t46 := Try.underlying30
  a46 := Try.isAgg30
  z46 := Try.sizeOf30
  v46 := Try.zeroValue30
  t53 := Try.underlying47
  a53 := Try.isAgg47
  z53 := Try.sizeOf47
  v53 := Try.zeroValue47 }
/-- bits.LeadingZeros64: "LeadingZeros64 returns the number of leading zero bits in x; the result is 64 for x == 0.": IT RETURNS '64 - Lib.bitLen x'; the world is as it was. ITS CALLEE bits.Len64 IS MET BY ITS OWN CONTRACT OFF THE SHELF (lay that first): entered in place it sends the kernel out of memory. (LAID: no walk: one application.) -/
theorem Try.bits_LeadingZeros64 (x : Int) (w : World) (h0 : 0 ≤ x) (h1 : x ≤ 18446744073709551615) :
    Calls Try.prog 113 #[.int .u64 x] w fun e w' => e = .returned (.int .i64 (64 - (Lib.bitLen x.toNat : Int))) ∧ w' = w := Any.bits_LeadingZeros64 Try.lays134 x w h0 h1
def Try.lays129_ren : Go.Shelf.Ren := ⟨fun | 129 => 116 | n => n, fun | 53 => 47 | 3 => 3 | 4 => 4 | 46 => 30 | 5 => 5 | 9 => 9 | n => n, fun | n => n⟩
theorem Try.lays129 : Go.Proofs.Lays.n129 Try.prog Try.lays129_ren := {
  mixed := by kernel_rfl
  f129 := Try.func116.trans (congrArg some (by kernel_rfl))
  t3 := Try.underlying3
  a3 := Try.isAgg3
  z3 := Try.sizeOf3
  v3 := Try.zeroValue3
  t4 := Try.underlying4
  a4 := Try.isAgg4
  z4 := Try.sizeOf4
  v4 := Try.zeroValue4
  t5 := Try.underlying5
  a5 := Try.isAgg5
  z5 := Try.sizeOf5
  v5 := Try.zeroValue5
  t9 := Try.underlying9
  a9 := Try.isAgg9
  z9 := Try.sizeOf9
  v9 := Try.zeroValue9
  t46 := Try.underlying30
  a46 := Try.isAgg30
  z46 := Try.sizeOf30
  v46 := Try.zeroValue30
  t53 := Try.underlying47
  a53 := Try.isAgg47
  z53 := Try.sizeOf47
  v53 := Try.zeroValue47 }
/-- bits.Len64: "Len64 returns the minimum number of bits required to represent x; the result is 0 for x == 0.": IT RETURNS 'Lib.bitLen x'; the world is as it was. ('h0', 'h1': x is a uint64.) (LAID: no walk: one application.) -/
theorem Try.bits_Len64 (x : Int) (w : World) (h0 : 0 ≤ x) (h1 : x ≤ 18446744073709551615) :
    Calls Try.prog 116 #[.int .u64 x] w fun e w' => e = .returned (.int .i64 (Lib.bitLen x.toNat)) ∧ w' = w := Any.bits_Len64 Try.lays129 x w h0 h1
def Try.lays217_ren : Go.Shelf.Ren := ⟨fun | 217 => 117 | 266 => 121 | n => n, fun | 9 => 9 | 5 => 5 | 3 => 3 | n => n, fun | n => n⟩
theorem Try.lays217 : Go.Proofs.Lays.n217 Try.prog Try.lays217_ren := {
  mixed := by kernel_rfl
  f217 := Try.func117.trans (congrArg some (by kernel_rfl))
  f266 := Try.func121.trans (congrArg some (by kernel_rfl))
  t3 := Try.underlying3
  a3 := Try.isAgg3
  z3 := Try.sizeOf3
  v3 := Try.zeroValue3
  t5 := Try.underlying5
  a5 := Try.isAgg5
  z5 := Try.sizeOf5
  v5 := Try.zeroValue5
  t9 := Try.underlying9
  a9 := Try.isAgg9
  z9 := Try.sizeOf9
  v9 := Try.zeroValue9 }
open Go.RowKit Go.Lib in
/-- internal/stringslite.IndexByte (what strings.IndexByte calls): IT RETURNS 'Lib.indexByte s c'; the world is as it was. (LAID: no walk: one application.) -/
theorem Try.stringslite_IndexByte (s : ByteArray) (c : Int) (w : World) :
    Calls Try.prog 117 #[.string s, .int .u8 c] w fun e w' => e = .returned (.int .i64 (Lib.indexByte s.data.toList c.toNat.toUInt8)) ∧ w' = w := Any.stringslite_IndexByte Try.lays217 s c w
def Try.lays224_ren : Go.Shelf.Ren := ⟨fun | 224 => 119 | n => n, fun | 3 => 3 | n => n, fun | n => n⟩
theorem Try.lays224 : Go.Proofs.Lays.n224 Try.prog Try.lays224_ren := {
  mixed := by kernel_rfl
  f224 := Try.func119.trans (congrArg some (by kernel_rfl))
  t3 := Try.underlying3
  a3 := Try.isAgg3
  z3 := Try.sizeOf3
  v3 := Try.zeroValue3 }
open Go.RowKit Go.Lib in
/-- internal/bytealg.Cutover: "Cutover reports the number of failures of IndexByte we should tolerate before switching over to Index. n is the number of bytes processed so far.": on amd64: (n + 16) / 8. (LAID: no walk: one application.) -/
theorem Try.bytealg_Cutover (n : Int) (h0 : 0 ≤ n) (h1 : n < 4611686018427387904) (w : World) :
    Calls Try.prog 119 #[.int .i64 n] w fun e w' => e = .returned (.int .i64 ((n + 16) / 8)) ∧ w' = w := Any.bytealg_Cutover Try.lays224 n h0 h1 w
def Try.lays314_ren : Go.Shelf.Ren := ⟨fun | 314 => 122 | n => n, fun | 9 => 9 | 51 => 147 | 3 => 3 | 4 => 4 | 5 => 5 | 46 => 30 | n => n, fun | n => n⟩
theorem Try.lays314 : Go.Proofs.Lays.n314 Try.prog Try.lays314_ren := {
  mixed := by kernel_rfl
  f314 := Try.func122.trans (congrArg some (by kernel_rfl))
  t3 := Try.underlying3
  a3 := Try.isAgg3
  z3 := Try.sizeOf3
  v3 := Try.zeroValue3
  t4 := Try.underlying4
  a4 := Try.isAgg4
  z4 := Try.sizeOf4
  v4 := Try.zeroValue4
  t5 := Try.underlying5
  a5 := Try.isAgg5
  z5 := Try.sizeOf5
  v5 := Try.zeroValue5
  t9 := Try.underlying9
  a9 := Try.isAgg9
  z9 := Try.sizeOf9
  v9 := Try.zeroValue9
  t46 := Try.underlying30
  a46 := Try.isAgg30
  z46 := Try.sizeOf30
  v46 := Try.zeroValue30
  t51 := Try.underlying147
  a51 := Try.isAgg147
  z51 := Try.sizeOf147
  v51 := Try.zeroValue147 }
open Go.RowKit Go.Lib in
/-- hashStr: "returns the hash and the appropriate multiplicative factor for use in Rabin-Karp algorithm": THE HASH OF ALL OF sep, AND 16777619 ^ len(sep), both in uint32. (LAID: no walk: one application.) -/
theorem Try.bytealg_hashStr (sep : ByteArray) (hs : sep.size < 4294967281) (w : World) :
    Calls Try.prog 122 #[.string sep] w fun e w' => e = .returned (.tuple #[.int .u32 (RK.H sep.data.toList % 4294967296), .int .u32 (16777619 ^ sep.size % 4294967296)]) ∧ w' = w := Any.bytealg_hashStr Try.lays314 sep hs w
def Try.lays267_ren : Go.Shelf.Ren := ⟨fun | 267 => 120 | 314 => 122 | n => n, fun | 9 => 9 | 3 => 3 | 146 => 148 | 51 => 147 | 4 => 4 | 5 => 5 | 46 => 30 | n => n, fun | n => n⟩
theorem Try.lays267 : Go.Proofs.Lays.n267 Try.prog Try.lays267_ren := {
  mixed := by kernel_rfl
  f267 := Try.func120.trans (congrArg some (by kernel_rfl))
  f314 := Try.func122.trans (congrArg some (by kernel_rfl))
  t3 := Try.underlying3
  a3 := Try.isAgg3
  z3 := Try.sizeOf3
  v3 := Try.zeroValue3
  t4 := Try.underlying4
  a4 := Try.isAgg4
  z4 := Try.sizeOf4
  v4 := Try.zeroValue4
  t5 := Try.underlying5
  a5 := Try.isAgg5
  z5 := Try.sizeOf5
  v5 := Try.zeroValue5
  t9 := Try.underlying9
  a9 := Try.isAgg9
  z9 := Try.sizeOf9
  v9 := Try.zeroValue9
  t46 := Try.underlying30
  a46 := Try.isAgg30
  z46 := Try.sizeOf30
  v46 := Try.zeroValue30
  t51 := Try.underlying147
  a51 := Try.isAgg147
  z51 := Try.sizeOf147
  v51 := Try.zeroValue147
  t146 := Try.underlying148
  a146 := Try.isAgg148
  z146 := Try.sizeOf148
  v146 := Try.zeroValue148 }
open Go.RowKit Go.Lib in
theorem Try.bytealg_IndexRabinKarp (s sep : ByteArray) (h1 : 1 ≤ sep.size) (h2 : sep.size ≤ s.size) (hs : s.size < 4294967281) (w : World) :
    Calls Try.prog 120 #[.string s, .string sep] w fun e w' => e = .returned (.int .i64 (Lib.index s.data.toList sep.data.toList)) ∧ w' = w := Any.bytealg_IndexRabinKarp Try.lays267 s sep h1 h2 hs w
def Try.lays219_ren : Go.Shelf.Ren := ⟨fun | 219 => 114 | 217 => 117 | 225 => 118 | 224 => 119 | 267 => 120 | 266 => 121 | 314 => 122 | n => n, fun | 9 => 9 | 3 => 3 | 4 => 4 | 5 => 5 | 46 => 30 | 146 => 148 | 51 => 147 | n => n, fun | 1 => 2 | n => n⟩
theorem Try.lays219 : Go.Proofs.Lays.n219 Try.prog Try.lays219_ren := {
  mixed := by kernel_rfl
  f217 := Try.func117.trans (congrArg some (by kernel_rfl))
  f219 := Try.func114.trans (congrArg some (by kernel_rfl))
  f224 := Try.func119.trans (congrArg some (by kernel_rfl))
  f225 := Try.func118.trans (congrArg some (by kernel_rfl))
  f266 := Try.func121.trans (congrArg some (by kernel_rfl))
  f267 := Try.func120.trans (congrArg some (by kernel_rfl))
  f314 := Try.func122.trans (congrArg some (by kernel_rfl))
  t3 := Try.underlying3
  a3 := Try.isAgg3
  z3 := Try.sizeOf3
  v3 := Try.zeroValue3
  t4 := Try.underlying4
  a4 := Try.isAgg4
  z4 := Try.sizeOf4
  v4 := Try.zeroValue4
  t5 := Try.underlying5
  a5 := Try.isAgg5
  z5 := Try.sizeOf5
  v5 := Try.zeroValue5
  t9 := Try.underlying9
  a9 := Try.isAgg9
  z9 := Try.sizeOf9
  v9 := Try.zeroValue9
  t46 := Try.underlying30
  a46 := Try.isAgg30
  z46 := Try.sizeOf30
  v46 := Try.zeroValue30
  t51 := Try.underlying147
  a51 := Try.isAgg147
  z51 := Try.sizeOf147
  v51 := Try.zeroValue147
  t146 := Try.underlying148
  a146 := Try.isAgg148
  z146 := Try.sizeOf148
  v146 := Try.zeroValue148
  g1 := by kernel_rfl }
open Go.RowKit Go.Lib in
/-- internal/stringslite.Index (what strings.Index calls) AT A substr OF ONE BYTE c: IT RETURNS 'Lib.indexByte s c'; the world is as it was. (LAID: no walk: one application.) -/
theorem Try.stringslite_Index_one (s : ByteArray) (c : UInt8) (w : World) :
    Calls Try.prog 114 #[.string s, .string ⟨#[c]⟩] w fun e w' => e = .returned (.int .i64 (Lib.indexByte s.data.toList c)) ∧ w' = w := Any.stringslite_Index_one Try.lays219 s c w
open Go.RowKit Go.Lib in
/-- internal/stringslite.Index (what strings.Index calls) AT A substr OF WHATEVER LENGTH: IT RETURNS 'Lib.index s substr'; the world is as it was. 'm': what internal/bytealg.MaxLen holds: whatever. (LAID: no walk: one application.) -/
theorem Try.stringslite_Index (s sub : ByteArray) (m : Int) (w : World) (hs : s.size < 4294967281) (hm : w.cell? ⟨2, 0, none⟩ = some (.int .i64 m)) :
    Calls Try.prog 114 #[.string s, .string sub] w fun e w' => e = .returned (.int .i64 (Lib.index s.data.toList sub.data.toList)) ∧ w' = w := Any.stringslite_Index Try.lays219 s sub m w hs hm
def Try.lays143_ren : Go.Shelf.Ren := ⟨fun | 143 => 110 | 219 => 114 | 217 => 117 | 225 => 118 | 224 => 119 | 267 => 120 | 266 => 121 | 314 => 122 | n => n, fun | 9 => 9 | 3 => 3 | 4 => 4 | 5 => 5 | 46 => 30 | 146 => 148 | 51 => 147 | n => n, fun | 1 => 2 | n => n⟩
theorem Try.lays143 : Go.Proofs.Lays.n143 Try.prog Try.lays143_ren := {
  mixed := by kernel_rfl
  f143 := Try.func110.trans (congrArg some (by kernel_rfl))
  f217 := Try.func117.trans (congrArg some (by kernel_rfl))
  f219 := Try.func114.trans (congrArg some (by kernel_rfl))
  f224 := Try.func119.trans (congrArg some (by kernel_rfl))
  f225 := Try.func118.trans (congrArg some (by kernel_rfl))
  f266 := Try.func121.trans (congrArg some (by kernel_rfl))
  f267 := Try.func120.trans (congrArg some (by kernel_rfl))
  f314 := Try.func122.trans (congrArg some (by kernel_rfl))
  t3 := Try.underlying3
  a3 := Try.isAgg3
  z3 := Try.sizeOf3
  v3 := Try.zeroValue3
  t4 := Try.underlying4
  a4 := Try.isAgg4
  z4 := Try.sizeOf4
  v4 := Try.zeroValue4
  t5 := Try.underlying5
  a5 := Try.isAgg5
  z5 := Try.sizeOf5
  v5 := Try.zeroValue5
  t9 := Try.underlying9
  a9 := Try.isAgg9
  z9 := Try.sizeOf9
  v9 := Try.zeroValue9
  t46 := Try.underlying30
  a46 := Try.isAgg30
  z46 := Try.sizeOf30
  v46 := Try.zeroValue30
  t51 := Try.underlying147
  a51 := Try.isAgg147
  z51 := Try.sizeOf147
  v51 := Try.zeroValue147
  t146 := Try.underlying148
  a146 := Try.isAgg148
  z146 := Try.sizeOf148
  v146 := Try.zeroValue148
  g1 := by kernel_rfl }
open Go.RowKit Go.Lib in
/-- strings.Index: "Index returns the index of the first instance of substr in s, or -1 if substr is not present in s.": AT A substr OF ONE BYTE c: IT RETURNS 'Lib.indexByte s c'; the world is as it was. (LAID: no walk: one application.) -/
theorem Try.strings_Index_one (s : ByteArray) (c : UInt8) (w : World) :
    Calls Try.prog 110 #[.string s, .string ⟨#[c]⟩] w fun e w' => e = .returned (.int .i64 (Lib.indexByte s.data.toList c)) ∧ w' = w := Any.strings_Index_one Try.lays143 s c w
open Go.RowKit Go.Lib in
/-- strings.Index: "Index returns the index of the first instance of substr in s, or -1 if substr is not present in s.": IT RETURNS 'Lib.index s substr'; the world is as it was. (LAID: no walk: one application.) -/
theorem Try.strings_Index (s sub : ByteArray) (m : Int) (w : World) (hs : s.size < 4294967281) (hm : w.cell? ⟨2, 0, none⟩ = some (.int .i64 m)) :
    Calls Try.prog 110 #[.string s, .string sub] w fun e w' => e = .returned (.int .i64 (Lib.index s.data.toList sub.data.toList)) ∧ w' = w := Any.strings_Index Try.lays143 s sub m w hs hm
def Try.lays144_ren : Go.Shelf.Ren := ⟨fun | 144 => 102 | 143 => 110 | 219 => 114 | 217 => 117 | 225 => 118 | 224 => 119 | 267 => 120 | 266 => 121 | 314 => 122 | n => n, fun | 9 => 9 | 4 => 4 | 3 => 3 | 5 => 5 | 46 => 30 | 146 => 148 | 51 => 147 | n => n, fun | 1 => 2 | n => n⟩
theorem Try.lays144 : Go.Proofs.Lays.n144 Try.prog Try.lays144_ren := {
  mixed := by kernel_rfl
  f143 := Try.func110.trans (congrArg some (by kernel_rfl))
  f144 := Try.func102.trans (congrArg some (by kernel_rfl))
  f217 := Try.func117.trans (congrArg some (by kernel_rfl))
  f219 := Try.func114.trans (congrArg some (by kernel_rfl))
  f224 := Try.func119.trans (congrArg some (by kernel_rfl))
  f225 := Try.func118.trans (congrArg some (by kernel_rfl))
  f266 := Try.func121.trans (congrArg some (by kernel_rfl))
  f267 := Try.func120.trans (congrArg some (by kernel_rfl))
  f314 := Try.func122.trans (congrArg some (by kernel_rfl))
  t3 := Try.underlying3
  a3 := Try.isAgg3
  z3 := Try.sizeOf3
  v3 := Try.zeroValue3
  t4 := Try.underlying4
  a4 := Try.isAgg4
  z4 := Try.sizeOf4
  v4 := Try.zeroValue4
  t5 := Try.underlying5
  a5 := Try.isAgg5
  z5 := Try.sizeOf5
  v5 := Try.zeroValue5
  t9 := Try.underlying9
  a9 := Try.isAgg9
  z9 := Try.sizeOf9
  v9 := Try.zeroValue9
  t46 := Try.underlying30
  a46 := Try.isAgg30
  z46 := Try.sizeOf30
  v46 := Try.zeroValue30
  t51 := Try.underlying147
  a51 := Try.isAgg147
  z51 := Try.sizeOf147
  v51 := Try.zeroValue147
  t146 := Try.underlying148
  a146 := Try.isAgg148
  z146 := Try.sizeOf148
  v146 := Try.zeroValue148
  g1 := by kernel_rfl }
open Go.RowKit Go.Lib in
/-- strings.Contains: "Contains reports whether substr is within s.": AT A substr OF ONE BYTE c: IT RETURNS 'decide (0 ≤ Lib.indexByte s c)'; the world is as it was. (LAID: no walk: one application.) -/
theorem Try.strings_Contains_one (s : ByteArray) (c : UInt8) (w : World) :
    Calls Try.prog 102 #[.string s, .string ⟨#[c]⟩] w fun e w' => e = .returned (.bool (decide (0 ≤ Lib.indexByte s.data.toList c))) ∧ w' = w := Any.strings_Contains_one Try.lays144 s c w
open Go.RowKit Go.Lib in
/-- strings.Contains: "Contains reports whether substr is within s.": IT RETURNS 'Lib.contains s substr'; the world is as it was. (LAID: no walk: one application.) -/
theorem Try.strings_Contains (s sub : ByteArray) (m : Int) (w : World) (hs : s.size < 4294967281) (hm : w.cell? ⟨2, 0, none⟩ = some (.int .i64 m)) :
    Calls Try.prog 102 #[.string s, .string sub] w fun e w' => e = .returned (.bool (Lib.contains s.data.toList sub.data.toList)) ∧ w' = w := Any.strings_Contains Try.lays144 s sub m w hs hm
def Try.laysM219_ren : Go.Shelf.Ren := ⟨fun | 219 => 114 | 217 => 117 | 225 => 118 | 224 => 119 | 267 => 120 | 266 => 121 | 314 => 122 | n => n, fun | 9 => 9 | 3 => 3 | 4 => 4 | 5 => 5 | 46 => 30 | 146 => 148 | 51 => 147 | n => n, fun | 1 => 2 | n => n⟩
theorem Try.laysM219 : Go.Proofs.LaysM.n219 Try.prog Try.laysM219_ren := {
  mixed := by kernel_rfl
  f217 := Try.func117.trans (congrArg some (by kernel_rfl))
  f219 := Try.func114.trans (congrArg some (by kernel_rfl))
  f224 := Try.func119.trans (congrArg some (by kernel_rfl))
  f225 := Try.func118.trans (congrArg some (by kernel_rfl))
  f266 := Try.func121.trans (congrArg some (by kernel_rfl))
  f267 := Try.func120.trans (congrArg some (by kernel_rfl))
  f314 := Try.func122.trans (congrArg some (by kernel_rfl))
  t3 := Try.underlying3
  a3 := Try.isAgg3
  z3 := Try.sizeOf3
  v3 := Try.zeroValue3
  t4 := Try.underlying4
  a4 := Try.isAgg4
  z4 := Try.sizeOf4
  v4 := Try.zeroValue4
  t5 := Try.underlying5
  a5 := Try.isAgg5
  z5 := Try.sizeOf5
  v5 := Try.zeroValue5
  t9 := Try.underlying9
  a9 := Try.isAgg9
  z9 := Try.sizeOf9
  v9 := Try.zeroValue9
  t46 := Try.underlying30
  a46 := Try.isAgg30
  z46 := Try.sizeOf30
  v46 := Try.zeroValue30
  t51 := Try.underlying147
  a51 := Try.isAgg147
  z51 := Try.sizeOf147
  v51 := Try.zeroValue147
  t146 := Try.underlying148
  a146 := Try.isAgg148
  z146 := Try.sizeOf148
  v146 := Try.zeroValue148
  g1 := by kernel_rfl
  i3 := by kernel_rfl
  i4 := by kernel_rfl
  i5 := by kernel_rfl
  i9 := by kernel_rfl
  i46 := by kernel_rfl
  i51 := by kernel_rfl
  i146 := by kernel_rfl
  m1 := by kernel_rfl
  s1_3 := fun w h => Go.Proofs.cell_of_shapedOpen_int (zero := #[.int .i64 0]) (t := 3) h (of_decide_eq_true (by kernel_rfl)) (by kernel_rfl) rfl (by kernel_rfl) (by kernel_rfl) Try.underlying3 }
open Go.RowKit Go.Lib in
theorem Try.stringslite_Index_shaped (s sub : ByteArray) (w : World) (h : w.ShapedOpen Try.prog) (hs : s.size < 4294967281) :
    Calls Try.prog 114 #[.string s, .string sub] w fun e w' => e = .returned (.int .i64 (Lib.index s.data.toList sub.data.toList)) ∧ w' = w := Any.stringslite_Index_shaped Try.laysM219 s sub w h hs
def Try.laysM143_ren : Go.Shelf.Ren := ⟨fun | 143 => 110 | 219 => 114 | 217 => 117 | 225 => 118 | 224 => 119 | 267 => 120 | 266 => 121 | 314 => 122 | n => n, fun | 9 => 9 | 3 => 3 | 4 => 4 | 5 => 5 | 46 => 30 | 146 => 148 | 51 => 147 | n => n, fun | 1 => 2 | n => n⟩
theorem Try.laysM143 : Go.Proofs.LaysM.n143 Try.prog Try.laysM143_ren := {
  mixed := by kernel_rfl
  f143 := Try.func110.trans (congrArg some (by kernel_rfl))
  f217 := Try.func117.trans (congrArg some (by kernel_rfl))
  f219 := Try.func114.trans (congrArg some (by kernel_rfl))
  f224 := Try.func119.trans (congrArg some (by kernel_rfl))
  f225 := Try.func118.trans (congrArg some (by kernel_rfl))
  f266 := Try.func121.trans (congrArg some (by kernel_rfl))
  f267 := Try.func120.trans (congrArg some (by kernel_rfl))
  f314 := Try.func122.trans (congrArg some (by kernel_rfl))
  t3 := Try.underlying3
  a3 := Try.isAgg3
  z3 := Try.sizeOf3
  v3 := Try.zeroValue3
  t4 := Try.underlying4
  a4 := Try.isAgg4
  z4 := Try.sizeOf4
  v4 := Try.zeroValue4
  t5 := Try.underlying5
  a5 := Try.isAgg5
  z5 := Try.sizeOf5
  v5 := Try.zeroValue5
  t9 := Try.underlying9
  a9 := Try.isAgg9
  z9 := Try.sizeOf9
  v9 := Try.zeroValue9
  t46 := Try.underlying30
  a46 := Try.isAgg30
  z46 := Try.sizeOf30
  v46 := Try.zeroValue30
  t51 := Try.underlying147
  a51 := Try.isAgg147
  z51 := Try.sizeOf147
  v51 := Try.zeroValue147
  t146 := Try.underlying148
  a146 := Try.isAgg148
  z146 := Try.sizeOf148
  v146 := Try.zeroValue148
  g1 := by kernel_rfl
  i3 := by kernel_rfl
  i4 := by kernel_rfl
  i5 := by kernel_rfl
  i9 := by kernel_rfl
  i46 := by kernel_rfl
  i51 := by kernel_rfl
  i146 := by kernel_rfl
  m1 := by kernel_rfl
  s1_3 := fun w h => Go.Proofs.cell_of_shapedOpen_int (zero := #[.int .i64 0]) (t := 3) h (of_decide_eq_true (by kernel_rfl)) (by kernel_rfl) rfl (by kernel_rfl) (by kernel_rfl) Try.underlying3 }
open Go.RowKit Go.Lib in
theorem Try.strings_Index_shaped (s sub : ByteArray) (w : World) (h : w.ShapedOpen Try.prog) (hs : s.size < 4294967281) :
    Calls Try.prog 110 #[.string s, .string sub] w fun e w' => e = .returned (.int .i64 (Lib.index s.data.toList sub.data.toList)) ∧ w' = w := Any.strings_Index_shaped Try.laysM143 s sub w h hs
def Try.laysM144_ren : Go.Shelf.Ren := ⟨fun | 144 => 102 | 143 => 110 | 219 => 114 | 217 => 117 | 225 => 118 | 224 => 119 | 267 => 120 | 266 => 121 | 314 => 122 | n => n, fun | 9 => 9 | 4 => 4 | 3 => 3 | 5 => 5 | 46 => 30 | 146 => 148 | 51 => 147 | n => n, fun | 1 => 2 | n => n⟩
theorem Try.laysM144 : Go.Proofs.LaysM.n144 Try.prog Try.laysM144_ren := {
  mixed := by kernel_rfl
  f143 := Try.func110.trans (congrArg some (by kernel_rfl))
  f144 := Try.func102.trans (congrArg some (by kernel_rfl))
  f217 := Try.func117.trans (congrArg some (by kernel_rfl))
  f219 := Try.func114.trans (congrArg some (by kernel_rfl))
  f224 := Try.func119.trans (congrArg some (by kernel_rfl))
  f225 := Try.func118.trans (congrArg some (by kernel_rfl))
  f266 := Try.func121.trans (congrArg some (by kernel_rfl))
  f267 := Try.func120.trans (congrArg some (by kernel_rfl))
  f314 := Try.func122.trans (congrArg some (by kernel_rfl))
  t3 := Try.underlying3
  a3 := Try.isAgg3
  z3 := Try.sizeOf3
  v3 := Try.zeroValue3
  t4 := Try.underlying4
  a4 := Try.isAgg4
  z4 := Try.sizeOf4
  v4 := Try.zeroValue4
  t5 := Try.underlying5
  a5 := Try.isAgg5
  z5 := Try.sizeOf5
  v5 := Try.zeroValue5
  t9 := Try.underlying9
  a9 := Try.isAgg9
  z9 := Try.sizeOf9
  v9 := Try.zeroValue9
  t46 := Try.underlying30
  a46 := Try.isAgg30
  z46 := Try.sizeOf30
  v46 := Try.zeroValue30
  t51 := Try.underlying147
  a51 := Try.isAgg147
  z51 := Try.sizeOf147
  v51 := Try.zeroValue147
  t146 := Try.underlying148
  a146 := Try.isAgg148
  z146 := Try.sizeOf148
  v146 := Try.zeroValue148
  g1 := by kernel_rfl
  i3 := by kernel_rfl
  i4 := by kernel_rfl
  i5 := by kernel_rfl
  i9 := by kernel_rfl
  i46 := by kernel_rfl
  i51 := by kernel_rfl
  i146 := by kernel_rfl
  m1 := by kernel_rfl
  s1_3 := fun w h => Go.Proofs.cell_of_shapedOpen_int (zero := #[.int .i64 0]) (t := 3) h (of_decide_eq_true (by kernel_rfl)) (by kernel_rfl) rfl (by kernel_rfl) (by kernel_rfl) Try.underlying3 }
open Go.RowKit Go.Lib in
theorem Try.strings_Contains_shaped (s sub : ByteArray) (w : World) (h : w.ShapedOpen Try.prog) (hs : s.size < 4294967281) :
    Calls Try.prog 102 #[.string s, .string sub] w fun e w' => e = .returned (.bool (Lib.contains s.data.toList sub.data.toList)) ∧ w' = w := Any.strings_Contains_shaped Try.laysM144 s sub w h hs
def Try.lays264_ren : Go.Shelf.Ren := ⟨fun | 264 => 107 | n => n, fun | 53 => 47 | 46 => 30 | n => n, fun | n => n⟩
theorem Try.lays264 : Go.Proofs.Lays.n264 Try.prog Try.lays264_ren := {
  mixed := by kernel_rfl
  f264 := Try.func107.trans (congrArg some (by kernel_rfl))
  t46 := Try.underlying30
  a46 := Try.isAgg30
  z46 := Try.sizeOf30
  v46 := Try.zeroValue30
  t53 := Try.underlying47
  a53 := Try.isAgg47
  z53 := Try.sizeOf47
  v53 := Try.zeroValue47 }
open Go.RowKit Go.Lib in
theorem Try.bits_Mul64 (x y : Nat) (hx : x < 18446744073709551616) (hy : y < 18446744073709551616) (w : World) :
    Calls Try.prog 107 #[.int .u64 x, .int .u64 y] w fun e w' => e = .returned (.tuple #[.int .u64 ((x * y / 18446744073709551616 : Nat) : Int), .int .u64 ((x * y % 18446744073709551616 : Nat) : Int)]) ∧ w' = w := Any.bits_Mul64 Try.lays264 x y hx hy w
end Go.Proofs
/- Contracts by hand: a name. -/
namespace Go.Proofs.Ytcfpkkgdofblfaa.Pd
open Go.RowKit Go.Proofs.YtcfpkkgdofblfaaW.PrintWords Go.Proofs.YtcfpkkgdofblfaaW.PrintLast Go.Proofs.YtcfpkkgdofblfaaW.PrintMore Go.Proofs.Ytcfpkkgdofblfaa.HW
open Pm
set_option linter.unusedVariables false
set_option linter.unusedSimpArgs false
/-- The library's own variable holds some number. -/
def GV (w : World) : Prop := ∃ m, w.cell? ⟨2, 0, none⟩ = some (.int .i64 m)
theorem GV.lt {w : World} (h : GV w) : 2 < w.heap.size := by
  obtain ⟨m, h⟩ := h
  rcases Nat.lt_or_ge 2 w.heap.size with h1 | h1
  · exact h1
  · exfalso
    have e : w.heap[2]? = none := Array.getElem?_eq_none h1
    simp [World.cell?, e] at h
theorem GV.below {w w1 : World} (h : GV w) (hb : Below w.heap.size w w1) : GV w1 := by
  have hl := h.lt
  obtain ⟨m, h⟩ := h
  exact ⟨m, by rw [hb.cell hl]; exact h⟩
theorem bytes_belowP (w : World) (t : ByteArray) : Below w.heap.size w (Lib.bytesWorld w 5 t) := by
  refine ⟨rfl, rfl, rfl, ?_, fun k hk => ?_⟩
  · rw [Lib.bytesWorld_size]; omega
  · exact Lib.bytesWorld_at_old _ _ _ k hk
set_option maxRecDepth 100000 in
theorem name_empty (s : ByteArray) (w : World) (h : s.size = 0) : Calls Try.prog 82 #[.string s] w fun e w' => e = .returned (.bool false) ∧ w = w' := by
  have h1 : s.size < 1 := by omega
  clear h
  go_enter Try.func82, Try.ntmps82
  go_wp2_with fail
  go_ret
  exact ⟨rfl, rfl⟩
set_option maxRecDepth 100000 in
theorem name_long (s : ByteArray) (w : World) (h : 20 < s.size) : Calls Try.prog 82 #[.string s] w fun e w' => e = .returned (.bool false) ∧ w = w' := by
  go_enter Try.func82, Try.ntmps82
  go_wp2_with fail
  go_ret
  exact ⟨rfl, rfl⟩
set_option maxRecDepth 100000 in
theorem name_head (s : ByteArray) (w : World) (h0 : 0 < s.size) (h20 : s.size ≤ 20) (hc : (s[0].toNat : Int) < 97 ∨ 122 < (s[0].toNat : Int)) : Calls Try.prog 82 #[.string s] w fun e w' => e = .returned (.bool false) ∧ w = w' := by
  have h1 : 1 ≤ s.size := h0
  rcases hc with hc | hc
  · go_enter Try.func82, Try.ntmps82
    go_wp2_with fail
    go_ret
    exact ⟨rfl, rfl⟩
  · have hc2 : 97 ≤ (s[0].toNat : Int) := by omega
    go_enter Try.func82, Try.ntmps82
    go_wp2_with fail
    go_ret
    exact ⟨rfl, rfl⟩
theorem getD_dropP (l : List UInt8) (k : Nat) (h : k < l.length) : l.drop k = l.getD k 0 :: l.drop (k + 1) := by
  rw [List.drop_eq_getElem_cons h, List.getD_eq_getElem?_getD, List.getElem?_eq_getElem h]; rfl
theorem letter_yes {c : UInt8} (h : letter c = true) : (97 ≤ (c.toNat : Int) ∧ (c.toNat : Int) ≤ 122) ∨ (48 ≤ (c.toNat : Int) ∧ (c.toNat : Int) ≤ 57) ∨ (c.toNat : Int) = 45 := by
  simpa [letter, small, other, Bool.or_eq_true, Bool.and_eq_true] using h
theorem letter_not {c : UInt8} (h : letter c = false) : ¬ ((97 ≤ (c.toNat : Int) ∧ (c.toNat : Int) ≤ 122) ∨ (48 ≤ (c.toNat : Int) ∧ (c.toNat : Int) ≤ 57) ∨ (c.toNat : Int) = 45) := by
  intro h2
  have : letter c = true := by simpa [letter, small, other, Bool.or_eq_true, Bool.and_eq_true] using h2
  rw [h] at this; cases this
theorem all_no {l : List UInt8} (h : l.all letter = true) : (32 : UInt8) ∉ l := by
  intro hm
  exact letter_no _ (List.all_eq_true.1 h _ hm) rfl
theorem words_is (s : ByteArray) (h : s.data.toList.all letter = true) : Lib.contains (joined wordsL) ((⟨#[32]⟩ : ByteArray) ++ s ++ (⟨#[32]⟩ : ByteArray)).data.toList = isWord s.data.toList := by
  have e : ((⟨#[32]⟩ : ByteArray) ++ s ++ (⟨#[32]⟩ : ByteArray)).data.toList = 32 :: (s.data.toList ++ [32]) := by simp
  rw [e]
  exact contains_word _ (all_no h)
theorem contains_is (ws s : ByteArray) {w : World} (hw : ws.data.toList = joined wordsL) (h : s.data.toList.all letter = true) (hg : GV w) :
    Calls Try.prog 102 #[.string ws, .string ((⟨#[32]⟩ : ByteArray) ++ s ++ (⟨#[32]⟩ : ByteArray))] w fun e w' => e = .returned (.bool (isWord s.data.toList)) ∧ w = w' := by
  obtain ⟨m, hm⟩ := hg
  have hsz : ws.size < 4294967281 := by
    have : ws.size = ws.data.toList.length := rfl
    rw [this, hw]; decide +kernel
  refine (Try.strings_Contains ws _ m w hsz hm).mono ?_
  rintro e w1 ⟨rfl, rfl⟩
  rw [hw, words_is s h]
  exact ⟨rfl, rfl⟩
set_option maxRecDepth 100000 in
set_option maxHeartbeats 1000000 in
theorem name_tail (s : ByteArray) (w : World) (hg : GV w) (h0 : 0 < s.size) (h20 : s.size ≤ 20) (hc0 : 97 ≤ (s[0].toNat : Int)) (hc1 : (s[0].toNat : Int) ≤ 122) : Calls Try.prog 82 #[.string s] w fun e w' => e = .returned (.bool (s.data.toList.all letter && !isWord s.data.toList)) ∧ Below w.heap.size w w' := by
  have h1 : 1 ≤ s.size := h0
  have HG := Aside0.mk hg
  have hcv := fun (W : World) (t : ByteArray) => Lib.run_convert_string_bytes (P := Try.prog) W 9 135 5 t Try.underlying9 Try.underlying135 Try.underlying5
  have hbel := Aside0.mk (bytes_belowP w s)
  have HC := Aside0.mk (fun j hj => Lib.bytesWorld_cell w 5 s j hj)
  obtain ⟨l, hl⟩ : ∃ l, s.data.toList = l := ⟨_, rfl⟩
  have hlen : l.length = s.size := by rw [← hl]; rfl
  have HL := Aside0.mk hlen
  have HLS := Aside0.mk hl
  obtain ⟨bb, hbb⟩ : ∃ bb, l.all letter = bb := ⟨_, rfl⟩
  have HBB := Aside0.mk hbb
  have hgoal : Aside0 ((s.data.toList.all letter && !isWord s.data.toList) = (bb && !isWord l)) := ⟨by rw [hl, hbb]⟩
  rw [hgoal.out]
  clear hlen hl hbb hg
  go_enter Try.func82, Try.ntmps82
  go_wp2_with fail
  clear hcv
  generalize hW : Lib.bytesWorld w 5 s = W at *
  clear hW
  go_loop [26] (fun i => ∃ (k : Nat), k ≤ s.size ∧ i = .int .i64 k ∧ Aside0 ((l.drop k).all letter = bb)) (fun i => s.size - (intOf i).toNat)
  case atStart => exact ⟨0, Nat.zero_le _, rfl, ⟨by simpa using HBB.out⟩⟩
  case round =>
    obtain ⟨k, hk, rfl, hd⟩ := hrel
    by_cases hlt : k < s.size
    · have hc := HC.out k hlt
      rw [HLS.out, List.getD_eq_getElem?_getD] at hc
      have hdr := getD_dropP l k (by rw [HL.out]; exact hlt)
      rw [List.getD_eq_getElem?_getD] at hdr
      have hd2 := hd.out
      rw [hdr, List.all_cons] at hd2
      generalize l[k]?.getD 0 = c at *
      clear hdr hd
      have hb0 : 0 ≤ (c.toNat : Int) := by omega
      have hb1 : (c.toNat : Int) ≤ 255 := by have := c.toNat_lt; omega
      cases hcl : letter c with
      | true =>
        rw [hcl, Bool.true_and] at hd2
        have HD := Aside0.mk hd2
        clear hd2
        rcases letter_yes hcl with ⟨q1, q2⟩ | ⟨q1, q2⟩ | q1
        · clear hcl
          go_wp2_with fail
          go_round
          case rel => exact ⟨k + 1, by omega, by go_num, HD⟩
          case measure => simp [intOf]; omega
        · have q3 : (c.toNat : Int) < 97 := by omega
          clear hcl
          go_wp2_with fail
          go_round
          case rel => exact ⟨k + 1, by omega, by go_num, HD⟩
          case measure => simp [intOf]; omega
        · have q3 : (c.toNat : Int) < 97 := by omega
          have q4 : (c.toNat : Int) < 48 := by omega
          have q5 : ((c.toNat : Int) != 45) = false := by rw [q1]; rfl
          have q6 : ((c.toNat : Int) == 45) = true := by rw [q1]; rfl
          clear hcl q1
          go_wp2_with fail
          go_round
          case rel => exact ⟨k + 1, by omega, by go_num, HD⟩
          case measure => simp [intOf]; omega
      | false =>
        rw [hcl, Bool.false_and] at hd2
        subst hd2
        have hno := letter_not hcl
        have q5 : ((c.toNat : Int) != 45) = true := by simp; omega
        have q6 : ((c.toNat : Int) == 45) = false := by simp; omega
        clear hcl
        rcases (by omega : (c.toNat : Int) < 48 ∨ (57 < (c.toNat : Int) ∧ (c.toNat : Int) < 97) ∨ (57 < (c.toNat : Int) ∧ 97 ≤ (c.toNat : Int) ∧ 122 < (c.toNat : Int))) with r | ⟨r, r2⟩ | ⟨r, r2, r3⟩
        · have r4 : (c.toNat : Int) < 97 := by omega
          clear hno
          go_wp2_with fail
          go_ret
          exact ⟨rfl, hbel.out⟩
        · have r4 : 48 ≤ (c.toNat : Int) := by omega
          clear hno
          go_wp2_with fail
          go_ret
          exact ⟨rfl, hbel.out⟩
        · have r4 : 48 ≤ (c.toNat : Int) := by omega
          clear hno
          go_wp2_with fail
          go_ret
          exact ⟨rfl, hbel.out⟩
    · have hk2 : k = s.size := by omega
      have hd2 := hd.out
      rw [List.drop_of_length_le (by rw [HL.out]; omega)] at hd2
      obtain rfl : true = bb := hd2
      clear hd
      have HBL := Aside0.mk hbel.out
      have HG2 := Aside0.mk (HG.out.below hbel.out)
      have HAL := Aside0.mk (show s.data.toList.all letter = true by rw [HLS.out]; exact HBB.out)
      have HLS2 := HLS
      go_wp2_with fail
      refine (contains_is _ s rfl HAL.out HG2.out).mono ?_
      rintro e w1 ⟨rfl, rfl⟩
      go_wp2_with fail
      go_ret
      exact ⟨by rw [HLS2.out]; simp, HBL.out⟩
theorem toList_head (s : ByteArray) (h0 : 0 < s.size) : ∃ l, s.data.toList = s[0] :: l := by
  obtain ⟨⟨l⟩⟩ := s
  match l, h0 with
  | c :: l, _ => exact ⟨l, rfl⟩
theorem small_letter {c : UInt8} (h : small c = true) : letter c = true := by unfold letter; rw [h]; rfl
/-- A name, or none. -/
theorem name_any (s : ByteArray) (w : World) (hg : GV w) : Calls Try.prog 82 #[.string s] w fun e w' => e = .returned (.bool (nameOk s.data.toList)) ∧ Below w.heap.size w w' := by
  have hsz : s.data.toList.length = s.size := rfl
  by_cases h0 : s.size = 0
  · refine (name_empty s w h0).mono ?_
    rintro e w1 ⟨rfl, rfl⟩
    refine ⟨?_, Below.refl _ _⟩
    rw [show nameOk s.data.toList = false by unfold nameOk; rw [hsz, h0]; simp]
  · by_cases h20 : 20 < s.size
    · refine (name_long s w h20).mono ?_
      rintro e w1 ⟨rfl, rfl⟩
      refine ⟨?_, Below.refl _ _⟩
      rw [show nameOk s.data.toList = false by unfold nameOk; rw [hsz, decide_eq_false (show ¬ s.size ≤ 20 by omega)]; simp]
    · have hp : 0 < s.size := by omega
      obtain ⟨l, hl⟩ := toList_head s hp
      have e1 : decide (1 ≤ s.data.toList.length) = true := decide_eq_true (by omega)
      have e2 : decide (s.data.toList.length ≤ 20) = true := decide_eq_true (by omega)
      cases hc : small s[0] with
      | true =>
        have hb : 97 ≤ (s[0].toNat : Int) ∧ (s[0].toNat : Int) ≤ 122 := by simpa [small] using hc
        refine (name_tail s w hg hp (by omega) hb.1 hb.2).mono ?_
        rintro e w1 ⟨rfl, hbl⟩
        refine ⟨?_, hbl⟩
        have : nameOk s.data.toList = (s.data.toList.all letter && !isWord s.data.toList) := by
          unfold nameOk
          rw [e1, e2, Bool.and_true, Bool.and_true]
          congr 1
          rw [hl]
          simp only [chars, List.all_cons, hc, small_letter hc]
        rw [this]
      | false =>
        have hb : (s[0].toNat : Int) < 97 ∨ 122 < (s[0].toNat : Int) := by
          have : ¬ (97 ≤ (s[0].toNat : Int) ∧ (s[0].toNat : Int) ≤ 122) := by
            intro h
            have : small s[0] = true := by simpa [small] using h
            rw [hc] at this; cases this
          omega
        refine (name_head s w hp (by omega) hb).mono ?_
        rintro e w1 ⟨rfl, rfl⟩
        refine ⟨?_, Below.refl _ _⟩
        rw [show nameOk s.data.toList = false by unfold nameOk; rw [show chars s.data.toList = false by rw [hl]; simp [chars, hc]]; simp]
theorem bcell {W w1 : World} (hb : Below W.heap.size W w1) : (∀ b o, b < W.heap.size → w1.cell? ⟨b, o, none⟩ = W.cell? ⟨b, o, none⟩) ∧ (∀ b o, b < W.heap.size → w1.frozen? ⟨b, o, none⟩ = W.frozen? ⟨b, o, none⟩) :=
  ⟨fun b o h => hb.cell (p := ⟨b, o, none⟩) h, fun b o h => hb.frozen (p := ⟨b, o, none⟩) h⟩
end Go.Proofs.Ytcfpkkgdofblfaa.Pd
/- Contracts by hand: a product's shape is looked at. -/
namespace Go.Proofs.Ytcfpkkgdofblfaa.Pd
open Go.RowKit Go.Proofs.YtcfpkkgdofblfaaW.PrintWords Go.Proofs.YtcfpkkgdofblfaaW.PrintLast Go.Proofs.YtcfpkkgdofblfaaW.PrintMore Go.Proofs.Ytcfpkkgdofblfaa.HW
open Pm
set_option linter.unusedVariables false
set_option linter.unusedSimpArgs false

set_option maxRecDepth 100000 in
set_option maxHeartbeats 1000000 in
theorem shape_0 (p : Prod) (A1 : Option Addr) (c1 : Nat) (A2 : Option Addr) (c2 : Nat) (A3 : Option Addr) (c3 : Nat) (w : World) (hg : GV w) (hn : nameOk p.name.data.toList = false) :
    Calls Try.prog 59 #[pv p A1 c1 A2 c2 A3 c3] w fun e w' => e = refusedE ∧ Below w.heap.size w w' := by
  have HG := Aside0.mk hg
  have HN := Aside0.mk hn
  clear hg hn
  go_enter Try.func59, Try.ntmps59
  go_wp2_with (first
    | ((with_reducible refine gate_dst (N := 1) rfl ?_); refine box_event ?hg (N := 1) ?hd (cs := pcs p A1 c1 A2 c2 A3 c3) (t := 88) ?hr ?_; (case hd => rfl); (case hg => rfl); (case hr => first | (go_simp; done) | (go_simp; rfl)); intro g1 hg w1 hb1 hbl1; clear hg)
    | ((with_reducible refine gate_dst (N := 4) rfl ?_); refine wpList_load_row rfl 27 (.tmp 3) rfl g1 rfl 88 _ (0, 0) _ hb1 Try.underlying27 rfl info_prod ?_)
    | ((with_reducible refine gate_dst (N := 2) rfl ?_); refine copy_event rfl (N := 2) rfl rfl rfl (t := 27) (v := .tmp 4) rfl (cs := pcs p A1 c1 A2 c2 A3 c3) (zs := pzs) ?hr rfl rfl info_prod ?hz (pcs_one _ _ _ _ _ _ _) ?_; (case hr => first | (go_simp; done) | (go_simp; rfl)); (case hz => rfl); intro g2 hg w2 hb2 hbl2; clear hg; have HB2 := Aside0.mk hb2; have BL2 := Aside0.mk (below_step hbl1 hbl2); clear hb1 hbl1 hbl2; have q0 := (pc_cells hb2).1; clear hb2))
  refine (name_any p.name _ (HG.out.below BL2.out)).mono ?_
  rw [HN.out]
  rintro e w3 ⟨rfl, hb⟩
  have BL := Aside0.mk (below_step BL2.out hb)
  obtain ⟨_, q1, q2, q3, q4, q5, q6, _⟩ := pc_cells (blk_below HB2.out hb)
  clear hb HB2 BL2 q0 HG
  go_wp2_with fail
  refine (must_no _).mono ?_
  rintro e w' ⟨rfl, rfl⟩
  exact ⟨rfl, rfl, BL.out⟩

set_option maxRecDepth 100000 in
set_option maxHeartbeats 1000000 in
theorem shape_1 (p : Prod) (A1 : Option Addr) (c1 : Nat) (A2 : Option Addr) (c2 : Nat) (A3 : Option Addr) (c3 : Nat) (w : World) (hg : GV w) (hn : nameOk p.name.data.toList = true) (ha : decide (1 ≤ p.count ∧ p.count ≤ 3) = false) :
    Calls Try.prog 59 #[pv p A1 c1 A2 c2 A3 c3] w fun e w' => e = refusedE ∧ Below w.heap.size w w' := by
  have HG := Aside0.mk hg
  have HN := Aside0.mk hn
  have HA := Aside0.mk ha
  clear hg hn ha
  go_enter Try.func59, Try.ntmps59
  go_wp2_with (first
    | ((with_reducible refine gate_dst (N := 1) rfl ?_); refine box_event ?hg (N := 1) ?hd (cs := pcs p A1 c1 A2 c2 A3 c3) (t := 88) ?hr ?_; (case hd => rfl); (case hg => rfl); (case hr => first | (go_simp; done) | (go_simp; rfl)); intro g1 hg w1 hb1 hbl1; clear hg)
    | ((with_reducible refine gate_dst (N := 4) rfl ?_); refine wpList_load_row rfl 27 (.tmp 3) rfl g1 rfl 88 _ (0, 0) _ hb1 Try.underlying27 rfl info_prod ?_)
    | ((with_reducible refine gate_dst (N := 2) rfl ?_); refine copy_event rfl (N := 2) rfl rfl rfl (t := 27) (v := .tmp 4) rfl (cs := pcs p A1 c1 A2 c2 A3 c3) (zs := pzs) ?hr rfl rfl info_prod ?hz (pcs_one _ _ _ _ _ _ _) ?_; (case hr => first | (go_simp; done) | (go_simp; rfl)); (case hz => rfl); intro g2 hg w2 hb2 hbl2; clear hg; have HB2 := Aside0.mk hb2; have BL2 := Aside0.mk (below_step hbl1 hbl2); clear hb1 hbl1 hbl2; have q0 := (pc_cells hb2).1; clear hb2))
  refine (name_any p.name _ (HG.out.below BL2.out)).mono ?_
  rw [HN.out]
  rintro e w3 ⟨rfl, hb⟩
  have BL := Aside0.mk (below_step BL2.out hb)
  obtain ⟨_, q1, q2, q3, q4, q5, q6, _⟩ := pc_cells (blk_below HB2.out hb)
  clear hb HB2 BL2 q0 HG
  go_wp2_with fail
  refine (within_i_is HA.out _).mono ?_
  rintro e w' ⟨rfl, rfl⟩
  go_wp2_with fail
  refine (must_no _).mono ?_
  rintro e w' ⟨rfl, rfl⟩
  exact ⟨rfl, rfl, BL.out⟩

set_option maxRecDepth 100000 in
set_option maxHeartbeats 1000000 in
theorem shape_2 (p : Prod) (A1 : Option Addr) (c1 : Nat) (A2 : Option Addr) (c2 : Nat) (A3 : Option Addr) (c3 : Nat) (w : World) (hg : GV w) (hn : nameOk p.name.data.toList = true) (ha : decide (1 ≤ p.count ∧ p.count ≤ 3) = true) (r1 : (p.round == 1) = false) (r3 : (p.round == 3) = false) :
    Calls Try.prog 59 #[pv p A1 c1 A2 c2 A3 c3] w fun e w' => e = refusedE ∧ Below w.heap.size w w' := by
  have HG := Aside0.mk hg
  have HN := Aside0.mk hn
  have HA := Aside0.mk ha
  clear hg hn ha
  go_enter Try.func59, Try.ntmps59
  go_wp2_with (first
    | ((with_reducible refine gate_dst (N := 1) rfl ?_); refine box_event ?hg (N := 1) ?hd (cs := pcs p A1 c1 A2 c2 A3 c3) (t := 88) ?hr ?_; (case hd => rfl); (case hg => rfl); (case hr => first | (go_simp; done) | (go_simp; rfl)); intro g1 hg w1 hb1 hbl1; clear hg)
    | ((with_reducible refine gate_dst (N := 4) rfl ?_); refine wpList_load_row rfl 27 (.tmp 3) rfl g1 rfl 88 _ (0, 0) _ hb1 Try.underlying27 rfl info_prod ?_)
    | ((with_reducible refine gate_dst (N := 2) rfl ?_); refine copy_event rfl (N := 2) rfl rfl rfl (t := 27) (v := .tmp 4) rfl (cs := pcs p A1 c1 A2 c2 A3 c3) (zs := pzs) ?hr rfl rfl info_prod ?hz (pcs_one _ _ _ _ _ _ _) ?_; (case hr => first | (go_simp; done) | (go_simp; rfl)); (case hz => rfl); intro g2 hg w2 hb2 hbl2; clear hg; have HB2 := Aside0.mk hb2; have BL2 := Aside0.mk (below_step hbl1 hbl2); clear hb1 hbl1 hbl2; have q0 := (pc_cells hb2).1; clear hb2))
  refine (name_any p.name _ (HG.out.below BL2.out)).mono ?_
  rw [HN.out]
  rintro e w3 ⟨rfl, hb⟩
  have BL := Aside0.mk (below_step BL2.out hb)
  obtain ⟨_, q1, q2, q3, q4, q5, q6, _⟩ := pc_cells (blk_below HB2.out hb)
  clear hb HB2 BL2 q0 HG
  go_wp2_with fail
  refine (within_i_is HA.out _).mono ?_
  rintro e w' ⟨rfl, rfl⟩
  go_wp2_with fail
  refine (must_no _).mono ?_
  rintro e w' ⟨rfl, rfl⟩
  exact ⟨rfl, rfl, BL.out⟩

set_option maxRecDepth 100000 in
set_option maxHeartbeats 1000000 in
theorem shape_3 (p : Prod) (A1 : Option Addr) (c1 : Nat) (A2 : Option Addr) (c2 : Nat) (A3 : Option Addr) (c3 : Nat) (w : World) (hg : GV w) (hn : nameOk p.name.data.toList = true) (ha : decide (1 ≤ p.count ∧ p.count ≤ 3) = true) (hr : ((p.round == 1) = true) ∨ ((p.round == 1) = false ∧ (p.round == 3) = true)) (hb : decide (1 ≤ p.kind ∧ p.kind ≤ 3) = false) :
    Calls Try.prog 59 #[pv p A1 c1 A2 c2 A3 c3] w fun e w' => e = refusedE ∧ Below w.heap.size w w' := by
  have HG := Aside0.mk hg
  have HN := Aside0.mk hn
  have HA := Aside0.mk ha
  have HB := Aside0.mk hb
  clear hg hn ha hb
  go_enter Try.func59, Try.ntmps59
  go_wp2_with (first
    | ((with_reducible refine gate_dst (N := 1) rfl ?_); refine box_event ?hg (N := 1) ?hd (cs := pcs p A1 c1 A2 c2 A3 c3) (t := 88) ?hr ?_; (case hd => rfl); (case hg => rfl); (case hr => first | (go_simp; done) | (go_simp; rfl)); intro g1 hg w1 hb1 hbl1; clear hg)
    | ((with_reducible refine gate_dst (N := 4) rfl ?_); refine wpList_load_row rfl 27 (.tmp 3) rfl g1 rfl 88 _ (0, 0) _ hb1 Try.underlying27 rfl info_prod ?_)
    | ((with_reducible refine gate_dst (N := 2) rfl ?_); refine copy_event rfl (N := 2) rfl rfl rfl (t := 27) (v := .tmp 4) rfl (cs := pcs p A1 c1 A2 c2 A3 c3) (zs := pzs) ?hr rfl rfl info_prod ?hz (pcs_one _ _ _ _ _ _ _) ?_; (case hr => first | (go_simp; done) | (go_simp; rfl)); (case hz => rfl); intro g2 hg w2 hb2 hbl2; clear hg; have HB2 := Aside0.mk hb2; have BL2 := Aside0.mk (below_step hbl1 hbl2); clear hb1 hbl1 hbl2; have q0 := (pc_cells hb2).1; clear hb2))
  refine (name_any p.name _ (HG.out.below BL2.out)).mono ?_
  rw [HN.out]
  rintro e w3 ⟨rfl, hb⟩
  have BL := Aside0.mk (below_step BL2.out hb)
  obtain ⟨_, q1, q2, q3, q4, q5, q6, _⟩ := pc_cells (blk_below HB2.out hb)
  clear hb HB2 BL2 q0 HG
  go_wp2_with fail
  refine (within_i_is HA.out _).mono ?_
  rintro e w' ⟨rfl, rfl⟩
  rcases hr with r1 | ⟨r1, r3⟩
  all_goals
    go_wp2_with fail
    refine (within_i_is HB.out _).mono ?_
    rintro e w' ⟨rfl, rfl⟩
    go_wp2_with fail
    refine (must_no _).mono ?_
    rintro e w' ⟨rfl, rfl⟩
    exact ⟨rfl, rfl, BL.out⟩

set_option maxRecDepth 100000 in
set_option maxHeartbeats 1000000 in
theorem shape_4 (p : Prod) (A1 : Option Addr) (c1 : Nat) (A2 : Option Addr) (c2 : Nat) (A3 : Option Addr) (c3 : Nat) (w : World) (hg : GV w) (hn : nameOk p.name.data.toList = true) (ha : decide (1 ≤ p.count ∧ p.count ≤ 3) = true) (hr : ((p.round == 1) = true) ∨ ((p.round == 1) = false ∧ (p.round == 3) = true)) (hb : decide (1 ≤ p.kind ∧ p.kind ≤ 3) = true) (e1 : (p.every == 1) = false) (e2 : (p.every == 2) = false) (e3 : (p.every == 3) = false) (e4 : (p.every == 4) = false) (e6 : (p.every == 6) = false) (e12 : (p.every == 12) = false) :
    Calls Try.prog 59 #[pv p A1 c1 A2 c2 A3 c3] w fun e w' => e = refusedE ∧ Below w.heap.size w w' := by
  have HG := Aside0.mk hg
  have HN := Aside0.mk hn
  have HA := Aside0.mk ha
  have HB := Aside0.mk hb
  clear hg hn ha hb
  go_enter Try.func59, Try.ntmps59
  go_wp2_with (first
    | ((with_reducible refine gate_dst (N := 1) rfl ?_); refine box_event ?hg (N := 1) ?hd (cs := pcs p A1 c1 A2 c2 A3 c3) (t := 88) ?hr ?_; (case hd => rfl); (case hg => rfl); (case hr => first | (go_simp; done) | (go_simp; rfl)); intro g1 hg w1 hb1 hbl1; clear hg)
    | ((with_reducible refine gate_dst (N := 4) rfl ?_); refine wpList_load_row rfl 27 (.tmp 3) rfl g1 rfl 88 _ (0, 0) _ hb1 Try.underlying27 rfl info_prod ?_)
    | ((with_reducible refine gate_dst (N := 2) rfl ?_); refine copy_event rfl (N := 2) rfl rfl rfl (t := 27) (v := .tmp 4) rfl (cs := pcs p A1 c1 A2 c2 A3 c3) (zs := pzs) ?hr rfl rfl info_prod ?hz (pcs_one _ _ _ _ _ _ _) ?_; (case hr => first | (go_simp; done) | (go_simp; rfl)); (case hz => rfl); intro g2 hg w2 hb2 hbl2; clear hg; have HB2 := Aside0.mk hb2; have BL2 := Aside0.mk (below_step hbl1 hbl2); clear hb1 hbl1 hbl2; have q0 := (pc_cells hb2).1; clear hb2))
  refine (name_any p.name _ (HG.out.below BL2.out)).mono ?_
  rw [HN.out]
  rintro e w3 ⟨rfl, hb⟩
  have BL := Aside0.mk (below_step BL2.out hb)
  obtain ⟨_, q1, q2, q3, q4, q5, q6, _⟩ := pc_cells (blk_below HB2.out hb)
  clear hb HB2 BL2 q0 HG
  go_wp2_with fail
  refine (within_i_is HA.out _).mono ?_
  rintro e w' ⟨rfl, rfl⟩
  rcases hr with r1 | ⟨r1, r3⟩
  all_goals
    go_wp2_with fail
    refine (within_i_is HB.out _).mono ?_
    rintro e w' ⟨rfl, rfl⟩
    go_wp2_with fail
    refine (must_yes _).mono ?_
    rintro e w' ⟨rfl, rfl⟩
    go_wp2_with fail
    refine (must_no _).mono ?_
    rintro e w' ⟨rfl, rfl⟩
    exact ⟨rfl, rfl, BL.out⟩

/-- Every so many months. -/
def Ev (x : Int) : Prop := (x == 1) = true ∨ ((x == 1) = false ∧ (x == 2) = true) ∨ ((x == 1) = false ∧ (x == 2) = false ∧ (x == 3) = true) ∨ ((x == 1) = false ∧ (x == 2) = false ∧ (x == 3) = false ∧ (x == 4) = true) ∨ ((x == 1) = false ∧ (x == 2) = false ∧ (x == 3) = false ∧ (x == 4) = false ∧ (x == 6) = true) ∨ ((x == 1) = false ∧ (x == 2) = false ∧ (x == 3) = false ∧ (x == 4) = false ∧ (x == 6) = false ∧ (x == 12) = true)
theorem ev_of {x : Int} (h : x = 1 ∨ x = 2 ∨ x = 3 ∨ x = 4 ∨ x = 6 ∨ x = 12) : Ev x := by
  unfold Ev
  rcases h with rfl | rfl | rfl | rfl | rfl | rfl <;> decide

set_option maxRecDepth 100000 in
set_option maxHeartbeats 1000000 in
theorem shape_5 (p : Prod) (A1 : Option Addr) (c1 : Nat) (A2 : Option Addr) (c2 : Nat) (A3 : Option Addr) (c3 : Nat) (w : World) (hg : GV w) (hn : nameOk p.name.data.toList = true) (ha : decide (1 ≤ p.count ∧ p.count ≤ 3) = true) (hr : ((p.round == 1) = true) ∨ ((p.round == 1) = false ∧ (p.round == 3) = true)) (hb : decide (1 ≤ p.kind ∧ p.kind ≤ 3) = true) (he : Ev p.every) (hc : decide (1 ≤ p.times ∧ p.times ≤ 600) = false) :
    Calls Try.prog 59 #[pv p A1 c1 A2 c2 A3 c3] w fun e w' => e = refusedE ∧ Below w.heap.size w w' := by
  have HG := Aside0.mk hg
  have HN := Aside0.mk hn
  have HA := Aside0.mk ha
  have HB := Aside0.mk hb
  have HC := Aside0.mk hc
  clear hg hn ha hb hc
  go_enter Try.func59, Try.ntmps59
  go_wp2_with (first
    | ((with_reducible refine gate_dst (N := 1) rfl ?_); refine box_event ?hg (N := 1) ?hd (cs := pcs p A1 c1 A2 c2 A3 c3) (t := 88) ?hr ?_; (case hd => rfl); (case hg => rfl); (case hr => first | (go_simp; done) | (go_simp; rfl)); intro g1 hg w1 hb1 hbl1; clear hg)
    | ((with_reducible refine gate_dst (N := 4) rfl ?_); refine wpList_load_row rfl 27 (.tmp 3) rfl g1 rfl 88 _ (0, 0) _ hb1 Try.underlying27 rfl info_prod ?_)
    | ((with_reducible refine gate_dst (N := 2) rfl ?_); refine copy_event rfl (N := 2) rfl rfl rfl (t := 27) (v := .tmp 4) rfl (cs := pcs p A1 c1 A2 c2 A3 c3) (zs := pzs) ?hr rfl rfl info_prod ?hz (pcs_one _ _ _ _ _ _ _) ?_; (case hr => first | (go_simp; done) | (go_simp; rfl)); (case hz => rfl); intro g2 hg w2 hb2 hbl2; clear hg; have HB2 := Aside0.mk hb2; have BL2 := Aside0.mk (below_step hbl1 hbl2); clear hb1 hbl1 hbl2; have q0 := (pc_cells hb2).1; clear hb2))
  refine (name_any p.name _ (HG.out.below BL2.out)).mono ?_
  rw [HN.out]
  rintro e w3 ⟨rfl, hb⟩
  have BL := Aside0.mk (below_step BL2.out hb)
  obtain ⟨_, q1, q2, q3, q4, q5, q6, _⟩ := pc_cells (blk_below HB2.out hb)
  clear hb HB2 BL2 q0 HG
  go_wp2_with fail
  refine (within_i_is HA.out _).mono ?_
  rintro e w' ⟨rfl, rfl⟩
  rcases hr with r1 | ⟨r1, r3⟩
  all_goals
    go_wp2_with fail
    refine (within_i_is HB.out _).mono ?_
    rintro e w' ⟨rfl, rfl⟩
    go_wp2_with fail
    refine (must_yes _).mono ?_
    rintro e w' ⟨rfl, rfl⟩
    rcases he with e1 | ⟨e1, e2⟩ | ⟨e1, e2, e3⟩ | ⟨e1, e2, e3, e4⟩ | ⟨e1, e2, e3, e4, e6⟩ | ⟨e1, e2, e3, e4, e6, e12⟩
    all_goals
      go_wp2_with fail
      refine (must_yes _).mono ?_
      rintro e w' ⟨rfl, rfl⟩
      go_wp2_with fail
      refine (within_i_is HC.out _).mono ?_
      rintro e w' ⟨rfl, rfl⟩
      go_wp2_with fail
      refine (must_no _).mono ?_
      rintro e w' ⟨rfl, rfl⟩
      exact ⟨rfl, rfl, BL.out⟩

set_option maxRecDepth 100000 in
set_option maxHeartbeats 1000000 in
theorem shape_6 (p : Prod) (A1 : Option Addr) (c1 : Nat) (A2 : Option Addr) (c2 : Nat) (A3 : Option Addr) (c3 : Nat) (w : World) (hg : GV w) (hn : nameOk p.name.data.toList = true) (ha : decide (1 ≤ p.count ∧ p.count ≤ 3) = true) (hr : ((p.round == 1) = true) ∨ ((p.round == 1) = false ∧ (p.round == 3) = true)) (hb : decide (1 ≤ p.kind ∧ p.kind ≤ 3) = true) (he : Ev p.every) (hc : decide (1 ≤ p.times ∧ p.times ≤ 600) = true) (t1 : 1 ≤ p.times) (t2 : p.times ≤ 600) (hd : decide (0 ≤ p.grace ∧ p.grace ≤ p.times - 1) = false) :
    Calls Try.prog 59 #[pv p A1 c1 A2 c2 A3 c3] w fun e w' => e = refusedE ∧ Below w.heap.size w w' := by
  have HG := Aside0.mk hg
  have HN := Aside0.mk hn
  have HA := Aside0.mk ha
  have HB := Aside0.mk hb
  have HC := Aside0.mk hc
  have HD := Aside0.mk hd
  clear hg hn ha hb hc hd
  go_enter Try.func59, Try.ntmps59
  go_wp2_with (first
    | ((with_reducible refine gate_dst (N := 1) rfl ?_); refine box_event ?hg (N := 1) ?hd (cs := pcs p A1 c1 A2 c2 A3 c3) (t := 88) ?hr ?_; (case hd => rfl); (case hg => rfl); (case hr => first | (go_simp; done) | (go_simp; rfl)); intro g1 hg w1 hb1 hbl1; clear hg)
    | ((with_reducible refine gate_dst (N := 4) rfl ?_); refine wpList_load_row rfl 27 (.tmp 3) rfl g1 rfl 88 _ (0, 0) _ hb1 Try.underlying27 rfl info_prod ?_)
    | ((with_reducible refine gate_dst (N := 2) rfl ?_); refine copy_event rfl (N := 2) rfl rfl rfl (t := 27) (v := .tmp 4) rfl (cs := pcs p A1 c1 A2 c2 A3 c3) (zs := pzs) ?hr rfl rfl info_prod ?hz (pcs_one _ _ _ _ _ _ _) ?_; (case hr => first | (go_simp; done) | (go_simp; rfl)); (case hz => rfl); intro g2 hg w2 hb2 hbl2; clear hg; have HB2 := Aside0.mk hb2; have BL2 := Aside0.mk (below_step hbl1 hbl2); clear hb1 hbl1 hbl2; have q0 := (pc_cells hb2).1; clear hb2))
  refine (name_any p.name _ (HG.out.below BL2.out)).mono ?_
  rw [HN.out]
  rintro e w3 ⟨rfl, hb⟩
  have BL := Aside0.mk (below_step BL2.out hb)
  obtain ⟨_, q1, q2, q3, q4, q5, q6, _⟩ := pc_cells (blk_below HB2.out hb)
  clear hb HB2 BL2 q0 HG
  go_wp2_with fail
  refine (within_i_is HA.out _).mono ?_
  rintro e w' ⟨rfl, rfl⟩
  rcases hr with r1 | ⟨r1, r3⟩
  all_goals
    go_wp2_with fail
    refine (within_i_is HB.out _).mono ?_
    rintro e w' ⟨rfl, rfl⟩
    go_wp2_with fail
    refine (must_yes _).mono ?_
    rintro e w' ⟨rfl, rfl⟩
    rcases he with e1 | ⟨e1, e2⟩ | ⟨e1, e2, e3⟩ | ⟨e1, e2, e3, e4⟩ | ⟨e1, e2, e3, e4, e6⟩ | ⟨e1, e2, e3, e4, e6, e12⟩
    all_goals
      go_wp2_with fail
      refine (must_yes _).mono ?_
      rintro e w' ⟨rfl, rfl⟩
      go_wp2_with fail
      refine (within_i_is HC.out _).mono ?_
      rintro e w' ⟨rfl, rfl⟩
      go_wp2_with fail
      refine (within_i_is HD.out _).mono ?_
      rintro e w' ⟨rfl, rfl⟩
      go_wp2_with fail
      refine (must_no _).mono ?_
      rintro e w' ⟨rfl, rfl⟩
      exact ⟨rfl, rfl, BL.out⟩

set_option maxRecDepth 100000 in
set_option maxHeartbeats 1000000 in
theorem shape_7 (p : Prod) (A1 : Option Addr) (c1 : Nat) (A2 : Option Addr) (c2 : Nat) (A3 : Option Addr) (c3 : Nat) (w : World) (hg : GV w) (hn : nameOk p.name.data.toList = true) (ha : decide (1 ≤ p.count ∧ p.count ≤ 3) = true) (hr : ((p.round == 1) = true) ∨ ((p.round == 1) = false ∧ (p.round == 3) = true)) (hb : decide (1 ≤ p.kind ∧ p.kind ≤ 3) = true) (he : Ev p.every) (hc : decide (1 ≤ p.times ∧ p.times ≤ 600) = true) (t1 : 1 ≤ p.times) (t2 : p.times ≤ 600) (hd : decide (0 ≤ p.grace ∧ p.grace ≤ p.times - 1) = true) (k1 : (p.kind != 3) = false) (g0 : (p.grace == 0) = false) :
    Calls Try.prog 59 #[pv p A1 c1 A2 c2 A3 c3] w fun e w' => e = refusedE ∧ Below w.heap.size w w' := by
  have HG := Aside0.mk hg
  have HN := Aside0.mk hn
  have HA := Aside0.mk ha
  have HB := Aside0.mk hb
  have HC := Aside0.mk hc
  have HD := Aside0.mk hd
  clear hg hn ha hb hc hd
  go_enter Try.func59, Try.ntmps59
  go_wp2_with (first
    | ((with_reducible refine gate_dst (N := 1) rfl ?_); refine box_event ?hg (N := 1) ?hd (cs := pcs p A1 c1 A2 c2 A3 c3) (t := 88) ?hr ?_; (case hd => rfl); (case hg => rfl); (case hr => first | (go_simp; done) | (go_simp; rfl)); intro g1 hg w1 hb1 hbl1; clear hg)
    | ((with_reducible refine gate_dst (N := 4) rfl ?_); refine wpList_load_row rfl 27 (.tmp 3) rfl g1 rfl 88 _ (0, 0) _ hb1 Try.underlying27 rfl info_prod ?_)
    | ((with_reducible refine gate_dst (N := 2) rfl ?_); refine copy_event rfl (N := 2) rfl rfl rfl (t := 27) (v := .tmp 4) rfl (cs := pcs p A1 c1 A2 c2 A3 c3) (zs := pzs) ?hr rfl rfl info_prod ?hz (pcs_one _ _ _ _ _ _ _) ?_; (case hr => first | (go_simp; done) | (go_simp; rfl)); (case hz => rfl); intro g2 hg w2 hb2 hbl2; clear hg; have HB2 := Aside0.mk hb2; have BL2 := Aside0.mk (below_step hbl1 hbl2); clear hb1 hbl1 hbl2; have q0 := (pc_cells hb2).1; clear hb2))
  refine (name_any p.name _ (HG.out.below BL2.out)).mono ?_
  rw [HN.out]
  rintro e w3 ⟨rfl, hb⟩
  have BL := Aside0.mk (below_step BL2.out hb)
  obtain ⟨_, q1, q2, q3, q4, q5, q6, _⟩ := pc_cells (blk_below HB2.out hb)
  clear hb HB2 BL2 q0 HG
  go_wp2_with fail
  refine (within_i_is HA.out _).mono ?_
  rintro e w' ⟨rfl, rfl⟩
  rcases hr with r1 | ⟨r1, r3⟩
  all_goals
    go_wp2_with fail
    refine (within_i_is HB.out _).mono ?_
    rintro e w' ⟨rfl, rfl⟩
    go_wp2_with fail
    refine (must_yes _).mono ?_
    rintro e w' ⟨rfl, rfl⟩
    rcases he with e1 | ⟨e1, e2⟩ | ⟨e1, e2, e3⟩ | ⟨e1, e2, e3, e4⟩ | ⟨e1, e2, e3, e4, e6⟩ | ⟨e1, e2, e3, e4, e6, e12⟩
    all_goals
      go_wp2_with fail
      refine (must_yes _).mono ?_
      rintro e w' ⟨rfl, rfl⟩
      go_wp2_with fail
      refine (within_i_is HC.out _).mono ?_
      rintro e w' ⟨rfl, rfl⟩
      go_wp2_with fail
      refine (within_i_is HD.out _).mono ?_
      rintro e w' ⟨rfl, rfl⟩
      go_wp2_with fail
      refine (must_no _).mono ?_
      rintro e w' ⟨rfl, rfl⟩
      exact ⟨rfl, rfl, BL.out⟩

set_option maxRecDepth 100000 in
set_option maxHeartbeats 1000000 in
theorem shape_8 (p : Prod) (A1 : Option Addr) (c1 : Nat) (A2 : Option Addr) (c2 : Nat) (A3 : Option Addr) (c3 : Nat) (w : World) (hg : GV w) (hn : nameOk p.name.data.toList = true) (ha : decide (1 ≤ p.count ∧ p.count ≤ 3) = true) (hr : ((p.round == 1) = true) ∨ ((p.round == 1) = false ∧ (p.round == 3) = true)) (hb : decide (1 ≤ p.kind ∧ p.kind ≤ 3) = true) (he : Ev p.every) (hc : decide (1 ≤ p.times ∧ p.times ≤ 600) = true) (t1 : 1 ≤ p.times) (t2 : p.times ≤ 600) (hd : decide (0 ≤ p.grace ∧ p.grace ≤ p.times - 1) = true) (hk : (p.kind != 3) = true ∨ ((p.kind != 3) = false ∧ (p.grace == 0) = true)) :
    Calls Try.prog 59 #[pv p A1 c1 A2 c2 A3 c3] w fun e w' => e = .returned (.tuple #[]) ∧ Below w.heap.size w w' := by
  have HG := Aside0.mk hg
  have HN := Aside0.mk hn
  have HA := Aside0.mk ha
  have HB := Aside0.mk hb
  have HC := Aside0.mk hc
  have HD := Aside0.mk hd
  clear hg hn ha hb hc hd
  go_enter Try.func59, Try.ntmps59
  go_wp2_with (first
    | ((with_reducible refine gate_dst (N := 1) rfl ?_); refine box_event ?hg (N := 1) ?hd (cs := pcs p A1 c1 A2 c2 A3 c3) (t := 88) ?hr ?_; (case hd => rfl); (case hg => rfl); (case hr => first | (go_simp; done) | (go_simp; rfl)); intro g1 hg w1 hb1 hbl1; clear hg)
    | ((with_reducible refine gate_dst (N := 4) rfl ?_); refine wpList_load_row rfl 27 (.tmp 3) rfl g1 rfl 88 _ (0, 0) _ hb1 Try.underlying27 rfl info_prod ?_)
    | ((with_reducible refine gate_dst (N := 2) rfl ?_); refine copy_event rfl (N := 2) rfl rfl rfl (t := 27) (v := .tmp 4) rfl (cs := pcs p A1 c1 A2 c2 A3 c3) (zs := pzs) ?hr rfl rfl info_prod ?hz (pcs_one _ _ _ _ _ _ _) ?_; (case hr => first | (go_simp; done) | (go_simp; rfl)); (case hz => rfl); intro g2 hg w2 hb2 hbl2; clear hg; have HB2 := Aside0.mk hb2; have BL2 := Aside0.mk (below_step hbl1 hbl2); clear hb1 hbl1 hbl2; have q0 := (pc_cells hb2).1; clear hb2))
  refine (name_any p.name _ (HG.out.below BL2.out)).mono ?_
  rw [HN.out]
  rintro e w3 ⟨rfl, hb⟩
  have BL := Aside0.mk (below_step BL2.out hb)
  obtain ⟨_, q1, q2, q3, q4, q5, q6, _⟩ := pc_cells (blk_below HB2.out hb)
  clear hb HB2 BL2 q0 HG
  go_wp2_with fail
  refine (within_i_is HA.out _).mono ?_
  rintro e w' ⟨rfl, rfl⟩
  rcases hr with r1 | ⟨r1, r3⟩
  all_goals
    go_wp2_with fail
    refine (within_i_is HB.out _).mono ?_
    rintro e w' ⟨rfl, rfl⟩
    go_wp2_with fail
    refine (must_yes _).mono ?_
    rintro e w' ⟨rfl, rfl⟩
    rcases he with e1 | ⟨e1, e2⟩ | ⟨e1, e2, e3⟩ | ⟨e1, e2, e3, e4⟩ | ⟨e1, e2, e3, e4, e6⟩ | ⟨e1, e2, e3, e4, e6, e12⟩
    all_goals
      go_wp2_with fail
      refine (must_yes _).mono ?_
      rintro e w' ⟨rfl, rfl⟩
      go_wp2_with fail
      refine (within_i_is HC.out _).mono ?_
      rintro e w' ⟨rfl, rfl⟩
      go_wp2_with fail
      refine (within_i_is HD.out _).mono ?_
      rintro e w' ⟨rfl, rfl⟩
      rcases hk with k1 | ⟨k1, g0⟩
      all_goals
        go_wp2_with fail
        refine (must_yes _).mono ?_
        rintro e w' ⟨rfl, rfl⟩
        go_wp2_with fail
        go_end0
        exact ⟨rfl, BL.out⟩

/-- What a look ends with: nothing, or what is thrown. -/
def LookE (b : Bool) (w : World) (e : Ending) (w' : World) : Prop := (b = true → e = .returned (.tuple #[])) ∧ (b = false → e = refusedE) ∧ Below w.heap.size w w'
theorem LookE.no {w : World} {e : Ending} {w' : World} (h : e = refusedE ∧ Below w.heap.size w w') : LookE false w e w' := ⟨fun h => by (cases h), fun _ => h.1, h.2⟩
theorem LookE.yes {w : World} {e : Ending} {w' : World} (h : e = .returned (.tuple #[]) ∧ Below w.heap.size w w') : LookE true w e w' := ⟨fun _ => h.1, fun h => by (cases h), h.2⟩
theorem beqf {x y : Int} (h : ¬ x = y) : (x == y) = false := by rw [beq_eq_false_iff_ne]; exact h
theorem beqt {x y : Int} (h : x = y) : (x == y) = true := by rw [beq_iff_eq]; exact h
/-- A product's shape is looked at. -/
theorem shape_any (p : Prod) (A1 : Option Addr) (c1 : Nat) (A2 : Option Addr) (c2 : Nat) (A3 : Option Addr) (c3 : Nat) (w : World) (hg : GV w) : Calls Try.prog 59 #[pv p A1 c1 A2 c2 A3 c3] w (LookE (shapeOk p) w) := by
  cases hn : nameOk p.name.data.toList with
  | false =>
    rw [show shapeOk p = false by unfold shapeOk; rw [hn]; rfl]
    exact (shape_0 p A1 c1 A2 c2 A3 c3 w hg hn).mono fun e w' h => LookE.no h
  | true =>
    unfold shapeOk
    rw [hn, Bool.true_and]
    by_cases ha : 1 ≤ p.count ∧ p.count ≤ 3
    case neg =>
      rw [decide_eq_false (fun h => ha h.1)]
      exact (shape_1 p A1 c1 A2 c2 A3 c3 w hg hn (decide_eq_false ha)).mono fun e w' h => LookE.no h
    by_cases hr : p.round = 1 ∨ p.round = 3
    case neg =>
      rw [decide_eq_false (fun h => hr h.2.1)]
      exact (shape_2 p A1 c1 A2 c2 A3 c3 w hg hn (decide_eq_true ha) (beqf (fun h => hr (Or.inl h))) (beqf (fun h => hr (Or.inr h)))).mono fun e w' h => LookE.no h
    have hr' : ((p.round == 1) = true) ∨ ((p.round == 1) = false ∧ (p.round == 3) = true) := by
      rcases hr with h | h
      · exact Or.inl (beqt h)
      · exact Or.inr ⟨beqf (by omega), beqt h⟩
    by_cases hb : 1 ≤ p.kind ∧ p.kind ≤ 3
    case neg =>
      rw [decide_eq_false (fun h => hb h.2.2.1)]
      exact (shape_3 p A1 c1 A2 c2 A3 c3 w hg hn (decide_eq_true ha) hr' (decide_eq_false hb)).mono fun e w' h => LookE.no h
    by_cases he : p.every = 1 ∨ p.every = 2 ∨ p.every = 3 ∨ p.every = 4 ∨ p.every = 6 ∨ p.every = 12
    case neg =>
      rw [decide_eq_false (fun h => he h.2.2.2.1)]
      exact (shape_4 p A1 c1 A2 c2 A3 c3 w hg hn (decide_eq_true ha) hr' (decide_eq_true hb) (beqf (by omega)) (beqf (by omega)) (beqf (by omega)) (beqf (by omega)) (beqf (by omega)) (beqf (by omega))).mono fun e w' h => LookE.no h
    by_cases hc : 1 ≤ p.times ∧ p.times ≤ 600
    case neg =>
      rw [decide_eq_false (fun h => hc h.2.2.2.2.1)]
      exact (shape_5 p A1 c1 A2 c2 A3 c3 w hg hn (decide_eq_true ha) hr' (decide_eq_true hb) (ev_of he) (decide_eq_false hc)).mono fun e w' h => LookE.no h
    by_cases hd : 0 ≤ p.grace ∧ p.grace ≤ p.times - 1
    case neg =>
      rw [decide_eq_false (fun h => hd h.2.2.2.2.2.1)]
      exact (shape_6 p A1 c1 A2 c2 A3 c3 w hg hn (decide_eq_true ha) hr' (decide_eq_true hb) (ev_of he) (decide_eq_true hc) hc.1 hc.2 (decide_eq_false hd)).mono fun e w' h => LookE.no h
    by_cases hk : p.kind = 3 → p.grace = 0
    case neg =>
      rw [decide_eq_false (fun h => hk h.2.2.2.2.2.2)]
      exact (shape_7 p A1 c1 A2 c2 A3 c3 w hg hn (decide_eq_true ha) hr' (decide_eq_true hb) (ev_of he) (decide_eq_true hc) hc.1 hc.2 (decide_eq_true hd) (by simp; omega) (beqf (by omega))).mono fun e w' h => LookE.no h
    rw [decide_eq_true (show _ from ⟨ha, hr, hb, he, hc, hd, hk⟩)]
    refine (shape_8 p A1 c1 A2 c2 A3 c3 w hg hn (decide_eq_true ha) hr' (decide_eq_true hb) (ev_of he) (decide_eq_true hc) hc.1 hc.2 (decide_eq_true hd) ?_).mono fun e w' h => LookE.yes h
    by_cases h3 : p.kind = 3
    · exact Or.inr ⟨by simp [h3], beqt (hk h3)⟩
    · exact Or.inl (by simpa using h3)
end Go.Proofs.Ytcfpkkgdofblfaa.Pd
/- Words by hand: rows of two numbers; a new variable for each round. -/
namespace Go.Proofs.Ytcfpkkgdofblfaa.Pd
open Go.RowKit Go.Proofs.YtcfpkkgdofblfaaW.PrintWords Go.Proofs.YtcfpkkgdofblfaaW.PrintLast Go.Proofs.YtcfpkkgdofblfaaW.PrintMore Go.Proofs.Ytcfpkkgdofblfaa.HW
open Pm
set_option linter.unusedVariables false
set_option linter.unusedSimpArgs false
theorem cell_ltR {w : World} {ad : Addr} {v : Value} (h : w.cell? ad = some v) : ad.block < w.heap.size := by
  rcases Nat.lt_or_ge ad.block w.heap.size with h1 | h1
  · exact h1
  · exfalso
    have e : w.heap[ad.block]? = none := Array.getElem?_eq_none h1
    simp [World.cell?, e] at h
theorem add_blockR (ad : Addr) (n : Nat) : (ad.add n).block = ad.block := by simp only [Addr.add]; split <;> rfl
theorem add_fieldR (ad : Addr) (n j : Nat) (hj : 0 < j) : ad.add (n + j) = ⟨(ad.add n).block, (ad.add n).off + j, none⟩ := by
  simp only [Addr.add]
  rw [if_neg (by omega)]
  split
  · rename_i h; subst h; simp
  · simp; omega
/-- A row of two. -/
theorem two_at {w : World} {A : Option Addr} {rows : List (List Int)} (h : Op.IntRows w A 2 rows) (k : Nat) (hk : k < rows.length) : ∃ ad x y, A = some ad ∧ rows[k]? = some [x, y] ∧ w.cell? (ad.add (k * 2)) = some (.int .i64 x) ∧ w.cell? ⟨(ad.add (k * 2)).block, (ad.add (k * 2)).off + 1, none⟩ = some (.int .i64 y) ∧ (Lit.int .i64 x).wf = true ∧ (Lit.int .i64 y).wf = true := by
  obtain ⟨h1, h2⟩ := h.1 _ (List.getElem_mem hk)
  obtain ⟨ad, e, hc⟩ := h.2 k _ (List.getElem?_eq_getElem hk)
  rw [List.getElem?_eq_getElem hk]
  generalize rows[k] = r at *
  match r, h1 with
  | [x, y], _ => exact ⟨ad, x, y, e, rfl, hc 0 x rfl, by rw [← add_fieldR _ _ _ (by decide)]; exact hc 1 y rfl, h2 x (by simp), h2 y (by simp)⟩
theorem drop_row {rows : List (List Int)} {k : Nat} {r : List Int} (h : rows[k]? = some r) : rows.drop k = r :: rows.drop (k + 1) := by
  obtain ⟨hk, rfl⟩ := List.getElem?_eq_some_iff.1 h
  exact List.drop_eq_getElem_cons hk
section
variable {P : Program} {ops : Array Oper} {rest : List Oper} {a : Act} {Q : Exit → Act → World → Prop}
/-- A new variable, an assignment, and a whole value into it. -/
theorem copy_event3 {W : World} {o1 om o2 : Oper} (hg1 : o1.guard = none) {N : Tmp} (hd1 : o1.dst = some N) (hgm : om.guard = none) (hg2 : o2.guard = none) (hd2 : o2.dst = none) {t : TypeId} {v : Operand} (ho2 : o2.op = .store t (.tmp N) v) {cs zs : Array Value} {vm : Value}
    (hrun : (execOp a.eval o1).run P W = .ok (.value (.pointer (some ⟨W.heap.size, 0, none⟩))) (W.alloc (.cells zs t (0, 0))))
    (hrm : ∀ W', (execOp (a.put o1.dst (.pointer (some ⟨W.heap.size, 0, none⟩))).eval om).run P W' = .ok (.value vm) W')
    (hp : ((a.put o1.dst (.pointer (some ⟨W.heap.size, 0, none⟩))).put om.dst vm).eval (.tmp N) = .pointer (some ⟨W.heap.size, 0, none⟩))
    (hv : ((a.put o1.dst (.pointer (some ⟨W.heap.size, 0, none⟩))).put om.dst vm).eval v = .agg cs)
    (hi : (P.info? t).map (·.size) = some cs.size) (hz : zs.size = cs.size) (h1 : cs.all (·.oneCell') = true)
    (h : ∀ g, g = W.heap.size → ∀ w1, w1.heap[g]? = some (.cells cs t (0, 0)) → Below W.heap.size W w1 → wpList P ops Q rest ((a.put o1.dst (.pointer (some ⟨g, 0, none⟩))).put om.dst vm) w1) : wpList P ops Q (o1 :: om :: o2 :: rest) a W := by
  refine Kd.event_run hg1 hrun ?_
  refine Kd.event_run hgm (hrm _) ?_
  refine wpList_store_row hg2 t (.tmp N) v ho2 W.heap.size cs hp hv t zs (heap_alloc_new W _) hi hz h1 ?_
  rw [hd2, World.setRow_alloc_new]
  exact h _ rfl _ (blk_new W _) (below_alloc (Below.refl _ _) _)
end
theorem within_i0 {v a b : Int} {r : Bool} (h : decide (a ≤ v ∧ v ≤ b) = r) (w : World) : Calls Try.prog 83 #[.int .i64 v, .int .i64 a, .int .i64 b] w fun e w' => e = .returned (.bool r) ∧ w' = w := (within_i_is h w).mono fun _ _ h => ⟨h.1, h.2.symm⟩
theorem within_l0 {v a b : Int} {r : Bool} (h : decide (a ≤ v ∧ v ≤ b) = r) (w : World) : Calls Try.prog 84 #[.int .i64 v, .int .i64 a, .int .i64 b] w fun e w' => e = .returned (.bool r) ∧ w' = w := (within_l_is h w).mono fun _ _ h => ⟨h.1, h.2.symm⟩
theorem info_reset : (Try.prog.info? 116).map (·.size) = some 2 := by kernel_rfl
theorem info_tier : (Try.prog.info? 118).map (·.size) = some 2 := by kernel_rfl
theorem two_one (x y : Int) : (#[Value.int .i64 x, Value.int .i64 y]).all (·.oneCell') = true := by simp [Value.oneCell']
theorem wf_bd {x : Int} (h : (Lit.int .i64 x).wf = true) : -9223372036854775808 ≤ x ∧ x ≤ 9223372036854775807 := by
  have h := (Bool.and_eq_true _ _).mp h
  exact ⟨of_decide_eq_true h.1, of_decide_eq_true h.2⟩
/-- The number ahead, of a row that is not the first one. -/
def prevOf (d : Int) (j : Nat) (rows : List (List Int)) (k : Nat) : Int := if k = 0 then d else (rows.getD (k - 1) []).getD j 0
theorem prevOf_succ {d : Int} {j : Nat} {rows : List (List Int)} {k : Nat} {r : List Int} (h : rows[k]? = some r) : prevOf d j rows (k + 1) = r.getD j 0 := by
  unfold prevOf
  rw [if_neg (by omega)]
  have e : rows.getD k [] = r := by rw [List.getD_eq_getElem?_getD, h]; rfl
  show (rows.getD k []).getD j 0 = _
  rw [e]
theorem prevOf_pos {d : Int} {j : Nat} {rows : List (List Int)} {k : Nat} (h0 : 0 < k) {r : List Int} (h : rows[k - 1]? = some r) : prevOf d j rows k = r.getD j 0 := by
  unfold prevOf
  have e : rows.getD (k - 1) [] = r := by rw [List.getD_eq_getElem?_getD, h]; rfl
  rw [if_neg (by omega), e]
end Go.Proofs.Ytcfpkkgdofblfaa.Pd
/- Contracts by hand: a product's rates are looked at. -/
namespace Go.Proofs.Ytcfpkkgdofblfaa.Pd
open Go.RowKit Go.Proofs.YtcfpkkgdofblfaaW.PrintWords Go.Proofs.YtcfpkkgdofblfaaW.PrintLast Go.Proofs.YtcfpkkgdofblfaaW.PrintMore Go.Proofs.Ytcfpkkgdofblfaa.HW
open Pm
set_option linter.unusedVariables false
set_option linter.unusedSimpArgs false

set_option maxRecDepth 100000 in
set_option maxHeartbeats 2000000 in
theorem rates_1 (p : Prod) (A1 : Option Addr) (c1 : Nat) (A2 : Option Addr) (c2 : Nat) (A3 : Option Addr) (c3 : Nat) (w : World) (ha : decide (0 ≤ p.rate ∧ p.rate ≤ 1000000000) = false) :
    Calls Try.prog 60 #[pv p A1 c1 A2 c2 A3 c3] w (fun e w' => e = refusedE ∧ Below w.heap.size w w') := by
  have HA := Aside0.mk ha
  clear ha
  go_enter Try.func60, Try.ntmps60
  go_wp2_with (first
    | ((with_reducible refine gate_dst (N := 1) rfl ?_); refine box_event ?hg (N := 1) ?hd (cs := pcs p A1 c1 A2 c2 A3 c3) (t := 88) ?hr ?_; (case hd => rfl); (case hg => rfl); (case hr => first | (go_simp; done) | (go_simp; rfl)); intro g1 hg w1 hb1 hbl1; clear hg)
    | ((with_reducible refine gate_dst (N := 6) rfl ?_); refine wpList_load_row rfl 27 (.tmp 5) rfl g1 rfl 88 _ (0, 0) _ hb1 Try.underlying27 rfl info_prod ?_)
    | ((with_reducible refine gate_dst (N := 2) rfl ?_); refine copy_event rfl (N := 2) rfl rfl rfl (t := 27) (v := .tmp 6) rfl (cs := pcs p A1 c1 A2 c2 A3 c3) (zs := pzs) ?hr rfl rfl info_prod ?hz (pcs_one _ _ _ _ _ _ _) ?_; (case hr => first | (go_simp; done) | (go_simp; rfl)); (case hz => rfl); intro g2 hg w2 hb2 hbl2; have g2lt := blk_lt hb2; have g2ge := (show w.heap.size ≤ g2 by rw [hg]; exact hbl1.size); clear hg; have HB2 := Aside0.mk hb2; have BL2 := Aside0.mk (below_step hbl1 hbl2); clear hb1 hbl1 hbl2; have QQ := Aside0.mk (pc_cells hb2); clear hb2; obtain ⟨-, -, -, -, -, q5, -, q7, q8, q9, -⟩ := QQ.out))
  go_wp2_with fail
  refine (within_l_is HA.out _).mono ?_
  rintro e w' ⟨rfl, rfl⟩
  go_wp2_with fail
  refine (must_no _).mono ?_
  rintro e w' ⟨rfl, rfl⟩
  exact ⟨rfl, rfl, BL2.out⟩

set_option maxRecDepth 100000 in
set_option maxHeartbeats 2000000 in
theorem rates_2 (p : Prod) (A1 : Option Addr) (c1 : Nat) (A2 : Option Addr) (c2 : Nat) (A3 : Option Addr) (c3 : Nat) (w : World) (ha : decide (0 ≤ p.rate ∧ p.rate ≤ 1000000000) = true) (hb : decide (0 ≤ p.penalty ∧ p.penalty ≤ 1000000000) = false) :
    Calls Try.prog 60 #[pv p A1 c1 A2 c2 A3 c3] w (fun e w' => e = refusedE ∧ Below w.heap.size w w') := by
  have HA := Aside0.mk ha
  have HB := Aside0.mk hb
  clear ha hb
  go_enter Try.func60, Try.ntmps60
  go_wp2_with (first
    | ((with_reducible refine gate_dst (N := 1) rfl ?_); refine box_event ?hg (N := 1) ?hd (cs := pcs p A1 c1 A2 c2 A3 c3) (t := 88) ?hr ?_; (case hd => rfl); (case hg => rfl); (case hr => first | (go_simp; done) | (go_simp; rfl)); intro g1 hg w1 hb1 hbl1; clear hg)
    | ((with_reducible refine gate_dst (N := 6) rfl ?_); refine wpList_load_row rfl 27 (.tmp 5) rfl g1 rfl 88 _ (0, 0) _ hb1 Try.underlying27 rfl info_prod ?_)
    | ((with_reducible refine gate_dst (N := 2) rfl ?_); refine copy_event rfl (N := 2) rfl rfl rfl (t := 27) (v := .tmp 6) rfl (cs := pcs p A1 c1 A2 c2 A3 c3) (zs := pzs) ?hr rfl rfl info_prod ?hz (pcs_one _ _ _ _ _ _ _) ?_; (case hr => first | (go_simp; done) | (go_simp; rfl)); (case hz => rfl); intro g2 hg w2 hb2 hbl2; have g2lt := blk_lt hb2; have g2ge := (show w.heap.size ≤ g2 by rw [hg]; exact hbl1.size); clear hg; have HB2 := Aside0.mk hb2; have BL2 := Aside0.mk (below_step hbl1 hbl2); clear hb1 hbl1 hbl2; have QQ := Aside0.mk (pc_cells hb2); clear hb2; obtain ⟨-, -, -, -, -, q5, -, q7, q8, q9, -⟩ := QQ.out))
  go_wp2_with fail
  refine (within_l_is HA.out _).mono ?_
  rintro e w' ⟨rfl, rfl⟩
  go_wp2_with fail
  refine (within_l_is HB.out _).mono ?_
  rintro e w' ⟨rfl, rfl⟩
  go_wp2_with fail
  refine (must_no _).mono ?_
  rintro e w' ⟨rfl, rfl⟩
  exact ⟨rfl, rfl, BL2.out⟩

set_option maxRecDepth 100000 in
set_option maxHeartbeats 2000000 in
theorem rates_3 (p : Prod) (A1 : Option Addr) (c1 : Nat) (A2 : Option Addr) (c2 : Nat) (A3 : Option Addr) (c3 : Nat) (w : World) (ha : decide (0 ≤ p.rate ∧ p.rate ≤ 1000000000) = true) (hb : decide (0 ≤ p.penalty ∧ p.penalty ≤ 1000000000) = true) (hn : 20 < p.resets.length) (hm : p.resets.length ≤ 1000000) :
    Calls Try.prog 60 #[pv p A1 c1 A2 c2 A3 c3] w (fun e w' => e = refusedE ∧ Below w.heap.size w w') := by
  have HA := Aside0.mk ha
  have HB := Aside0.mk hb
  clear ha hb
  go_enter Try.func60, Try.ntmps60
  go_wp2_with (first
    | ((with_reducible refine gate_dst (N := 1) rfl ?_); refine box_event ?hg (N := 1) ?hd (cs := pcs p A1 c1 A2 c2 A3 c3) (t := 88) ?hr ?_; (case hd => rfl); (case hg => rfl); (case hr => first | (go_simp; done) | (go_simp; rfl)); intro g1 hg w1 hb1 hbl1; clear hg)
    | ((with_reducible refine gate_dst (N := 6) rfl ?_); refine wpList_load_row rfl 27 (.tmp 5) rfl g1 rfl 88 _ (0, 0) _ hb1 Try.underlying27 rfl info_prod ?_)
    | ((with_reducible refine gate_dst (N := 2) rfl ?_); refine copy_event rfl (N := 2) rfl rfl rfl (t := 27) (v := .tmp 6) rfl (cs := pcs p A1 c1 A2 c2 A3 c3) (zs := pzs) ?hr rfl rfl info_prod ?hz (pcs_one _ _ _ _ _ _ _) ?_; (case hr => first | (go_simp; done) | (go_simp; rfl)); (case hz => rfl); intro g2 hg w2 hb2 hbl2; have g2lt := blk_lt hb2; have g2ge := (show w.heap.size ≤ g2 by rw [hg]; exact hbl1.size); clear hg; have HB2 := Aside0.mk hb2; have BL2 := Aside0.mk (below_step hbl1 hbl2); clear hb1 hbl1 hbl2; have QQ := Aside0.mk (pc_cells hb2); clear hb2; obtain ⟨-, -, -, -, -, q5, -, q7, q8, q9, -⟩ := QQ.out))
  go_wp2_with fail
  refine (within_l_is HA.out _).mono ?_
  rintro e w' ⟨rfl, rfl⟩
  go_wp2_with fail
  refine (within_l_is HB.out _).mono ?_
  rintro e w' ⟨rfl, rfl⟩
  go_wp2_with fail
  refine (must_no_of (decide_eq_false (by omega)) _).mono ?_
  rintro e w' ⟨rfl, rfl⟩
  exact ⟨rfl, rfl, BL2.out⟩

set_option maxRecDepth 100000 in
set_option maxHeartbeats 2000000 in
theorem rates_4 (p : Prod) (A1 : Option Addr) (c1 : Nat) (A2 : Option Addr) (c2 : Nat) (A3 : Option Addr) (c3 : Nat) (w : World) (ha : decide (0 ≤ p.rate ∧ p.rate ≤ 1000000000) = true) (hb : decide (0 ≤ p.penalty ∧ p.penalty ≤ 1000000000) = true) (hn : p.resets.length ≤ 20) (t1 : 1 ≤ p.times) (t2 : p.times ≤ 600) (hr : Op.IntRows w A1 2 p.resets) (bb : Bool) (hbb : resetsOk p.times 0 p.resets = bb) :
    Calls Try.prog 60 #[pv p A1 c1 A2 c2 A3 c3] w (LookE bb w) := by
  have HA := Aside0.mk ha
  have HB := Aside0.mk hb
  have HR := Aside0.mk hr
  have HBB := Aside0.mk hbb
  clear ha hb hr hbb
  go_enter Try.func60, Try.ntmps60
  go_wp2_with (first
    | ((with_reducible refine gate_dst (N := 1) rfl ?_); refine box_event ?hg (N := 1) ?hd (cs := pcs p A1 c1 A2 c2 A3 c3) (t := 88) ?hr ?_; (case hd => rfl); (case hg => rfl); (case hr => first | (go_simp; done) | (go_simp; rfl)); intro g1 hg w1 hb1 hbl1; clear hg)
    | ((with_reducible refine gate_dst (N := 6) rfl ?_); refine wpList_load_row rfl 27 (.tmp 5) rfl g1 rfl 88 _ (0, 0) _ hb1 Try.underlying27 rfl info_prod ?_)
    | ((with_reducible refine gate_dst (N := 2) rfl ?_); refine copy_event rfl (N := 2) rfl rfl rfl (t := 27) (v := .tmp 6) rfl (cs := pcs p A1 c1 A2 c2 A3 c3) (zs := pzs) ?hr rfl rfl info_prod ?hz (pcs_one _ _ _ _ _ _ _) ?_; (case hr => first | (go_simp; done) | (go_simp; rfl)); (case hz => rfl); intro g2 hg w2 hb2 hbl2; have g2lt := blk_lt hb2; have g2ge := (show w.heap.size ≤ g2 by rw [hg]; exact hbl1.size); clear hg; have HB2 := Aside0.mk hb2; have BL2 := Aside0.mk (below_step hbl1 hbl2); clear hb1 hbl1 hbl2; have QQ := Aside0.mk (pc_cells hb2); clear hb2; obtain ⟨-, -, -, -, -, q5, -, q7, q8, q9, -⟩ := QQ.out))
  go_wp2_with fail
  refine (within_l_is HA.out _).mono ?_
  rintro e w' ⟨rfl, rfl⟩
  go_wp2_with fail
  refine (within_l_is HB.out _).mono ?_
  rintro e w' ⟨rfl, rfl⟩
  go_wp2_with fail
  refine (must_yes_of (decide_eq_true (by omega)) _).mono ?_
  rintro e w' ⟨rfl, rfl⟩
  go_wp2_with fail
  go_loopg [25] (p.resets.length + 1) (fun gq i w' => ∃ (k : Nat), k ≤ p.resets.length ∧ i = .int .i64 k ∧ Aside0 (gq = p.resets.length + 1 - k) ∧ Aside0 (resetsOk p.times (prevOf 0 0 p.resets k) (p.resets.drop k) = bb) ∧ Aside0 (Below w.heap.size w w' ∧ Below w2.heap.size w2 w'))
  case atStart => exact ⟨0, Nat.zero_le _, rfl, ⟨rfl⟩, ⟨by rw [← HBB.out]; rfl⟩, ⟨BL2.out, Below.refl _ _⟩⟩
  case round =>
    obtain ⟨k, hk, rfl, hgq, hq, hbl⟩ := hrel
    by_cases hlt : k < p.resets.length
    · obtain ⟨ad, x, y, e0, hrow, q0', q1', wx, wy⟩ := two_at (HR.out.below hbl.out.1) k hlt
      subst e0
      have hcs := hq.out
      rw [drop_row hrow] at hcs
      simp only [resetsOk] at hcs
      simp only [List.getD_cons_zero, List.getD_cons_succ] at hcs
      have hprev := prevOf_succ (d := 0) (j := 0) hrow
      simp only [List.getD_cons_zero] at hprev
      have HPREV := Aside0.mk hprev
      have adlt := cell_ltR q0'
      obtain ⟨bx0, bx1⟩ := wf_bd wx
      obtain ⟨by0, by1⟩ := wf_bd wy
      have HB3 := Aside0.mk (blk_below HB2.out hbl.out.2)
      have g2l := blk_lt HB3.out
      have kk0 : (0 : Int) ≤ (k : Int) := by omega
      have kk1 : (k : Int) < (p.resets.length : Int) := by omega
      have QP : Aside0 (0 < k → ∃ x' y', p.resets[k - 1]? = some [x', y'] ∧ wr.cell? (ad.add ((k - 1) * 2)) = some (.int .i64 x')) := ⟨fun h0 => by
        obtain ⟨ad', x', y', e', hrow', c', _⟩ := two_at (HR.out.below hbl.out.1) (k - 1) (by omega)
        obtain rfl : ad = ad' := Option.some.inj e'
        exact ⟨x', y', hrow', c'⟩⟩
      clear hq hrow hprev wx wy q5 q7 q8 q9
      go_wp2_with ((with_reducible refine gate_dst (N := 4) rfl ?_); refine copy_event3 rfl (N := 4) rfl rfl rfl rfl (t := 116) (v := .tmp 29) rfl (cs := #[.int .i64 x, .int .i64 y]) (zs := #[.int .i64 0, .int .i64 0]) (vm := .int .i64 k) ?hr ?hrm rfl rfl info_reset ?hz (two_one _ _) ?_; (case hr => first | (go_simp; done) | (go_simp; rfl)); (case hrm => intro W'; first | (go_simp; done) | (go_simp; rfl)); (case hz => rfl); intro g4 hg w4 hb4 hbl4; have g4lt := blk_lt hb4; clear hg)
      go_frame
      have z0 : w4.cell? ⟨g4, 0, none⟩ = some (.int .i64 x) := (blk_cell hb4 0).trans rfl
      have z1 : w4.cell? ⟨g4, 1, none⟩ = some (.int .i64 y) := (blk_cell hb4 1).trans rfl
      have HB5 := Aside0.mk (blk_below HB3.out hbl4)
      obtain ⟨-, -, -, -, -, q5, -, -, q8, -⟩ := pc_cells HB5.out
      have QP4 : Aside0 (0 < k → ∃ x' y', p.resets[k - 1]? = some [x', y'] ∧ w4.cell? (ad.add ((k - 1) * 2)) = some (.int .i64 x')) := ⟨fun h0 => by
        obtain ⟨x', y', h1, h2⟩ := QP.out h0
        exact ⟨x', y', h1, by rw [hbl4.cell (cell_ltR h2)]; exact h2⟩⟩
      have BL4 := Aside0.mk (And.intro (below_step hbl.out.1 hbl4) (below_step hbl.out.2 hbl4))
      clear hb4 hbl4 hbl HB3 QP q0' q1'
      have ew1 : IntKind.i64.wrap (p.times - 1) = p.times - 1 := IntWalk.i64_in _ (by omega)
      by_cases h1 : 1 ≤ x ∧ x ≤ p.times - 1
      · have H1 := Aside0.mk (decide_eq_true h1)
        by_cases h2 : 0 ≤ y ∧ y ≤ 1000000000
        · have H2 := Aside0.mk (decide_eq_true h2)
          by_cases h0 : k = 0
          · have hb2 : resetsOk p.times x (p.resets.drop (k + 1)) = bb := by
              rw [← hcs, decide_eq_true (show 1 ≤ x ∧ x ≤ p.times - 1 ∧ 0 ≤ y ∧ y ≤ 1000000000 ∧ prevOf 0 0 p.resets k < x from ⟨h1.1, h1.2, h2.1, h2.2, by have := h1.1; unfold prevOf; rw [if_pos h0]; omega⟩), Bool.true_and]
            have HB2' := Aside0.mk hb2
            have kz : ((k : Int) == 0) = true := by rw [h0]; rfl
            clear hcs hb2 h1 h2 h0
            go_quiet ((first
              | (go_at_call 83; refine (within_i_is H1.out _).mono ?_; rintro e w' ⟨rfl, rfl⟩; exact ⟨rfl, _, rfl⟩)
              | (go_at_call 84; refine (within_l_is H2.out _).mono ?_; rintro e w' ⟨rfl, rfl⟩; exact ⟨rfl, _, rfl⟩)
              | (go_at_call 81; refine (must_yes _).mono ?_; rintro e w' ⟨rfl, rfl⟩; exact ⟨rfl, _, rfl⟩)))
            go_wp2_with fail
            go_roundg (p.resets.length + 1 - (k + 1))
            case measure => have := hgq.out; omega
            case rel => exact ⟨k + 1, by omega, by simp, ⟨rfl⟩, ⟨by rw [HPREV.out]; exact HB2'.out⟩, ⟨pw_below_drewN BL4.out.1 _, pw_below_drewN BL4.out.2 _⟩⟩
          · obtain ⟨x', y', hrow', c'⟩ := QP4.out (by omega)
            have hpv := prevOf_pos (d := 0) (j := 0) (Nat.pos_of_ne_zero h0) hrow'
            simp only [List.getD_cons_zero] at hpv
            have kz : ((k : Int) == 0) = false := by rw [beq_eq_false_iff_ne]; omega
            have ew2 : IntKind.i64.wrap ((k : Int) - 1) = (k : Int) - 1 := IntWalk.i64_in _ (by omega)
            have kk2 : (0 : Int) ≤ (k : Int) - 1 := by omega
            have kk3 : (k : Int) - 1 < (p.resets.length : Int) := by omega
            have kk4 : (1 : Int) ≤ (k : Int) := by omega
            have ek : ((k : Int) - 1).toNat = k - 1 := by omega
            by_cases h3 : x' < x
            · have hb2 : resetsOk p.times x (p.resets.drop (k + 1)) = bb := by
                rw [← hcs, decide_eq_true (show 1 ≤ x ∧ x ≤ p.times - 1 ∧ 0 ≤ y ∧ y ≤ 1000000000 ∧ prevOf 0 0 p.resets k < x from ⟨h1.1, h1.2, h2.1, h2.2, by rw [hpv]; exact h3⟩), Bool.true_and]
              have HB2' := Aside0.mk hb2
              clear hcs hb2 h1 h2 h0 hpv hrow'
              go_quiet ((first
                | (go_at_call 83; refine (within_i_is H1.out _).mono ?_; rintro e w' ⟨rfl, rfl⟩; exact ⟨rfl, _, rfl⟩)
                | (go_at_call 84; refine (within_l_is H2.out _).mono ?_; rintro e w' ⟨rfl, rfl⟩; exact ⟨rfl, _, rfl⟩)
                | (go_at_call 81; refine (must_yes _).mono ?_; rintro e w' ⟨rfl, rfl⟩; exact ⟨rfl, _, rfl⟩)))
              clear ew1 ew2 ek
              go_wp2_with fail
              go_roundg (p.resets.length + 1 - (k + 1))
              case measure => have := hgq.out; omega
              case rel => exact ⟨k + 1, by omega, by simp, ⟨rfl⟩, ⟨by rw [HPREV.out]; exact HB2'.out⟩, ⟨pw_below_drewN BL4.out.1 _, pw_below_drewN BL4.out.2 _⟩⟩
            · have hbf : bb = false := by
                rw [← hcs, decide_eq_false (fun h => h3 (by have := h.2.2.2.2; rw [hpv] at this; exact this)), Bool.false_and]
              subst hbf
              have h4 : x ≤ x' := by omega
              have h5 : decide (x' < x) = false := decide_eq_false h3
              clear hcs h1 h2 h0 hpv hrow' h3
              refine wp_region_still_tail 27 (by kernel_rfl) (by kernel_rfl) ?_
              simp only [List.take_succ_cons, List.take_zero, List.drop_succ_cons, List.drop_zero]
              iterate 5 ((with_reducible refine wpStill_step (fun K hK => ?_)); go_simp; (try simp only [undef, reduceCtorEq, if_false]); (with_reducible refine hK _ ?_); clear hK K)
              still_call (within_i0 H1.out _)
              iterate 3 ((with_reducible refine wpStill_step (fun K hK => ?_)); go_simp; (try simp only [undef, reduceCtorEq, if_false]); (with_reducible refine hK _ ?_); clear hK K)
              still_call (within_l0 H2.out _)
              iterate 17 ((with_reducible refine wpStill_step (fun K hK => ?_)); go_simp; (try simp only [undef, reduceCtorEq, if_false]); (with_reducible refine hK _ ?_); clear hK K)
              (with_reducible refine wpStill_nil ?_)
              go_wp2_with ((go_at_call 81; refine (must_no _).mono ?_; rintro e w' ⟨rfl, rfl⟩))
              exact ⟨rfl, LookE.no ⟨rfl, BL4.out.1.drew⟩⟩
        · have hbf : bb = false := by
            rw [← hcs, decide_eq_false (fun h => h2 ⟨h.2.2.1, h.2.2.2.1⟩), Bool.false_and]
          subst hbf
          have H2 := Aside0.mk (decide_eq_false h2)
          clear hcs h1 h2
          refine wp_region_still_tail 27 (by kernel_rfl) (by kernel_rfl) ?_
          simp only [List.take_succ_cons, List.take_zero, List.drop_succ_cons, List.drop_zero]
          iterate 5 ((with_reducible refine wpStill_step (fun K hK => ?_)); go_simp; (try simp only [undef, reduceCtorEq, if_false]); (with_reducible refine hK _ ?_); clear hK K)
          still_call (within_i0 H1.out _)
          iterate 3 ((with_reducible refine wpStill_step (fun K hK => ?_)); go_simp; (try simp only [undef, reduceCtorEq, if_false]); (with_reducible refine hK _ ?_); clear hK K)
          still_call (within_l0 H2.out _)
          iterate 17 ((with_reducible refine wpStill_step (fun K hK => ?_)); go_simp; (try simp only [undef, reduceCtorEq, if_false]); (with_reducible refine hK _ ?_); clear hK K)
          (with_reducible refine wpStill_nil ?_)
          go_wp2_with ((go_at_call 81; refine (must_no _).mono ?_; rintro e w' ⟨rfl, rfl⟩))
          exact ⟨rfl, LookE.no ⟨rfl, BL4.out.1.drew⟩⟩
      · have hbf : bb = false := by
          rw [← hcs, decide_eq_false (fun h => h1 ⟨h.1, h.2.1⟩), Bool.false_and]
        subst hbf
        have H1 := Aside0.mk (decide_eq_false h1)
        clear hcs h1
        refine wp_region_still_tail 27 (by kernel_rfl) (by kernel_rfl) ?_
        simp only [List.take_succ_cons, List.take_zero, List.drop_succ_cons, List.drop_zero]
        iterate 5 ((with_reducible refine wpStill_step (fun K hK => ?_)); go_simp; (try simp only [undef, reduceCtorEq, if_false]); (with_reducible refine hK _ ?_); clear hK K)
        still_call (within_i0 H1.out _)
        iterate 21 ((with_reducible refine wpStill_step (fun K hK => ?_)); go_simp; (try simp only [undef, reduceCtorEq, if_false]); (with_reducible refine hK _ ?_); clear hK K)
        (with_reducible refine wpStill_nil ?_)
        go_wp2_with ((go_at_call 81; refine (must_no _).mono ?_; rintro e w' ⟨rfl, rfl⟩))
        exact ⟨rfl, LookE.no ⟨rfl, BL4.out.1.drew⟩⟩
    · have hk2 : k = p.resets.length := by omega
      subst hk2
      have hcs := hq.out
      rw [List.drop_length] at hcs
      obtain rfl : true = bb := hcs
      clear hq
      go_wp2_with fail
      go_end0
      exact LookE.yes ⟨rfl, hbl.out.1⟩
/-- A product's rates are looked at. -/
theorem rates_any (p : Prod) (A1 : Option Addr) (c1 : Nat) (A2 : Option Addr) (c2 : Nat) (A3 : Option Addr) (c3 : Nat) (w : World) (t1 : 1 ≤ p.times) (t2 : p.times ≤ 600) (hr : Op.IntRows w A1 2 p.resets) (hm : p.resets.length ≤ 1000000) :
    Calls Try.prog 60 #[pv p A1 c1 A2 c2 A3 c3] w (LookE (ratesOk p) w) := by
  unfold ratesOk
  by_cases ha : 0 ≤ p.rate ∧ p.rate ≤ 1000000000
  case neg =>
    rw [decide_eq_false (fun h => ha h.1), Bool.false_and]
    exact (rates_1 p A1 c1 A2 c2 A3 c3 w (decide_eq_false ha)).mono fun e w' h => LookE.no h
  by_cases hb : 0 ≤ p.penalty ∧ p.penalty ≤ 1000000000
  case neg =>
    rw [decide_eq_false (fun h => hb h.2.1), Bool.false_and]
    exact (rates_2 p A1 c1 A2 c2 A3 c3 w (decide_eq_true ha) (decide_eq_false hb)).mono fun e w' h => LookE.no h
  by_cases hn : p.resets.length ≤ 20
  case neg =>
    rw [decide_eq_false (fun h => hn h.2.2), Bool.false_and]
    exact (rates_3 p A1 c1 A2 c2 A3 c3 w (decide_eq_true ha) (decide_eq_true hb) (by omega) hm).mono fun e w' h => LookE.no h
  rw [decide_eq_true (show _ from ⟨ha, hb, hn⟩), Bool.true_and]
  exact rates_4 p A1 c1 A2 c2 A3 c3 w (decide_eq_true ha) (decide_eq_true hb) hn t1 t2 hr _ rfl
end Go.Proofs.Ytcfpkkgdofblfaa.Pd
/- Contracts by hand: a product's order are looked at. -/
namespace Go.Proofs.Ytcfpkkgdofblfaa.Pd
open Go.RowKit Go.Proofs.YtcfpkkgdofblfaaW.PrintWords Go.Proofs.YtcfpkkgdofblfaaW.PrintLast Go.Proofs.YtcfpkkgdofblfaaW.PrintMore Go.Proofs.Ytcfpkkgdofblfaa.HW
open Pm
set_option linter.unusedVariables false
set_option linter.unusedSimpArgs false

/-- What was met, by kinds. -/
abbrev seenC (l : List Int) : Array Value := #[.bool (l.contains 0), .bool (l.contains 1), .bool (l.contains 2), .bool (l.contains 3), .bool (l.contains 4)]
/-- Each is a kind, and none was met before. -/
def ordR : List Int → List Int → Bool
  | _, [] => true
  | seen, o :: l => decide (1 ≤ o ∧ o ≤ 4) && (!seen.contains o && ordR (o :: seen) l)
theorem ordR_is (a b c d : Int) : ordR [] [a, b, c, d] = orderOk a b c d := by
  unfold orderOk
  simp only [ordR, List.contains_cons, List.contains_nil, Bool.or_false, Bool.not_false, Bool.true_and, Bool.and_true, Bool.not_or]
  rw [Bool.eq_iff_iff]
  simp only [Bool.and_eq_true, decide_eq_true_eq, Bool.not_eq_true', beq_eq_false_iff_ne]
  constructor
  · rintro ⟨h1, h2, h3, h4, ⟨h5, h6⟩, h7, ⟨h8, h9, h10⟩⟩
    exact ⟨h1, h2, h4, h7, Ne.symm h3, Ne.symm h6, Ne.symm h10, Ne.symm h5, Ne.symm h9, Ne.symm h8⟩
  · rintro ⟨h1, h2, h4, h7, h3, h6, h10, h5, h9, h8⟩
    exact ⟨h1, h2, Ne.symm h3, h4, ⟨Ne.symm h5, Ne.symm h6⟩, h7, ⟨Ne.symm h8, Ne.symm h9, Ne.symm h10⟩⟩
theorem index_ord (a b c d : Int) (k : Nat) (hk : k < 4) (w : World) : (Instr.index 23 (.agg #[.int .i64 a, .int .i64 b, .int .i64 c, .int .i64 d]) (.int .i64 k)).run Try.prog w = .ok (.int .i64 ([a, b, c, d].getD k 0)) w := by
  rcases (by omega : k = 0 ∨ k = 1 ∨ k = 2 ∨ k = 3) with rfl | rfl | rfl | rfl <;> kernel_rfl
set_option maxRecDepth 100000 in
set_option maxHeartbeats 2000000 in
theorem order_1 (p : Prod) (A1 : Option Addr) (c1 : Nat) (A2 : Option Addr) (c2 : Nat) (A3 : Option Addr) (c3 : Nat) (w : World) (ov : Bool) (bb : Bool) (hbb : ordR [] [p.o1, p.o2, p.o3, p.o4] = bb) (hv : bb = true → Aside0 (decide (1 ≤ p.over ∧ p.over ≤ 3) = ov)) :
    Calls Try.prog 61 #[pv p A1 c1 A2 c2 A3 c3] w (LookE (bb && ov) w) := by
  have HBB := Aside0.mk hbb
  have HV := Aside0.mk hv
  clear hbb hv
  go_enter Try.func61, Try.ntmps61
  go_wp2_with (first
    | ((with_reducible refine gate_dst (N := 1) rfl ?_); refine box_event ?hg (N := 1) ?hd (cs := pcs p A1 c1 A2 c2 A3 c3) (t := 88) ?hr ?_; (case hd => rfl); (case hg => rfl); (case hr => first | (go_simp; done) | (go_simp; rfl)); intro g1 hg w1 hb1 hbl1; clear hg; have HB1 := Aside0.mk hb1; have BL1 := Aside0.mk hbl1; clear hb1 hbl1)
    | ((with_reducible refine gate_dst (N := 2) rfl ?_); refine Hid.out ?_))
  refine Lib.hid ?_
  refine box_event ?hg (N := 2) ?hd (cs := #[.bool false, .bool false, .bool false, .bool false, .bool false]) (t := 121) ?hr ?_
  case hd => rfl
  case hg => rfl
  case hr => first | (go_simp; done) | (go_simp; rfl)
  intro g2 hg w2 hb2 hbl2
  have hg2 := hg; clear hg; have HB2 := Aside0.mk (show w2.heap[g2]? = some (.cells (seenC []) 121 (0, 0)) from hb2); have BL2 := Aside0.mk (below_step BL1.out hbl2); have BL12 := Aside0.mk hbl2; have g2ge : w1.heap.size ≤ g2 := (by omega); have HB3 := Aside0.mk (blk_below HB1.out hbl2); have g1l := blk_lt HB1.out; have g12 : g1 ≠ g2 := (by omega); clear hg2 g1l; obtain ⟨-, -, -, -, -, -, -, -, -, -, q10, q11, q12, q13, -⟩ := pc_cells HB3.out; clear hb2 hbl2
  go_wp2_with fail
  clear q10 q11 q12 q13
  obtain ⟨os, hos⟩ : ∃ os : List Int, [p.o1, p.o2, p.o3, p.o4] = os := ⟨_, rfl⟩
  have hidx0 := index_ord p.o1 p.o2 p.o3 p.o4
  rw [hos] at hidx0
  have hlen : os.length = 4 := by rw [← hos]; rfl
  have HIDX := Aside0.mk hidx0
  have HLEN := Aside0.mk hlen
  have HBO := Aside0.mk (show ordR [] os = bb by rw [← hos]; exact HBB.out)
  clear hidx0 hlen hos HBB
  go_loopg [8] 5 (fun gq i w' => ∃ (k : Nat), k ≤ 4 ∧ i = .int .i64 k ∧ Aside0 (gq = 5 - k) ∧ Aside0 (ordR (os.take k).reverse (os.drop k) = bb) ∧ Aside0 (w'.heap[g2]? = some (.cells (seenC (os.take k).reverse) 121 (0, 0))) ∧ Aside0 (Below w.heap.size w w' ∧ Below w1.heap.size w1 w'))
  case atStart => exact ⟨0, by omega, rfl, ⟨rfl⟩, ⟨by simpa using HBO.out⟩, HB2, ⟨BL2.out, BL12.out⟩⟩
  case round =>
    obtain ⟨k, hk, rfl, hgq, hq, hb, hbl⟩ := hrel
    by_cases hlt : k < 4
    · have hidx := HIDX.out k hlt
      have hdr : os.drop k = os.getD k 0 :: os.drop (k + 1) := by
        rw [List.drop_eq_getElem_cons (by rw [HLEN.out]; exact hlt), List.getD_eq_getElem?_getD, List.getElem?_eq_getElem (by rw [HLEN.out]; exact hlt)]; rfl
      have htk : (os.take (k + 1)).reverse = os.getD k 0 :: (os.take k).reverse := by
        rw [List.take_succ_eq_append_getElem (by rw [HLEN.out]; exact hlt), List.reverse_append, List.getD_eq_getElem?_getD, List.getElem?_eq_getElem (by rw [HLEN.out]; exact hlt)]; rfl
      have HQ := hq.out
      rw [hdr] at HQ
      simp only [ordR] at HQ
      generalize os.getD k 0 = o at *
      generalize (os.take k).reverse = l at *
      have HTK := Aside0.mk htk
      clear hdr htk hq
      by_cases h1 : 1 ≤ o ∧ o ≤ 4
      · rw [decide_eq_true h1, Bool.true_and] at HQ
        have H1 := Aside0.mk (decide_eq_true h1)
        have cs0 := fun j => blk_cell hb.out j
        rcases (by omega : o = 1 ∨ o = 2 ∨ o = 3 ∨ o = 4) with rfl | rfl | rfl | rfl
        · clear h1
          have fz := frozen_of_row wr g2 1 _ _ hb.out
          cases hc : l.contains 1 with
          | true =>
            rw [hc, Bool.not_true, Bool.false_and] at HQ
            subst HQ
            have cj : wr.cell? ⟨g2, 1, none⟩ = some (.bool true) := (blk_cell hb.out 1).trans (by show some (Value.bool (l.contains 1)) = _; rw [hc])
            clear hc cs0
            go_wp2_with (first
              | (go_at_call 83; refine (within_i_is H1.out _).mono ?_; rintro e w' ⟨rfl, rfl⟩)
              | (go_at_call 81; refine (must_no _).mono ?_; rintro e w' ⟨rfl, rfl⟩))
            exact ⟨rfl, LookE.no ⟨rfl, hbl.out.1⟩⟩
          | false =>
            rw [hc, Bool.not_false, Bool.true_and] at HQ
            have cj : wr.cell? ⟨g2, 1, none⟩ = some (.bool false) := (blk_cell hb.out 1).trans (by show some (Value.bool (l.contains 1)) = _; rw [hc])
            have HQ2 := Aside0.mk HQ
            clear hc cs0 HQ
            go_wp2_with (first
              | (go_at_call 83; refine (within_i_is H1.out _).mono ?_; rintro e w' ⟨rfl, rfl⟩)
              | (go_at_call 81; refine (must_yes _).mono ?_; rintro e w' ⟨rfl, rfl⟩))
            go_roundg (5 - (k + 1))
            case measure => have := hgq.out; omega
            case rel => exact ⟨k + 1, by omega, by simp, ⟨rfl⟩, ⟨by rw [HTK.out]; exact HQ2.out⟩, ⟨by rw [heap_setCell_same _ _ _ _ _ _ hb.out, HTK.out]; simp⟩, ⟨hbl.out.1.setCell (by have := BL1.out.size; simp; omega) _, hbl.out.2.setCell (by simp; omega) _⟩⟩
        · clear h1
          have fz := frozen_of_row wr g2 2 _ _ hb.out
          cases hc : l.contains 2 with
          | true =>
            rw [hc, Bool.not_true, Bool.false_and] at HQ
            subst HQ
            have cj : wr.cell? ⟨g2, 2, none⟩ = some (.bool true) := (blk_cell hb.out 2).trans (by show some (Value.bool (l.contains 2)) = _; rw [hc])
            clear hc cs0
            go_wp2_with (first
              | (go_at_call 83; refine (within_i_is H1.out _).mono ?_; rintro e w' ⟨rfl, rfl⟩)
              | (go_at_call 81; refine (must_no _).mono ?_; rintro e w' ⟨rfl, rfl⟩))
            exact ⟨rfl, LookE.no ⟨rfl, hbl.out.1⟩⟩
          | false =>
            rw [hc, Bool.not_false, Bool.true_and] at HQ
            have cj : wr.cell? ⟨g2, 2, none⟩ = some (.bool false) := (blk_cell hb.out 2).trans (by show some (Value.bool (l.contains 2)) = _; rw [hc])
            have HQ2 := Aside0.mk HQ
            clear hc cs0 HQ
            go_wp2_with (first
              | (go_at_call 83; refine (within_i_is H1.out _).mono ?_; rintro e w' ⟨rfl, rfl⟩)
              | (go_at_call 81; refine (must_yes _).mono ?_; rintro e w' ⟨rfl, rfl⟩))
            go_roundg (5 - (k + 1))
            case measure => have := hgq.out; omega
            case rel => exact ⟨k + 1, by omega, by simp, ⟨rfl⟩, ⟨by rw [HTK.out]; exact HQ2.out⟩, ⟨by rw [heap_setCell_same _ _ _ _ _ _ hb.out, HTK.out]; simp⟩, ⟨hbl.out.1.setCell (by have := BL1.out.size; simp; omega) _, hbl.out.2.setCell (by simp; omega) _⟩⟩
        · clear h1
          have fz := frozen_of_row wr g2 3 _ _ hb.out
          cases hc : l.contains 3 with
          | true =>
            rw [hc, Bool.not_true, Bool.false_and] at HQ
            subst HQ
            have cj : wr.cell? ⟨g2, 3, none⟩ = some (.bool true) := (blk_cell hb.out 3).trans (by show some (Value.bool (l.contains 3)) = _; rw [hc])
            clear hc cs0
            go_wp2_with (first
              | (go_at_call 83; refine (within_i_is H1.out _).mono ?_; rintro e w' ⟨rfl, rfl⟩)
              | (go_at_call 81; refine (must_no _).mono ?_; rintro e w' ⟨rfl, rfl⟩))
            exact ⟨rfl, LookE.no ⟨rfl, hbl.out.1⟩⟩
          | false =>
            rw [hc, Bool.not_false, Bool.true_and] at HQ
            have cj : wr.cell? ⟨g2, 3, none⟩ = some (.bool false) := (blk_cell hb.out 3).trans (by show some (Value.bool (l.contains 3)) = _; rw [hc])
            have HQ2 := Aside0.mk HQ
            clear hc cs0 HQ
            go_wp2_with (first
              | (go_at_call 83; refine (within_i_is H1.out _).mono ?_; rintro e w' ⟨rfl, rfl⟩)
              | (go_at_call 81; refine (must_yes _).mono ?_; rintro e w' ⟨rfl, rfl⟩))
            go_roundg (5 - (k + 1))
            case measure => have := hgq.out; omega
            case rel => exact ⟨k + 1, by omega, by simp, ⟨rfl⟩, ⟨by rw [HTK.out]; exact HQ2.out⟩, ⟨by rw [heap_setCell_same _ _ _ _ _ _ hb.out, HTK.out]; simp⟩, ⟨hbl.out.1.setCell (by have := BL1.out.size; simp; omega) _, hbl.out.2.setCell (by simp; omega) _⟩⟩
        · clear h1
          have fz := frozen_of_row wr g2 4 _ _ hb.out
          cases hc : l.contains 4 with
          | true =>
            rw [hc, Bool.not_true, Bool.false_and] at HQ
            subst HQ
            have cj : wr.cell? ⟨g2, 4, none⟩ = some (.bool true) := (blk_cell hb.out 4).trans (by show some (Value.bool (l.contains 4)) = _; rw [hc])
            clear hc cs0
            go_wp2_with (first
              | (go_at_call 83; refine (within_i_is H1.out _).mono ?_; rintro e w' ⟨rfl, rfl⟩)
              | (go_at_call 81; refine (must_no _).mono ?_; rintro e w' ⟨rfl, rfl⟩))
            exact ⟨rfl, LookE.no ⟨rfl, hbl.out.1⟩⟩
          | false =>
            rw [hc, Bool.not_false, Bool.true_and] at HQ
            have cj : wr.cell? ⟨g2, 4, none⟩ = some (.bool false) := (blk_cell hb.out 4).trans (by show some (Value.bool (l.contains 4)) = _; rw [hc])
            have HQ2 := Aside0.mk HQ
            clear hc cs0 HQ
            go_wp2_with (first
              | (go_at_call 83; refine (within_i_is H1.out _).mono ?_; rintro e w' ⟨rfl, rfl⟩)
              | (go_at_call 81; refine (must_yes _).mono ?_; rintro e w' ⟨rfl, rfl⟩))
            go_roundg (5 - (k + 1))
            case measure => have := hgq.out; omega
            case rel => exact ⟨k + 1, by omega, by simp, ⟨rfl⟩, ⟨by rw [HTK.out]; exact HQ2.out⟩, ⟨by rw [heap_setCell_same _ _ _ _ _ _ hb.out, HTK.out]; simp⟩, ⟨hbl.out.1.setCell (by have := BL1.out.size; simp; omega) _, hbl.out.2.setCell (by simp; omega) _⟩⟩
      · rw [decide_eq_false h1, Bool.false_and] at HQ
        subst HQ
        have H1 := Aside0.mk (decide_eq_false h1)
        clear h1
        go_wp2_with (first
          | (go_at_call 83; refine (within_i_is H1.out _).mono ?_; rintro e w' ⟨rfl, rfl⟩)
          | (go_at_call 81; refine (must_no _).mono ?_; rintro e w' ⟨rfl, rfl⟩))
        exact ⟨rfl, LookE.no ⟨rfl, hbl.out.1⟩⟩
    · have hk4 : k = 4 := by omega
      subst hk4
      have HQ := hq.out
      rw [List.drop_of_length_le (by rw [HLEN.out]; omega)] at HQ
      obtain rfl : true = bb := HQ
      obtain ⟨-, -, -, -, -, -, -, -, -, -, -, -, -, -, q14, -⟩ := pc_cells (blk_below HB1.out hbl.out.2)
      have H1 := HV.out rfl
      clear hq hb
      cases ov with
      | true =>
        go_wp2_with (first
          | (go_at_call 83; refine (within_i_is H1.out _).mono ?_; rintro e w' ⟨rfl, rfl⟩)
          | (go_at_call 81; refine (must_yes _).mono ?_; rintro e w' ⟨rfl, rfl⟩))
        go_end0
        exact LookE.yes ⟨rfl, hbl.out.1⟩
      | false =>
        go_wp2_with (first
          | (go_at_call 83; refine (within_i_is H1.out _).mono ?_; rintro e w' ⟨rfl, rfl⟩)
          | (go_at_call 81; refine (must_no _).mono ?_; rintro e w' ⟨rfl, rfl⟩))
        exact ⟨rfl, LookE.no ⟨rfl, hbl.out.1⟩⟩
/-- A product's order is looked at. -/
theorem order_any (p : Prod) (A1 : Option Addr) (c1 : Nat) (A2 : Option Addr) (c2 : Nat) (A3 : Option Addr) (c3 : Nat) (w : World) :
    Calls Try.prog 61 #[pv p A1 c1 A2 c2 A3 c3] w (LookE (ordOk p) w) := by
  unfold ordOk
  rw [← ordR_is]
  exact order_1 p A1 c1 A2 c2 A3 c3 w _ _ rfl (fun _ => ⟨rfl⟩)
end Go.Proofs.Ytcfpkkgdofblfaa.Pd
/- Contracts by hand: a product's late fees are looked at. -/
namespace Go.Proofs.Ytcfpkkgdofblfaa.Pd
open Go.RowKit Go.Proofs.YtcfpkkgdofblfaaW.PrintWords Go.Proofs.YtcfpkkgdofblfaaW.PrintLast Go.Proofs.YtcfpkkgdofblfaaW.PrintMore Go.Proofs.Ytcfpkkgdofblfaa.HW
open Pm
set_option linter.unusedVariables false
set_option linter.unusedSimpArgs false


set_option maxRecDepth 100000 in
set_option maxHeartbeats 2000000 in
theorem late_1 (p : Prod) (A1 : Option Addr) (c1 : Nat) (A2 : Option Addr) (c2 : Nat) (A3 : Option Addr) (c3 : Nat) (w : World) (q8 : decide ((p.late.length : Int) ≤ 8) = false) :
    Calls Try.prog 62 #[pv p A1 c1 A2 c2 A3 c3] w (fun e w' => e = refusedE ∧ Below w.heap.size w w') := by
  go_enter Try.func62, Try.ntmps62
  go_wp2_with (first
    | ((with_reducible refine gate_dst (N := 1) rfl ?_); refine box_event ?hg (N := 1) ?hd (cs := pcs p A1 c1 A2 c2 A3 c3) (t := 88) ?hr ?_; (case hd => rfl); (case hg => rfl); (case hr => first | (go_simp; done) | (go_simp; rfl)); intro g1 hg w1 hb1 hbl1; clear hg)
    | ((with_reducible refine gate_dst (N := 6) rfl ?_); refine wpList_load_row rfl 27 (.tmp 5) rfl g1 rfl 88 _ (0, 0) _ hb1 Try.underlying27 rfl info_prod ?_)
    | ((with_reducible refine gate_dst (N := 2) rfl ?_); refine copy_event rfl (N := 2) rfl rfl rfl (t := 27) (v := .tmp 6) rfl (cs := pcs p A1 c1 A2 c2 A3 c3) (zs := pzs) ?hr rfl rfl info_prod ?hz (pcs_one _ _ _ _ _ _ _) ?_; (case hr => first | (go_simp; done) | (go_simp; rfl)); (case hz => rfl); intro g2 hg w2 hb2 hbl2; have g2lt := blk_lt hb2; have g2ge := (show w.heap.size ≤ g2 by rw [hg]; exact hbl1.size); clear hg; have HB2 := Aside0.mk hb2; have BL2 := Aside0.mk (below_step hbl1 hbl2); clear hb1 hbl1 hbl2; have QQ := Aside0.mk (pc_cells hb2); clear hb2; obtain ⟨-, -, -, -, -, -, -, -, -, -, -, -, -, -, -, q15, q16, -⟩ := QQ.out))
  go_wp2_with fail
  refine (must_no _).mono ?_
  rintro e w' ⟨rfl, rfl⟩
  exact ⟨rfl, rfl, BL2.out⟩

set_option maxRecDepth 100000 in
set_option maxHeartbeats 2000000 in
theorem late_2 (p : Prod) (A1 : Option Addr) (c1 : Nat) (A2 : Option Addr) (c2 : Nat) (A3 : Option Addr) (c3 : Nat) (w : World) (q8 : decide ((p.late.length : Int) ≤ 8) = true) (hn : p.late.length ≤ 8) (ha : decide (0 ≤ p.cap ∧ p.cap ≤ 10000000000000) = false) :
    Calls Try.prog 62 #[pv p A1 c1 A2 c2 A3 c3] w (fun e w' => e = refusedE ∧ Below w.heap.size w w') := by
  have HA := Aside0.mk ha
  clear ha
  go_enter Try.func62, Try.ntmps62
  go_wp2_with (first
    | ((with_reducible refine gate_dst (N := 1) rfl ?_); refine box_event ?hg (N := 1) ?hd (cs := pcs p A1 c1 A2 c2 A3 c3) (t := 88) ?hr ?_; (case hd => rfl); (case hg => rfl); (case hr => first | (go_simp; done) | (go_simp; rfl)); intro g1 hg w1 hb1 hbl1; clear hg)
    | ((with_reducible refine gate_dst (N := 6) rfl ?_); refine wpList_load_row rfl 27 (.tmp 5) rfl g1 rfl 88 _ (0, 0) _ hb1 Try.underlying27 rfl info_prod ?_)
    | ((with_reducible refine gate_dst (N := 2) rfl ?_); refine copy_event rfl (N := 2) rfl rfl rfl (t := 27) (v := .tmp 6) rfl (cs := pcs p A1 c1 A2 c2 A3 c3) (zs := pzs) ?hr rfl rfl info_prod ?hz (pcs_one _ _ _ _ _ _ _) ?_; (case hr => first | (go_simp; done) | (go_simp; rfl)); (case hz => rfl); intro g2 hg w2 hb2 hbl2; have g2lt := blk_lt hb2; have g2ge := (show w.heap.size ≤ g2 by rw [hg]; exact hbl1.size); clear hg; have HB2 := Aside0.mk hb2; have BL2 := Aside0.mk (below_step hbl1 hbl2); clear hb1 hbl1 hbl2; have QQ := Aside0.mk (pc_cells hb2); clear hb2; obtain ⟨-, -, -, -, -, -, -, -, -, -, -, -, -, -, -, q15, q16, -⟩ := QQ.out))
  go_wp2_with fail
  refine (within_l_is HA.out _).mono ?_
  rintro e w' ⟨rfl, rfl⟩
  go_wp2_with fail
  refine (must_no _).mono ?_
  rintro e w' ⟨rfl, rfl⟩
  exact ⟨rfl, rfl, BL2.out⟩

set_option maxRecDepth 100000 in
set_option maxHeartbeats 2000000 in
theorem late_3 (p : Prod) (A1 : Option Addr) (c1 : Nat) (A2 : Option Addr) (c2 : Nat) (A3 : Option Addr) (c3 : Nat) (w : World) (q8 : decide ((p.late.length : Int) ≤ 8) = true) (hn : p.late.length ≤ 8) (ha : decide (0 ≤ p.cap ∧ p.cap ≤ 10000000000000) = true) (q0 : p.late.length = 0) (q1 : (p.cap == 0) = false) :
    Calls Try.prog 62 #[pv p A1 c1 A2 c2 A3 c3] w (fun e w' => e = refusedE ∧ Below w.heap.size w w') := by
  have HA := Aside0.mk ha
  have HQ0 := Aside0.mk q0
  clear ha q0
  go_enter Try.func62, Try.ntmps62
  go_wp2_with (first
    | ((with_reducible refine gate_dst (N := 1) rfl ?_); refine box_event ?hg (N := 1) ?hd (cs := pcs p A1 c1 A2 c2 A3 c3) (t := 88) ?hr ?_; (case hd => rfl); (case hg => rfl); (case hr => first | (go_simp; done) | (go_simp; rfl)); intro g1 hg w1 hb1 hbl1; clear hg)
    | ((with_reducible refine gate_dst (N := 6) rfl ?_); refine wpList_load_row rfl 27 (.tmp 5) rfl g1 rfl 88 _ (0, 0) _ hb1 Try.underlying27 rfl info_prod ?_)
    | ((with_reducible refine gate_dst (N := 2) rfl ?_); refine copy_event rfl (N := 2) rfl rfl rfl (t := 27) (v := .tmp 6) rfl (cs := pcs p A1 c1 A2 c2 A3 c3) (zs := pzs) ?hr rfl rfl info_prod ?hz (pcs_one _ _ _ _ _ _ _) ?_; (case hr => first | (go_simp; done) | (go_simp; rfl)); (case hz => rfl); intro g2 hg w2 hb2 hbl2; have g2lt := blk_lt hb2; have g2ge := (show w.heap.size ≤ g2 by rw [hg]; exact hbl1.size); clear hg; have HB2 := Aside0.mk hb2; have BL2 := Aside0.mk (below_step hbl1 hbl2); clear hb1 hbl1 hbl2; have QQ := Aside0.mk (pc_cells hb2); clear hb2; obtain ⟨-, -, -, -, -, -, -, -, -, -, -, -, -, -, -, q15, q16, -⟩ := QQ.out))
  go_wp2_with fail
  refine (within_l_is HA.out _).mono ?_
  rintro e w' ⟨rfl, rfl⟩
  have q0 := HQ0.out
  go_wp2_with fail
  refine (must_no _).mono ?_
  rintro e w' ⟨rfl, rfl⟩
  exact ⟨rfl, rfl, BL2.out⟩

set_option maxRecDepth 100000 in
set_option maxHeartbeats 2000000 in
theorem late_4 (p : Prod) (A1 : Option Addr) (c1 : Nat) (A2 : Option Addr) (c2 : Nat) (A3 : Option Addr) (c3 : Nat) (w : World) (q8 : decide ((p.late.length : Int) ≤ 8) = true) (hn : p.late.length ≤ 8) (ha : decide (0 ≤ p.cap ∧ p.cap ≤ 10000000000000) = true) (q0 : 0 < p.late.length) (hr : Op.IntRows w A2 2 p.late) (bb : Bool) (hbb : tiersOk 0 0 p.late = bb) :
    Calls Try.prog 62 #[pv p A1 c1 A2 c2 A3 c3] w (LookE bb w) := by
  have HA := Aside0.mk ha
  have HR := Aside0.mk hr
  have HBB := Aside0.mk hbb
  clear ha hr hbb
  go_enter Try.func62, Try.ntmps62
  go_wp2_with (first
    | ((with_reducible refine gate_dst (N := 1) rfl ?_); refine box_event ?hg (N := 1) ?hd (cs := pcs p A1 c1 A2 c2 A3 c3) (t := 88) ?hr ?_; (case hd => rfl); (case hg => rfl); (case hr => first | (go_simp; done) | (go_simp; rfl)); intro g1 hg w1 hb1 hbl1; clear hg)
    | ((with_reducible refine gate_dst (N := 6) rfl ?_); refine wpList_load_row rfl 27 (.tmp 5) rfl g1 rfl 88 _ (0, 0) _ hb1 Try.underlying27 rfl info_prod ?_)
    | ((with_reducible refine gate_dst (N := 2) rfl ?_); refine copy_event rfl (N := 2) rfl rfl rfl (t := 27) (v := .tmp 6) rfl (cs := pcs p A1 c1 A2 c2 A3 c3) (zs := pzs) ?hr rfl rfl info_prod ?hz (pcs_one _ _ _ _ _ _ _) ?_; (case hr => first | (go_simp; done) | (go_simp; rfl)); (case hz => rfl); intro g2 hg w2 hb2 hbl2; have g2lt := blk_lt hb2; have g2ge := (show w.heap.size ≤ g2 by rw [hg]; exact hbl1.size); clear hg; have HB2 := Aside0.mk hb2; have BL2 := Aside0.mk (below_step hbl1 hbl2); clear hb1 hbl1 hbl2; have QQ := Aside0.mk (pc_cells hb2); clear hb2; obtain ⟨-, -, -, -, -, -, -, -, -, -, -, -, -, -, -, q15, q16, -⟩ := QQ.out))
  go_wp2_with fail
  refine (within_l_is HA.out _).mono ?_
  rintro e w' ⟨rfl, rfl⟩
  all_goals
    go_wp2_with fail
    refine (must_yes _).mono ?_
    rintro e w' ⟨rfl, rfl⟩
    go_wp2_with fail
    go_loopg [31] (p.late.length + 1) (fun gq i w' => ∃ (k : Nat), k ≤ p.late.length ∧ i = .int .i64 k ∧ Aside0 (gq = p.late.length + 1 - k) ∧ Aside0 (tiersOk (prevOf 0 0 p.late k) (prevOf 0 1 p.late k) (p.late.drop k) = bb) ∧ Aside0 (Below w.heap.size w w' ∧ Below w2.heap.size w2 w'))
    case atStart => exact ⟨0, Nat.zero_le _, rfl, ⟨rfl⟩, ⟨by rw [← HBB.out]; rfl⟩, ⟨BL2.out, Below.refl _ _⟩⟩
    case round =>
      obtain ⟨k, hk, rfl, hgq, hq, hbl⟩ := hrel
      by_cases hlt : k < p.late.length
      · obtain ⟨ad, x, y, e0, hrow, q0', q1', wx, wy⟩ := two_at (HR.out.below hbl.out.1) k hlt
        subst e0
        have hcs := hq.out
        rw [drop_row hrow] at hcs
        simp only [tiersOk] at hcs
        simp only [List.getD_cons_zero, List.getD_cons_succ] at hcs
        have hprev := prevOf_succ (d := 0) (j := 0) hrow
        have hprev1 := prevOf_succ (d := 0) (j := 1) hrow
        simp only [List.getD_cons_zero, List.getD_cons_succ] at hprev hprev1
        have HPREV := Aside0.mk hprev
        have HPREV1 := Aside0.mk hprev1
        have adlt := cell_ltR q0'
        obtain ⟨bx0, bx1⟩ := wf_bd wx
        obtain ⟨by0, by1⟩ := wf_bd wy
        have HB3 := Aside0.mk (blk_below HB2.out hbl.out.2)
        have g2l := blk_lt HB3.out
        have kk0 : (0 : Int) ≤ (k : Int) := by omega
        have kk1 : (k : Int) < (p.late.length : Int) := by omega
        have QP : Aside0 (0 < k → ∃ x' y', p.late[k - 1]? = some [x', y'] ∧ wr.cell? (ad.add ((k - 1) * 2)) = some (.int .i64 x') ∧ wr.cell? ⟨(ad.add ((k - 1) * 2)).block, (ad.add ((k - 1) * 2)).off + 1, none⟩ = some (.int .i64 y')) := ⟨fun h0 => by
          obtain ⟨ad', x', y', e', hrow', c', d', _⟩ := two_at (HR.out.below hbl.out.1) (k - 1) (by omega)
          obtain rfl : ad = ad' := Option.some.inj e'
          exact ⟨x', y', hrow', c', d'⟩⟩
        clear hq hrow hprev hprev1 wx wy q15 q16
        by_cases h1 : 1 ≤ x ∧ x ≤ 365
        · have H1 := Aside0.mk (decide_eq_true h1)
          by_cases h2 : 0 ≤ y ∧ y ≤ 10000000000000
          · have H2 := Aside0.mk (decide_eq_true h2)
            go_wp2_with (first
              | ((with_reducible refine gate_dst (N := 4) rfl ?_); refine copy_event3 rfl (N := 4) rfl rfl rfl rfl (t := 118) (v := .tmp 35) rfl (cs := #[.int .i64 x, .int .i64 y]) (zs := #[.int .i64 0, .int .i64 0]) (vm := .int .i64 k) ?hr ?hrm rfl rfl info_tier ?hz (two_one _ _) ?_; (case hr => first | (go_simp; done) | (go_simp; rfl)); (case hrm => intro W'; first | (go_simp; done) | (go_simp; rfl)); (case hz => rfl); intro g4 hg w4 hb4 hbl4; have g4lt := blk_lt hb4; clear hg; have z0 : w4.cell? ⟨g4, 0, none⟩ = some (.int .i64 x) := (blk_cell hb4 0).trans rfl; have z1 : w4.cell? ⟨g4, 1, none⟩ = some (.int .i64 y) := (blk_cell hb4 1).trans rfl; have HB5 := Aside0.mk (blk_below HB3.out hbl4); have BL4 := Aside0.mk (And.intro (below_step hbl.out.1 hbl4) (below_step hbl.out.2 hbl4)); have HBL4 := Aside0.mk hbl4; clear hb4 hbl4)
              | (go_at_call 83; refine (within_i_is H1.out _).mono ?_; rintro e w' ⟨rfl, rfl⟩)
              | (go_at_call 84; refine (within_l_is H2.out _).mono ?_; rintro e w' ⟨rfl, rfl⟩)
              | (go_at_call 81; refine (must_yes _).mono ?_; rintro e w' ⟨rfl, rfl⟩))
            obtain ⟨-, -, -, -, -, -, -, -, -, -, -, -, -, -, -, q15, -⟩ := pc_cells HB5.out
            by_cases h0 : k = 0
            · have hb2 : tiersOk x y (p.late.drop (k + 1)) = bb := by
                rw [← hcs, decide_eq_true (show 1 ≤ x ∧ x ≤ 365 ∧ 0 ≤ y ∧ y ≤ 10000000000000 ∧ prevOf 0 0 p.late k < x ∧ prevOf 0 1 p.late k ≤ y from ⟨h1.1, h1.2, h2.1, h2.2, by have := h1.1; unfold prevOf; rw [if_pos h0]; omega, by have := h2.1; unfold prevOf; rw [if_pos h0]; omega⟩), Bool.true_and]
              have HB2' := Aside0.mk hb2
              have kz : ((k : Int) == 0) = true := by rw [h0]; rfl
              clear hcs hb2 h1 h2 h0
              go_quiet ((go_at_call 81; refine (must_yes _).mono ?_; rintro e w' ⟨rfl, rfl⟩; exact ⟨rfl, _, rfl⟩))
              go_wp2_with fail
              go_roundg (p.late.length + 1 - (k + 1))
              case measure => have := hgq.out; omega
              case rel => exact ⟨k + 1, by omega, by simp, ⟨rfl⟩, ⟨by rw [HPREV.out, HPREV1.out]; exact HB2'.out⟩, ⟨pw_below_drewN BL4.out.1 _, pw_below_drewN BL4.out.2 _⟩⟩
            · obtain ⟨x', y', hrow', c0', d0'⟩ := QP.out (by omega)
              have c' : w4.cell? (ad.add ((k - 1) * 2)) = some (.int .i64 x') := by rw [HBL4.out.cell (cell_ltR c0')]; exact c0'
              have d' : w4.cell? ⟨(ad.add ((k - 1) * 2)).block, (ad.add ((k - 1) * 2)).off + 1, none⟩ = some (.int .i64 y') := by rw [HBL4.out.cell (cell_ltR d0')]; exact d0'
              have hpv := prevOf_pos (d := 0) (j := 0) (Nat.pos_of_ne_zero h0) hrow'
              have hpw := prevOf_pos (d := 0) (j := 1) (Nat.pos_of_ne_zero h0) hrow'
              simp only [List.getD_cons_zero, List.getD_cons_succ] at hpv hpw
              have kz : ((k : Int) == 0) = false := by rw [beq_eq_false_iff_ne]; omega
              have ew2 : IntKind.i64.wrap ((k : Int) - 1) = (k : Int) - 1 := IntWalk.i64_in _ (by omega)
              have kk2 : (0 : Int) ≤ (k : Int) - 1 := by omega
              have kk3 : (k : Int) - 1 < (p.late.length : Int) := by omega
              have kk4 : (1 : Int) ≤ (k : Int) := by omega
              have ek : ((k : Int) - 1).toNat = k - 1 := by omega
              clear c0' d0'
              by_cases h3 : x' < x
              · have h3d : decide (x' < x) = true := decide_eq_true h3
                by_cases h4 : y' ≤ y
                · have h4d : decide (y' ≤ y) = true := decide_eq_true h4
                  have hb2 : tiersOk x y (p.late.drop (k + 1)) = bb := by
                    rw [← hcs, decide_eq_true (show 1 ≤ x ∧ x ≤ 365 ∧ 0 ≤ y ∧ y ≤ 10000000000000 ∧ prevOf 0 0 p.late k < x ∧ prevOf 0 1 p.late k ≤ y from ⟨h1.1, h1.2, h2.1, h2.2, by rw [hpv]; exact h3, by rw [hpw]; exact h4⟩), Bool.true_and]
                  have HB2' := Aside0.mk hb2
                  clear hcs hb2 h1 h2 h0 hpv hpw hrow'
                  go_quiet ((go_at_call 81; refine (must_yes _).mono ?_; rintro e w' ⟨rfl, rfl⟩; exact ⟨rfl, _, rfl⟩))
                  clear ew2 ek
                  go_wp2_with fail
                  go_roundg (p.late.length + 1 - (k + 1))
                  case measure => have := hgq.out; omega
                  case rel => exact ⟨k + 1, by omega, by simp, ⟨rfl⟩, ⟨by rw [HPREV.out, HPREV1.out]; exact HB2'.out⟩, ⟨pw_below_drewN BL4.out.1 _, pw_below_drewN BL4.out.2 _⟩⟩
                · have h4d : decide (y' ≤ y) = false := decide_eq_false h4
                  have hbf : bb = false := by
                    rw [← hcs, decide_eq_false (fun h => h4 (by have := h.2.2.2.2.2; rw [hpw] at this; exact this)), Bool.false_and]
                  subst hbf
                  have h5 : y < y' := by omega
                  clear hcs h1 h2 h0 hpv hpw hrow' h4
                  refine wp_region_still_tail 26 (by kernel_rfl) (by kernel_rfl) ?_
                  simp only [List.take_succ_cons, List.take_zero, List.drop_succ_cons, List.drop_zero]
                  iterate 26 ((with_reducible refine wpStill_step (fun K hK => ?_)); go_simp; (try simp only [undef, reduceCtorEq, if_false]); (with_reducible refine hK _ ?_); clear hK K)
                  (with_reducible refine wpStill_nil ?_)
                  go_wp2_with ((go_at_call 81; refine (must_no _).mono ?_; rintro e w' ⟨rfl, rfl⟩))
                  exact ⟨rfl, LookE.no ⟨rfl, BL4.out.1.drew⟩⟩
              · have h3d : decide (x' < x) = false := decide_eq_false h3
                have hbf : bb = false := by
                  rw [← hcs, decide_eq_false (fun h => h3 (by have := h.2.2.2.2.1; rw [hpv] at this; exact this)), Bool.false_and]
                subst hbf
                have h5 : x ≤ x' := by omega
                clear hcs h1 h2 h0 hpv hpw hrow' h3
                refine wp_region_still_tail 26 (by kernel_rfl) (by kernel_rfl) ?_
                simp only [List.take_succ_cons, List.take_zero, List.drop_succ_cons, List.drop_zero]
                iterate 26 ((with_reducible refine wpStill_step (fun K hK => ?_)); go_simp; (try simp only [undef, reduceCtorEq, if_false]); (with_reducible refine hK _ ?_); clear hK K)
                (with_reducible refine wpStill_nil ?_)
                go_wp2_with ((go_at_call 81; refine (must_no _).mono ?_; rintro e w' ⟨rfl, rfl⟩))
                exact ⟨rfl, LookE.no ⟨rfl, BL4.out.1.drew⟩⟩
          · have hbf : bb = false := by
              rw [← hcs, decide_eq_false (fun h => h2 ⟨h.2.2.1, h.2.2.2.1⟩), Bool.false_and]
            subst hbf
            have H2 := Aside0.mk (decide_eq_false h2)
            clear hcs h1 h2
            go_wp2_with (first
              | ((with_reducible refine gate_dst (N := 4) rfl ?_); refine copy_event3 rfl (N := 4) rfl rfl rfl rfl (t := 118) (v := .tmp 35) rfl (cs := #[.int .i64 x, .int .i64 y]) (zs := #[.int .i64 0, .int .i64 0]) (vm := .int .i64 k) ?hr ?hrm rfl rfl info_tier ?hz (two_one _ _) ?_; (case hr => first | (go_simp; done) | (go_simp; rfl)); (case hrm => intro W'; first | (go_simp; done) | (go_simp; rfl)); (case hz => rfl); intro g4 hg w4 hb4 hbl4; have g4lt := blk_lt hb4; clear hg; have z0 : w4.cell? ⟨g4, 0, none⟩ = some (.int .i64 x) := (blk_cell hb4 0).trans rfl; have z1 : w4.cell? ⟨g4, 1, none⟩ = some (.int .i64 y) := (blk_cell hb4 1).trans rfl; have HB5 := Aside0.mk (blk_below HB3.out hbl4); have BL4 := Aside0.mk (And.intro (below_step hbl.out.1 hbl4) (below_step hbl.out.2 hbl4)); have HBL4 := Aside0.mk hbl4; clear hb4 hbl4)
              | (go_at_call 83; refine (within_i_is H1.out _).mono ?_; rintro e w' ⟨rfl, rfl⟩)
              | (go_at_call 84; refine (within_l_is H2.out _).mono ?_; rintro e w' ⟨rfl, rfl⟩)
              | (go_at_call 81; refine (must_no _).mono ?_; rintro e w' ⟨rfl, rfl⟩))
            exact ⟨rfl, LookE.no ⟨rfl, BL4.out.1⟩⟩
        · have hbf : bb = false := by
            rw [← hcs, decide_eq_false (fun h => h1 ⟨h.1, h.2.1⟩), Bool.false_and]
          subst hbf
          have H1 := Aside0.mk (decide_eq_false h1)
          clear hcs h1
          go_wp2_with (first
            | ((with_reducible refine gate_dst (N := 4) rfl ?_); refine copy_event3 rfl (N := 4) rfl rfl rfl rfl (t := 118) (v := .tmp 35) rfl (cs := #[.int .i64 x, .int .i64 y]) (zs := #[.int .i64 0, .int .i64 0]) (vm := .int .i64 k) ?hr ?hrm rfl rfl info_tier ?hz (two_one _ _) ?_; (case hr => first | (go_simp; done) | (go_simp; rfl)); (case hrm => intro W'; first | (go_simp; done) | (go_simp; rfl)); (case hz => rfl); intro g4 hg w4 hb4 hbl4; have g4lt := blk_lt hb4; clear hg; have z0 : w4.cell? ⟨g4, 0, none⟩ = some (.int .i64 x) := (blk_cell hb4 0).trans rfl; have z1 : w4.cell? ⟨g4, 1, none⟩ = some (.int .i64 y) := (blk_cell hb4 1).trans rfl; have HB5 := Aside0.mk (blk_below HB3.out hbl4); have BL4 := Aside0.mk (And.intro (below_step hbl.out.1 hbl4) (below_step hbl.out.2 hbl4)); have HBL4 := Aside0.mk hbl4; clear hb4 hbl4)
            | (go_at_call 83; refine (within_i_is H1.out _).mono ?_; rintro e w' ⟨rfl, rfl⟩)
            | (go_at_call 84; refine (within_l_is H1.out _).mono ?_; rintro e w' ⟨rfl, rfl⟩)
            | (go_at_call 81; refine (must_no _).mono ?_; rintro e w' ⟨rfl, rfl⟩))
          exact ⟨rfl, LookE.no ⟨rfl, BL4.out.1⟩⟩
      · have hk2 : k = p.late.length := by omega
        subst hk2
        have hcs := hq.out
        rw [List.drop_length] at hcs
        obtain rfl : true = bb := hcs
        clear hq
        go_wp2_with fail
        go_end0
        exact LookE.yes ⟨rfl, hbl.out.1⟩

set_option maxRecDepth 100000 in
set_option maxHeartbeats 1000000 in
theorem late_5 (p : Prod) (A1 : Option Addr) (c1 : Nat) (A2 : Option Addr) (c2 : Nat) (A3 : Option Addr) (c3 : Nat) (w : World) (q8 : decide ((p.late.length : Int) ≤ 8) = true) (hn : p.late.length ≤ 8) (ha : decide (0 ≤ p.cap ∧ p.cap ≤ 10000000000000) = true) (q0 : p.late.length = 0) (q1 : (p.cap == 0) = true) :
    Calls Try.prog 62 #[pv p A1 c1 A2 c2 A3 c3] w (fun e w' => e = .returned (.tuple #[]) ∧ Below w.heap.size w w') := by
  have HA := Aside0.mk ha
  have HQ0 := Aside0.mk q0
  clear ha q0
  go_enter Try.func62, Try.ntmps62
  go_wp2_with (first
    | ((with_reducible refine gate_dst (N := 1) rfl ?_); refine box_event ?hg (N := 1) ?hd (cs := pcs p A1 c1 A2 c2 A3 c3) (t := 88) ?hr ?_; (case hd => rfl); (case hg => rfl); (case hr => first | (go_simp; done) | (go_simp; rfl)); intro g1 hg w1 hb1 hbl1; clear hg)
    | ((with_reducible refine gate_dst (N := 6) rfl ?_); refine wpList_load_row rfl 27 (.tmp 5) rfl g1 rfl 88 _ (0, 0) _ hb1 Try.underlying27 rfl info_prod ?_)
    | ((with_reducible refine gate_dst (N := 2) rfl ?_); refine copy_event rfl (N := 2) rfl rfl rfl (t := 27) (v := .tmp 6) rfl (cs := pcs p A1 c1 A2 c2 A3 c3) (zs := pzs) ?hr rfl rfl info_prod ?hz (pcs_one _ _ _ _ _ _ _) ?_; (case hr => first | (go_simp; done) | (go_simp; rfl)); (case hz => rfl); intro g2 hg w2 hb2 hbl2; have g2lt := blk_lt hb2; have g2ge := (show w.heap.size ≤ g2 by rw [hg]; exact hbl1.size); clear hg; have HB2 := Aside0.mk hb2; have BL2 := Aside0.mk (below_step hbl1 hbl2); clear hb1 hbl1 hbl2; have QQ := Aside0.mk (pc_cells hb2); clear hb2; obtain ⟨-, -, -, -, -, -, -, -, -, -, -, -, -, -, -, q15, q16, -⟩ := QQ.out))
  go_wp2_with fail
  refine (within_l_is HA.out _).mono ?_
  rintro e w' ⟨rfl, rfl⟩
  have q0 := HQ0.out
  go_wp2_with fail
  refine (must_yes _).mono ?_
  rintro e w' ⟨rfl, rfl⟩
  go_wp2_with fail
  go_loopg [31] 1 (fun gq i w' => i = .int .i64 0 ∧ w' = w2)
  case atStart => exact ⟨rfl, rfl⟩
  case round =>
    obtain ⟨rfl, rfl⟩ := hrel
    go_wp2_with fail
    go_end0
    exact ⟨rfl, BL2.out⟩
/-- A product's late fees are looked at. -/
theorem late_any (p : Prod) (A1 : Option Addr) (c1 : Nat) (A2 : Option Addr) (c2 : Nat) (A3 : Option Addr) (c3 : Nat) (w : World) (hr : Op.IntRows w A2 2 p.late) (hm : p.late.length ≤ 1000000) :
    Calls Try.prog 62 #[pv p A1 c1 A2 c2 A3 c3] w (LookE (lateOk p) w) := by
  unfold lateOk
  by_cases hn : p.late.length ≤ 8
  case neg =>
    rw [decide_eq_false (fun h => hn h.1), Bool.false_and]
    exact (late_1 p A1 c1 A2 c2 A3 c3 w (decide_eq_false (by omega))).mono fun e w' h => LookE.no h
  have hn' : decide ((p.late.length : Int) ≤ 8) = true := decide_eq_true (by omega)
  by_cases ha : 0 ≤ p.cap ∧ p.cap ≤ 10000000000000
  case neg =>
    rw [decide_eq_false (fun h => ha h.2.1), Bool.false_and]
    exact (late_2 p A1 c1 A2 c2 A3 c3 w hn' hn (decide_eq_false ha)).mono fun e w' h => LookE.no h
  by_cases hb : p.late = [] → p.cap = 0
  case neg =>
    rw [decide_eq_false (fun h => hb h.2.2), Bool.false_and]
    have h1 : p.late = [] := by
      cases hl : p.late with
      | nil => rfl
      | cons a l => exact absurd (fun h => by rw [hl] at h; cases h) hb
    have h2 : ¬ p.cap = 0 := fun h => hb (fun _ => h)
    exact (late_3 p A1 c1 A2 c2 A3 c3 w hn' hn (decide_eq_true ha) (by rw [h1]; rfl) (beqf h2)).mono fun e w' h => LookE.no h
  rw [decide_eq_true (show _ from ⟨hn, ha, hb⟩), Bool.true_and]
  by_cases h0 : p.late.length = 0
  · have h1 : p.late = [] := List.eq_nil_of_length_eq_zero h0
    have e1 : tiersOk 0 0 p.late = true := by rw [h1]; rfl
    rw [e1]
    exact (late_5 p A1 c1 A2 c2 A3 c3 w hn' hn (decide_eq_true ha) h0 (beqt (hb h1))).mono fun e w' h => LookE.yes h
  · exact late_4 p A1 c1 A2 c2 A3 c3 w hn' hn (decide_eq_true ha) (by omega) hr _ rfl
end Go.Proofs.Ytcfpkkgdofblfaa.Pd
/- Contracts by hand: a product's days are looked at. -/
namespace Go.Proofs.Ytcfpkkgdofblfaa.Pd
open Go.RowKit Go.Proofs.YtcfpkkgdofblfaaW.PrintWords Go.Proofs.YtcfpkkgdofblfaaW.PrintLast Go.Proofs.YtcfpkkgdofblfaaW.PrintMore Go.Proofs.Ytcfpkkgdofblfaa.HW
open Pm
set_option linter.unusedVariables false
set_option linter.unusedSimpArgs false


set_option maxRecDepth 100000 in
set_option maxHeartbeats 2000000 in
theorem days_1 (p : Prod) (A1 : Option Addr) (c1 : Nat) (A2 : Option Addr) (c2 : Nat) (A3 : Option Addr) (c3 : Nat) (w : World) (hr : Kd.C (Kd.int .i64) w A3 p.hol.length p.hol) (hl : p.hol.length ≤ c3) (hn0 : A3 = none → c3 = 0) (hm : p.hol.length ≤ 1000000) (he : (if (decide (p.hol.length ≤ 200) && holsOk (-25568) p.hol) = true then (0 : Int) else 1) = 1) :
    Calls Try.prog 63 #[pv p A1 c1 A2 c2 A3 c3] w fun e w' => e = refusedE ∧ Below w.heap.size w w' := by
  have HR := Aside0.mk hr
  have HE := Aside0.mk he
  clear hr he
  go_enter Try.func63, Try.ntmps63
  go_wp2_with ((with_reducible refine gate_dst (N := 1) rfl ?_); refine box_event ?hg (N := 1) ?hd (cs := pcs p A1 c1 A2 c2 A3 c3) (t := 88) ?hr ?_; (case hd => rfl); (case hg => rfl); (case hr => first | (go_simp; done) | (go_simp; rfl)); intro g1 hg w1 hb1 hbl1; have g1lt := blk_lt hb1; clear hg; have HB1 := Aside0.mk hb1; have BL1 := Aside0.mk hbl1; clear hbl1; have q18 := (pc_cells hb1).2.2.2.2.2.2.2.2.2.2.2.2.2.2.2.2.2.2; clear hb1)
  refine (Nw.new_any A3 c3 p.hol _ (Kd.C_below HR.out BL1.out) hl hn0 hm).mono ?_
  rintro e w3 ⟨hb, q, rfl⟩
  rw [HE.out]
  have BL3 := Aside0.mk (below_step BL1.out hb)
  obtain ⟨-, -, -, -, -, -, -, -, -, -, -, -, -, -, -, -, -, q17, q18'⟩ := pc_cells (blk_below HB1.out hb)
  clear hb BL1 HB1 q18
  go_wp2_with fail
  refine (must_no _).mono ?_
  rintro e w' ⟨rfl, rfl⟩
  exact ⟨rfl, rfl, BL3.out⟩

set_option maxRecDepth 100000 in
set_option maxHeartbeats 2000000 in
theorem days_2 (p : Prod) (A1 : Option Addr) (c1 : Nat) (A2 : Option Addr) (c2 : Nat) (A3 : Option Addr) (c3 : Nat) (w : World) (hr : Kd.C (Kd.int .i64) w A3 p.hol.length p.hol) (hl : p.hol.length ≤ c3) (hn0 : A3 = none → c3 = 0) (hm : p.hol.length ≤ 1000000) (he : (if (decide (p.hol.length ≤ 200) && holsOk (-25568) p.hol) = true then (0 : Int) else 1) = 0) (ha : decide (1 ≤ p.roll ∧ p.roll ≤ 4) = false) :
    Calls Try.prog 63 #[pv p A1 c1 A2 c2 A3 c3] w fun e w' => e = refusedE ∧ Below w.heap.size w w' := by
  have HR := Aside0.mk hr
  have HE := Aside0.mk he
  have HA := Aside0.mk ha
  clear hr he ha
  go_enter Try.func63, Try.ntmps63
  go_wp2_with ((with_reducible refine gate_dst (N := 1) rfl ?_); refine box_event ?hg (N := 1) ?hd (cs := pcs p A1 c1 A2 c2 A3 c3) (t := 88) ?hr ?_; (case hd => rfl); (case hg => rfl); (case hr => first | (go_simp; done) | (go_simp; rfl)); intro g1 hg w1 hb1 hbl1; have g1lt := blk_lt hb1; clear hg; have HB1 := Aside0.mk hb1; have BL1 := Aside0.mk hbl1; clear hbl1; have q18 := (pc_cells hb1).2.2.2.2.2.2.2.2.2.2.2.2.2.2.2.2.2.2; clear hb1)
  refine (Nw.new_any A3 c3 p.hol _ (Kd.C_below HR.out BL1.out) hl hn0 hm).mono ?_
  rintro e w3 ⟨hb, q, rfl⟩
  rw [HE.out]
  have BL3 := Aside0.mk (below_step BL1.out hb)
  obtain ⟨-, -, -, -, -, -, -, -, -, -, -, -, -, -, -, -, -, q17, q18'⟩ := pc_cells (blk_below HB1.out hb)
  clear hb BL1 HB1 q18
  go_wp2_with fail
  refine (within_i_is HA.out _).mono ?_
  rintro e w' ⟨rfl, rfl⟩
  go_wp2_with fail
  refine (must_no _).mono ?_
  rintro e w' ⟨rfl, rfl⟩
  exact ⟨rfl, rfl, BL3.out⟩

set_option maxRecDepth 100000 in
set_option maxHeartbeats 2000000 in
theorem days_3 (p : Prod) (A1 : Option Addr) (c1 : Nat) (A2 : Option Addr) (c2 : Nat) (A3 : Option Addr) (c3 : Nat) (w : World) (hr : Kd.C (Kd.int .i64) w A3 p.hol.length p.hol) (hl : p.hol.length ≤ c3) (hn0 : A3 = none → c3 = 0) (hm : p.hol.length ≤ 1000000) (he : (if (decide (p.hol.length ≤ 200) && holsOk (-25568) p.hol) = true then (0 : Int) else 1) = 0) (ha : decide (1 ≤ p.roll ∧ p.roll ≤ 4) = true) (r1 : (p.roll != 1) = true) :
    Calls Try.prog 63 #[pv p A1 c1 A2 c2 A3 c3] w fun e w' => e = .returned (.tuple #[]) ∧ Below w.heap.size w w' := by
  have HR := Aside0.mk hr
  have HE := Aside0.mk he
  have HA := Aside0.mk ha
  clear hr he ha
  go_enter Try.func63, Try.ntmps63
  go_wp2_with ((with_reducible refine gate_dst (N := 1) rfl ?_); refine box_event ?hg (N := 1) ?hd (cs := pcs p A1 c1 A2 c2 A3 c3) (t := 88) ?hr ?_; (case hd => rfl); (case hg => rfl); (case hr => first | (go_simp; done) | (go_simp; rfl)); intro g1 hg w1 hb1 hbl1; have g1lt := blk_lt hb1; clear hg; have HB1 := Aside0.mk hb1; have BL1 := Aside0.mk hbl1; clear hbl1; have q18 := (pc_cells hb1).2.2.2.2.2.2.2.2.2.2.2.2.2.2.2.2.2.2; clear hb1)
  refine (Nw.new_any A3 c3 p.hol _ (Kd.C_below HR.out BL1.out) hl hn0 hm).mono ?_
  rintro e w3 ⟨hb, q, rfl⟩
  rw [HE.out]
  have BL3 := Aside0.mk (below_step BL1.out hb)
  obtain ⟨-, -, -, -, -, -, -, -, -, -, -, -, -, -, -, -, -, q17, q18'⟩ := pc_cells (blk_below HB1.out hb)
  clear hb BL1 HB1 q18
  go_wp2_with fail
  refine (within_i_is HA.out _).mono ?_
  rintro e w' ⟨rfl, rfl⟩
  go_wp2_with fail
  refine (must_yes _).mono ?_
  rintro e w' ⟨rfl, rfl⟩
  go_wp2_with fail
  go_end0
  exact ⟨rfl, BL3.out⟩

set_option maxRecDepth 100000 in
set_option maxHeartbeats 2000000 in
theorem days_4 (p : Prod) (A1 : Option Addr) (c1 : Nat) (A2 : Option Addr) (c2 : Nat) (A3 : Option Addr) (c3 : Nat) (w : World) (hr : Kd.C (Kd.int .i64) w A3 p.hol.length p.hol) (hl : p.hol.length ≤ c3) (hn0 : A3 = none → c3 = 0) (hm : p.hol.length ≤ 1000000) (he : (if (decide (p.hol.length ≤ 200) && holsOk (-25568) p.hol) = true then (0 : Int) else 1) = 0) (ha : decide (1 ≤ p.roll ∧ p.roll ≤ 4) = true) (r1 : (p.roll != 1) = false) (hz : p.hol.length = 0) :
    Calls Try.prog 63 #[pv p A1 c1 A2 c2 A3 c3] w fun e w' => e = .returned (.tuple #[]) ∧ Below w.heap.size w w' := by
  have HR := Aside0.mk hr
  have HE := Aside0.mk he
  have HA := Aside0.mk ha
  have HZ := Aside0.mk hz
  clear hr he ha hz
  go_enter Try.func63, Try.ntmps63
  go_wp2_with ((with_reducible refine gate_dst (N := 1) rfl ?_); refine box_event ?hg (N := 1) ?hd (cs := pcs p A1 c1 A2 c2 A3 c3) (t := 88) ?hr ?_; (case hd => rfl); (case hg => rfl); (case hr => first | (go_simp; done) | (go_simp; rfl)); intro g1 hg w1 hb1 hbl1; have g1lt := blk_lt hb1; clear hg; have HB1 := Aside0.mk hb1; have BL1 := Aside0.mk hbl1; clear hbl1; have q18 := (pc_cells hb1).2.2.2.2.2.2.2.2.2.2.2.2.2.2.2.2.2.2; clear hb1)
  refine (Nw.new_any A3 c3 p.hol _ (Kd.C_below HR.out BL1.out) hl hn0 hm).mono ?_
  rintro e w3 ⟨hb, q, rfl⟩
  rw [HE.out]
  have BL3 := Aside0.mk (below_step BL1.out hb)
  obtain ⟨-, -, -, -, -, -, -, -, -, -, -, -, -, -, -, -, -, q17, q18'⟩ := pc_cells (blk_below HB1.out hb)
  clear hb BL1 HB1 q18
  go_wp2_with fail
  refine (within_i_is HA.out _).mono ?_
  rintro e w' ⟨rfl, rfl⟩
  have hz := HZ.out
  go_wp2_with fail
  refine (must_yes _).mono ?_
  rintro e w' ⟨rfl, rfl⟩
  go_wp2_with fail
  go_end0
  exact ⟨rfl, BL3.out⟩

set_option maxRecDepth 100000 in
set_option maxHeartbeats 2000000 in
theorem days_5 (p : Prod) (A1 : Option Addr) (c1 : Nat) (A2 : Option Addr) (c2 : Nat) (A3 : Option Addr) (c3 : Nat) (w : World) (hr : Kd.C (Kd.int .i64) w A3 p.hol.length p.hol) (hl : p.hol.length ≤ c3) (hn0 : A3 = none → c3 = 0) (hm : p.hol.length ≤ 1000000) (he : (if (decide (p.hol.length ≤ 200) && holsOk (-25568) p.hol) = true then (0 : Int) else 1) = 0) (ha : decide (1 ≤ p.roll ∧ p.roll ≤ 4) = true) (r1 : (p.roll != 1) = false) (hz : ((p.hol.length : Int) == 0) = false) :
    Calls Try.prog 63 #[pv p A1 c1 A2 c2 A3 c3] w fun e w' => e = refusedE ∧ Below w.heap.size w w' := by
  have HR := Aside0.mk hr
  have HE := Aside0.mk he
  have HA := Aside0.mk ha
  have HZ := Aside0.mk hz
  clear hr he ha hz
  go_enter Try.func63, Try.ntmps63
  go_wp2_with ((with_reducible refine gate_dst (N := 1) rfl ?_); refine box_event ?hg (N := 1) ?hd (cs := pcs p A1 c1 A2 c2 A3 c3) (t := 88) ?hr ?_; (case hd => rfl); (case hg => rfl); (case hr => first | (go_simp; done) | (go_simp; rfl)); intro g1 hg w1 hb1 hbl1; have g1lt := blk_lt hb1; clear hg; have HB1 := Aside0.mk hb1; have BL1 := Aside0.mk hbl1; clear hbl1; have q18 := (pc_cells hb1).2.2.2.2.2.2.2.2.2.2.2.2.2.2.2.2.2.2; clear hb1)
  refine (Nw.new_any A3 c3 p.hol _ (Kd.C_below HR.out BL1.out) hl hn0 hm).mono ?_
  rintro e w3 ⟨hb, q, rfl⟩
  rw [HE.out]
  have BL3 := Aside0.mk (below_step BL1.out hb)
  obtain ⟨-, -, -, -, -, -, -, -, -, -, -, -, -, -, -, -, -, q17, q18'⟩ := pc_cells (blk_below HB1.out hb)
  clear hb BL1 HB1 q18
  go_wp2_with fail
  refine (within_i_is HA.out _).mono ?_
  rintro e w' ⟨rfl, rfl⟩
  have hz := HZ.out
  go_wp2_with fail
  refine (must_no _).mono ?_
  rintro e w' ⟨rfl, rfl⟩
  exact ⟨rfl, rfl, BL3.out⟩

/-- A product's days are looked at. -/
theorem days_any (p : Prod) (A1 : Option Addr) (c1 : Nat) (A2 : Option Addr) (c2 : Nat) (A3 : Option Addr) (c3 : Nat) (w : World) (hr : Kd.C (Kd.int .i64) w A3 p.hol.length p.hol) (hl : p.hol.length ≤ c3) (hn : A3 = none → c3 = 0) (hm : p.hol.length ≤ 1000000) :
    Calls Try.prog 63 #[pv p A1 c1 A2 c2 A3 c3] w (LookE (daysOk p) w) := by
  cases hb : (decide (p.hol.length ≤ 200) && holsOk (-25568) p.hol) with
  | false =>
    have e1 : daysOk p = false := by
      rw [Bool.and_eq_false_iff] at hb
      unfold daysOk
      rcases hb with h | h
      · rw [decide_eq_false (fun h2 => by rw [decide_eq_true h2.1] at h; cases h), Bool.false_and]
      · rw [h, Bool.and_false]
    rw [e1]
    exact (days_1 p A1 c1 A2 c2 A3 c3 w hr hl hn hm (by rw [hb]; rfl)).mono fun e w' h => LookE.no h
  | true =>
    have he : (if (decide (p.hol.length ≤ 200) && holsOk (-25568) p.hol) = true then (0 : Int) else 1) = 0 := by rw [hb]; rfl
    rw [Bool.and_eq_true] at hb
    have h200 := of_decide_eq_true hb.1
    unfold daysOk
    rw [hb.2, Bool.and_true]
    by_cases ha : 1 ≤ p.roll ∧ p.roll ≤ 4
    case neg =>
      rw [decide_eq_false (fun h => ha h.2.1)]
      exact (days_2 p A1 c1 A2 c2 A3 c3 w hr hl hn hm he (decide_eq_false ha)).mono fun e w' h => LookE.no h
    by_cases h1 : p.roll = 1
    · have r1 : (p.roll != 1) = false := by rw [h1]; rfl
      by_cases hz : p.hol.length = 0
      · rw [decide_eq_true (show _ from ⟨h200, ha, fun _ => List.eq_nil_of_length_eq_zero hz⟩)]
        exact (days_4 p A1 c1 A2 c2 A3 c3 w hr hl hn hm he (decide_eq_true ha) r1 hz).mono fun e w' h => LookE.yes h
      · rw [decide_eq_false (fun h => hz (by rw [h.2.2 h1]; rfl))]
        exact (days_5 p A1 c1 A2 c2 A3 c3 w hr hl hn hm he (decide_eq_true ha) r1 (beqf (by omega))).mono fun e w' h => LookE.no h
    · rw [decide_eq_true (show _ from ⟨h200, ha, fun h => absurd h h1⟩)]
      exact (days_3 p A1 c1 A2 c2 A3 c3 w hr hl hn hm he (decide_eq_true ha) (by simpa using h1)).mono fun e w' h => LookE.yes h
end Go.Proofs.Ytcfpkkgdofblfaa.Pd
/- Contracts by hand: a product is looked at. -/
namespace Go.Proofs.Ytcfpkkgdofblfaa.Pd
open Go.RowKit Go.Proofs.YtcfpkkgdofblfaaW.PrintWords Go.Proofs.YtcfpkkgdofblfaaW.PrintLast Go.Proofs.YtcfpkkgdofblfaaW.PrintMore Go.Proofs.Ytcfpkkgdofblfaa.HW
open Pm
set_option linter.unusedVariables false
set_option linter.unusedSimpArgs false
/-- What does not recover is walked as ever. -/
theorem rest_plainP {P : Program} {c : Code} {Q0 : Exit → Act → List Frame → World → Prop} {a : Act} {cs : List Frame} {w : World}
    (h : ∀ Q : Exit → Act → World → Prop, Aside0 (∀ e a' w', Q0 e a' cs w' → Q e a' w') → c.wp P Q a w) : c.wpS P Q0 a cs w :=
  wpS_of_wp (h _ ⟨fun _ _ _ x => x⟩)
theorem check_idle (pe : Addr) (w : World) :
    CallsD Try.prog 58 #[.pointer (some pe)] .returning w fun e u' w' => e = .returned (.tuple #[]) ∧ u' = .returning ∧ w' = w := by
  refine callsD_of_wpS Try.func58 rfl fun c₀ cs hu => ?_
  simp only [Try.ntmps58, List.size_toArray, List.length_cons, List.length_nil, Nat.reduceAdd, Nat.reduceSub, Array.replicate_succ, Array.replicate_zero, List.push_toArray, List.append_toArray, List.nil_append, List.cons_append]
  apply wpS_seq
  apply wpS_region
  simp [wpOpsS, go_sem, recoverD, hu, Exit.thenS]
  refine rest_plainP fun Q HQ => ?_
  go_wp2
  refine HQ.out _ _ _ ?_
  clear HQ
  simp [bodyPostS, results, Try.results58, hu]
  cases c₀
  simp_all
theorem check_thrown (pe : Addr) (y : Int) (older : List PanicEntry) (w : World) (hy : w.cell? pe = some (.int .i64 y)) (fy : w.frozen? pe = false) :
    CallsD Try.prog 58 #[.pointer (some pe)] (.panicking ({ v := .iface 86 (.agg #[]), recovered := false } :: older)) w fun e u' w' =>
      e = .returned (.tuple #[]) ∧ u' = .panicking ({ v := .iface 86 (.agg #[]), recovered := true } :: older) ∧ w' = (w.alloc (.cells #[] 86)).setCell pe (.int .i64 9) := by
  refine callsD_of_wpS Try.func58 rfl fun c₀ cs hu => ?_
  simp only [Try.ntmps58, List.size_toArray, List.length_cons, List.length_nil, Nat.reduceAdd, Nat.reduceSub, Array.replicate_succ, Array.replicate_zero, List.push_toArray, List.append_toArray, List.nil_append, List.cons_append]
  apply wpS_seq
  apply wpS_region
  simp [wpOpsS, go_sem, recoverD, hu, Exit.thenS]
  refine rest_plainP fun Q HQ => ?_
  have hta : ∀ w, (Instr.typeAssert (.iface 86 (.agg #[])) 20 86 true).run Try.prog w = .ok (.tuple #[.agg #[], .bool true]) w := fun _ => by kernel_rfl
  have hlt := cell_ltR hy
  have hb := (Below.refl w.heap.size w).alloc (Nat.le_refl _) (.cells #[] 86)
  have hy2 : (w.alloc (.cells #[] 86)).cell? pe = some (.int .i64 y) := by rw [hb.cell hlt]; exact hy
  have fy2 : (w.alloc (.cells #[] 86)).frozen? pe = false := by rw [hb.frozen hlt]; exact fy
  clear hb
  go_wp2
  refine HQ.out _ _ _ ?_
  clear HQ
  simp [bodyPostS, results, Try.results58, hu]
/-- The result's cell. -/
structure Res1 (w W : World) (g : Nat) (x : Value) : Prop where
  below : Below w.heap.size w W
  ge : w.heap.size ≤ g
  c0 : W.cell? ⟨g, 0, none⟩ = some x
  f0 : W.frozen? ⟨g, 0, none⟩ = false
theorem Res1.lt {w W : World} {g : Nat} {x : Value} (h : Res1 w W g x) : g < W.heap.size := cell_ltR h.c0
theorem Res1.step {w W W' : World} {g : Nat} {x : Value} (h : Res1 w W g x) (hb : Below W.heap.size W W') : Res1 w W' g x :=
  ⟨below_step h.below hb, h.ge, by rw [hb.cell (by exact h.lt)]; exact h.c0, by rw [hb.frozen (by exact h.lt)]; exact h.f0⟩
theorem Res1.of {w W : World} {g : Nat} {cs : Array Value} {x : Value} {t : TypeId} (hb : Below w.heap.size w W) (hg : w.heap.size ≤ g) (h : W.heap[g]? = some (.cells cs t (0, 0))) (hx : cs[0]? = some x) : Res1 w W g x :=
  ⟨hb, hg, (blk_cell h 0).trans hx, frozen_of_row W g 0 _ _ h⟩
theorem built_looks (p : Prod) (A1 : Option Addr) (c1 : Nat) (A2 : Option Addr) (c2 : Nat) (A3 : Option Addr) (c3 : Nat) :
    Try.prog.built 88 [(0, .agg (pcs p A1 c1 A2 c2 A3 c3))] = some (pcs p A1 c1 A2 c2 A3 c3) := by kernel_rfl
section
variable {P : Program} {ops : Array Oper} {rest : List Oper} {a : Act} {Q : Exit → Act → World → Prop}
theorem build_event {W : World} {o : Oper} (hg : o.guard = none) {t : TypeId} {parts : Array (Nat × Operand)} (ho : o.op = .build t parts) {cs : Array Value}
    (hb : P.built t ((parts.map fun (i, x) => (i, a.eval x)).toList) = some cs) (h : wpList P ops Q rest (a.put o.dst (.agg cs)) W) : wpList P ops Q (o :: rest) a W :=
  wpList_build hg t parts ho (by rw [hb]; rfl) (by rw [hb]; exact h)
end
end Go.Proofs.Ytcfpkkgdofblfaa.Pd
/- Contracts by hand: a product is looked at, all of it. -/
namespace Go.Proofs.Ytcfpkkgdofblfaa.Pd
open Go.RowKit Go.Proofs.YtcfpkkgdofblfaaW.PrintWords Go.Proofs.YtcfpkkgdofblfaaW.PrintLast Go.Proofs.YtcfpkkgdofblfaaW.PrintMore Go.Proofs.Ytcfpkkgdofblfaa.HW
open Pm
set_option linter.unusedVariables false
set_option linter.unusedSimpArgs false
theorem times_of {p : Prod} (h : shapeOk p = true) : 1 ≤ p.times ∧ p.times ≤ 600 := by
  unfold shapeOk at h
  rw [Bool.and_eq_true] at h
  exact (of_decide_eq_true h.2).2.2.2.2.1
theorem put_cell {w W : World} {g : Nat} {x : Value} (R : Res1 w W g x) (v : Value) (t : TypeId) : ((W.alloc (.cells #[] t)).setCell ⟨g, 0, none⟩ v).cell? ⟨g, 0, none⟩ = some v :=
  World.cell?_setCell_same _ _ _ (by rw [((Below.refl W.heap.size W).alloc (Nat.le_refl _) (.cells #[] t)).cell (by exact R.lt)]; exact R.c0)
theorem put_below {w W : World} {g : Nat} {x : Value} (R : Res1 w W g x) (v : Value) (t : TypeId) : Below w.heap.size w ((W.alloc (.cells #[] t)).setCell ⟨g, 0, none⟩ v) :=
  (R.below.alloc R.below.size _).setCell (by exact R.ge) _
/-- The looks, one behind the other. -/
abbrev lookC (p : Prod) (A1 : Option Addr) (c1 : Nat) (A2 : Option Addr) (c2 : Nat) (A3 : Option Addr) (c3 : Nat) : Array Value :=
  #[.func (.func 59) #[.agg (pcs p A1 c1 A2 c2 A3 c3)] #[], .func (.func 60) #[.agg (pcs p A1 c1 A2 c2 A3 c3)] #[], .func (.func 61) #[.agg (pcs p A1 c1 A2 c2 A3 c3)] #[], .func (.func 62) #[.agg (pcs p A1 c1 A2 c2 A3 c3)] #[], .func (.func 63) #[.agg (pcs p A1 c1 A2 c2 A3 c3)] #[]]
set_option maxRecDepth 100000 in
set_option maxHeartbeats 2000000 in
theorem check_any (p : Prod) (A1 : Option Addr) (c1 : Nat) (A2 : Option Addr) (c2 : Nat) (A3 : Option Addr) (c3 : Nat) (w : World) (hg : GV w) (hp : ProdAt w p A1 c1 A2 c2 A3 c3) (hs : Small p) :
    Calls Try.prog 32 #[pv p A1 c1 A2 c2 A3 c3] w fun e w' => e = .returned (.int .i64 (err p)) ∧ Below w.heap.size w w' := by
  have HG := Aside0.mk hg
  have HP := Aside0.mk hp
  have HS := Aside0.mk hs
  clear hg hp hs
  go_enter_defers Try.func32, Try.ntmps32
  go_wp2_with (first
    | ((with_reducible refine gate_dst (N := 1) rfl ?_); refine box_event ?hg (N := 1) ?hd (cs := pcs p A1 c1 A2 c2 A3 c3) (t := 27) ?hr ?_; (case hd => rfl); (case hg => rfl); (case hr => first | (go_simp; done) | (go_simp; rfl)); intro g1 hg w1 hb1 hbl1; clear hg; have HB1 := Aside0.mk hb1; have BL1 := Aside0.mk hbl1; clear hb1 hbl1)
    | ((with_reducible refine gate_dst (N := 2) rfl ?_); refine box_event ?hg (N := 2) ?hd (cs := #[.int .i64 0]) (t := 32) ?hr ?_; (case hd => rfl); (case hg => rfl); (case hr => first | (go_simp; done) | (go_simp; rfl)); intro g2 hg w2 hb2 hbl2; have g2ge := (show w.heap.size ≤ g2 by rw [hg]; exact BL1.out.size); clear hg; have R2 := Aside0.mk (Res1.of (below_step BL1.out hbl2) g2ge hb2 rfl); have HB2 := blk_below HB1.out hbl2; clear HB1 BL1 hb2 hbl2)
    | ((with_reducible refine gate_dst (N := 7) rfl ?_); refine wpList_load_row rfl 27 (.tmp 1) rfl g1 rfl 27 _ (0, 0) _ HB2 Try.underlying27 rfl info_prod ?_; clear HB2)
    | ((with_reducible refine gate_dst (N := 8) rfl ?_); refine build_event rfl (t := 88) rfl (cs := pcs p A1 c1 A2 c2 A3 c3) ?hb ?_; (case hb => simp only [List.map_toArray, List.map_cons, List.map_nil]; exact built_looks p A1 c1 A2 c2 A3 c3))
    | ((with_reducible refine gate_dst (N := 3) rfl ?_); refine copy_event rfl (N := 3) rfl rfl rfl (t := 88) (v := .tmp 8) rfl (cs := pcs p A1 c1 A2 c2 A3 c3) (zs := pzs) ?hr rfl rfl info_looks ?hz (pcs_one _ _ _ _ _ _ _) ?_; (case hr => first | (go_simp; done) | (go_simp; rfl)); (case hz => rfl); intro g3 hg w3 HB3 hbl3; clear hg; have R3 := Aside0.mk (R2.out.step hbl3); clear hbl3 R2)
    | ((with_reducible refine gate_dst (N := 9) rfl ?_); refine wpList_load_row rfl 88 (.tmp 3) rfl g3 rfl 88 _ (0, 0) _ HB3 Try.underlying88 rfl info_looks ?_)
    | ((with_reducible refine gate_dst (N := 11) rfl ?_); refine wpList_load_row rfl 88 (.tmp 3) rfl g3 rfl 88 _ (0, 0) _ HB3 Try.underlying88 rfl info_looks ?_)
    | ((with_reducible refine gate_dst (N := 13) rfl ?_); refine wpList_load_row rfl 88 (.tmp 3) rfl g3 rfl 88 _ (0, 0) _ HB3 Try.underlying88 rfl info_looks ?_)
    | ((with_reducible refine gate_dst (N := 15) rfl ?_); refine wpList_load_row rfl 88 (.tmp 3) rfl g3 rfl 88 _ (0, 0) _ HB3 Try.underlying88 rfl info_looks ?_)
    | ((with_reducible refine gate_dst (N := 17) rfl ?_); refine wpList_load_row rfl 88 (.tmp 3) rfl g3 rfl 88 _ (0, 0) _ HB3 Try.underlying88 rfl info_looks ?_)
    | ((with_reducible refine gate_dst (N := 19) rfl ?_); refine Hid.out ?_))
  refine Lib.hid ?_
  clear HB3
  refine Kd.event_run rfl (v := .slice (some ⟨w3.heap.size, 0, none⟩) 5 5) (w1 := w3.alloc (.cells (lookC p A1 c1 A2 c2 A3 c3) 1 (0, 0))) ?hr ?_
  case hr => first | (go_simp; done) | (go_simp; rfl)
  go_frame
  obtain ⟨g4, w4, hg4, hw4⟩ : ∃ g4 w4, g4 = w3.heap.size ∧ w4 = w3.alloc (.cells (lookC p A1 c1 A2 c2 A3 c3) 1 (0, 0)) := ⟨_, _, rfl, rfl⟩
  rw [← hg4, ← hw4]
  have hb4 : w4.heap[g4]? = some (.cells (lookC p A1 c1 A2 c2 A3 c3) 1 (0, 0)) := by rw [hg4, hw4]; exact heap_alloc_new _ _
  have hbl4 : Below w3.heap.size w3 w4 := by rw [hw4]; exact (Below.refl _ _).alloc (Nat.le_refl _) _
  have R := Aside0.mk (R3.out.step hbl4)
  have HB := Aside0.mk hb4
  have q0 : w4.cell? ⟨g4, 0, none⟩ = some (.func (.func 59) #[.agg (pcs p A1 c1 A2 c2 A3 c3)] #[]) := (blk_cell hb4 0).trans rfl
  clear hg4 hw4 hb4 hbl4 R3
  go_wp2_with fail
  refine wp_loop_rounds 6 ?_
  rw [rounds_succ]
  go_wp2_with fail
  refine (shape_any p A1 c1 A2 c2 A3 c3 _ (HG.out.below R.out.below)).mono ?_
  rintro e v0 ⟨hy, hn, hb⟩
  have RN := Aside0.mk (R.out.step hb)
  have HBN := Aside0.mk (blk_below HB.out hb)
  clear R HB
  have R := RN
  have HB := HBN
  clear RN HBN hb q0
  cases hk0 : shapeOk p with
  | false =>
    obtain rfl := hn hk0
    clear hy hn
    have c0 := R.out.c0
    have f0 := R.out.f0
    have e9 : err p = 9 := by unfold err ok; rw [hk0]; simp
    have E9 := Aside0.mk e9
    clear e9
    refine leaves_cons (f := 58) (args := #[.pointer (some ⟨g2, 0, none⟩)]) (by simp) (by simp [go_sem]) ?_
    refine (check_thrown ⟨g2, 0, none⟩ 0 [] _ c0 f0).mono ?_
    rintro e u' w'' ⟨rfl, rfl, rfl⟩
    have c9 := put_cell R.out (.int .i64 9) 86
    simp [Leaves, settle, results, Try.results32, go_sem, c9, E9.out]
    exact put_below R.out _ _
  | true =>
    obtain rfl := hy hk0
    clear hy hn
    have q1 : v0.cell? ⟨g4, 1, none⟩ = some (.func (.func 60) #[.agg (pcs p A1 c1 A2 c2 A3 c3)] #[]) := (blk_cell HB.out 1).trans rfl
    obtain ⟨t1, t2⟩ := times_of hk0
    go_wp2_with fail
    rw [rounds_succ]
    go_wp2_with fail
    refine (rates_any p A1 c1 A2 c2 A3 c3 _ t1 t2 (HP.out.below R.out.below).r1 HS.out.s1).mono ?_
    rintro e v1 ⟨hy, hn, hb⟩
    have RN := Aside0.mk (R.out.step hb)
    have HBN := Aside0.mk (blk_below HB.out hb)
    clear R HB
    have R := RN
    have HB := HBN
    clear RN HBN hb q1
    cases hk1 : ratesOk p with
    | false =>
      obtain rfl := hn hk1
      clear hy hn
      have c0 := R.out.c0
      have f0 := R.out.f0
      have e9 : err p = 9 := by unfold err ok; rw [hk1]; simp
      have E9 := Aside0.mk e9
      clear e9
      refine leaves_cons (f := 58) (args := #[.pointer (some ⟨g2, 0, none⟩)]) (by simp) (by simp [go_sem]) ?_
      refine (check_thrown ⟨g2, 0, none⟩ 0 [] _ c0 f0).mono ?_
      rintro e u' w'' ⟨rfl, rfl, rfl⟩
      have c9 := put_cell R.out (.int .i64 9) 86
      simp [Leaves, settle, results, Try.results32, go_sem, c9, E9.out]
      exact put_below R.out _ _
    | true =>
      obtain rfl := hy hk1
      clear hy hn
      have q2 : v1.cell? ⟨g4, 2, none⟩ = some (.func (.func 61) #[.agg (pcs p A1 c1 A2 c2 A3 c3)] #[]) := (blk_cell HB.out 2).trans rfl
      go_wp2_with fail
      rw [rounds_succ]
      go_wp2_with fail
      refine (order_any p A1 c1 A2 c2 A3 c3 _).mono ?_
      rintro e v2 ⟨hy, hn, hb⟩
      have RN := Aside0.mk (R.out.step hb)
      have HBN := Aside0.mk (blk_below HB.out hb)
      clear R HB
      have R := RN
      have HB := HBN
      clear RN HBN hb q2
      cases hk2 : ordOk p with
      | false =>
        obtain rfl := hn hk2
        clear hy hn
        have c0 := R.out.c0
        have f0 := R.out.f0
        have e9 : err p = 9 := by unfold err ok; rw [hk2]; simp
        have E9 := Aside0.mk e9
        clear e9
        refine leaves_cons (f := 58) (args := #[.pointer (some ⟨g2, 0, none⟩)]) (by simp) (by simp [go_sem]) ?_
        refine (check_thrown ⟨g2, 0, none⟩ 0 [] _ c0 f0).mono ?_
        rintro e u' w'' ⟨rfl, rfl, rfl⟩
        have c9 := put_cell R.out (.int .i64 9) 86
        simp [Leaves, settle, results, Try.results32, go_sem, c9, E9.out]
        exact put_below R.out _ _
      | true =>
        obtain rfl := hy hk2
        clear hy hn
        have q3 : v2.cell? ⟨g4, 3, none⟩ = some (.func (.func 62) #[.agg (pcs p A1 c1 A2 c2 A3 c3)] #[]) := (blk_cell HB.out 3).trans rfl
        go_wp2_with fail
        rw [rounds_succ]
        go_wp2_with fail
        refine (late_any p A1 c1 A2 c2 A3 c3 _ (HP.out.below R.out.below).r2 HS.out.s2).mono ?_
        rintro e v3 ⟨hy, hn, hb⟩
        have RN := Aside0.mk (R.out.step hb)
        have HBN := Aside0.mk (blk_below HB.out hb)
        clear R HB
        have R := RN
        have HB := HBN
        clear RN HBN hb q3
        cases hk3 : lateOk p with
        | false =>
          obtain rfl := hn hk3
          clear hy hn
          have c0 := R.out.c0
          have f0 := R.out.f0
          have e9 : err p = 9 := by unfold err ok; rw [hk3]; simp
          have E9 := Aside0.mk e9
          clear e9
          refine leaves_cons (f := 58) (args := #[.pointer (some ⟨g2, 0, none⟩)]) (by simp) (by simp [go_sem]) ?_
          refine (check_thrown ⟨g2, 0, none⟩ 0 [] _ c0 f0).mono ?_
          rintro e u' w'' ⟨rfl, rfl, rfl⟩
          have c9 := put_cell R.out (.int .i64 9) 86
          simp [Leaves, settle, results, Try.results32, go_sem, c9, E9.out]
          exact put_below R.out _ _
        | true =>
          obtain rfl := hy hk3
          clear hy hn
          have q4 : v3.cell? ⟨g4, 4, none⟩ = some (.func (.func 63) #[.agg (pcs p A1 c1 A2 c2 A3 c3)] #[]) := (blk_cell HB.out 4).trans rfl
          go_wp2_with fail
          rw [rounds_succ]
          go_wp2_with fail
          refine (days_any p A1 c1 A2 c2 A3 c3 _ (HP.out.below R.out.below).r3 (HP.out.below R.out.below).l3 (HP.out.below R.out.below).n3 HS.out.s3).mono ?_
          rintro e v4 ⟨hy, hn, hb⟩
          have RN := Aside0.mk (R.out.step hb)
          have HBN := Aside0.mk (blk_below HB.out hb)
          clear R HB
          have R := RN
          have HB := HBN
          clear RN HBN hb q4
          cases hk4 : daysOk p with
          | false =>
            obtain rfl := hn hk4
            clear hy hn
            have c0 := R.out.c0
            have f0 := R.out.f0
            have e9 : err p = 9 := by unfold err ok; rw [hk4]; simp
            have E9 := Aside0.mk e9
            clear e9
            refine leaves_cons (f := 58) (args := #[.pointer (some ⟨g2, 0, none⟩)]) (by simp) (by simp [go_sem]) ?_
            refine (check_thrown ⟨g2, 0, none⟩ 0 [] _ c0 f0).mono ?_
            rintro e u' w'' ⟨rfl, rfl, rfl⟩
            have c9 := put_cell R.out (.int .i64 9) 86
            simp [Leaves, settle, results, Try.results32, go_sem, c9, E9.out]
            exact put_below R.out _ _
          | true =>
            obtain rfl := hy hk4
            clear hy hn
            go_wp2_with fail
            rw [rounds_succ]
            have c0 := R.out.c0
            have f0 := R.out.f0
            have e0 : err p = 0 := by unfold err ok; rw [hk0, hk1, hk2, hk3, hk4]; rfl
            have E0 := Aside0.mk e0
            clear e0
            go_wp2_with fail
            refine leaves_cons (f := 58) (args := #[.pointer (some ⟨g2, 0, none⟩)]) (by simp) (by simp [go_sem]) ?_
            refine (check_idle ⟨g2, 0, none⟩ _).mono ?_
            rintro e u' w'' ⟨rfl, rfl, rfl⟩
            have c9 := World.cell?_setCell_same v4 ⟨g2, 0, none⟩ (.int .i64 0) c0
            simp [Leaves, settle, results, Try.results32, go_sem, c9, E0.out]
            exact R.out.below.setCell (by exact R.out.ge) _
end Go.Proofs.Ytcfpkkgdofblfaa.Pd
/- dues.Days: the days on which instalments are due. -/
namespace Go.Proofs.Ytcfpkkgdofblfaa.Du
open Go.RowKit Go.Proofs.YtcfpkkgdofblfaaW.PrintWords Go.Proofs.YtcfpkkgdofblfaaW.PrintLast Go.Proofs.YtcfpkkgdofblfaaW.PrintMore Go.Proofs.Ytcfpkkgdofblfaa.HW
open Go.Proofs.Ytcfpkkgdofblfaa.Math Go.Proofs.Ytcfpkkgdofblfaa.H Go.Proofs.Ytcfpkkgdofblfaa.Pd Pm
attribute [local go_sem] run_makeFunc_
set_option linter.unusedVariables false
set_option linter.unusedSimpArgs false
theorem cell_lt {w : World} {ad : Addr} {v : Value} (h : w.cell? ad = some v) : ad.block < w.heap.size := by
  rcases Nat.lt_or_ge ad.block w.heap.size with h1 | h1
  · exact h1
  · exfalso
    have e : w.heap[ad.block]? = none := Array.getElem?_eq_none h1
    simp [World.cell?, e] at h
theorem C_but {w w1 : World} {A : Option Addr} {n g : Nat} {l : List Int} {k : IntKind} (h : Kd.C (Kd.int k) w A n l) (hb : But g w w1) (hA : ∀ ad, A = some ad → ad.block ≠ g) : Kd.C (Kd.int k) w1 A n l := by
  have h' := Kd.reads_of_C (d := (0 : Int)) h
  refine Kd.C_of_reads (d := (0 : Int)) ⟨h'.1, h'.2.1, fun hn => ?_⟩
  obtain ⟨ad, e, hc⟩ := h'.2.2 hn
  refine ⟨ad, e, fun j hj => ?_⟩
  have hj' := hc j hj
  have hlt := cell_lt hj'
  rw [hb.cell hlt (by have := hA ad e; simp only [Addr.add]; split <;> exact this)]
  exact hj'
theorem CalIn.but {B : Nat} {w w1 : World} {gb g : Nat} {l : List Int} (h : CalIn B w gb l) (hb : But g w w1) (h1 : gb ≠ g) (h2 : g < B) : CalIn B w1 gb l := by
  obtain ⟨A, c, c1, c2, c3, c4, c5, c6, c7⟩ := h
  exact ⟨A, c, by rw [hb.cell (by exact c6) (by exact h1)]; exact c1, C_but c2 hb (fun ad e => by have := c7 ad e; omega), c3, c4, c5, Nat.lt_of_lt_of_le c6 hb.size, c7⟩
theorem CalIn.below {B : Nat} {w w1 : World} {gb : Nat} {l : List Int} (h : CalIn B w gb l) (hb : Below w.heap.size w w1) : CalIn B w1 gb l := by
  obtain ⟨A, c, h1, h2, h3, h4, h5, h6, h7⟩ := h
  exact ⟨A, c, by rw [hb.cell (by exact h6)]; exact h1, Kd.C_below h2 hb, h3, h4, h5, Nat.lt_of_lt_of_le h6 hb.size, h7⟩
theorem roller_any {gb : Nat} {l : List Int} {day how r1 r2 : Int} {w : World} (h : CalAt w gb l) (hr : rollS l day how = (r1, r2)) :
    Calls Try.prog 35 #[.agg #[.pointer (some ⟨gb, 0, none⟩), .int .i64 how], .int .i64 day] w fun e w' => e = .returned (.tuple #[.int .i64 r1, .int .i64 r2]) ∧ Below w.heap.size w w' := by
  have HA := Aside0.mk h
  have HR := Aside0.mk hr
  clear h hr
  have HB := Aside0.mk (below_alloc (Below.refl w.heap.size w) (.cells #[.pointer (some ⟨gb, 0, none⟩), .int .i64 how] 64))
  go_enter Try.func35, Try.ntmps35
  go_wp2_with (go_at_call 67; (with_reducible refine (roll_any (HA.out.below HB.out) HR.out).mono ?_); rintro e w2 ⟨rfl, hb⟩; have HB2 := Aside0.mk (below_step HB.out hb); clear hb)
  go_ret2
  exact ⟨rfl, HB2.out⟩
/-- What a call gives that hands back a list of its own, or none, and why. -/
def Listed (r : List Int × Int) (w : World) (e : Ending) (w' : World) : Prop := ∃ v, e = .returned (.tuple #[v, .int .i64 r.2]) ∧ RowI w' w.heap.size v r.1 ∧ Below w.heap.size w w'
theorem dates_any (n e t : Int) (w : World) : Calls Try.prog 33 #[.int .i64 n, .int .i64 e, .int .i64 t] w (Listed (datesP n e t) w) := by
  refine (PDA.monthly_Dates.calls (t.toNat + 2) n e t _ _ w civ_dates.2.1).mono ?_
  rintro e w' ⟨v, he, hr, hb⟩
  exact ⟨v, he, row_of_R hr, hb⟩
theorem dates_full : ∀ (m : Nat) (n e i : Int) (l : List Int), (dates m n e i l).2 = 0 → (dates m n e i l).1.length = l.length + m
  | 0, n, e, i, l => by simp [dates]
  | m + 1, n, e, i, l => by
    unfold dates
    split
    · intro h
      have := dates_full m n e (i + 1) (l ++ [(add n ((i + 1) * e)).1]) h
      simp at this ⊢
      omega
    · rename_i h; intro h2; exact absurd h2 h
theorem datesP_full {n e t : Int} (h : (datesP n e t).2 = 0) : ((datesP n e t).1.length : Int) = t ∧ 1 ≤ t ∧ t ≤ 600 := by
  unfold datesP at h ⊢
  split at h
  · rename_i hc
    rw [if_pos hc]
    have := dates_full t.toNat n e 0 [] h
    simp at this
    omega
  · cases h
set_option maxRecDepth 100000 in
set_option maxHeartbeats 2000000 in
theorem days_refused (p : Prod) (A1 : Option Addr) (c1 : Nat) (A2 : Option Addr) (c2 : Nat) (A3 : Option Addr) (c3 : Nat) (start : Int) (w : World) (hg : GV w) (hp : ProdAt w p A1 c1 A2 c2 A3 c3) (hs : Small p) (ho : ok p = false) :
    Calls Try.prog 14 #[pv p A1 c1 A2 c2 A3 c3, .int .i64 start] w (Listed (daysP p start) w) := by
  have er : err p = 9 := by unfold err; rw [ho]; rfl
  have ed : daysP p start = ([], 9) := by unfold daysP; rw [ho]; rfl
  rw [ed]
  have HG := Aside0.mk hg
  have HP := Aside0.mk hp
  have CK := Aside0.mk (fun w1 (hb : Below w.heap.size w w1) => check_any p A1 c1 A2 c2 A3 c3 w1 (HG.out.below hb) (HP.out.below hb) hs)
  rw [er] at CK
  clear hg hp ed er ho hs
  go_enter Try.func14, Try.ntmps14
  go_wp2_with ((with_reducible refine gate_dst (N := 2) rfl ?_); refine box_event ?hg (N := 2) ?hd (cs := pcs p A1 c1 A2 c2 A3 c3) (t := 27) ?hr ?_; (case hd => rfl); (case hg => rfl); (case hr => first | (go_simp; done) | (go_simp; rfl)); intro g2 hg v0 hb1 hbl1; clear hg; have G2 := Aside0.mk hb1; have HB := Aside0.mk hbl1; clear hb1 hbl1; refine Hid.out ?_)
  refine Lib.hid ?_
  go_wp2_with (first
    | ((with_reducible refine gate_dst (N := 16) rfl ?_); refine wpList_load_row rfl 27 (.tmp 2) rfl g2 rfl 27 _ (0, 0) _ G2.out Try.underlying27 rfl info_prod ?_)
    | (go_at_call 32; (with_reducible refine (CK.out _ HB.out).mono ?_); rintro e w2 ⟨rfl, hb⟩; have HB := Aside0.mk (below_step HB.out hb); have G2 := Aside0.mk (Pd.blk_below G2.out hb); clear hb; obtain ⟨-, -, -, -, q4, q5, -, -, -, -, -, -, -, -, -, -, -, q17, q18⟩ := pc_cells G2.out))
  go_ret2
  exact ⟨_, rfl, Or.inl ⟨rfl, rfl⟩, HB.out⟩
set_option maxRecDepth 100000 in
set_option maxHeartbeats 2000000 in
theorem days_none (p : Prod) (A1 : Option Addr) (c1 : Nat) (A2 : Option Addr) (c2 : Nat) (A3 : Option Addr) (c3 : Nat) (start : Int) (w : World) (hg : GV w) (hp : ProdAt w p A1 c1 A2 c2 A3 c3) (hs : Small p) (ho : ok p = true) (hd : (datesP start p.every p.times).2 ≠ 0) :
    Calls Try.prog 14 #[pv p A1 c1 A2 c2 A3 c3, .int .i64 start] w (Listed (daysP p start) w) := by
  have er : err p = 0 := by unfold err; rw [ho]; rfl
  have ed : daysP p start = ([], (datesP start p.every p.times).2) := by unfold daysP; rw [if_pos ho, if_neg hd]
  rw [ed]
  have HG := Aside0.mk hg
  have HP := Aside0.mk hp
  have CK := Aside0.mk (fun w1 (hb : Below w.heap.size w w1) => check_any p A1 c1 A2 c2 A3 c3 w1 (HG.out.below hb) (HP.out.below hb) hs)
  rw [er] at CK
  have dt := fun w => dates_any start p.every p.times w
  generalize datesP start p.every p.times = D at dt hd ⊢
  obtain ⟨l, e0⟩ := D
  have DT := Aside0.mk dt
  have he : (e0 != 0) = true := by simpa using hd
  clear hg hp ed er ho hs dt hd
  go_enter Try.func14, Try.ntmps14
  go_wp2_with ((with_reducible refine gate_dst (N := 2) rfl ?_); refine box_event ?hg (N := 2) ?hd (cs := pcs p A1 c1 A2 c2 A3 c3) (t := 27) ?hr ?_; (case hd => rfl); (case hg => rfl); (case hr => first | (go_simp; done) | (go_simp; rfl)); intro g2 hg v0 hb1 hbl1; clear hg; have G2 := Aside0.mk hb1; have HB := Aside0.mk hbl1; clear hb1 hbl1; refine Hid.out ?_)
  refine Lib.hid ?_
  go_wp2_with (first
    | ((with_reducible refine gate_dst (N := 16) rfl ?_); refine wpList_load_row rfl 27 (.tmp 2) rfl g2 rfl 27 _ (0, 0) _ G2.out Try.underlying27 rfl info_prod ?_)
    | (go_at_call 32; (with_reducible refine (CK.out _ HB.out).mono ?_); rintro e w2 ⟨rfl, hb⟩; have HB := Aside0.mk (below_step HB.out hb); have G2 := Aside0.mk (Pd.blk_below G2.out hb); clear hb; obtain ⟨-, -, -, -, q4, q5, -, -, -, -, -, -, -, -, -, -, -, q17, q18⟩ := pc_cells G2.out)
    | (go_at_call 33; (with_reducible refine (DT.out _).mono ?_); rintro e w3 ⟨v, rfl, hr, hb⟩; have RW := Aside0.mk hr; have HB := Aside0.mk (below_step HB.out hb); have G2 := Aside0.mk (Pd.blk_below G2.out hb); clear hr hb; obtain ⟨-, -, -, -, q4, q5, -, -, -, -, -, -, -, -, -, -, -, q17, q18⟩ := pc_cells G2.out))
  go_ret2
  exact ⟨_, rfl, Or.inl ⟨rfl, rfl⟩, HB.out⟩
end Go.Proofs.Ytcfpkkgdofblfaa.Du
/- dues.Days, where all may be: each day rolled, and whether they rise. -/
namespace Go.Proofs.Ytcfpkkgdofblfaa.Du
open Go.RowKit Go.Proofs.YtcfpkkgdofblfaaW.PrintWords Go.Proofs.YtcfpkkgdofblfaaW.PrintLast Go.Proofs.YtcfpkkgdofblfaaW.PrintMore Go.Proofs.Ytcfpkkgdofblfaa.HW
open Go.Proofs.Ytcfpkkgdofblfaa.Math Go.Proofs.Ytcfpkkgdofblfaa.H Go.Proofs.Ytcfpkkgdofblfaa.Pd Pm
attribute [local go_sem] run_makeFunc_
set_option linter.unusedVariables false
set_option linter.unusedSimpArgs false
theorem nums_at (pre : List Int) (d : Int) (r : List Int) (t : List Value) (k : Nat) (h : pre.length = k) : (nums .i64 (pre ++ d :: r) ++ t)[k]? = some (.int .i64 d) := by
  subst h
  simp [nums]
theorem nums_set (pre : List Int) (d x : Int) (r : List Int) (t : List Value) (k : Nat) (h : pre.length = k) : (nums .i64 (pre ++ d :: r) ++ t).set k (.int .i64 x) = nums .i64 (pre ++ [x] ++ r) ++ t := by
  subst h
  simp [nums, List.set_append]
theorem ok_days {p : Prod} (h : ok p = true) : p.hol.length ≤ 200 ∧ holsOk (-25568) p.hol = true ∧ 1 ≤ p.roll ∧ p.roll ≤ 4 := by
  simp only [ok, daysOk, Bool.and_eq_true, decide_eq_true_eq] at h
  exact ⟨h.2.1.1, h.2.2, h.2.1.2.1.1, h.2.1.2.1.2⟩
/-- A calendar of holidays that may be. -/
def Made1 (l : List Int) (w : World) (e : Ending) (w' : World) : Prop := ∃ gb, e = .returned (.tuple #[.pointer (some ⟨gb, 0, none⟩), .int .i64 0]) ∧ w.heap.size ≤ gb ∧ CalIn w.heap.size w' gb l ∧ Below w.heap.size w w'
theorem new_ok (p : Prod) (A1 : Option Addr) (c1 : Nat) (A2 : Option Addr) (c2 : Nat) (A3 : Option Addr) (c3 : Nat) (w : World) (hp : ProdAt w p A1 c1 A2 c2 A3 c3) (ho : ok p = true) : Calls Try.prog 34 #[.slice A3 p.hol.length c3] w (Made1 p.hol w) := by
  obtain ⟨h1, h2, -, -⟩ := ok_days ho
  refine (new_few2 A3 c3 p.hol true w hp.r3 hp.l3 hp.n3 h1 ((rises_pm _ _).trans h2)).mono ?_
  rintro e w' ⟨hb, -, h⟩
  obtain ⟨gb, hge, he, hc⟩ := h rfl
  exact ⟨gb, he, hge, hc, hb⟩
/-- A list of the call's own that is not empty. -/
def Listed1 (l : List Int) (w : World) (e : Ending) (w' : World) : Prop := ∃ g c t, e = .returned (.tuple #[.slice (some ⟨g, 0, none⟩) l.length c, .int .i64 0]) ∧ w.heap.size ≤ g ∧ l.length ≤ c ∧ H.Blk w' g 3 (nums .i64 l ++ t) ∧ Below w.heap.size w w'
theorem Listed.one {l : List Int} {w w' : World} {e : Ending} (h : Listed (l, 0) w e w') (hl : l ≠ []) : Listed1 l w e w' := by
  obtain ⟨v, he, hr, hb⟩ := h
  rcases hr with ⟨-, h⟩ | ⟨g, c, t, rfl, hg, hc, hk⟩
  · exact absurd h hl
  · exact ⟨g, c, t, he, hg, hc, hk, hb⟩
/-- What comes of the days, rolled. -/
def risen (start : Int) (r : List Int × Int) : List Int × Int := if r.2 = 0 then if rise start r.1 = true then (r.1, 0) else ([], 11) else ([], r.2)
set_option maxRecDepth 100000 in
set_option maxHeartbeats 4000000 in
theorem days_main (p : Prod) (A1 : Option Addr) (c1 : Nat) (A2 : Option Addr) (c2 : Nat) (A3 : Option Addr) (c3 : Nat) (start : Int) (w : World) (hg : GV w) (hp : ProdAt w p A1 c1 A2 c2 A3 c3) (hs : Small p) (ho : ok p = true) (l : List Int) (hd : datesP start p.every p.times = (l, 0)) :
    Calls Try.prog 14 #[pv p A1 c1 A2 c2 A3 c3, .int .i64 start] w (Listed (risen start (rollAll p.hol p.roll l)) w) := by
  generalize hR : risen start (rollAll p.hol p.roll l) = R
  have RR := Aside0.mk hR
  clear hR
  have er : err p = 0 := by unfold err; rw [ho]; rfl
  have hfull := datesP_full (n := start) (e := p.every) (t := p.times) (by rw [hd])
  rw [hd] at hfull
  have hne : l ≠ [] := fun e => by rw [e] at hfull; have := hfull.1; simp at this; omega
  have hln : l.length ≤ 600 := by have := hfull.1; simp only [] at this; omega
  have HG := Aside0.mk hg
  have HP := Aside0.mk hp
  have CK := Aside0.mk (fun w1 (hb : Below w.heap.size w w1) => check_any p A1 c1 A2 c2 A3 c3 w1 (HG.out.below hb) (HP.out.below hb) hs)
  rw [er] at CK
  have DT := Aside0.mk (fun w => show Calls Try.prog 33 #[.int .i64 start, .int .i64 p.every, .int .i64 p.times] w (Listed1 l w) from (dates_any start p.every p.times w).mono fun e w' h => by rw [hd] at h; exact h.one hne)
  have NW := Aside0.mk (fun w1 (hb : Below w.heap.size w w1) => new_ok p A1 c1 A2 c2 A3 c3 w1 (HP.out.below hb) ho)
  have hlp : 0 < l.length := by cases l with | nil => exact absurd rfl hne | cons a r => simp
  clear hg hp er ho hs hd hfull hne
  go_enter Try.func14, Try.ntmps14
  go_wp2_with ((with_reducible refine gate_dst (N := 2) rfl ?_); refine box_event ?hg (N := 2) ?hd (cs := pcs p A1 c1 A2 c2 A3 c3) (t := 27) ?hr ?_; (case hd => rfl); (case hg => rfl); (case hr => first | (go_simp; done) | (go_simp; rfl)); intro g2 hg v0 hb1 hbl1; clear hg; have G2 := Aside0.mk hb1; have HB := Aside0.mk hbl1; clear hb1 hbl1; refine Hid.out ?_)
  refine Lib.hid ?_
  go_wp2_with (first
    | ((with_reducible refine gate_dst (N := 16) rfl ?_); refine wpList_load_row rfl 27 (.tmp 2) rfl g2 rfl 27 _ (0, 0) _ G2.out Try.underlying27 rfl info_prod ?_)
    | (go_at_call 32; (with_reducible refine (CK.out _ HB.out).mono ?_); rintro e w2 ⟨rfl, hb⟩; have HB := Aside0.mk (below_step HB.out hb); have G2 := Aside0.mk (Pd.blk_below G2.out hb); clear hb; obtain ⟨-, -, -, -, q4, q5, -, -, -, -, -, -, -, -, -, -, -, q17, q18⟩ := pc_cells G2.out)
    | (go_at_call 33; (with_reducible refine (DT.out _).mono ?_); rintro e w3 ⟨g, c, t, rfl, hge0, hc, hbk, hb⟩; have hge := Nat.le_trans (Below.size HB.out) hge0; clear hge0; have BK := Aside0.mk hbk; have gsz := Blk.lt hbk; have HB := Aside0.mk (below_step HB.out hb); have G2 := Aside0.mk (Pd.blk_below G2.out hb); clear hb hbk; obtain ⟨-, -, -, -, q4, q5, -, -, -, -, -, -, -, -, -, -, -, q17, q18⟩ := pc_cells G2.out)
    | (go_at_call 34; (with_reducible refine (NW.out _ HB.out).mono ?_); rintro e w4 ⟨gb, rfl, hgb, hcal, hb⟩; have CA := Aside0.mk hcal; have BK := Aside0.mk (BK.out.below hb); have HB := Aside0.mk (below_step HB.out hb); have G2 := Aside0.mk (Pd.blk_below G2.out hb); clear hb hcal; obtain ⟨-, -, -, -, q4, q5, -, -, -, -, -, -, -, -, -, -, -, q17, q18⟩ := pc_cells G2.out))
  have gne : gb ≠ g := by omega
  go_loopg [46] (l.length + 1) (fun gq iv w' => ∃ (k : Nat) (pre : List Int), k ≤ l.length ∧ iv = .int .i64 (k : Int) ∧ Aside0 (pre.length = k) ∧ Aside0 (gq = l.length + 1 - k) ∧ Aside0 (rollAll p.hol p.roll l = after pre (rollAll p.hol p.roll (l.drop k))) ∧ Aside0 (H.Blk w' g 3 (nums .i64 (pre ++ l.drop k) ++ t)) ∧ Aside0 (CalIn w3.heap.size w' gb p.hol) ∧ Aside0 (Below w.heap.size w w'))
  case atStart => exact ⟨0, [], by omega, rfl, ⟨rfl⟩, ⟨rfl⟩, ⟨(after_nil (rollAll_err _ _ _)).symm⟩, BK, CA, HB⟩
  case round =>
    obtain ⟨k, pre, kn, rfl, hpl, hgq, hra, hbk, hcal, hbel⟩ := hrel
    by_cases hlt : k < l.length
    · have hdr : l.drop k = l[k] :: l.drop (k + 1) := List.drop_eq_getElem_cons hlt
      rw [hdr] at hra hbk
      have hat := nums_at pre l[k] (l.drop (k + 1)) t k hpl.out
      have hcl0 := (hbk.out.cell k).trans hat
      have hsz : (k : Int) < (l.length : Int) := by omega
      obtain ⟨x, e1, hx⟩ : ∃ x e1, rollS p.hol l[k] p.roll = (x, e1) := ⟨_, _, rfl⟩
      have RC := Aside0.mk (roller_any (CalIn.at hcal.out) hx)
      have HAT := Aside0.mk hat
      by_cases he1 : e1 = 0
      · subst he1
        have hra2 := Aside0.mk (show rollAll p.hol p.roll l = after (pre ++ [x]) (rollAll p.hol p.roll (l.drop (k + 1))) by
          have e := hra.out
          rw [rollAll, hx, if_pos rfl] at e
          rw [e, after_after])
        clear hra hx hdr
        go_wp2_with ((with_reducible refine gate_calleeV (t := 54) rfl ?_); refine goesV_ 54 #[.agg #[.pointer (some ⟨gb, 0, none⟩), .int .i64 p.roll]] (by first | rfl | (simp; done)) (some 56) rfl rfl Try.func35 (by kernel_rfl) rfl #[.agg #[.pointer (some ⟨gb, 0, none⟩), .int .i64 p.roll], .int .i64 l[k]] rfl (by (try simp only [List.map_toArray, List.map_cons, List.map_nil]); first | done | rfl | (simp; done)) ?_; (with_reducible refine (RC.out).mono ?_); rintro e w13 ⟨rfl, hb⟩; refine ⟨_, rfl, ?_⟩; have BK2 := Aside0.mk (hbk.out.below hb); have CA2 := Aside0.mk (CalIn.below hcal.out hb); have HB2 := Aside0.mk (below_step hbel.out hb); have hcl := (BK2.out.cell k).trans hat; have hfz := BK2.out.frozen k; clear hb)
        have BK3 := BK2.out.put k (.int .i64 x)
        rw [nums_set pre l[k] x (l.drop (k + 1)) t k hpl.out] at BK3
        have hbut : But g w13 (w13.setCell ⟨g, k, none⟩ (.int .i64 x)) := (But.of (Below.refl w13.heap.size w13)).setCell (p := ⟨g, k, none⟩) (Or.inl rfl) _
        go_roundg (l.length + 1 - (k + 1))
        case measure => have := hgq.out; omega
        case rel => exact ⟨k + 1, pre ++ [x], by omega, by simp, ⟨by simp [hpl.out]⟩, ⟨rfl⟩, hra2, ⟨BK3⟩, ⟨CalIn.but CA2.out hbut gne (by omega)⟩, ⟨But.below HB2.out HB2.out.size hge hbut⟩⟩
      · have he : (e1 != 0) = true := by simpa using he1
        have fin := Aside0.mk (show R = ([], e1) by
          have e := hra.out
          rw [rollAll, hx, if_neg he1, after_err pre he1] at e
          rw [← RR.out]
          unfold risen
          rw [e, if_neg he1])
        clear hra hx hdr he1
        go_wp2_with ((with_reducible refine gate_calleeV (t := 54) rfl ?_); refine goesV_ 54 #[.agg #[.pointer (some ⟨gb, 0, none⟩), .int .i64 p.roll]] (by first | rfl | (simp; done)) (some 56) rfl rfl Try.func35 (by kernel_rfl) rfl #[.agg #[.pointer (some ⟨gb, 0, none⟩), .int .i64 p.roll], .int .i64 l[k]] rfl (by (try simp only [List.map_toArray, List.map_cons, List.map_nil]); first | done | rfl | (simp; done)) ?_; (with_reducible refine (RC.out).mono ?_); rintro e w13 ⟨rfl, hb⟩; refine ⟨_, rfl, ?_⟩; have BK2 := Aside0.mk (hbk.out.below hb); have CA2 := Aside0.mk (CalIn.below hcal.out hb); have HB2 := Aside0.mk (below_step hbel.out hb); have hcl := (BK2.out.cell k).trans hat; have hfz := BK2.out.frozen k; clear hb)
        have hbut : But g w13 (w13.setCell ⟨g, k, none⟩ (.int .i64 x)) := (But.of (Below.refl w13.heap.size w13)).setCell (p := ⟨g, k, none⟩) (Or.inl rfl) _
        go_ret2
        rw [fin.out]
        exact ⟨_, rfl, Or.inl ⟨rfl, rfl⟩, But.below HB2.out HB2.out.size hge hbut⟩
    · obtain rfl : k = l.length := by omega
      have hra2 := hra.out
      rw [List.drop_length, rollAll, after, if_pos rfl, List.append_nil] at hra2
      have hbk2 := hbk.out
      rw [List.drop_length, List.append_nil] at hbk2
      have RR2 := Aside0.mk (show R = (if rise start pre = true then (pre, 0) else ([], 11)) by rw [← RR.out, hra2]; rfl)
      clear RR
      have BK2 := Aside0.mk hbk2
      have pl := hpl.out
      clear hra hra2 hbk hbk2 hcal CA CK DT NW HG HP
      go_wp2_with fail
      go_loopg [66] (l.length + 1) (fun gq iv w' => ∃ (k : Nat) (pv : Int), k ≤ l.length ∧ iv = .int .i64 (k : Int) ∧ Aside0 (k = 0 ∧ pv = start ∨ 0 < k ∧ pre[k - 1]? = some pv) ∧ Aside0 (gq = l.length + 1 - k) ∧ Aside0 (rise start pre = rise pv (pre.drop k)) ∧ Aside0 (H.Blk w' g 3 (nums .i64 pre ++ t)) ∧ Aside0 (Below w.heap.size w w'))
      case atStart => exact ⟨0, start, by omega, rfl, ⟨Or.inl ⟨rfl, rfl⟩⟩, ⟨rfl⟩, ⟨rfl⟩, BK2, hbel⟩
      case round =>
        obtain ⟨k, pv, kn, rfl, hpv, hgq2, hri, hbk, hbel2⟩ := hrel
        by_cases hlt : k < l.length
        · have hdr : pre.drop k = pre[k] :: pre.drop (k + 1) := List.drop_eq_getElem_cons (by omega)
          have hcl := (hbk.out.cell k).trans (show (nums .i64 pre ++ t)[k]? = some (.int .i64 (pre[k]'(by omega))) by rw [List.getElem?_append_left (by simp [nums]; omega)]; simp [nums] <;> omega)
          have hsz : (k : Int) < (l.length : Int) := by omega
          have hri2 := hri.out
          rw [hdr, rise] at hri2
          generalize hd : pre[k]'(by omega) = d at *
          have HD := Aside0.mk (show pre[k]? = some d by rw [← hd]; exact List.getElem?_eq_getElem _)
          clear hd hdr
          by_cases hle : d ≤ pv
          · have fin := Aside0.mk (show R = ([], 11) by rw [RR2.out, hri2, decide_eq_false (by omega)]; rfl)
            have tl : decide (d ≤ pv) = true := decide_eq_true hle
            clear hri hri2 hle
            rcases hpv.out with ⟨rfl, rfl⟩ | ⟨k0, hk⟩
            · go_wp2_with fail
              go_ret2
              rw [fin.out]
              exact ⟨_, rfl, Or.inl ⟨rfl, rfl⟩, hbel2.out⟩
            · obtain ⟨j, rfl⟩ : ∃ j, k = j + 1 := ⟨k - 1, by omega⟩
              have hj0 : (((j + 1 : Nat) : Int) == 0) = false := by simp; omega
              have hj1 : decide ((0 : Int) < ((j + 1 : Nat) : Int)) = true := decide_eq_true (by omega)
              have hcj := (hbk.out.cell j).trans (show (nums .i64 pre ++ t)[j]? = some (.int .i64 pv) by simp at hk; rw [List.getElem?_append_left (by simp [nums]; omega)]; simp [nums, hk])
              have hjz : (j : Int) < (l.length : Int) := by omega
              clear k0 hk
              go_wp2_with fail
              go_ret2
              rw [fin.out]
              exact ⟨_, rfl, Or.inl ⟨rfl, rfl⟩, hbel2.out⟩
          · have tl : decide (d ≤ pv) = false := decide_eq_false hle
            have hri3 := Aside0.mk (show rise start pre = rise d (pre.drop (k + 1)) by rw [hri2, decide_eq_true (by omega)]; simp)
            clear hri hri2 hle
            rcases hpv.out with ⟨rfl, rfl⟩ | ⟨k0, hk⟩
            · go_wp2_with fail
              go_roundg (l.length + 1 - (0 + 1))
              case measure => have := hgq2.out; omega
              case rel => exact ⟨1, d, by omega, by simp, ⟨Or.inr ⟨by omega, HD.out⟩⟩, ⟨rfl⟩, hri3, hbk, hbel2⟩
            · obtain ⟨j, rfl⟩ : ∃ j, k = j + 1 := ⟨k - 1, by omega⟩
              have hj0 : (((j + 1 : Nat) : Int) == 0) = false := by simp; omega
              have hj1 : decide ((0 : Int) < ((j + 1 : Nat) : Int)) = true := decide_eq_true (by omega)
              have hcj := (hbk.out.cell j).trans (show (nums .i64 pre ++ t)[j]? = some (.int .i64 pv) by simp at hk; rw [List.getElem?_append_left (by simp [nums]; omega)]; simp [nums, hk])
              have hjz : (j : Int) < (l.length : Int) := by omega
              clear k0 hk
              go_wp2_with fail
              go_roundg (l.length + 1 - (j + 1 + 1))
              case measure => have := hgq2.out; omega
              case rel => exact ⟨j + 2, d, by omega, by simp; omega, ⟨Or.inr ⟨by omega, HD.out⟩⟩, ⟨rfl⟩, hri3, hbk, hbel2⟩
        · obtain rfl : k = l.length := by omega
          have hri2 := hri.out
          rw [List.drop_eq_nil_of_le (by omega), rise] at hri2
          have fin := Aside0.mk (show R = (pre, 0) by rw [RR2.out, hri2]; rfl)
          clear hri hri2
          go_wp2_with fail
          go_ret2
          rw [fin.out]
          exact ⟨_, rfl, Or.inr ⟨g, c, t, by rw [pl]; rfl, hge, by rw [pl]; exact hc, hbk.out⟩, hbel2.out⟩
end Go.Proofs.Ytcfpkkgdofblfaa.Du
/- Contracts by hand: the document's names. -/
namespace Go.Proofs.Ytcfpkkgdofblfaa.Pd
open Go.RowKit Go.Proofs.YtcfpkkgdofblfaaW.PrintWords Go.Proofs.YtcfpkkgdofblfaaW.PrintLast Go.Proofs.YtcfpkkgdofblfaaW.PrintMore Go.Proofs.Ytcfpkkgdofblfaa.HW
open Pm
set_option linter.unusedVariables false
set_option linter.unusedSimpArgs false
theorem within_r (v a b : Int) (w : World) : Calls Try.prog 54 #[.int .i64 v, .int .i64 a, .int .i64 b] w fun e w' => e = .returned (.bool (decide (a ≤ v ∧ v ≤ b))) ∧ w = w' := by
  by_cases h1 : a ≤ v
  · by_cases h2 : v ≤ b
    · have hd : decide (a ≤ v ∧ v ≤ b) = true := decide_eq_true ⟨h1, h2⟩
      rw [hd]
      clear hd
      go_enter Try.func54, Try.ntmps54
      go_wp2
      go_ret
      exact ⟨rfl, rfl⟩
    · have hd : decide (a ≤ v ∧ v ≤ b) = false := decide_eq_false (fun h => h2 h.2)
      rw [hd]
      have q : decide (v ≤ b) = false := decide_eq_false h2
      clear hd
      go_enter Try.func54, Try.ntmps54
      go_wp2
      go_ret
      exact ⟨rfl, rfl⟩
  · have hd : decide (a ≤ v ∧ v ≤ b) = false := decide_eq_false (fun h => h1 h.1)
    rw [hd]
    have q : decide (a ≤ v) = false := decide_eq_false h1
    clear hd
    go_enter Try.func54, Try.ntmps54
    go_wp2
    go_ret
    exact ⟨rfl, rfl⟩
theorem within_r_is {v a b : Int} {r : Bool} (h : decide (a ≤ v ∧ v ≤ b) = r) (w : World) : Calls Try.prog 54 #[.int .i64 v, .int .i64 a, .int .i64 b] w fun e w' => e = .returned (.bool r) ∧ w = w' := h ▸ within_r v a b w
theorem within_r0 {v a b : Int} {r : Bool} (h : decide (a ≤ v ∧ v ≤ b) = r) (w : World) : Calls Try.prog 54 #[.int .i64 v, .int .i64 a, .int .i64 b] w fun e w' => e = .returned (.bool r) ∧ w' = w := (within_r_is h w).mono fun _ _ h => ⟨h.1, h.2.symm⟩
theorem is_any (n : Int) (w : World) : Calls Try.prog 31 #[.int .i64 n] w fun e w' => e = .returned (.bool (decide (-25567 ≤ n ∧ n ≤ 84370))) ∧ w = w' := by
  by_cases h1 : -25567 ≤ n
  · by_cases h2 : n ≤ 84370
    · have hd : decide (-25567 ≤ n ∧ n ≤ 84370) = true := decide_eq_true ⟨h1, h2⟩
      rw [hd]
      clear hd
      go_enter Try.func31, Try.ntmps31
      go_wp2
      go_ret
      exact ⟨rfl, rfl⟩
    · have hd : decide (-25567 ≤ n ∧ n ≤ 84370) = false := decide_eq_false (fun h => h2 h.2)
      rw [hd]
      have q : decide (n ≤ 84370) = false := decide_eq_false h2
      clear hd
      go_enter Try.func31, Try.ntmps31
      go_wp2
      go_ret
      exact ⟨rfl, rfl⟩
  · have hd : decide (-25567 ≤ n ∧ n ≤ 84370) = false := decide_eq_false (fun h => h1 h.1)
    rw [hd]
    have q : decide (-25567 ≤ n) = false := decide_eq_false h1
    clear hd
    go_enter Try.func31, Try.ntmps31
    go_wp2
    go_ret
    exact ⟨rfl, rfl⟩
theorem is_is {n : Int} {r : Bool} (h : decide (-25567 ≤ n ∧ n ≤ 84370) = r) (w : World) : Calls Try.prog 31 #[.int .i64 n] w fun e w' => e = .returned (.bool r) ∧ w = w' := h ▸ is_any n w
/-- Is one among some numbers that lie in a block? -/
theorem in_int (g : Nat) (l : List Int) (c : Nat) (t : TypeId) (x : Int) (w : World) (hb : w.heap[g]? = some (.cells (l.map (Value.int .i64)).toArray t (0, 0))) (hm : l.length ≤ 1000000) :
    Calls Try.prog 44 #[.slice (some ⟨g, 0, none⟩) l.length c, .int .i64 x] w fun e w' => e = .returned (.bool (l.contains x)) ∧ w = w' := by
  obtain ⟨bb, hbb⟩ : ∃ bb, l.contains x = bb := ⟨_, rfl⟩
  rw [hbb]
  have HB := Aside0.mk hb
  have HBB := Aside0.mk hbb
  clear hb hbb
  go_enter Try.func44, Try.ntmps44
  go_wp2_with fail
  go_loop [5] (fun i => ∃ (k : Nat), k ≤ l.length ∧ i = .int .i64 k ∧ Aside0 ((l.drop k).contains x = bb)) (fun i => l.length - (intOf i).toNat)
  case atStart => exact ⟨0, Nat.zero_le _, rfl, ⟨HBB.out⟩⟩
  case round =>
    obtain ⟨k, hk, rfl, hq⟩ := hrel
    by_cases hlt : k < l.length
    · have hc : w.cell? ⟨g, k, none⟩ = some (.int .i64 (l.getD k 0)) := by
        rw [blk_cell HB.out k, List.getElem?_toArray, List.getElem?_map, List.getD_eq_getElem?_getD, List.getElem?_eq_getElem hlt]; rfl
      have hd : l.drop k = l.getD k 0 :: l.drop (k + 1) := by
        rw [List.drop_eq_getElem_cons hlt, List.getD_eq_getElem?_getD, List.getElem?_eq_getElem hlt]; rfl
      have hcs := hq.out
      rw [hd, List.contains_cons] at hcs
      generalize l.getD k 0 = y at *
      have kk0 : (0 : Int) ≤ (k : Int) := by omega
      clear hd hq
      cases hy : (x == y) with
      | true =>
        rw [hy, Bool.true_or] at hcs
        subst hcs
        have hy2 : (y == x) = true := by rw [beq_iff_eq] at hy ⊢; exact hy.symm
        clear hy
        go_wp2_with fail
        go_ret
        exact ⟨rfl, rfl⟩
      | false =>
        rw [hy, Bool.false_or] at hcs
        have HC := Aside0.mk hcs
        have hy2 : (y == x) = false := by rw [beq_eq_false_iff_ne] at hy ⊢; exact fun h => hy h.symm
        clear hy hcs
        go_wp2_with fail
        go_round
        case rel => exact ⟨k + 1, by omega, by go_num, HC⟩
        case measure => simp [intOf]; omega
    · have hk2 : k = l.length := by omega
      subst hk2
      have hcs := hq.out
      rw [List.drop_length] at hcs
      obtain rfl : false = bb := hcs
      clear hq
      go_wp2_with fail
      go_ret
      exact ⟨rfl, rfl⟩
theorem str_eq (x y : ByteArray) : (x.toList == y.toList) = true ↔ x = y := by
  rw [beq_iff_eq, ByteArray.toList_eq, ByteArray.toList_eq]
  constructor
  · intro h
    obtain ⟨⟨a⟩⟩ := x
    obtain ⟨⟨b⟩⟩ := y
    simp at h
    rw [h]
  · rintro rfl; rfl
/-- Is one among some texts that lie in a block? -/
theorem in_str (g : Nat) (l : List ByteArray) (c : Nat) (t : TypeId) (x : ByteArray) (bb : Bool) (hbb : bb = true ↔ x ∈ l) (w : World) (hb : w.heap[g]? = some (.cells (l.map Value.string).toArray t (0, 0))) (hm : l.length ≤ 1000000) :
    Calls Try.prog 79 #[.slice (some ⟨g, 0, none⟩) l.length c, .string x] w fun e w' => e = .returned (.bool bb) ∧ w = w' := by
  have HB := Aside0.mk hb
  have HBB := Aside0.mk hbb
  clear hb hbb
  go_enter Try.func79, Try.ntmps79
  go_wp2_with fail
  go_loop [5] (fun i => ∃ (k : Nat), k ≤ l.length ∧ i = .int .i64 k ∧ Aside0 (bb = true ↔ x ∈ l.drop k)) (fun i => l.length - (intOf i).toNat)
  case atStart => exact ⟨0, Nat.zero_le _, rfl, ⟨HBB.out⟩⟩
  case round =>
    obtain ⟨k, hk, rfl, hq⟩ := hrel
    by_cases hlt : k < l.length
    · have hc : w.cell? ⟨g, k, none⟩ = some (.string (l.getD k ByteArray.empty)) := by
        rw [blk_cell HB.out k, List.getElem?_toArray, List.getElem?_map, List.getD_eq_getElem?_getD, List.getElem?_eq_getElem hlt]; rfl
      have hd : l.drop k = l.getD k ByteArray.empty :: l.drop (k + 1) := by
        rw [List.drop_eq_getElem_cons hlt, List.getD_eq_getElem?_getD, List.getElem?_eq_getElem hlt]; rfl
      have hcs := hq.out
      rw [hd, List.mem_cons] at hcs
      generalize l.getD k ByteArray.empty = y at *
      have kk0 : (0 : Int) ≤ (k : Int) := by omega
      clear hd hq
      by_cases hy : y = x
      · have hbt : bb = true := hcs.2 (Or.inl hy.symm)
        subst hbt
        have hy2 : (y.toList == x.toList) = true := (str_eq y x).2 hy
        clear hy hcs
        go_wp2_with fail
        go_ret
        exact ⟨rfl, rfl⟩
      · have HC := Aside0.mk (show bb = true ↔ x ∈ l.drop (k + 1) from ⟨fun h => (hcs.1 h).resolve_left (fun e => hy e.symm), fun h => hcs.2 (Or.inr h)⟩)
        have hy2 : (y.toList == x.toList) = false := by
          cases h : (y.toList == x.toList) with
          | true => exact absurd ((str_eq y x).1 h) hy
          | false => rfl
        clear hy hcs
        go_wp2_with fail
        go_round
        case rel => exact ⟨k + 1, by omega, by go_num, HC⟩
        case measure => simp [intOf]; omega
    · have hk2 : k = l.length := by omega
      subst hk2
      have hcs := hq.out
      rw [List.drop_length] at hcs
      have hbf : bb = false := by
        cases bb with
        | true => exact absurd (hcs.1 rfl) (by simp)
        | false => rfl
      subst hbf
      clear hq hcs
      go_wp2_with fail
      go_ret
      exact ⟨rfl, rfl⟩
/-- The words of grammar. -/
def wordsB : List ByteArray := wordsL.map txt
def WordsE (w : World) (e : Ending) (w' : World) : Prop := ∃ g, e = .returned (.slice (some ⟨g, 0, none⟩) 34 34) ∧ w'.heap[g]? = some (.cells (wordsB.map Value.string).toArray 9 (0, 0)) ∧ Below w.heap.size w w'
set_option maxRecDepth 100000 in
theorem words_any (w : World) : Calls Try.prog 80 #[] w (WordsE w) := by
  go_enter Try.func80, Try.ntmps80
  go_wp2_with fail
  go_ret
  exact ⟨w.heap.size, rfl, heap_alloc_new _ _, (Below.refl _ _).alloc (Nat.le_refl _) _⟩
theorem txt_toList (s : ByteArray) : txt s.data.toList = s := by
  obtain ⟨⟨l⟩⟩ := s; rfl
theorem wordsB_is (s : ByteArray) : isWord s.data.toList = true ↔ s ∈ wordsB := by
  unfold wordsB isWord
  rw [List.contains_iff_mem, List.mem_map]
  constructor
  · intro h; exact ⟨_, h, txt_toList s⟩
  · rintro ⟨l, hl, rfl⟩; exact hl
end Go.Proofs.Ytcfpkkgdofblfaa.Pd
/- Contracts by hand: the document's names, orders and holidays. -/
namespace Go.Proofs.Ytcfpkkgdofblfaa.Pd
open Go.RowKit Go.Proofs.YtcfpkkgdofblfaaW.PrintWords Go.Proofs.YtcfpkkgdofblfaaW.PrintLast Go.Proofs.YtcfpkkgdofblfaaW.PrintMore Go.Proofs.Ytcfpkkgdofblfaa.HW
open Pm
set_option linter.unusedVariables false
set_option linter.unusedSimpArgs false
/-- The letters from a place on. -/
def restOk (k : Nat) (l : List UInt8) : Bool := if k = 0 then chars l else l.all letter
theorem restOk_succ (k : Nat) (l : List UInt8) : restOk (k + 1) l = l.all letter := by unfold restOk; rw [if_neg (by omega)]
theorem restOk_nil (k : Nat) : restOk k [] = true := by unfold restOk; split <;> rfl
theorem drop_byte (s : ByteArray) (k : Nat) (h : k < s.size) : s.data.toList.drop k = s[k] :: s.data.toList.drop (k + 1) := by
  rw [List.drop_eq_getElem_cons (by simpa using h)]; rfl
theorem small_of {c : UInt8} (h1 : 97 ≤ (c.toNat : Int)) (h2 : (c.toNat : Int) ≤ 122) : small c = true := by simp [small, h1, h2]
theorem small_not {c : UInt8} (h : (c.toNat : Int) < 97 ∨ 122 < (c.toNat : Int)) : small c = false := by
  cases hc : small c with
  | false => rfl
  | true => exfalso; simp [small] at hc; omega
theorem other_of {c : UInt8} (h : (48 ≤ (c.toNat : Int) ∧ (c.toNat : Int) ≤ 57) ∨ (c.toNat : Int) = 45) : other c = true := by simpa [other] using h
theorem other_not {c : UInt8} (h : ¬ ((48 ≤ (c.toNat : Int) ∧ (c.toNat : Int) ≤ 57) ∨ (c.toNat : Int) = 45)) : other c = false := by
  cases hc : other c with
  | false => rfl
  | true => exact absurd (by simpa [other] using hc) h
set_option maxRecDepth 100000 in
set_option maxHeartbeats 2000000 in
theorem rname_any (s : ByteArray) (w : World) (hs : s.size ≤ 140737488351232) : Calls Try.prog 53 #[.string s] w fun e w' => e = .returned (.bool (nameOk s.data.toList)) ∧ Below w.heap.size w w' := by
  obtain ⟨l, hl⟩ : ∃ l, s.data.toList = l := ⟨_, rfl⟩
  obtain ⟨bb, hbb⟩ : ∃ bb, chars l = bb := ⟨_, rfl⟩
  obtain ⟨r, hr⟩ : ∃ r, nameOk s.data.toList = r := ⟨_, rfl⟩
  have hr2 := hr
  unfold nameOk at hr2
  rw [hl, hbb] at hr2
  have hlen : l.length = s.size := by rw [← hl]; rfl
  rw [hlen] at hr2
  have HR := Aside0.mk hr2
  have HL := Aside0.mk hl
  have HBB := Aside0.mk hbb
  have HLEN := Aside0.mk hlen
  rw [hr]
  clear hr hr2 hl hbb hlen
  go_enter Try.func53, Try.ntmps53
  go_wp2_with fail
  go_loop [3] (fun i => ∃ (k : Nat), k ≤ s.size ∧ i = .int .i64 k ∧ Aside0 (restOk k (l.drop k) = bb)) (fun i => s.size - (intOf i).toNat)
  case atStart => exact ⟨0, Nat.zero_le _, rfl, ⟨HBB.out⟩⟩
  case round =>
    obtain ⟨k, hk, rfl, hd⟩ := hrel
    by_cases hlt : k < s.size
    · have hd2 := hd.out
      rw [← HL.out, drop_byte s k hlt, HL.out] at hd2
      obtain ⟨c, hc⟩ : ∃ c, s[k] = c := ⟨_, rfl⟩
      rw [hc] at hd2
      have hb0 : 0 ≤ (c.toNat : Int) := by omega
      have hb1 : (c.toNat : Int) ≤ 255 := by have := c.toNat_lt; omega
      have kk0 : (0 : Int) ≤ (k : Int) := by omega
      clear hd
      rcases (by omega : (97 ≤ (c.toNat : Int) ∧ (c.toNat : Int) ≤ 122) ∨ (48 ≤ (c.toNat : Int) ∧ (c.toNat : Int) ≤ 57) ∨ (c.toNat : Int) = 45 ∨ ((c.toNat : Int) < 48 ∧ (c.toNat : Int) ≠ 45) ∨ (57 < (c.toNat : Int) ∧ (c.toNat : Int) < 97) ∨ 122 < (c.toNat : Int)) with ⟨q1, q2⟩ | ⟨q1, q2⟩ | q1 | ⟨q1, q2⟩ | ⟨q1, q2⟩ | q1
      · have hn : restOk (k + 1) (l.drop (k + 1)) = bb := by
          rw [restOk_succ, ← hd2]
          unfold restOk
          split
          · simp only [chars, small_of q1 q2, Bool.true_and]
          · simp only [List.all_cons, letter, small_of q1 q2, Bool.true_or, Bool.true_and]
        have HN := Aside0.mk hn
        have q3 : 57 < (c.toNat : Int) := by omega
        have q4 : 48 ≤ (c.toNat : Int) := by omega
        have q5 : ((c.toNat : Int) == 45) = false := by rw [beq_eq_false_iff_ne]; omega
        clear hd2 hn
        go_wp2_with fail
        go_round
        case rel => exact ⟨k + 1, by omega, by go_num, HN⟩
        case measure => simp [intOf]; omega
      · have hsm := small_not (c := c) (by omega)
        have hot := other_of (c := c) (by omega)
        have q3 : (c.toNat : Int) < 97 := by omega
        by_cases h0 : k = 0
        · have kz : ((k : Int) == 0) = true := by rw [h0]; rfl
          have hbf : bb = false := by
            rw [← hd2]
            unfold restOk
            rw [if_pos h0]
            simp only [chars, hsm, Bool.false_and]
          subst hbf
          have hrf : r = false := by
            rw [← HR.out]; rfl
          subst hrf
          clear hd2 h0 hsm hot
          go_wp2_with fail
          go_ret
          exact ⟨rfl, Below.refl _ _⟩
        · have kz : ((k : Int) == 0) = false := by rw [beq_eq_false_iff_ne]; omega
          have hn : restOk (k + 1) (l.drop (k + 1)) = bb := by
            rw [restOk_succ, ← hd2]
            unfold restOk
            rw [if_neg h0]
            simp only [List.all_cons, letter, hot, Bool.or_true, Bool.true_and]
          have HN := Aside0.mk hn
          clear hd2 hn h0 hsm hot
          go_wp2_with fail
          go_round
          case rel => exact ⟨k + 1, by omega, by go_num, HN⟩
          case measure => simp [intOf]; omega
      · have hsm := small_not (c := c) (by omega)
        have hot := other_of (c := c) (by omega)
        have q3 : (c.toNat : Int) < 97 := by omega
        have q4 : (c.toNat : Int) < 48 := by omega
        have q5 : ((c.toNat : Int) == 45) = true := by rw [q1]; rfl
        clear q1
        by_cases h0 : k = 0
        · have kz : ((k : Int) == 0) = true := by rw [h0]; rfl
          have hbf : bb = false := by
            rw [← hd2]
            unfold restOk
            rw [if_pos h0]
            simp only [chars, hsm, Bool.false_and]
          subst hbf
          have hrf : r = false := by
            rw [← HR.out]; rfl
          subst hrf
          clear hd2 h0 hsm hot
          go_wp2_with fail
          go_ret
          exact ⟨rfl, Below.refl _ _⟩
        · have kz : ((k : Int) == 0) = false := by rw [beq_eq_false_iff_ne]; omega
          have hn : restOk (k + 1) (l.drop (k + 1)) = bb := by
            rw [restOk_succ, ← hd2]
            unfold restOk
            rw [if_neg h0]
            simp only [List.all_cons, letter, hot, Bool.or_true, Bool.true_and]
          have HN := Aside0.mk hn
          clear hd2 hn h0 hsm hot
          go_wp2_with fail
          go_round
          case rel => exact ⟨k + 1, by omega, by go_num, HN⟩
          case measure => simp [intOf]; omega
      · have hsm := small_not (c := c) (by omega)
        have hot := other_not (c := c) (by omega)
        have q3 : (c.toNat : Int) < 97 := by omega
        have q5 : ((c.toNat : Int) == 45) = false := by rw [beq_eq_false_iff_ne]; exact q2
        by_cases h0 : k = 0
        · have kz : ((k : Int) == 0) = true := by rw [h0]; rfl
          have hbf : bb = false := by
            rw [← hd2]
            unfold restOk
            rw [if_pos h0]
            simp only [chars, hsm, Bool.false_and]
          subst hbf
          have hrf : r = false := by
            rw [← HR.out]; rfl
          subst hrf
          clear hd2 h0 hsm hot
          go_wp2_with fail
          go_ret
          exact ⟨rfl, Below.refl _ _⟩
        · have kz : ((k : Int) == 0) = false := by rw [beq_eq_false_iff_ne]; omega
          have hbf : bb = false := by
            rw [← hd2]
            unfold restOk
            rw [if_neg h0]
            simp only [List.all_cons, letter, hsm, hot, Bool.or_false, Bool.false_and]
          subst hbf
          have hrf : r = false := by
            rw [← HR.out]; rfl
          subst hrf
          clear hd2 h0 hsm hot
          go_wp2_with fail
          go_ret
          exact ⟨rfl, Below.refl _ _⟩
      · have hsm := small_not (c := c) (by omega)
        have hot := other_not (c := c) (by omega)
        have q3 : 48 ≤ (c.toNat : Int) := by omega
        have q6 : decide ((c.toNat : Int) ≤ 57) = false := decide_eq_false (by omega)
        have q5 : ((c.toNat : Int) == 45) = false := by rw [beq_eq_false_iff_ne]; omega
        by_cases h0 : k = 0
        · have kz : ((k : Int) == 0) = true := by rw [h0]; rfl
          have hbf : bb = false := by
            rw [← hd2]
            unfold restOk
            rw [if_pos h0]
            simp only [chars, hsm, Bool.false_and]
          subst hbf
          have hrf : r = false := by
            rw [← HR.out]; rfl
          subst hrf
          clear hd2 h0 hsm hot
          go_wp2_with fail
          go_ret
          exact ⟨rfl, Below.refl _ _⟩
        · have kz : ((k : Int) == 0) = false := by rw [beq_eq_false_iff_ne]; omega
          have hbf : bb = false := by
            rw [← hd2]
            unfold restOk
            rw [if_neg h0]
            simp only [List.all_cons, letter, hsm, hot, Bool.or_false, Bool.false_and]
          subst hbf
          have hrf : r = false := by
            rw [← HR.out]; rfl
          subst hrf
          clear hd2 h0 hsm hot
          go_wp2_with fail
          go_ret
          exact ⟨rfl, Below.refl _ _⟩
      · have hsm := small_not (c := c) (by omega)
        have hot := other_not (c := c) (by omega)
        have q2 : 97 ≤ (c.toNat : Int) := by omega
        have q3 : 48 ≤ (c.toNat : Int) := by omega
        have q4 : 57 < (c.toNat : Int) := by omega
        have q6 : decide ((c.toNat : Int) ≤ 57) = false := decide_eq_false (by omega)
        have q7 : decide ((c.toNat : Int) ≤ 122) = false := decide_eq_false (by omega)
        have q5 : ((c.toNat : Int) == 45) = false := by rw [beq_eq_false_iff_ne]; omega
        by_cases h0 : k = 0
        · have kz : ((k : Int) == 0) = true := by rw [h0]; rfl
          have hbf : bb = false := by
            rw [← hd2]
            unfold restOk
            rw [if_pos h0]
            simp only [chars, hsm, Bool.false_and]
          subst hbf
          have hrf : r = false := by
            rw [← HR.out]; rfl
          subst hrf
          clear hd2 h0 hsm hot
          go_wp2_with fail
          go_ret
          exact ⟨rfl, Below.refl _ _⟩
        · have kz : ((k : Int) == 0) = false := by rw [beq_eq_false_iff_ne]; omega
          have hbf : bb = false := by
            rw [← hd2]
            unfold restOk
            rw [if_neg h0]
            simp only [List.all_cons, letter, hsm, hot, Bool.or_false, Bool.false_and]
          subst hbf
          have hrf : r = false := by
            rw [← HR.out]; rfl
          subst hrf
          clear hd2 h0 hsm hot
          go_wp2_with fail
          go_ret
          exact ⟨rfl, Below.refl _ _⟩
    · have hk2 : k = s.size := by omega
      subst hk2
      have hd2 := hd.out
      rw [List.drop_of_length_le (by rw [HLEN.out]; omega), restOk_nil] at hd2
      obtain rfl : true = bb := hd2
      clear hd hlt
      have hr2 := HR.out
      rw [Bool.true_and] at hr2
      by_cases h1 : 1 ≤ s.size
      · rw [decide_eq_true h1, Bool.true_and] at hr2
        by_cases h20 : s.size ≤ 20
        · rw [decide_eq_true h20, Bool.true_and] at hr2
          have HR2 := Aside0.mk hr2
          have HWB := Aside0.mk (wordsB_is s)
          rw [HL.out] at HWB
          have hl34 : wordsB.length = 34 := rfl
          have HL34 := Aside0.mk hl34
          have HLS := HL
          clear hr2 hl34 HL
          go_wp2_with fail
          refine (words_any _).mono ?_
          rintro e w1 ⟨g, rfl, hb, hbl⟩
          have HB := Aside0.mk hb
          have HBL := Aside0.mk hbl
          clear hb hbl
          go_wp2_with fail
          refine (in_str g wordsB 34 _ s (isWord l) HWB.out w1 HB.out (by rw [HL34.out]; omega)).mono ?_
          rintro e w2 ⟨rfl, rfl⟩
          go_wp2_with fail
          go_ret
          exact ⟨by rw [← HR2.out]; simp, HBL.out⟩
        · have q2 : 20 < s.size := by omega
          rw [decide_eq_false h20, Bool.false_and] at hr2
          subst hr2
          clear h20
          go_wp2_with fail
          go_ret
          exact ⟨by simp; try omega, Below.refl _ _⟩
      · have q2 : s.size < 1 := by omega
        rw [decide_eq_false h1, Bool.false_and] at hr2
        subst hr2
        clear h1
        go_wp2_with fail
        go_ret
        exact ⟨by simp; try omega, Below.refl _ _⟩
/-- Does an order have each kind once? -/
theorem order_in (a b c d : Int) : orderOk a b c d = ([a, b, c, d].contains 1 && ([a, b, c, d].contains 2 && ([a, b, c, d].contains 3 && [a, b, c, d].contains 4))) := by
  unfold orderOk
  rw [Bool.eq_iff_iff, decide_eq_true_iff]
  simp only [Bool.and_eq_true, List.contains_iff_mem, List.mem_cons, List.not_mem_nil, or_false]
  constructor
  · rintro ⟨h1, h2, h3, h4, n1, n2, n3, n4, n5, n6⟩
    rcases (by omega : a = 1 ∨ a = 2 ∨ a = 3 ∨ a = 4) with rfl | rfl | rfl | rfl <;>
    rcases (by omega : b = 1 ∨ b = 2 ∨ b = 3 ∨ b = 4) with rfl | rfl | rfl | rfl <;> (try exact absurd rfl n1) <;>
    rcases (by omega : c = 1 ∨ c = 2 ∨ c = 3 ∨ c = 4) with rfl | rfl | rfl | rfl <;> (try exact absurd rfl n2) <;> (try exact absurd rfl n4) <;> omega
  · rintro ⟨h1, h2, h3, h4⟩
    rcases h1 with h1 | h1 | h1 | h1 <;> rcases h2 with h2 | h2 | h2 | h2 <;> (try (exfalso; omega)) <;> rcases h3 with h3 | h3 | h3 | h3 <;> (try (exfalso; omega)) <;> rcases h4 with h4 | h4 | h4 | h4 <;> omega
theorem in_int_is (g : Nat) (l : List Int) (c : Nat) (t : TypeId) (x : Int) (r : Bool) (h : l.contains x = r) (w : World) (hb : w.heap[g]? = some (.cells (l.map (Value.int .i64)).toArray t (0, 0))) (hm : l.length = 4) :
    Calls Try.prog 44 #[.slice (some ⟨g, 0, none⟩) 4 c, .int .i64 x] w fun e w' => e = .returned (.bool r) ∧ w = w' := by
  have := in_int g l c t x w hb (by omega)
  rw [hm, h] at this
  exact this
set_option maxHeartbeats 1000000 in
theorem rorder_any (a b c d : Int) (w : World) : Calls Try.prog 56 #[.agg #[.int .i64 a, .int .i64 b, .int .i64 c, .int .i64 d]] w fun e w' => e = .returned (.bool (orderOk a b c d)) ∧ Below w.heap.size w w' := by
  rw [order_in]
  obtain ⟨l, hl⟩ : ∃ l : List Int, [a, b, c, d] = l := ⟨_, rfl⟩
  have hcells : (#[Value.int .i64 a, .int .i64 b, .int .i64 c, .int .i64 d] : Array Value) = (l.map (Value.int .i64)).toArray := by rw [← hl]; rfl
  have hlen : l.length = 4 := by rw [← hl]; rfl
  have HC := Aside0.mk hcells
  have HLEN := Aside0.mk hlen
  rw [hl]
  obtain ⟨r1, h1⟩ : ∃ r, l.contains 1 = r := ⟨_, rfl⟩
  obtain ⟨r2, h2⟩ : ∃ r, l.contains 2 = r := ⟨_, rfl⟩
  obtain ⟨r3, h3⟩ : ∃ r, l.contains 3 = r := ⟨_, rfl⟩
  obtain ⟨r4, h4⟩ : ∃ r, l.contains 4 = r := ⟨_, rfl⟩
  rw [h1, h2, h3, h4]
  have H1 := Aside0.mk h1
  have H2 := Aside0.mk h2
  have H3 := Aside0.mk h3
  have H4 := Aside0.mk h4
  clear h1 h2 h3 h4 hl hcells hlen
  go_enter Try.func56, Try.ntmps56
  go_wp2_with ((with_reducible refine gate_dst (N := 1) rfl ?_); refine box_event ?hg (N := 1) ?hd (cs := #[.int .i64 a, .int .i64 b, .int .i64 c, .int .i64 d]) (t := 23) ?hr ?_; (case hd => rfl); (case hg => rfl); (case hr => first | (go_simp; done) | (go_simp; rfl)); intro g1 hg w1 hb1 hbl1; clear hg; have HB1 := Aside0.mk hb1; have BL1 := Aside0.mk hbl1; clear hb1 hbl1)
  have HBB := Aside0.mk (show w1.heap[g1]? = some (.cells (l.map (Value.int .i64)).toArray 23 (0, 0)) by rw [← HC.out]; exact HB1.out)
  refine wp_loop_rounds 5 ?_
  rw [rounds_succ]
  go_wp2_with fail
  refine (in_int_is g1 l 4 23 1 r1 H1.out w1 HBB.out HLEN.out).mono ?_
  rintro e w2 ⟨rfl, rfl⟩
  cases r1 with
  | false =>
    go_wp2_with fail
    go_ret
    exact ⟨by simp, BL1.out⟩
  | true =>
    go_wp2_with fail
    rw [rounds_succ]
    go_wp2_with fail
    refine (in_int_is g1 l 4 23 2 r2 H2.out w1 HBB.out HLEN.out).mono ?_
    rintro e w2 ⟨rfl, rfl⟩
    cases r2 with
    | false =>
      go_wp2_with fail
      go_ret
      exact ⟨by simp, BL1.out⟩
    | true =>
      go_wp2_with fail
      rw [rounds_succ]
      go_wp2_with fail
      refine (in_int_is g1 l 4 23 3 r3 H3.out w1 HBB.out HLEN.out).mono ?_
      rintro e w2 ⟨rfl, rfl⟩
      cases r3 with
      | false =>
        go_wp2_with fail
        go_ret
        exact ⟨by simp, BL1.out⟩
      | true =>
        go_wp2_with fail
        rw [rounds_succ]
        go_wp2_with fail
        refine (in_int_is g1 l 4 23 4 r4 H4.out w1 HBB.out HLEN.out).mono ?_
        rintro e w2 ⟨rfl, rfl⟩
        cases r4 with
        | false =>
          go_wp2_with fail
          go_ret
          exact ⟨by simp, BL1.out⟩
        | true =>
          go_wp2_with fail
          rw [rounds_succ]
          go_wp2_with fail
          go_ret
          exact ⟨rfl, BL1.out⟩
end Go.Proofs.Ytcfpkkgdofblfaa.Pd
