/- Plain: many instalments; rows in a slice of the call's own. -/
import Derived.Test.YtcbebbiedegjlaaLg
namespace Go.Proofs.Ytcbebbiedegjlaa.Pd
open Go.RowKit Go.Proofs.YtcbebbiedegjlaaW.PrintWords Go.Proofs.YtcbebbiedegjlaaW.PrintLast Go.Proofs.YtcbebbiedegjlaaW.PrintMore Go.Proofs.Ytcbebbiedegjlaa.HW
open Pm
set_option linter.unusedVariables false
set_option linter.unusedSimpArgs false
/-- All that comes together. -/
def wantS (late : List (List Int)) (day : Int) : List (List Int) → Int
  | [] => 0
  | r :: l => look (day - r.getD 1 0) late + wantS late day l
theorem wantS_snoc (late : List (List Int)) (day : Int) (r : List Int) : ∀ l, wantS late day (l ++ [r]) = wantS late day l + look (day - r.getD 1 0) late
  | [] => by simp [wantS]
  | a :: l => by simp only [List.cons_append, wantS]; rw [wantS_snoc late day r l]; omega
theorem look_nine {d1 d2 f : Int} (bf : 0 ≤ f ∧ f < 10000) (x : Int) : 0 ≤ look x [[d1, f], [d2, 2 * f]] ∧ look x [[d1, f], [d2, 2 * f]] ≤ 20000 := by
  simp only [look, List.getD_cons_zero, List.getD_cons_succ]
  split
  · omega
  · split <;> omega
theorem wantS_bd {d1 d2 f : Int} (bf : 0 ≤ f ∧ f < 10000) (day : Int) : ∀ rows : List (List Int), 0 ≤ wantS [[d1, f], [d2, 2 * f]] day rows ∧ wantS [[d1, f], [d2, 2 * f]] day rows ≤ 20000 * rows.length
  | [] => by simp [wantS]
  | r :: l => by
    have h := wantS_bd (d1 := d1) (d2 := d2) bf day l
    have h2 := look_nine (d1 := d1) (d2 := d2) bf (day - r.getD 1 0)
    simp only [wantS, List.length_cons]
    omega
theorem onR_want {d1 d2 f : Int} (b1 : 1 ≤ d1 ∧ d1 ≤ 100) (b2 : d1 + 1 ≤ d2 ∧ d2 ≤ d1 + 100) (bf : 0 ≤ f ∧ f < 10000) (day R : Int) : ∀ (rows : List (List Int)) (acc : Int), (∀ r ∈ rows, r.getD 1 0 ≤ day) → acc ≤ R → onR [[d1, f], [d2, 2 * f]] day R acc rows = min (acc + wantS [[d1, f], [d2, 2 * f]] day rows) R
  | [], acc, _, h => by simp only [onR, wantS]; omega
  | r :: l, acc, hr, h => by
    have h0 := hr r (by simp)
    have hl : ∀ r ∈ l, r.getD 1 0 ≤ day := fun x hx => hr x (List.mem_cons_of_mem _ hx)
    have h2 := look_nine (d1 := d1) (d2 := d2) bf (day - r.getD 1 0)
    have h3 := wantS_bd (d1 := d1) (d2 := d2) bf day l
    simp only [onR, wantS]
    by_cases c : r.getD 1 0 < day
    · rw [if_pos c, onR_want b1 b2 bf day R l _ hl (by omega)]
      omega
    · rw [if_neg c, onR_want b1 b2 bf day R l _ hl h]
      have e : day - r.getD 1 0 = 0 := by omega
      rw [e]
      have e2 : look 0 [[d1, f], [d2, 2 * f]] = 0 := by
        simp only [look, List.getD_cons_zero, List.getD_cons_succ]
        rw [if_neg (by omega), if_neg (by omega)]
      rw [e2]
      omega
theorem many_on {d1 d2 f cap day sofar : Int} (b1 : 1 ≤ d1 ∧ d1 ≤ 100) (b2 : d1 + 1 ≤ d2 ∧ d2 ≤ d1 + 100) (bf : 0 ≤ f ∧ f < 10000) (bc : 0 ≤ cap ∧ cap < 50000) (s0 : 0 ≤ sofar) (s1 : sofar < 60000) (rows : List (List Int)) (hr : ∀ r ∈ rows, r.getD 1 0 ≤ day) :
    lateOn (lateP [[d1, f], [d2, 2 * f]] cap) rows day sofar = (max 0 (min (wantS [[d1, f], [d2, 2 * f]] day rows) (cap - sofar)), 0) := by
  unfold lateOn
  rw [if_pos (ok_two b1 b2 bf bc), if_pos (by omega)]
  show (onR [[d1, f], [d2, 2 * f]] day (max (cap - sofar) 0) 0 rows, (0 : Int)) = _
  rw [onR_want b1 b2 bf day _ rows 0 hr (by omega)]
  have h3 := wantS_bd (d1 := d1) (d2 := d2) bf day rows
  rw [Prod.mk.injEq]
  exact ⟨by omega, rfl⟩
/-- One row of many. -/
def RowOk (day : Int) (r : List Int) : Prop := ∃ i x : Int, r = [i, day - x, 1, 0] ∧ (1 ≤ i ∧ i ≤ 30) ∧ (0 ≤ x ∧ x ≤ 219)
theorem RowOk.four {day : Int} {r : List Int} (h : RowOk day r) : r.length = 4 := by obtain ⟨i, x, rfl, _⟩ := h; rfl
theorem RowOk.le {day : Int} {r : List Int} (h : RowOk day r) : r.getD 1 0 ≤ day := by obtain ⟨i, x, rfl, _, h2⟩ := h; show day - x ≤ day; omega
theorem RowOk.wf {day : Int} (d0 : 0 ≤ day) (d1 : day ≤ 100000) {r : List Int} (h : RowOk day r) : ∀ x ∈ r, (Lit.int .i64 x).wf = true := by
  obtain ⟨i, x, rfl, h1, h2⟩ := h
  intro y hy
  simp at hy
  rcases hy with rfl | rfl | rfl | rfl <;> exact wf_of (by omega) (by omega)
theorem own_rows {W : World} {base : Nat} {T : TypeId} {v : Value} {n : Nat} {rows : List (List Int)} (h : W.ownsRow base T 4 v n (rows.flatten.map (Value.int .i64))) (hl : rows.length = n) (hr : ∀ r ∈ rows, r.length = 4) (hw : ∀ r ∈ rows, ∀ x ∈ r, (Lit.int .i64 x).wf = true) :
    ∃ A c, v = .slice A n c ∧ n ≤ c ∧ (A = none → c = 0) ∧ Op.IntRows W A 4 rows := by
  rcases h.2 with ⟨rfl, rfl⟩ | ⟨g, cap, cur, rfl, hb, hg, hn, _, hs, ht⟩
  · obtain rfl : rows = [] := List.eq_nil_of_length_eq_zero hl
    exact ⟨none, 0, rfl, Nat.le_refl _, fun _ => rfl, (fun r hr => by simp at hr), (fun i r h => by simp at h)⟩
  · refine ⟨some ⟨g, 0, none⟩, cap, rfl, hn, (fun e => by cases e), fun r h => ⟨hr r h, hw r h⟩, fun i r hi => ⟨_, rfl, fun j x hj => ?_⟩⟩
    have hi1 := (List.getElem?_eq_some_iff.1 hi).1
    have hj1 := (List.getElem?_eq_some_iff.1 hj).1
    have h4 := hr r (List.mem_of_getElem? hi)
    have e : cur.toList[i * 4 + j]? = some (.int .i64 x) := by
      have e2 : (cur.toList.take (n * 4))[i * 4 + j]? = some (.int .i64 x) := by rw [ht, List.getElem?_map, flatten_at rows i j r x hr hi hj]; rfl
      rw [List.getElem?_take] at e2
      split at e2
      · exact e2
      · cases e2
    rw [Addr.add_mid, Nat.zero_add, blk_cell hg, ← Array.getElem?_toList]
    exact e
theorem own_below {W W1 : World} {base : Nat} {T : TypeId} {size : Nat} {v : Value} {n : Nat} {xs : List Value} (h : W.ownsRow base T size v n xs) (hb : Below W.heap.size W W1) : W1.ownsRow base T size v n xs :=
  h.kept (row := none) ⟨hb.os, hb.tape, hb.output, hb.size, fun k hk _ => hb.block k hk⟩ (Classical.em _)
theorem news_blk {W : World} {g : Nat} {T : TypeId} {l : List Value} (h : W.heap[g]? = some (.cells l.toArray T (0, 0))) : ∀ j u, l[j]? = some u → W.cell? ((⟨g, 0, none⟩ : Addr).add j) = some u := by
  intro j u hu
  rw [Addr.add_mid, Nat.zero_add, blk_cell h, List.getElem?_toArray]
  exact hu
theorem info_due4 : (Try.prog.info? 56).map (fun i => (i.zero, i.size, i.bytes)) = some (some (.agg #[.int .i64 0, .int .i64 0, .int .i64 0, .int .i64 0]), 4, 32) := by kernel_rfl
/-- k rows, in a slice of the call's own, and all that comes together. -/
structure Rowed (w W : World) (v : Value) (late : List (List Int)) (day : Int) (want : Int) (k : Nat) (rows : List (List Int)) : Prop where
  len : rows.length = k
  all : ∀ r ∈ rows, RowOk day r
  want : wantS late day rows = want
  own : W.ownsRow w.heap.size 56 4 v k (rows.flatten.map (Value.int .i64))
  below : Below w.heap.size w W
theorem Rowed.zero (w : World) (late : List (List Int)) (day : Int) : Rowed w w (.slice none 0 0) late day 0 0 [] :=
  ⟨rfl, (fun r h => by cases h), rfl, ⟨rfl, Or.inl ⟨rfl, rfl⟩⟩, Below.refl _ _⟩
theorem Rowed.more {w W W2 w1 : World} {A : Option Addr} {c : Nat} {late : List (List Int)} {day want x : Int} {k : Nat} {rows : List (List Int)} {v' : Value} (h : Rowed w W (.slice A k c) late day want k rows) (hk : k < 30) (hx : 0 ≤ x ∧ x ≤ 219) (hb : Below w.heap.size w W2)
    (hown : w1.ownsRow w.heap.size 56 4 v' (k + 1) (rows.flatten.map (Value.int .i64) ++ [.int .i64 ((k : Int) + 1), .int .i64 (day - x), .int .i64 1, .int .i64 0])) (hg : W2.grownBy w1 (Value.slice A k c).ownBlock) :
    Rowed w w1 v' late day (want + look x late) (k + 1) (rows ++ [[(k : Int) + 1, day - x, 1, 0]]) := by
  refine ⟨by simp [h.len], fun r hr => ?_, ?_, by simpa using hown, hb.grown hg hb.size fun j hj => (h.own.lt j hj).1⟩
  · rcases List.mem_append.1 hr with hr | hr
    · exact h.all r hr
    · obtain rfl : r = [(k : Int) + 1, day - x, 1, 0] := by simpa using hr
      exact ⟨_, x, rfl, by omega, hx⟩
  · rw [wantS_snoc, h.want]
    show want + look (day - (day - x)) late = _
    rw [show day - (day - x) = x by omega]
end Go.Proofs.Ytcbebbiedegjlaa.Pd
