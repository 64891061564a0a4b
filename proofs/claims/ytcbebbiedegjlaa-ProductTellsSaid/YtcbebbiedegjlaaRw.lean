/- Words by hand: rows of two numbers; a new variable for each round. -/
import Derived.Test.YtcbebbiedegjlaaPs
import Derived.Deep.RegionWith
namespace Go.Proofs.Ytcbebbiedegjlaa.Pd
open Go.RowKit Go.Proofs.YtcbebbiedegjlaaW.PrintWords Go.Proofs.YtcbebbiedegjlaaW.PrintLast Go.Proofs.YtcbebbiedegjlaaW.PrintMore Go.Proofs.Ytcbebbiedegjlaa.HW
open Pm
set_option linter.unusedVariables false
set_option linter.unusedSimpArgs false
theorem cell_ltR {w : World} {ad : Addr} {v : Value} (h : w.cell? ad = some v) : ad.block < w.heap.size := by
  rcases Nat.lt_or_ge ad.block w.heap.size with h1 | h1
  · exact h1
  · exfalso
    have e : w.heap[ad.block]? = none := Array.getElem?_eq_none h1
    simp [World.cell?, e] at h
theorem add_blockR (ad : Addr) (n : Nat) : (ad.add n).block = ad.block := by simp only [Addr.add]; split <;> rfl
theorem add_fieldR (ad : Addr) (n j : Nat) (hj : 0 < j) : ad.add (n + j) = ⟨(ad.add n).block, (ad.add n).off + j, none⟩ := by
  simp only [Addr.add]
  rw [if_neg (by omega)]
  split
  · rename_i h; subst h; simp
  · simp; omega
/-- A row of two. -/
theorem two_at {w : World} {A : Option Addr} {rows : List (List Int)} (h : Op.IntRows w A 2 rows) (k : Nat) (hk : k < rows.length) : ∃ ad x y, A = some ad ∧ rows[k]? = some [x, y] ∧ w.cell? (ad.add (k * 2)) = some (.int .i64 x) ∧ w.cell? ⟨(ad.add (k * 2)).block, (ad.add (k * 2)).off + 1, none⟩ = some (.int .i64 y) ∧ (Lit.int .i64 x).wf = true ∧ (Lit.int .i64 y).wf = true := by
  obtain ⟨h1, h2⟩ := h.1 _ (List.getElem_mem hk)
  obtain ⟨ad, e, hc⟩ := h.2 k _ (List.getElem?_eq_getElem hk)
  rw [List.getElem?_eq_getElem hk]
  generalize rows[k] = r at *
  match r, h1 with
  | [x, y], _ => exact ⟨ad, x, y, e, rfl, hc 0 x rfl, by rw [← add_fieldR _ _ _ (by decide)]; exact hc 1 y rfl, h2 x (by simp), h2 y (by simp)⟩
theorem drop_row {rows : List (List Int)} {k : Nat} {r : List Int} (h : rows[k]? = some r) : rows.drop k = r :: rows.drop (k + 1) := by
  obtain ⟨hk, rfl⟩ := List.getElem?_eq_some_iff.1 h
  exact List.drop_eq_getElem_cons hk
section
variable {P : Program} {ops : Array Oper} {rest : List Oper} {a : Act} {Q : Exit → Act → World → Prop}
/-- A new variable, an assignment, and a whole value into it. -/
theorem copy_event3 {W : World} {o1 om o2 : Oper} (hg1 : o1.guard = none) {N : Tmp} (hd1 : o1.dst = some N) (hgm : om.guard = none) (hg2 : o2.guard = none) (hd2 : o2.dst = none) {t : TypeId} {v : Operand} (ho2 : o2.op = .store t (.tmp N) v) {cs zs : Array Value} {vm : Value}
    (hrun : (execOp a.eval o1).run P W = .ok (.value (.pointer (some ⟨W.heap.size, 0, none⟩))) (W.alloc (.cells zs t (0, 0))))
    (hrm : ∀ W', (execOp (a.put o1.dst (.pointer (some ⟨W.heap.size, 0, none⟩))).eval om).run P W' = .ok (.value vm) W')
    (hp : ((a.put o1.dst (.pointer (some ⟨W.heap.size, 0, none⟩))).put om.dst vm).eval (.tmp N) = .pointer (some ⟨W.heap.size, 0, none⟩))
    (hv : ((a.put o1.dst (.pointer (some ⟨W.heap.size, 0, none⟩))).put om.dst vm).eval v = .agg cs)
    (hi : (P.info? t).map (·.size) = some cs.size) (hz : zs.size = cs.size) (h1 : cs.all (·.oneCell') = true)
    (h : ∀ g, g = W.heap.size → ∀ w1, w1.heap[g]? = some (.cells cs t (0, 0)) → Below W.heap.size W w1 → wpList P ops Q rest ((a.put o1.dst (.pointer (some ⟨g, 0, none⟩))).put om.dst vm) w1) : wpList P ops Q (o1 :: om :: o2 :: rest) a W := by
  refine Kd.event_run hg1 hrun ?_
  refine Kd.event_run hgm (hrm _) ?_
  refine wpList_store_row hg2 t (.tmp N) v ho2 W.heap.size cs hp hv t zs (heap_alloc_new W _) hi hz h1 ?_
  rw [hd2, World.setRow_alloc_new]
  exact h _ rfl _ (blk_new W _) (below_alloc (Below.refl _ _) _)
end
theorem within_i0 {v a b : Int} {r : Bool} (h : decide (a ≤ v ∧ v ≤ b) = r) (w : World) : Calls Try.prog 50 #[.int .i64 v, .int .i64 a, .int .i64 b] w fun e w' => e = .returned (.bool r) ∧ w' = w := (within_i_is h w).mono fun _ _ h => ⟨h.1, h.2.symm⟩
theorem within_l0 {v a b : Int} {r : Bool} (h : decide (a ≤ v ∧ v ≤ b) = r) (w : World) : Calls Try.prog 51 #[.int .i64 v, .int .i64 a, .int .i64 b] w fun e w' => e = .returned (.bool r) ∧ w' = w := (within_l_is h w).mono fun _ _ h => ⟨h.1, h.2.symm⟩
theorem info_reset : (Try.prog.info? 31).map (·.size) = some 2 := by kernel_rfl
theorem info_tier : (Try.prog.info? 34).map (·.size) = some 2 := by kernel_rfl
theorem two_one (x y : Int) : (#[Value.int .i64 x, Value.int .i64 y]).all (·.oneCell') = true := by simp [Value.oneCell']
theorem wf_bd {x : Int} (h : (Lit.int .i64 x).wf = true) : -9223372036854775808 ≤ x ∧ x ≤ 9223372036854775807 := by
  have h := (Bool.and_eq_true _ _).mp h
  exact ⟨of_decide_eq_true h.1, of_decide_eq_true h.2⟩
/-- The number ahead, of a row that is not the first one. -/
def prevOf (d : Int) (j : Nat) (rows : List (List Int)) (k : Nat) : Int := if k = 0 then d else (rows.getD (k - 1) []).getD j 0
theorem prevOf_succ {d : Int} {j : Nat} {rows : List (List Int)} {k : Nat} {r : List Int} (h : rows[k]? = some r) : prevOf d j rows (k + 1) = r.getD j 0 := by
  unfold prevOf
  rw [if_neg (by omega)]
  have e : rows.getD k [] = r := by rw [List.getD_eq_getElem?_getD, h]; rfl
  show (rows.getD k []).getD j 0 = _
  rw [e]
theorem prevOf_pos {d : Int} {j : Nat} {rows : List (List Int)} {k : Nat} (h0 : 0 < k) {r : List Int} (h : rows[k - 1]? = some r) : prevOf d j rows k = r.getD j 0 := by
  unfold prevOf
  have e : rows.getD (k - 1) [] = r := by rw [List.getD_eq_getElem?_getD, h]; rfl
  rw [if_neg (by omega), e]
end Go.Proofs.Ytcbebbiedegjlaa.Pd
