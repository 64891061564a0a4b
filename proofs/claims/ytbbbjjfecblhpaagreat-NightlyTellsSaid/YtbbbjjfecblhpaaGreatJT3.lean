/- Texts of this claim, joined in build order. -/
import Derived.RowKit
import Derived.Below
import Derived.Test.YtbbbjjfecblhpaaGreatProg
import Derived.Deep.Draws
import Derived.Deep.AppendLies
import Derived.Maps.AppendAt
import Derived.OwnWalk
import Derived.Laws.BytesArg
import Derived.Laws.MakeOwn
import Derived.Laws.OwnMore
import Derived.Tactics
import Derived.Lib.ConvBytes
import Derived.Laws.Slices
import Derived.WalkKit
import Derived.KernelRfl
import Derived.RowKit3
import Derived.Deep.LoopGhost
import Derived.Deep.QuietTactic
import Derived.BigQuiet
import Derived.WideLaws
import Derived.Deep.DeepCutAuto
import Derived.Deep.CutBlock
import Derived.Deep.RegionHeld3
import Derived.Lib.AppendStr
import Derived.ArgAppend
import Derived.Laws.IdiomCopy
import Derived.OrdersHeld
import Derived.Laws.BitsLemmas
import Derived.Laws.StructEq
import Derived.WalkLawsBesides
import Derived.WalkSpells
import Derived.Lib.IndexMore
import Derived.Deep.Slices
import Derived.Deep.Fields
import Derived.ChangeSame
import Derived.Lib.SmallJoins
import Derived.ProofKit
import Derived.Defers
import Derived.Laws.Tables
import Derived.Deep.WholeRow
import Derived.Recover
import Derived.StillTailTactics
import Derived.SizedLaws
import Derived.ChangeSlices
import Derived.IntWalk
import Derived.Shelf.Small.Bits
import Derived.Shelf.Strconv.Itoa0
import Derived.Shelf.Strings.Search1
import Derived.Shelf.Strings.Search2
import Derived.Shelf.Strings.Search3
import Derived.Shelf.LaysM
import Derived.Shelf.Strings.Shaped
import Derived.Shelf.Bits.Mul64
import Derived.Ground.Names2Prog
import Derived.Shelf.Slices.Clone
import Derived.Ground.SlgnProg
import Derived.Shelf.SlicesE.Clone
import Derived.Lib.SlBytesConst
import Derived.Deep.RegionWith
import Derived.Lib.Hide
import Derived.BigFrame
import Derived.Deep.MidRow
import Derived.Lib.BitFns
import Derived.Laws.BitsAllLaws
import Derived.Laws.Externs
import Derived.RegionTactic
import Derived.Laws.AppendOwnNone
import Derived.OpenShut
import Derived.ShutString
import Derived.ChangeOld
import Derived.Laws.IdiomArrays
import Derived.HandedShaped
import Derived.Shelf.Vars
import Derived.Test.YtbbbjjfecblhpaaGreatJT1
import Derived.Test.YtbbbjjfecblhpaaGreatJT2
set_option linter.unusedVariables false
set_option linter.unusedSimpArgs false
/- Words by hand: rows of two numbers; a new variable for each round. -/
namespace Go.Proofs.YtbbbjjfecblhpaaGreat.Pd
open Go.RowKit Go.Proofs.YtbbbjjfecblhpaaGreatW.PrintWords Go.Proofs.YtbbbjjfecblhpaaGreatW.PrintLast Go.Proofs.YtbbbjjfecblhpaaGreatW.PrintMore Go.Proofs.YtbbbjjfecblhpaaGreat.HW
open Pm
set_option linter.unusedVariables false
set_option linter.unusedSimpArgs false
theorem cell_ltR {w : World} {ad : Addr} {v : Value} (h : w.cell? ad = some v) : ad.block < w.heap.size := by
  rcases Nat.lt_or_ge ad.block w.heap.size with h1 | h1
  · exact h1
  · exfalso
    have e : w.heap[ad.block]? = none := Array.getElem?_eq_none h1
    simp [World.cell?, e] at h
theorem add_fieldR (ad : Addr) (n j : Nat) (hj : 0 < j) : ad.add (n + j) = ⟨(ad.add n).block, (ad.add n).off + j, none⟩ := by
  simp only [Addr.add]
  rw [if_neg (by omega)]
  split
  · rename_i h; subst h; simp
  · simp; omega
/-- A row of two. -/
theorem two_at {w : World} {A : Option Addr} {rows : List (List Int)} (h : Op.IntRows w A 2 rows) (k : Nat) (hk : k < rows.length) : ∃ ad x y, A = some ad ∧ rows[k]? = some [x, y] ∧ w.cell? (ad.add (k * 2)) = some (.int .i64 x) ∧ w.cell? ⟨(ad.add (k * 2)).block, (ad.add (k * 2)).off + 1, none⟩ = some (.int .i64 y) ∧ (Lit.int .i64 x).wf = true ∧ (Lit.int .i64 y).wf = true := by
  obtain ⟨h1, h2⟩ := h.1 _ (List.getElem_mem hk)
  obtain ⟨ad, e, hc⟩ := h.2 k _ (List.getElem?_eq_getElem hk)
  rw [List.getElem?_eq_getElem hk]
  generalize rows[k] = r at *
  match r, h1 with
  | [x, y], _ => exact ⟨ad, x, y, e, rfl, hc 0 x rfl, by rw [← add_fieldR _ _ _ (by decide)]; exact hc 1 y rfl, h2 x (by simp), h2 y (by simp)⟩
theorem drop_row {rows : List (List Int)} {k : Nat} {r : List Int} (h : rows[k]? = some r) : rows.drop k = r :: rows.drop (k + 1) := by
  obtain ⟨hk, rfl⟩ := List.getElem?_eq_some_iff.1 h
  exact List.drop_eq_getElem_cons hk
section
variable {P : Program} {ops : Array Oper} {rest : List Oper} {a : Act} {Q : Exit → Act → World → Prop}
/-- A new variable, an assignment, and a whole value into it. -/
theorem copy_event3 {W : World} {o1 om o2 : Oper} (hg1 : o1.guard = none) {N : Tmp} (hd1 : o1.dst = some N) (hgm : om.guard = none) (hg2 : o2.guard = none) (hd2 : o2.dst = none) {t : TypeId} {v : Operand} (ho2 : o2.op = .store t (.tmp N) v) {cs zs : Array Value} {vm : Value}
    (hrun : (execOp a.eval o1).run P W = .ok (.value (.pointer (some ⟨W.heap.size, 0, none⟩))) (W.alloc (.cells zs t (0, 0))))
    (hrm : ∀ W', (execOp (a.put o1.dst (.pointer (some ⟨W.heap.size, 0, none⟩))).eval om).run P W' = .ok (.value vm) W')
    (hp : ((a.put o1.dst (.pointer (some ⟨W.heap.size, 0, none⟩))).put om.dst vm).eval (.tmp N) = .pointer (some ⟨W.heap.size, 0, none⟩))
    (hv : ((a.put o1.dst (.pointer (some ⟨W.heap.size, 0, none⟩))).put om.dst vm).eval v = .agg cs)
    (hi : (P.info? t).map (·.size) = some cs.size) (hz : zs.size = cs.size) (h1 : cs.all (·.oneCell') = true)
    (h : ∀ g, g = W.heap.size → ∀ w1, w1.heap[g]? = some (.cells cs t (0, 0)) → Below W.heap.size W w1 → wpList P ops Q rest ((a.put o1.dst (.pointer (some ⟨g, 0, none⟩))).put om.dst vm) w1) : wpList P ops Q (o1 :: om :: o2 :: rest) a W := by
  refine Kd.event_run hg1 hrun ?_
  refine Kd.event_run hgm (hrm _) ?_
  refine wpList_store_row hg2 t (.tmp N) v ho2 W.heap.size cs hp hv t zs (heap_alloc_new W _) hi hz h1 ?_
  rw [hd2, World.setRow_alloc_new]
  exact h _ rfl _ (blk_new W _) (below_alloc (Below.refl _ _) _)
end
theorem within_i0 {v a b : Int} {r : Bool} (h : decide (a ≤ v ∧ v ≤ b) = r) (w : World) : Calls Tryz.prog 81 #[.int .i64 v, .int .i64 a, .int .i64 b] w fun e w' => e = .returned (.bool r) ∧ w' = w := (within_i_is h w).mono fun _ _ h => ⟨h.1, h.2.symm⟩
theorem within_l0 {v a b : Int} {r : Bool} (h : decide (a ≤ v ∧ v ≤ b) = r) (w : World) : Calls Tryz.prog 82 #[.int .i64 v, .int .i64 a, .int .i64 b] w fun e w' => e = .returned (.bool r) ∧ w' = w := (within_l_is h w).mono fun _ _ h => ⟨h.1, h.2.symm⟩
theorem info_reset : (Tryz.prog.info? 100).map (·.size) = some 2 := by kernel_rfl
theorem info_tier : (Tryz.prog.info? 102).map (·.size) = some 2 := by kernel_rfl
theorem two_one (x y : Int) : (#[Value.int .i64 x, Value.int .i64 y]).all (·.oneCell') = true := by simp [Value.oneCell']
theorem wf_bd {x : Int} (h : (Lit.int .i64 x).wf = true) : -9223372036854775808 ≤ x ∧ x ≤ 9223372036854775807 := by
  have h := (Bool.and_eq_true _ _).mp h
  exact ⟨of_decide_eq_true h.1, of_decide_eq_true h.2⟩
/-- The number ahead, of a row that is not the first one. -/
def prevOf (d : Int) (j : Nat) (rows : List (List Int)) (k : Nat) : Int := if k = 0 then d else (rows.getD (k - 1) []).getD j 0
theorem prevOf_succ {d : Int} {j : Nat} {rows : List (List Int)} {k : Nat} {r : List Int} (h : rows[k]? = some r) : prevOf d j rows (k + 1) = r.getD j 0 := by
  unfold prevOf
  rw [if_neg (by omega)]
  have e : rows.getD k [] = r := by rw [List.getD_eq_getElem?_getD, h]; rfl
  show (rows.getD k []).getD j 0 = _
  rw [e]
theorem prevOf_pos {d : Int} {j : Nat} {rows : List (List Int)} {k : Nat} (h0 : 0 < k) {r : List Int} (h : rows[k - 1]? = some r) : prevOf d j rows k = r.getD j 0 := by
  unfold prevOf
  have e : rows.getD (k - 1) [] = r := by rw [List.getD_eq_getElem?_getD, h]; rfl
  rw [if_neg (by omega), e]
end Go.Proofs.YtbbbjjfecblhpaaGreat.Pd
/- Contracts by hand: a product's rates are looked at. -/
namespace Go.Proofs.YtbbbjjfecblhpaaGreat.Pd
open Go.RowKit Go.Proofs.YtbbbjjfecblhpaaGreatW.PrintWords Go.Proofs.YtbbbjjfecblhpaaGreatW.PrintLast Go.Proofs.YtbbbjjfecblhpaaGreatW.PrintMore Go.Proofs.YtbbbjjfecblhpaaGreat.HW
open Pm
set_option linter.unusedVariables false
set_option linter.unusedSimpArgs false

set_option maxRecDepth 100000 in
set_option maxHeartbeats 2000000 in
theorem rates_1 (p : Prod) (A1 : Option Addr) (c1 : Nat) (A2 : Option Addr) (c2 : Nat) (A3 : Option Addr) (c3 : Nat) (w : World) (ha : decide (0 ≤ p.rate ∧ p.rate ≤ 1000000000) = false) :
    Calls Tryz.prog 67 #[pv p A1 c1 A2 c2 A3 c3] w (fun e w' => e = refusedE ∧ Below w.heap.size w w') := by
  have HA := Aside0.mk ha
  clear ha
  go_enter Tryz.func67, Tryz.ntmps67
  go_wp2_with (first
    | ((with_reducible refine gate_dst (N := 1) rfl ?_); refine box_event ?hg (N := 1) ?hd (cs := pcs p A1 c1 A2 c2 A3 c3) (t := 117) ?hr ?_; (case hd => rfl); (case hg => rfl); (case hr => first | (go_simp; done) | (go_simp; rfl)); intro g1 hg w1 hb1 hbl1; clear hg)
    | ((with_reducible refine gate_dst (N := 6) rfl ?_); refine wpList_load_row rfl 27 (.tmp 5) rfl g1 rfl 117 _ (0, 0) _ hb1 Tryz.underlying27 rfl info_prod ?_)
    | ((with_reducible refine gate_dst (N := 2) rfl ?_); refine copy_event rfl (N := 2) rfl rfl rfl (t := 27) (v := .tmp 6) rfl (cs := pcs p A1 c1 A2 c2 A3 c3) (zs := pzs) ?hr rfl rfl info_prod ?hz (pcs_one _ _ _ _ _ _ _) ?_; (case hr => first | (go_simp; done) | (go_simp; rfl)); (case hz => rfl); intro g2 hg w2 hb2 hbl2; have g2lt := blk_lt hb2; have g2ge := (show w.heap.size ≤ g2 by rw [hg]; exact hbl1.size); clear hg; have HB2 := Aside0.mk hb2; have BL2 := Aside0.mk (below_step hbl1 hbl2); clear hb1 hbl1 hbl2; have QQ := Aside0.mk (pc_cells hb2); clear hb2; obtain ⟨-, -, -, -, -, q5, -, q7, q8, q9, -⟩ := QQ.out))
  go_wp2_with fail
  refine (within_l_is HA.out _).mono ?_
  rintro e w' ⟨rfl, rfl⟩
  go_wp2_with fail
  refine (must_no _).mono ?_
  rintro e w' ⟨rfl, rfl⟩
  exact ⟨rfl, rfl, BL2.out⟩

set_option maxRecDepth 100000 in
set_option maxHeartbeats 2000000 in
theorem rates_2 (p : Prod) (A1 : Option Addr) (c1 : Nat) (A2 : Option Addr) (c2 : Nat) (A3 : Option Addr) (c3 : Nat) (w : World) (ha : decide (0 ≤ p.rate ∧ p.rate ≤ 1000000000) = true) (hb : decide (0 ≤ p.penalty ∧ p.penalty ≤ 1000000000) = false) :
    Calls Tryz.prog 67 #[pv p A1 c1 A2 c2 A3 c3] w (fun e w' => e = refusedE ∧ Below w.heap.size w w') := by
  have HA := Aside0.mk ha
  have HB := Aside0.mk hb
  clear ha hb
  go_enter Tryz.func67, Tryz.ntmps67
  go_wp2_with (first
    | ((with_reducible refine gate_dst (N := 1) rfl ?_); refine box_event ?hg (N := 1) ?hd (cs := pcs p A1 c1 A2 c2 A3 c3) (t := 117) ?hr ?_; (case hd => rfl); (case hg => rfl); (case hr => first | (go_simp; done) | (go_simp; rfl)); intro g1 hg w1 hb1 hbl1; clear hg)
    | ((with_reducible refine gate_dst (N := 6) rfl ?_); refine wpList_load_row rfl 27 (.tmp 5) rfl g1 rfl 117 _ (0, 0) _ hb1 Tryz.underlying27 rfl info_prod ?_)
    | ((with_reducible refine gate_dst (N := 2) rfl ?_); refine copy_event rfl (N := 2) rfl rfl rfl (t := 27) (v := .tmp 6) rfl (cs := pcs p A1 c1 A2 c2 A3 c3) (zs := pzs) ?hr rfl rfl info_prod ?hz (pcs_one _ _ _ _ _ _ _) ?_; (case hr => first | (go_simp; done) | (go_simp; rfl)); (case hz => rfl); intro g2 hg w2 hb2 hbl2; have g2lt := blk_lt hb2; have g2ge := (show w.heap.size ≤ g2 by rw [hg]; exact hbl1.size); clear hg; have HB2 := Aside0.mk hb2; have BL2 := Aside0.mk (below_step hbl1 hbl2); clear hb1 hbl1 hbl2; have QQ := Aside0.mk (pc_cells hb2); clear hb2; obtain ⟨-, -, -, -, -, q5, -, q7, q8, q9, -⟩ := QQ.out))
  go_wp2_with fail
  refine (within_l_is HA.out _).mono ?_
  rintro e w' ⟨rfl, rfl⟩
  go_wp2_with fail
  refine (within_l_is HB.out _).mono ?_
  rintro e w' ⟨rfl, rfl⟩
  go_wp2_with fail
  refine (must_no _).mono ?_
  rintro e w' ⟨rfl, rfl⟩
  exact ⟨rfl, rfl, BL2.out⟩

set_option maxRecDepth 100000 in
set_option maxHeartbeats 2000000 in
theorem rates_3 (p : Prod) (A1 : Option Addr) (c1 : Nat) (A2 : Option Addr) (c2 : Nat) (A3 : Option Addr) (c3 : Nat) (w : World) (ha : decide (0 ≤ p.rate ∧ p.rate ≤ 1000000000) = true) (hb : decide (0 ≤ p.penalty ∧ p.penalty ≤ 1000000000) = true) (hn : 20 < p.resets.length) (hm : p.resets.length ≤ 1000000) :
    Calls Tryz.prog 67 #[pv p A1 c1 A2 c2 A3 c3] w (fun e w' => e = refusedE ∧ Below w.heap.size w w') := by
  have HA := Aside0.mk ha
  have HB := Aside0.mk hb
  clear ha hb
  go_enter Tryz.func67, Tryz.ntmps67
  go_wp2_with (first
    | ((with_reducible refine gate_dst (N := 1) rfl ?_); refine box_event ?hg (N := 1) ?hd (cs := pcs p A1 c1 A2 c2 A3 c3) (t := 117) ?hr ?_; (case hd => rfl); (case hg => rfl); (case hr => first | (go_simp; done) | (go_simp; rfl)); intro g1 hg w1 hb1 hbl1; clear hg)
    | ((with_reducible refine gate_dst (N := 6) rfl ?_); refine wpList_load_row rfl 27 (.tmp 5) rfl g1 rfl 117 _ (0, 0) _ hb1 Tryz.underlying27 rfl info_prod ?_)
    | ((with_reducible refine gate_dst (N := 2) rfl ?_); refine copy_event rfl (N := 2) rfl rfl rfl (t := 27) (v := .tmp 6) rfl (cs := pcs p A1 c1 A2 c2 A3 c3) (zs := pzs) ?hr rfl rfl info_prod ?hz (pcs_one _ _ _ _ _ _ _) ?_; (case hr => first | (go_simp; done) | (go_simp; rfl)); (case hz => rfl); intro g2 hg w2 hb2 hbl2; have g2lt := blk_lt hb2; have g2ge := (show w.heap.size ≤ g2 by rw [hg]; exact hbl1.size); clear hg; have HB2 := Aside0.mk hb2; have BL2 := Aside0.mk (below_step hbl1 hbl2); clear hb1 hbl1 hbl2; have QQ := Aside0.mk (pc_cells hb2); clear hb2; obtain ⟨-, -, -, -, -, q5, -, q7, q8, q9, -⟩ := QQ.out))
  go_wp2_with fail
  refine (within_l_is HA.out _).mono ?_
  rintro e w' ⟨rfl, rfl⟩
  go_wp2_with fail
  refine (within_l_is HB.out _).mono ?_
  rintro e w' ⟨rfl, rfl⟩
  go_wp2_with fail
  refine (must_no_of (decide_eq_false (by omega)) _).mono ?_
  rintro e w' ⟨rfl, rfl⟩
  exact ⟨rfl, rfl, BL2.out⟩

set_option maxRecDepth 100000 in
set_option maxHeartbeats 2000000 in
theorem rates_4 (p : Prod) (A1 : Option Addr) (c1 : Nat) (A2 : Option Addr) (c2 : Nat) (A3 : Option Addr) (c3 : Nat) (w : World) (ha : decide (0 ≤ p.rate ∧ p.rate ≤ 1000000000) = true) (hb : decide (0 ≤ p.penalty ∧ p.penalty ≤ 1000000000) = true) (hn : p.resets.length ≤ 20) (t1 : 1 ≤ p.times) (t2 : p.times ≤ 600) (hr : Op.IntRows w A1 2 p.resets) (bb : Bool) (hbb : resetsOk p.times 0 p.resets = bb) :
    Calls Tryz.prog 67 #[pv p A1 c1 A2 c2 A3 c3] w (LookE bb w) := by
  have HA := Aside0.mk ha
  have HB := Aside0.mk hb
  have HR := Aside0.mk hr
  have HBB := Aside0.mk hbb
  clear ha hb hr hbb
  go_enter Tryz.func67, Tryz.ntmps67
  go_wp2_with (first
    | ((with_reducible refine gate_dst (N := 1) rfl ?_); refine box_event ?hg (N := 1) ?hd (cs := pcs p A1 c1 A2 c2 A3 c3) (t := 117) ?hr ?_; (case hd => rfl); (case hg => rfl); (case hr => first | (go_simp; done) | (go_simp; rfl)); intro g1 hg w1 hb1 hbl1; clear hg)
    | ((with_reducible refine gate_dst (N := 6) rfl ?_); refine wpList_load_row rfl 27 (.tmp 5) rfl g1 rfl 117 _ (0, 0) _ hb1 Tryz.underlying27 rfl info_prod ?_)
    | ((with_reducible refine gate_dst (N := 2) rfl ?_); refine copy_event rfl (N := 2) rfl rfl rfl (t := 27) (v := .tmp 6) rfl (cs := pcs p A1 c1 A2 c2 A3 c3) (zs := pzs) ?hr rfl rfl info_prod ?hz (pcs_one _ _ _ _ _ _ _) ?_; (case hr => first | (go_simp; done) | (go_simp; rfl)); (case hz => rfl); intro g2 hg w2 hb2 hbl2; have g2lt := blk_lt hb2; have g2ge := (show w.heap.size ≤ g2 by rw [hg]; exact hbl1.size); clear hg; have HB2 := Aside0.mk hb2; have BL2 := Aside0.mk (below_step hbl1 hbl2); clear hb1 hbl1 hbl2; have QQ := Aside0.mk (pc_cells hb2); clear hb2; obtain ⟨-, -, -, -, -, q5, -, q7, q8, q9, -⟩ := QQ.out))
  go_wp2_with fail
  refine (within_l_is HA.out _).mono ?_
  rintro e w' ⟨rfl, rfl⟩
  go_wp2_with fail
  refine (within_l_is HB.out _).mono ?_
  rintro e w' ⟨rfl, rfl⟩
  go_wp2_with fail
  refine (must_yes_of (decide_eq_true (by omega)) _).mono ?_
  rintro e w' ⟨rfl, rfl⟩
  go_wp2_with fail
  go_loopg [25] (p.resets.length + 1) (fun gq i w' => ∃ (k : Nat), k ≤ p.resets.length ∧ i = .int .i64 k ∧ Aside0 (gq = p.resets.length + 1 - k) ∧ Aside0 (resetsOk p.times (prevOf 0 0 p.resets k) (p.resets.drop k) = bb) ∧ Aside0 (Below w.heap.size w w' ∧ Below w2.heap.size w2 w'))
  case atStart => exact ⟨0, Nat.zero_le _, rfl, ⟨rfl⟩, ⟨by rw [← HBB.out]; rfl⟩, ⟨BL2.out, Below.refl _ _⟩⟩
  case round =>
    obtain ⟨k, hk, rfl, hgq, hq, hbl⟩ := hrel
    by_cases hlt : k < p.resets.length
    · obtain ⟨ad, x, y, e0, hrow, q0', q1', wx, wy⟩ := two_at (HR.out.below hbl.out.1) k hlt
      subst e0
      have hcs := hq.out
      rw [drop_row hrow] at hcs
      simp only [resetsOk] at hcs
      simp only [List.getD_cons_zero, List.getD_cons_succ] at hcs
      have hprev := prevOf_succ (d := 0) (j := 0) hrow
      simp only [List.getD_cons_zero] at hprev
      have HPREV := Aside0.mk hprev
      have adlt := cell_ltR q0'
      obtain ⟨bx0, bx1⟩ := wf_bd wx
      obtain ⟨by0, by1⟩ := wf_bd wy
      have HB3 := Aside0.mk (blk_below HB2.out hbl.out.2)
      have g2l := blk_lt HB3.out
      have kk0 : (0 : Int) ≤ (k : Int) := by omega
      have kk1 : (k : Int) < (p.resets.length : Int) := by omega
      have QP : Aside0 (0 < k → ∃ x' y', p.resets[k - 1]? = some [x', y'] ∧ wr.cell? (ad.add ((k - 1) * 2)) = some (.int .i64 x')) := ⟨fun h0 => by
        obtain ⟨ad', x', y', e', hrow', c', _⟩ := two_at (HR.out.below hbl.out.1) (k - 1) (by omega)
        obtain rfl : ad = ad' := Option.some.inj e'
        exact ⟨x', y', hrow', c'⟩⟩
      clear hq hrow hprev wx wy q5 q7 q8 q9
      go_wp2_with ((with_reducible refine gate_dst (N := 4) rfl ?_); refine copy_event3 rfl (N := 4) rfl rfl rfl rfl (t := 100) (v := .tmp 29) rfl (cs := #[.int .i64 x, .int .i64 y]) (zs := #[.int .i64 0, .int .i64 0]) (vm := .int .i64 k) ?hr ?hrm rfl rfl info_reset ?hz (two_one _ _) ?_; (case hr => first | (go_simp; done) | (go_simp; rfl)); (case hrm => intro W'; first | (go_simp; done) | (go_simp; rfl)); (case hz => rfl); intro g4 hg w4 hb4 hbl4; have g4lt := blk_lt hb4; clear hg)
      go_frame
      have z0 : w4.cell? ⟨g4, 0, none⟩ = some (.int .i64 x) := (blk_cell hb4 0).trans rfl
      have z1 : w4.cell? ⟨g4, 1, none⟩ = some (.int .i64 y) := (blk_cell hb4 1).trans rfl
      have HB5 := Aside0.mk (blk_below HB3.out hbl4)
      obtain ⟨-, -, -, -, -, q5, -, -, q8, -⟩ := pc_cells HB5.out
      have QP4 : Aside0 (0 < k → ∃ x' y', p.resets[k - 1]? = some [x', y'] ∧ w4.cell? (ad.add ((k - 1) * 2)) = some (.int .i64 x')) := ⟨fun h0 => by
        obtain ⟨x', y', h1, h2⟩ := QP.out h0
        exact ⟨x', y', h1, by rw [hbl4.cell (cell_ltR h2)]; exact h2⟩⟩
      have BL4 := Aside0.mk (And.intro (below_step hbl.out.1 hbl4) (below_step hbl.out.2 hbl4))
      clear hb4 hbl4 hbl HB3 QP q0' q1'
      have ew1 : IntKind.i64.wrap (p.times - 1) = p.times - 1 := IntWalk.i64_in _ (by omega)
      by_cases h1 : 1 ≤ x ∧ x ≤ p.times - 1
      · have H1 := Aside0.mk (decide_eq_true h1)
        by_cases h2 : 0 ≤ y ∧ y ≤ 1000000000
        · have H2 := Aside0.mk (decide_eq_true h2)
          by_cases h0 : k = 0
          · have hb2 : resetsOk p.times x (p.resets.drop (k + 1)) = bb := by
              rw [← hcs, decide_eq_true (show 1 ≤ x ∧ x ≤ p.times - 1 ∧ 0 ≤ y ∧ y ≤ 1000000000 ∧ prevOf 0 0 p.resets k < x from ⟨h1.1, h1.2, h2.1, h2.2, by have := h1.1; unfold prevOf; rw [if_pos h0]; omega⟩), Bool.true_and]
            have HB2' := Aside0.mk hb2
            have kz : ((k : Int) == 0) = true := by rw [h0]; rfl
            clear hcs hb2 h1 h2 h0
            go_quiet ((first
              | (go_at_call 81; refine (within_i_is H1.out _).mono ?_; rintro e w' ⟨rfl, rfl⟩; exact ⟨rfl, _, rfl⟩)
              | (go_at_call 82; refine (within_l_is H2.out _).mono ?_; rintro e w' ⟨rfl, rfl⟩; exact ⟨rfl, _, rfl⟩)
              | (go_at_call 79; refine (must_yes _).mono ?_; rintro e w' ⟨rfl, rfl⟩; exact ⟨rfl, _, rfl⟩)))
            go_wp2_with fail
            go_roundg (p.resets.length + 1 - (k + 1))
            case measure => have := hgq.out; omega
            case rel => exact ⟨k + 1, by omega, by simp, ⟨rfl⟩, ⟨by rw [HPREV.out]; exact HB2'.out⟩, ⟨pw_below_drewN BL4.out.1 _, pw_below_drewN BL4.out.2 _⟩⟩
          · obtain ⟨x', y', hrow', c'⟩ := QP4.out (by omega)
            have hpv := prevOf_pos (d := 0) (j := 0) (Nat.pos_of_ne_zero h0) hrow'
            simp only [List.getD_cons_zero] at hpv
            have kz : ((k : Int) == 0) = false := by rw [beq_eq_false_iff_ne]; omega
            have ew2 : IntKind.i64.wrap ((k : Int) - 1) = (k : Int) - 1 := IntWalk.i64_in _ (by omega)
            have kk2 : (0 : Int) ≤ (k : Int) - 1 := by omega
            have kk3 : (k : Int) - 1 < (p.resets.length : Int) := by omega
            have kk4 : (1 : Int) ≤ (k : Int) := by omega
            have ek : ((k : Int) - 1).toNat = k - 1 := by omega
            by_cases h3 : x' < x
            · have hb2 : resetsOk p.times x (p.resets.drop (k + 1)) = bb := by
                rw [← hcs, decide_eq_true (show 1 ≤ x ∧ x ≤ p.times - 1 ∧ 0 ≤ y ∧ y ≤ 1000000000 ∧ prevOf 0 0 p.resets k < x from ⟨h1.1, h1.2, h2.1, h2.2, by rw [hpv]; exact h3⟩), Bool.true_and]
              have HB2' := Aside0.mk hb2
              clear hcs hb2 h1 h2 h0 hpv hrow'
              go_quiet ((first
                | (go_at_call 81; refine (within_i_is H1.out _).mono ?_; rintro e w' ⟨rfl, rfl⟩; exact ⟨rfl, _, rfl⟩)
                | (go_at_call 82; refine (within_l_is H2.out _).mono ?_; rintro e w' ⟨rfl, rfl⟩; exact ⟨rfl, _, rfl⟩)
                | (go_at_call 79; refine (must_yes _).mono ?_; rintro e w' ⟨rfl, rfl⟩; exact ⟨rfl, _, rfl⟩)))
              clear ew1 ew2 ek
              go_wp2_with fail
              go_roundg (p.resets.length + 1 - (k + 1))
              case measure => have := hgq.out; omega
              case rel => exact ⟨k + 1, by omega, by simp, ⟨rfl⟩, ⟨by rw [HPREV.out]; exact HB2'.out⟩, ⟨pw_below_drewN BL4.out.1 _, pw_below_drewN BL4.out.2 _⟩⟩
            · have hbf : bb = false := by
                rw [← hcs, decide_eq_false (fun h => h3 (by have := h.2.2.2.2; rw [hpv] at this; exact this)), Bool.false_and]
              subst hbf
              have h4 : x ≤ x' := by omega
              have h5 : decide (x' < x) = false := decide_eq_false h3
              clear hcs h1 h2 h0 hpv hrow' h3
              refine wp_region_still_tail 27 (by kernel_rfl) (by kernel_rfl) ?_
              simp only [List.take_succ_cons, List.take_zero, List.drop_succ_cons, List.drop_zero]
              iterate 5 ((with_reducible refine wpStill_step (fun K hK => ?_)); go_simp; (try simp only [undef, reduceCtorEq, if_false]); (with_reducible refine hK _ ?_); clear hK K)
              still_call (within_i0 H1.out _)
              iterate 3 ((with_reducible refine wpStill_step (fun K hK => ?_)); go_simp; (try simp only [undef, reduceCtorEq, if_false]); (with_reducible refine hK _ ?_); clear hK K)
              still_call (within_l0 H2.out _)
              iterate 17 ((with_reducible refine wpStill_step (fun K hK => ?_)); go_simp; (try simp only [undef, reduceCtorEq, if_false]); (with_reducible refine hK _ ?_); clear hK K)
              (with_reducible refine wpStill_nil ?_)
              go_wp2_with ((go_at_call 79; refine (must_no _).mono ?_; rintro e w' ⟨rfl, rfl⟩))
              exact ⟨rfl, LookE.no ⟨rfl, BL4.out.1.drew⟩⟩
        · have hbf : bb = false := by
            rw [← hcs, decide_eq_false (fun h => h2 ⟨h.2.2.1, h.2.2.2.1⟩), Bool.false_and]
          subst hbf
          have H2 := Aside0.mk (decide_eq_false h2)
          clear hcs h1 h2
          refine wp_region_still_tail 27 (by kernel_rfl) (by kernel_rfl) ?_
          simp only [List.take_succ_cons, List.take_zero, List.drop_succ_cons, List.drop_zero]
          iterate 5 ((with_reducible refine wpStill_step (fun K hK => ?_)); go_simp; (try simp only [undef, reduceCtorEq, if_false]); (with_reducible refine hK _ ?_); clear hK K)
          still_call (within_i0 H1.out _)
          iterate 3 ((with_reducible refine wpStill_step (fun K hK => ?_)); go_simp; (try simp only [undef, reduceCtorEq, if_false]); (with_reducible refine hK _ ?_); clear hK K)
          still_call (within_l0 H2.out _)
          iterate 17 ((with_reducible refine wpStill_step (fun K hK => ?_)); go_simp; (try simp only [undef, reduceCtorEq, if_false]); (with_reducible refine hK _ ?_); clear hK K)
          (with_reducible refine wpStill_nil ?_)
          go_wp2_with ((go_at_call 79; refine (must_no _).mono ?_; rintro e w' ⟨rfl, rfl⟩))
          exact ⟨rfl, LookE.no ⟨rfl, BL4.out.1.drew⟩⟩
      · have hbf : bb = false := by
          rw [← hcs, decide_eq_false (fun h => h1 ⟨h.1, h.2.1⟩), Bool.false_and]
        subst hbf
        have H1 := Aside0.mk (decide_eq_false h1)
        clear hcs h1
        refine wp_region_still_tail 27 (by kernel_rfl) (by kernel_rfl) ?_
        simp only [List.take_succ_cons, List.take_zero, List.drop_succ_cons, List.drop_zero]
        iterate 5 ((with_reducible refine wpStill_step (fun K hK => ?_)); go_simp; (try simp only [undef, reduceCtorEq, if_false]); (with_reducible refine hK _ ?_); clear hK K)
        still_call (within_i0 H1.out _)
        iterate 21 ((with_reducible refine wpStill_step (fun K hK => ?_)); go_simp; (try simp only [undef, reduceCtorEq, if_false]); (with_reducible refine hK _ ?_); clear hK K)
        (with_reducible refine wpStill_nil ?_)
        go_wp2_with ((go_at_call 79; refine (must_no _).mono ?_; rintro e w' ⟨rfl, rfl⟩))
        exact ⟨rfl, LookE.no ⟨rfl, BL4.out.1.drew⟩⟩
    · have hk2 : k = p.resets.length := by omega
      subst hk2
      have hcs := hq.out
      rw [List.drop_length] at hcs
      obtain rfl : true = bb := hcs
      clear hq
      go_wp2_with fail
      go_end0
      exact LookE.yes ⟨rfl, hbl.out.1⟩
/-- A product's rates are looked at. -/
theorem rates_any (p : Prod) (A1 : Option Addr) (c1 : Nat) (A2 : Option Addr) (c2 : Nat) (A3 : Option Addr) (c3 : Nat) (w : World) (t1 : 1 ≤ p.times) (t2 : p.times ≤ 600) (hr : Op.IntRows w A1 2 p.resets) (hm : p.resets.length ≤ 1000000) :
    Calls Tryz.prog 67 #[pv p A1 c1 A2 c2 A3 c3] w (LookE (ratesOk p) w) := by
  unfold ratesOk
  by_cases ha : 0 ≤ p.rate ∧ p.rate ≤ 1000000000
  case neg =>
    rw [decide_eq_false (fun h => ha h.1), Bool.false_and]
    exact (rates_1 p A1 c1 A2 c2 A3 c3 w (decide_eq_false ha)).mono fun e w' h => LookE.no h
  by_cases hb : 0 ≤ p.penalty ∧ p.penalty ≤ 1000000000
  case neg =>
    rw [decide_eq_false (fun h => hb h.2.1), Bool.false_and]
    exact (rates_2 p A1 c1 A2 c2 A3 c3 w (decide_eq_true ha) (decide_eq_false hb)).mono fun e w' h => LookE.no h
  by_cases hn : p.resets.length ≤ 20
  case neg =>
    rw [decide_eq_false (fun h => hn h.2.2), Bool.false_and]
    exact (rates_3 p A1 c1 A2 c2 A3 c3 w (decide_eq_true ha) (decide_eq_true hb) (by omega) hm).mono fun e w' h => LookE.no h
  rw [decide_eq_true (show _ from ⟨ha, hb, hn⟩), Bool.true_and]
  exact rates_4 p A1 c1 A2 c2 A3 c3 w (decide_eq_true ha) (decide_eq_true hb) hn t1 t2 hr _ rfl
end Go.Proofs.YtbbbjjfecblhpaaGreat.Pd
/- Contracts by hand: a product's order are looked at. -/
namespace Go.Proofs.YtbbbjjfecblhpaaGreat.Pd
open Go.RowKit Go.Proofs.YtbbbjjfecblhpaaGreatW.PrintWords Go.Proofs.YtbbbjjfecblhpaaGreatW.PrintLast Go.Proofs.YtbbbjjfecblhpaaGreatW.PrintMore Go.Proofs.YtbbbjjfecblhpaaGreat.HW
open Pm
set_option linter.unusedVariables false
set_option linter.unusedSimpArgs false

/-- What was met, by kinds. -/
abbrev seenC (l : List Int) : Array Value := #[.bool (l.contains 0), .bool (l.contains 1), .bool (l.contains 2), .bool (l.contains 3), .bool (l.contains 4)]
/-- Each is a kind, and none was met before. -/
def ordR : List Int → List Int → Bool
  | _, [] => true
  | seen, o :: l => decide (1 ≤ o ∧ o ≤ 4) && (!seen.contains o && ordR (o :: seen) l)
theorem ordR_is (a b c d : Int) : ordR [] [a, b, c, d] = orderOk a b c d := by
  unfold orderOk
  simp only [ordR, List.contains_cons, List.contains_nil, Bool.or_false, Bool.not_false, Bool.true_and, Bool.and_true, Bool.not_or]
  rw [Bool.eq_iff_iff]
  simp only [Bool.and_eq_true, decide_eq_true_eq, Bool.not_eq_true', beq_eq_false_iff_ne]
  constructor
  · rintro ⟨h1, h2, h3, h4, ⟨h5, h6⟩, h7, ⟨h8, h9, h10⟩⟩
    exact ⟨h1, h2, h4, h7, Ne.symm h3, Ne.symm h6, Ne.symm h10, Ne.symm h5, Ne.symm h9, Ne.symm h8⟩
  · rintro ⟨h1, h2, h4, h7, h3, h6, h10, h5, h9, h8⟩
    exact ⟨h1, h2, Ne.symm h3, h4, ⟨Ne.symm h5, Ne.symm h6⟩, h7, ⟨Ne.symm h8, Ne.symm h9, Ne.symm h10⟩⟩
theorem index_ord (a b c d : Int) (k : Nat) (hk : k < 4) (w : World) : (Instr.index 23 (.agg #[.int .i64 a, .int .i64 b, .int .i64 c, .int .i64 d]) (.int .i64 k)).run Tryz.prog w = .ok (.int .i64 ([a, b, c, d].getD k 0)) w := by
  rcases (by omega : k = 0 ∨ k = 1 ∨ k = 2 ∨ k = 3) with rfl | rfl | rfl | rfl <;> kernel_rfl
set_option maxRecDepth 100000 in
set_option maxHeartbeats 2000000 in
theorem order_1 (p : Prod) (A1 : Option Addr) (c1 : Nat) (A2 : Option Addr) (c2 : Nat) (A3 : Option Addr) (c3 : Nat) (w : World) (ov : Bool) (bb : Bool) (hbb : ordR [] [p.o1, p.o2, p.o3, p.o4] = bb) (hv : bb = true → Aside0 (decide (1 ≤ p.over ∧ p.over ≤ 3) = ov)) :
    Calls Tryz.prog 68 #[pv p A1 c1 A2 c2 A3 c3] w (LookE (bb && ov) w) := by
  have HBB := Aside0.mk hbb
  have HV := Aside0.mk hv
  clear hbb hv
  go_enter Tryz.func68, Tryz.ntmps68
  go_wp2_with (first
    | ((with_reducible refine gate_dst (N := 1) rfl ?_); refine box_event ?hg (N := 1) ?hd (cs := pcs p A1 c1 A2 c2 A3 c3) (t := 117) ?hr ?_; (case hd => rfl); (case hg => rfl); (case hr => first | (go_simp; done) | (go_simp; rfl)); intro g1 hg w1 hb1 hbl1; clear hg; have HB1 := Aside0.mk hb1; have BL1 := Aside0.mk hbl1; clear hb1 hbl1)
    | ((with_reducible refine gate_dst (N := 2) rfl ?_); refine Hid.out ?_))
  refine Lib.hid ?_
  refine box_event ?hg (N := 2) ?hd (cs := #[.bool false, .bool false, .bool false, .bool false, .bool false]) (t := 134) ?hr ?_
  case hd => rfl
  case hg => rfl
  case hr => first | (go_simp; done) | (go_simp; rfl)
  intro g2 hg w2 hb2 hbl2
  have hg2 := hg; clear hg; have HB2 := Aside0.mk (show w2.heap[g2]? = some (.cells (seenC []) 134 (0, 0)) from hb2); have BL2 := Aside0.mk (below_step BL1.out hbl2); have BL12 := Aside0.mk hbl2; have g2ge : w1.heap.size ≤ g2 := (by omega); have HB3 := Aside0.mk (blk_below HB1.out hbl2); have g1l := blk_lt HB1.out; have g12 : g1 ≠ g2 := (by omega); clear hg2 g1l; obtain ⟨-, -, -, -, -, -, -, -, -, -, q10, q11, q12, q13, -⟩ := pc_cells HB3.out; clear hb2 hbl2
  go_wp2_with fail
  clear q10 q11 q12 q13
  obtain ⟨os, hos⟩ : ∃ os : List Int, [p.o1, p.o2, p.o3, p.o4] = os := ⟨_, rfl⟩
  have hidx0 := index_ord p.o1 p.o2 p.o3 p.o4
  rw [hos] at hidx0
  have hlen : os.length = 4 := by rw [← hos]; rfl
  have HIDX := Aside0.mk hidx0
  have HLEN := Aside0.mk hlen
  have HBO := Aside0.mk (show ordR [] os = bb by rw [← hos]; exact HBB.out)
  clear hidx0 hlen hos HBB
  go_loopg [8] 5 (fun gq i w' => ∃ (k : Nat), k ≤ 4 ∧ i = .int .i64 k ∧ Aside0 (gq = 5 - k) ∧ Aside0 (ordR (os.take k).reverse (os.drop k) = bb) ∧ Aside0 (w'.heap[g2]? = some (.cells (seenC (os.take k).reverse) 134 (0, 0))) ∧ Aside0 (Below w.heap.size w w' ∧ Below w1.heap.size w1 w'))
  case atStart => exact ⟨0, by omega, rfl, ⟨rfl⟩, ⟨by simpa using HBO.out⟩, HB2, ⟨BL2.out, BL12.out⟩⟩
  case round =>
    obtain ⟨k, hk, rfl, hgq, hq, hb, hbl⟩ := hrel
    by_cases hlt : k < 4
    · have hidx := HIDX.out k hlt
      have hdr : os.drop k = os.getD k 0 :: os.drop (k + 1) := by
        rw [List.drop_eq_getElem_cons (by rw [HLEN.out]; exact hlt), List.getD_eq_getElem?_getD, List.getElem?_eq_getElem (by rw [HLEN.out]; exact hlt)]; rfl
      have htk : (os.take (k + 1)).reverse = os.getD k 0 :: (os.take k).reverse := by
        rw [List.take_succ_eq_append_getElem (by rw [HLEN.out]; exact hlt), List.reverse_append, List.getD_eq_getElem?_getD, List.getElem?_eq_getElem (by rw [HLEN.out]; exact hlt)]; rfl
      have HQ := hq.out
      rw [hdr] at HQ
      simp only [ordR] at HQ
      generalize os.getD k 0 = o at *
      generalize (os.take k).reverse = l at *
      have HTK := Aside0.mk htk
      clear hdr htk hq
      by_cases h1 : 1 ≤ o ∧ o ≤ 4
      · rw [decide_eq_true h1, Bool.true_and] at HQ
        have H1 := Aside0.mk (decide_eq_true h1)
        have cs0 := fun j => blk_cell hb.out j
        rcases (by omega : o = 1 ∨ o = 2 ∨ o = 3 ∨ o = 4) with rfl | rfl | rfl | rfl
        · clear h1
          have fz := frozen_of_row wr g2 1 _ _ hb.out
          cases hc : l.contains 1 with
          | true =>
            rw [hc, Bool.not_true, Bool.false_and] at HQ
            subst HQ
            have cj : wr.cell? ⟨g2, 1, none⟩ = some (.bool true) := (blk_cell hb.out 1).trans (by show some (Value.bool (l.contains 1)) = _; rw [hc])
            clear hc cs0
            go_wp2_with (first
              | (go_at_call 81; refine (within_i_is H1.out _).mono ?_; rintro e w' ⟨rfl, rfl⟩)
              | (go_at_call 79; refine (must_no _).mono ?_; rintro e w' ⟨rfl, rfl⟩))
            exact ⟨rfl, LookE.no ⟨rfl, hbl.out.1⟩⟩
          | false =>
            rw [hc, Bool.not_false, Bool.true_and] at HQ
            have cj : wr.cell? ⟨g2, 1, none⟩ = some (.bool false) := (blk_cell hb.out 1).trans (by show some (Value.bool (l.contains 1)) = _; rw [hc])
            have HQ2 := Aside0.mk HQ
            clear hc cs0 HQ
            go_wp2_with (first
              | (go_at_call 81; refine (within_i_is H1.out _).mono ?_; rintro e w' ⟨rfl, rfl⟩)
              | (go_at_call 79; refine (must_yes _).mono ?_; rintro e w' ⟨rfl, rfl⟩))
            go_roundg (5 - (k + 1))
            case measure => have := hgq.out; omega
            case rel => exact ⟨k + 1, by omega, by simp, ⟨rfl⟩, ⟨by rw [HTK.out]; exact HQ2.out⟩, ⟨by rw [heap_setCell_same _ _ _ _ _ _ hb.out, HTK.out]; simp⟩, ⟨hbl.out.1.setCell (by have := BL1.out.size; simp; omega) _, hbl.out.2.setCell (by simp; omega) _⟩⟩
        · clear h1
          have fz := frozen_of_row wr g2 2 _ _ hb.out
          cases hc : l.contains 2 with
          | true =>
            rw [hc, Bool.not_true, Bool.false_and] at HQ
            subst HQ
            have cj : wr.cell? ⟨g2, 2, none⟩ = some (.bool true) := (blk_cell hb.out 2).trans (by show some (Value.bool (l.contains 2)) = _; rw [hc])
            clear hc cs0
            go_wp2_with (first
              | (go_at_call 81; refine (within_i_is H1.out _).mono ?_; rintro e w' ⟨rfl, rfl⟩)
              | (go_at_call 79; refine (must_no _).mono ?_; rintro e w' ⟨rfl, rfl⟩))
            exact ⟨rfl, LookE.no ⟨rfl, hbl.out.1⟩⟩
          | false =>
            rw [hc, Bool.not_false, Bool.true_and] at HQ
            have cj : wr.cell? ⟨g2, 2, none⟩ = some (.bool false) := (blk_cell hb.out 2).trans (by show some (Value.bool (l.contains 2)) = _; rw [hc])
            have HQ2 := Aside0.mk HQ
            clear hc cs0 HQ
            go_wp2_with (first
              | (go_at_call 81; refine (within_i_is H1.out _).mono ?_; rintro e w' ⟨rfl, rfl⟩)
              | (go_at_call 79; refine (must_yes _).mono ?_; rintro e w' ⟨rfl, rfl⟩))
            go_roundg (5 - (k + 1))
            case measure => have := hgq.out; omega
            case rel => exact ⟨k + 1, by omega, by simp, ⟨rfl⟩, ⟨by rw [HTK.out]; exact HQ2.out⟩, ⟨by rw [heap_setCell_same _ _ _ _ _ _ hb.out, HTK.out]; simp⟩, ⟨hbl.out.1.setCell (by have := BL1.out.size; simp; omega) _, hbl.out.2.setCell (by simp; omega) _⟩⟩
        · clear h1
          have fz := frozen_of_row wr g2 3 _ _ hb.out
          cases hc : l.contains 3 with
          | true =>
            rw [hc, Bool.not_true, Bool.false_and] at HQ
            subst HQ
            have cj : wr.cell? ⟨g2, 3, none⟩ = some (.bool true) := (blk_cell hb.out 3).trans (by show some (Value.bool (l.contains 3)) = _; rw [hc])
            clear hc cs0
            go_wp2_with (first
              | (go_at_call 81; refine (within_i_is H1.out _).mono ?_; rintro e w' ⟨rfl, rfl⟩)
              | (go_at_call 79; refine (must_no _).mono ?_; rintro e w' ⟨rfl, rfl⟩))
            exact ⟨rfl, LookE.no ⟨rfl, hbl.out.1⟩⟩
          | false =>
            rw [hc, Bool.not_false, Bool.true_and] at HQ
            have cj : wr.cell? ⟨g2, 3, none⟩ = some (.bool false) := (blk_cell hb.out 3).trans (by show some (Value.bool (l.contains 3)) = _; rw [hc])
            have HQ2 := Aside0.mk HQ
            clear hc cs0 HQ
            go_wp2_with (first
              | (go_at_call 81; refine (within_i_is H1.out _).mono ?_; rintro e w' ⟨rfl, rfl⟩)
              | (go_at_call 79; refine (must_yes _).mono ?_; rintro e w' ⟨rfl, rfl⟩))
            go_roundg (5 - (k + 1))
            case measure => have := hgq.out; omega
            case rel => exact ⟨k + 1, by omega, by simp, ⟨rfl⟩, ⟨by rw [HTK.out]; exact HQ2.out⟩, ⟨by rw [heap_setCell_same _ _ _ _ _ _ hb.out, HTK.out]; simp⟩, ⟨hbl.out.1.setCell (by have := BL1.out.size; simp; omega) _, hbl.out.2.setCell (by simp; omega) _⟩⟩
        · clear h1
          have fz := frozen_of_row wr g2 4 _ _ hb.out
          cases hc : l.contains 4 with
          | true =>
            rw [hc, Bool.not_true, Bool.false_and] at HQ
            subst HQ
            have cj : wr.cell? ⟨g2, 4, none⟩ = some (.bool true) := (blk_cell hb.out 4).trans (by show some (Value.bool (l.contains 4)) = _; rw [hc])
            clear hc cs0
            go_wp2_with (first
              | (go_at_call 81; refine (within_i_is H1.out _).mono ?_; rintro e w' ⟨rfl, rfl⟩)
              | (go_at_call 79; refine (must_no _).mono ?_; rintro e w' ⟨rfl, rfl⟩))
            exact ⟨rfl, LookE.no ⟨rfl, hbl.out.1⟩⟩
          | false =>
            rw [hc, Bool.not_false, Bool.true_and] at HQ
            have cj : wr.cell? ⟨g2, 4, none⟩ = some (.bool false) := (blk_cell hb.out 4).trans (by show some (Value.bool (l.contains 4)) = _; rw [hc])
            have HQ2 := Aside0.mk HQ
            clear hc cs0 HQ
            go_wp2_with (first
              | (go_at_call 81; refine (within_i_is H1.out _).mono ?_; rintro e w' ⟨rfl, rfl⟩)
              | (go_at_call 79; refine (must_yes _).mono ?_; rintro e w' ⟨rfl, rfl⟩))
            go_roundg (5 - (k + 1))
            case measure => have := hgq.out; omega
            case rel => exact ⟨k + 1, by omega, by simp, ⟨rfl⟩, ⟨by rw [HTK.out]; exact HQ2.out⟩, ⟨by rw [heap_setCell_same _ _ _ _ _ _ hb.out, HTK.out]; simp⟩, ⟨hbl.out.1.setCell (by have := BL1.out.size; simp; omega) _, hbl.out.2.setCell (by simp; omega) _⟩⟩
      · rw [decide_eq_false h1, Bool.false_and] at HQ
        subst HQ
        have H1 := Aside0.mk (decide_eq_false h1)
        clear h1
        go_wp2_with (first
          | (go_at_call 81; refine (within_i_is H1.out _).mono ?_; rintro e w' ⟨rfl, rfl⟩)
          | (go_at_call 79; refine (must_no _).mono ?_; rintro e w' ⟨rfl, rfl⟩))
        exact ⟨rfl, LookE.no ⟨rfl, hbl.out.1⟩⟩
    · have hk4 : k = 4 := by omega
      subst hk4
      have HQ := hq.out
      rw [List.drop_of_length_le (by rw [HLEN.out]; omega)] at HQ
      obtain rfl : true = bb := HQ
      obtain ⟨-, -, -, -, -, -, -, -, -, -, -, -, -, -, q14, -⟩ := pc_cells (blk_below HB1.out hbl.out.2)
      have H1 := HV.out rfl
      clear hq hb
      cases ov with
      | true =>
        go_wp2_with (first
          | (go_at_call 81; refine (within_i_is H1.out _).mono ?_; rintro e w' ⟨rfl, rfl⟩)
          | (go_at_call 79; refine (must_yes _).mono ?_; rintro e w' ⟨rfl, rfl⟩))
        go_end0
        exact LookE.yes ⟨rfl, hbl.out.1⟩
      | false =>
        go_wp2_with (first
          | (go_at_call 81; refine (within_i_is H1.out _).mono ?_; rintro e w' ⟨rfl, rfl⟩)
          | (go_at_call 79; refine (must_no _).mono ?_; rintro e w' ⟨rfl, rfl⟩))
        exact ⟨rfl, LookE.no ⟨rfl, hbl.out.1⟩⟩
/-- A product's order is looked at. -/
theorem order_any (p : Prod) (A1 : Option Addr) (c1 : Nat) (A2 : Option Addr) (c2 : Nat) (A3 : Option Addr) (c3 : Nat) (w : World) :
    Calls Tryz.prog 68 #[pv p A1 c1 A2 c2 A3 c3] w (LookE (ordOk p) w) := by
  unfold ordOk
  rw [← ordR_is]
  exact order_1 p A1 c1 A2 c2 A3 c3 w _ _ rfl (fun _ => ⟨rfl⟩)
end Go.Proofs.YtbbbjjfecblhpaaGreat.Pd
/- Contracts by hand: a product's late fees are looked at. -/
namespace Go.Proofs.YtbbbjjfecblhpaaGreat.Pd
open Go.RowKit Go.Proofs.YtbbbjjfecblhpaaGreatW.PrintWords Go.Proofs.YtbbbjjfecblhpaaGreatW.PrintLast Go.Proofs.YtbbbjjfecblhpaaGreatW.PrintMore Go.Proofs.YtbbbjjfecblhpaaGreat.HW
open Pm
set_option linter.unusedVariables false
set_option linter.unusedSimpArgs false


set_option maxRecDepth 100000 in
set_option maxHeartbeats 2000000 in
theorem late_1 (p : Prod) (A1 : Option Addr) (c1 : Nat) (A2 : Option Addr) (c2 : Nat) (A3 : Option Addr) (c3 : Nat) (w : World) (q8 : decide ((p.late.length : Int) ≤ 8) = false) :
    Calls Tryz.prog 69 #[pv p A1 c1 A2 c2 A3 c3] w (fun e w' => e = refusedE ∧ Below w.heap.size w w') := by
  go_enter Tryz.func69, Tryz.ntmps69
  go_wp2_with (first
    | ((with_reducible refine gate_dst (N := 1) rfl ?_); refine box_event ?hg (N := 1) ?hd (cs := pcs p A1 c1 A2 c2 A3 c3) (t := 117) ?hr ?_; (case hd => rfl); (case hg => rfl); (case hr => first | (go_simp; done) | (go_simp; rfl)); intro g1 hg w1 hb1 hbl1; clear hg)
    | ((with_reducible refine gate_dst (N := 6) rfl ?_); refine wpList_load_row rfl 27 (.tmp 5) rfl g1 rfl 117 _ (0, 0) _ hb1 Tryz.underlying27 rfl info_prod ?_)
    | ((with_reducible refine gate_dst (N := 2) rfl ?_); refine copy_event rfl (N := 2) rfl rfl rfl (t := 27) (v := .tmp 6) rfl (cs := pcs p A1 c1 A2 c2 A3 c3) (zs := pzs) ?hr rfl rfl info_prod ?hz (pcs_one _ _ _ _ _ _ _) ?_; (case hr => first | (go_simp; done) | (go_simp; rfl)); (case hz => rfl); intro g2 hg w2 hb2 hbl2; have g2lt := blk_lt hb2; have g2ge := (show w.heap.size ≤ g2 by rw [hg]; exact hbl1.size); clear hg; have HB2 := Aside0.mk hb2; have BL2 := Aside0.mk (below_step hbl1 hbl2); clear hb1 hbl1 hbl2; have QQ := Aside0.mk (pc_cells hb2); clear hb2; obtain ⟨-, -, -, -, -, -, -, -, -, -, -, -, -, -, -, q15, q16, -⟩ := QQ.out))
  go_wp2_with fail
  refine (must_no _).mono ?_
  rintro e w' ⟨rfl, rfl⟩
  exact ⟨rfl, rfl, BL2.out⟩

set_option maxRecDepth 100000 in
set_option maxHeartbeats 2000000 in
theorem late_2 (p : Prod) (A1 : Option Addr) (c1 : Nat) (A2 : Option Addr) (c2 : Nat) (A3 : Option Addr) (c3 : Nat) (w : World) (q8 : decide ((p.late.length : Int) ≤ 8) = true) (hn : p.late.length ≤ 8) (ha : decide (0 ≤ p.cap ∧ p.cap ≤ 10000000000000) = false) :
    Calls Tryz.prog 69 #[pv p A1 c1 A2 c2 A3 c3] w (fun e w' => e = refusedE ∧ Below w.heap.size w w') := by
  have HA := Aside0.mk ha
  clear ha
  go_enter Tryz.func69, Tryz.ntmps69
  go_wp2_with (first
    | ((with_reducible refine gate_dst (N := 1) rfl ?_); refine box_event ?hg (N := 1) ?hd (cs := pcs p A1 c1 A2 c2 A3 c3) (t := 117) ?hr ?_; (case hd => rfl); (case hg => rfl); (case hr => first | (go_simp; done) | (go_simp; rfl)); intro g1 hg w1 hb1 hbl1; clear hg)
    | ((with_reducible refine gate_dst (N := 6) rfl ?_); refine wpList_load_row rfl 27 (.tmp 5) rfl g1 rfl 117 _ (0, 0) _ hb1 Tryz.underlying27 rfl info_prod ?_)
    | ((with_reducible refine gate_dst (N := 2) rfl ?_); refine copy_event rfl (N := 2) rfl rfl rfl (t := 27) (v := .tmp 6) rfl (cs := pcs p A1 c1 A2 c2 A3 c3) (zs := pzs) ?hr rfl rfl info_prod ?hz (pcs_one _ _ _ _ _ _ _) ?_; (case hr => first | (go_simp; done) | (go_simp; rfl)); (case hz => rfl); intro g2 hg w2 hb2 hbl2; have g2lt := blk_lt hb2; have g2ge := (show w.heap.size ≤ g2 by rw [hg]; exact hbl1.size); clear hg; have HB2 := Aside0.mk hb2; have BL2 := Aside0.mk (below_step hbl1 hbl2); clear hb1 hbl1 hbl2; have QQ := Aside0.mk (pc_cells hb2); clear hb2; obtain ⟨-, -, -, -, -, -, -, -, -, -, -, -, -, -, -, q15, q16, -⟩ := QQ.out))
  go_wp2_with fail
  refine (within_l_is HA.out _).mono ?_
  rintro e w' ⟨rfl, rfl⟩
  go_wp2_with fail
  refine (must_no _).mono ?_
  rintro e w' ⟨rfl, rfl⟩
  exact ⟨rfl, rfl, BL2.out⟩

set_option maxRecDepth 100000 in
set_option maxHeartbeats 2000000 in
theorem late_3 (p : Prod) (A1 : Option Addr) (c1 : Nat) (A2 : Option Addr) (c2 : Nat) (A3 : Option Addr) (c3 : Nat) (w : World) (q8 : decide ((p.late.length : Int) ≤ 8) = true) (hn : p.late.length ≤ 8) (ha : decide (0 ≤ p.cap ∧ p.cap ≤ 10000000000000) = true) (q0 : p.late.length = 0) (q1 : (p.cap == 0) = false) :
    Calls Tryz.prog 69 #[pv p A1 c1 A2 c2 A3 c3] w (fun e w' => e = refusedE ∧ Below w.heap.size w w') := by
  have HA := Aside0.mk ha
  have HQ0 := Aside0.mk q0
  clear ha q0
  go_enter Tryz.func69, Tryz.ntmps69
  go_wp2_with (first
    | ((with_reducible refine gate_dst (N := 1) rfl ?_); refine box_event ?hg (N := 1) ?hd (cs := pcs p A1 c1 A2 c2 A3 c3) (t := 117) ?hr ?_; (case hd => rfl); (case hg => rfl); (case hr => first | (go_simp; done) | (go_simp; rfl)); intro g1 hg w1 hb1 hbl1; clear hg)
    | ((with_reducible refine gate_dst (N := 6) rfl ?_); refine wpList_load_row rfl 27 (.tmp 5) rfl g1 rfl 117 _ (0, 0) _ hb1 Tryz.underlying27 rfl info_prod ?_)
    | ((with_reducible refine gate_dst (N := 2) rfl ?_); refine copy_event rfl (N := 2) rfl rfl rfl (t := 27) (v := .tmp 6) rfl (cs := pcs p A1 c1 A2 c2 A3 c3) (zs := pzs) ?hr rfl rfl info_prod ?hz (pcs_one _ _ _ _ _ _ _) ?_; (case hr => first | (go_simp; done) | (go_simp; rfl)); (case hz => rfl); intro g2 hg w2 hb2 hbl2; have g2lt := blk_lt hb2; have g2ge := (show w.heap.size ≤ g2 by rw [hg]; exact hbl1.size); clear hg; have HB2 := Aside0.mk hb2; have BL2 := Aside0.mk (below_step hbl1 hbl2); clear hb1 hbl1 hbl2; have QQ := Aside0.mk (pc_cells hb2); clear hb2; obtain ⟨-, -, -, -, -, -, -, -, -, -, -, -, -, -, -, q15, q16, -⟩ := QQ.out))
  go_wp2_with fail
  refine (within_l_is HA.out _).mono ?_
  rintro e w' ⟨rfl, rfl⟩
  have q0 := HQ0.out
  go_wp2_with fail
  refine (must_no _).mono ?_
  rintro e w' ⟨rfl, rfl⟩
  exact ⟨rfl, rfl, BL2.out⟩

set_option maxRecDepth 100000 in
set_option maxHeartbeats 2000000 in
theorem late_4 (p : Prod) (A1 : Option Addr) (c1 : Nat) (A2 : Option Addr) (c2 : Nat) (A3 : Option Addr) (c3 : Nat) (w : World) (q8 : decide ((p.late.length : Int) ≤ 8) = true) (hn : p.late.length ≤ 8) (ha : decide (0 ≤ p.cap ∧ p.cap ≤ 10000000000000) = true) (q0 : 0 < p.late.length) (hr : Op.IntRows w A2 2 p.late) (bb : Bool) (hbb : tiersOk 0 0 p.late = bb) :
    Calls Tryz.prog 69 #[pv p A1 c1 A2 c2 A3 c3] w (LookE bb w) := by
  have HA := Aside0.mk ha
  have HR := Aside0.mk hr
  have HBB := Aside0.mk hbb
  clear ha hr hbb
  go_enter Tryz.func69, Tryz.ntmps69
  go_wp2_with (first
    | ((with_reducible refine gate_dst (N := 1) rfl ?_); refine box_event ?hg (N := 1) ?hd (cs := pcs p A1 c1 A2 c2 A3 c3) (t := 117) ?hr ?_; (case hd => rfl); (case hg => rfl); (case hr => first | (go_simp; done) | (go_simp; rfl)); intro g1 hg w1 hb1 hbl1; clear hg)
    | ((with_reducible refine gate_dst (N := 6) rfl ?_); refine wpList_load_row rfl 27 (.tmp 5) rfl g1 rfl 117 _ (0, 0) _ hb1 Tryz.underlying27 rfl info_prod ?_)
    | ((with_reducible refine gate_dst (N := 2) rfl ?_); refine copy_event rfl (N := 2) rfl rfl rfl (t := 27) (v := .tmp 6) rfl (cs := pcs p A1 c1 A2 c2 A3 c3) (zs := pzs) ?hr rfl rfl info_prod ?hz (pcs_one _ _ _ _ _ _ _) ?_; (case hr => first | (go_simp; done) | (go_simp; rfl)); (case hz => rfl); intro g2 hg w2 hb2 hbl2; have g2lt := blk_lt hb2; have g2ge := (show w.heap.size ≤ g2 by rw [hg]; exact hbl1.size); clear hg; have HB2 := Aside0.mk hb2; have BL2 := Aside0.mk (below_step hbl1 hbl2); clear hb1 hbl1 hbl2; have QQ := Aside0.mk (pc_cells hb2); clear hb2; obtain ⟨-, -, -, -, -, -, -, -, -, -, -, -, -, -, -, q15, q16, -⟩ := QQ.out))
  go_wp2_with fail
  refine (within_l_is HA.out _).mono ?_
  rintro e w' ⟨rfl, rfl⟩
  all_goals
    go_wp2_with fail
    refine (must_yes _).mono ?_
    rintro e w' ⟨rfl, rfl⟩
    go_wp2_with fail
    go_loopg [31] (p.late.length + 1) (fun gq i w' => ∃ (k : Nat), k ≤ p.late.length ∧ i = .int .i64 k ∧ Aside0 (gq = p.late.length + 1 - k) ∧ Aside0 (tiersOk (prevOf 0 0 p.late k) (prevOf 0 1 p.late k) (p.late.drop k) = bb) ∧ Aside0 (Below w.heap.size w w' ∧ Below w2.heap.size w2 w'))
    case atStart => exact ⟨0, Nat.zero_le _, rfl, ⟨rfl⟩, ⟨by rw [← HBB.out]; rfl⟩, ⟨BL2.out, Below.refl _ _⟩⟩
    case round =>
      obtain ⟨k, hk, rfl, hgq, hq, hbl⟩ := hrel
      by_cases hlt : k < p.late.length
      · obtain ⟨ad, x, y, e0, hrow, q0', q1', wx, wy⟩ := two_at (HR.out.below hbl.out.1) k hlt
        subst e0
        have hcs := hq.out
        rw [drop_row hrow] at hcs
        simp only [tiersOk] at hcs
        simp only [List.getD_cons_zero, List.getD_cons_succ] at hcs
        have hprev := prevOf_succ (d := 0) (j := 0) hrow
        have hprev1 := prevOf_succ (d := 0) (j := 1) hrow
        simp only [List.getD_cons_zero, List.getD_cons_succ] at hprev hprev1
        have HPREV := Aside0.mk hprev
        have HPREV1 := Aside0.mk hprev1
        have adlt := cell_ltR q0'
        obtain ⟨bx0, bx1⟩ := wf_bd wx
        obtain ⟨by0, by1⟩ := wf_bd wy
        have HB3 := Aside0.mk (blk_below HB2.out hbl.out.2)
        have g2l := blk_lt HB3.out
        have kk0 : (0 : Int) ≤ (k : Int) := by omega
        have kk1 : (k : Int) < (p.late.length : Int) := by omega
        have QP : Aside0 (0 < k → ∃ x' y', p.late[k - 1]? = some [x', y'] ∧ wr.cell? (ad.add ((k - 1) * 2)) = some (.int .i64 x') ∧ wr.cell? ⟨(ad.add ((k - 1) * 2)).block, (ad.add ((k - 1) * 2)).off + 1, none⟩ = some (.int .i64 y')) := ⟨fun h0 => by
          obtain ⟨ad', x', y', e', hrow', c', d', _⟩ := two_at (HR.out.below hbl.out.1) (k - 1) (by omega)
          obtain rfl : ad = ad' := Option.some.inj e'
          exact ⟨x', y', hrow', c', d'⟩⟩
        clear hq hrow hprev hprev1 wx wy q15 q16
        by_cases h1 : 1 ≤ x ∧ x ≤ 365
        · have H1 := Aside0.mk (decide_eq_true h1)
          by_cases h2 : 0 ≤ y ∧ y ≤ 10000000000000
          · have H2 := Aside0.mk (decide_eq_true h2)
            go_wp2_with (first
              | ((with_reducible refine gate_dst (N := 4) rfl ?_); refine copy_event3 rfl (N := 4) rfl rfl rfl rfl (t := 102) (v := .tmp 35) rfl (cs := #[.int .i64 x, .int .i64 y]) (zs := #[.int .i64 0, .int .i64 0]) (vm := .int .i64 k) ?hr ?hrm rfl rfl info_tier ?hz (two_one _ _) ?_; (case hr => first | (go_simp; done) | (go_simp; rfl)); (case hrm => intro W'; first | (go_simp; done) | (go_simp; rfl)); (case hz => rfl); intro g4 hg w4 hb4 hbl4; have g4lt := blk_lt hb4; clear hg; have z0 : w4.cell? ⟨g4, 0, none⟩ = some (.int .i64 x) := (blk_cell hb4 0).trans rfl; have z1 : w4.cell? ⟨g4, 1, none⟩ = some (.int .i64 y) := (blk_cell hb4 1).trans rfl; have HB5 := Aside0.mk (blk_below HB3.out hbl4); have BL4 := Aside0.mk (And.intro (below_step hbl.out.1 hbl4) (below_step hbl.out.2 hbl4)); have HBL4 := Aside0.mk hbl4; clear hb4 hbl4)
              | (go_at_call 81; refine (within_i_is H1.out _).mono ?_; rintro e w' ⟨rfl, rfl⟩)
              | (go_at_call 82; refine (within_l_is H2.out _).mono ?_; rintro e w' ⟨rfl, rfl⟩)
              | (go_at_call 79; refine (must_yes _).mono ?_; rintro e w' ⟨rfl, rfl⟩))
            obtain ⟨-, -, -, -, -, -, -, -, -, -, -, -, -, -, -, q15, -⟩ := pc_cells HB5.out
            by_cases h0 : k = 0
            · have hb2 : tiersOk x y (p.late.drop (k + 1)) = bb := by
                rw [← hcs, decide_eq_true (show 1 ≤ x ∧ x ≤ 365 ∧ 0 ≤ y ∧ y ≤ 10000000000000 ∧ prevOf 0 0 p.late k < x ∧ prevOf 0 1 p.late k ≤ y from ⟨h1.1, h1.2, h2.1, h2.2, by have := h1.1; unfold prevOf; rw [if_pos h0]; omega, by have := h2.1; unfold prevOf; rw [if_pos h0]; omega⟩), Bool.true_and]
              have HB2' := Aside0.mk hb2
              have kz : ((k : Int) == 0) = true := by rw [h0]; rfl
              clear hcs hb2 h1 h2 h0
              go_quiet ((go_at_call 79; refine (must_yes _).mono ?_; rintro e w' ⟨rfl, rfl⟩; exact ⟨rfl, _, rfl⟩))
              go_wp2_with fail
              go_roundg (p.late.length + 1 - (k + 1))
              case measure => have := hgq.out; omega
              case rel => exact ⟨k + 1, by omega, by simp, ⟨rfl⟩, ⟨by rw [HPREV.out, HPREV1.out]; exact HB2'.out⟩, ⟨pw_below_drewN BL4.out.1 _, pw_below_drewN BL4.out.2 _⟩⟩
            · obtain ⟨x', y', hrow', c0', d0'⟩ := QP.out (by omega)
              have c' : w4.cell? (ad.add ((k - 1) * 2)) = some (.int .i64 x') := by rw [HBL4.out.cell (cell_ltR c0')]; exact c0'
              have d' : w4.cell? ⟨(ad.add ((k - 1) * 2)).block, (ad.add ((k - 1) * 2)).off + 1, none⟩ = some (.int .i64 y') := by rw [HBL4.out.cell (cell_ltR d0')]; exact d0'
              have hpv := prevOf_pos (d := 0) (j := 0) (Nat.pos_of_ne_zero h0) hrow'
              have hpw := prevOf_pos (d := 0) (j := 1) (Nat.pos_of_ne_zero h0) hrow'
              simp only [List.getD_cons_zero, List.getD_cons_succ] at hpv hpw
              have kz : ((k : Int) == 0) = false := by rw [beq_eq_false_iff_ne]; omega
              have ew2 : IntKind.i64.wrap ((k : Int) - 1) = (k : Int) - 1 := IntWalk.i64_in _ (by omega)
              have kk2 : (0 : Int) ≤ (k : Int) - 1 := by omega
              have kk3 : (k : Int) - 1 < (p.late.length : Int) := by omega
              have kk4 : (1 : Int) ≤ (k : Int) := by omega
              have ek : ((k : Int) - 1).toNat = k - 1 := by omega
              clear c0' d0'
              by_cases h3 : x' < x
              · have h3d : decide (x' < x) = true := decide_eq_true h3
                by_cases h4 : y' ≤ y
                · have h4d : decide (y' ≤ y) = true := decide_eq_true h4
                  have hb2 : tiersOk x y (p.late.drop (k + 1)) = bb := by
                    rw [← hcs, decide_eq_true (show 1 ≤ x ∧ x ≤ 365 ∧ 0 ≤ y ∧ y ≤ 10000000000000 ∧ prevOf 0 0 p.late k < x ∧ prevOf 0 1 p.late k ≤ y from ⟨h1.1, h1.2, h2.1, h2.2, by rw [hpv]; exact h3, by rw [hpw]; exact h4⟩), Bool.true_and]
                  have HB2' := Aside0.mk hb2
                  clear hcs hb2 h1 h2 h0 hpv hpw hrow'
                  go_quiet ((go_at_call 79; refine (must_yes _).mono ?_; rintro e w' ⟨rfl, rfl⟩; exact ⟨rfl, _, rfl⟩))
                  clear ew2 ek
                  go_wp2_with fail
                  go_roundg (p.late.length + 1 - (k + 1))
                  case measure => have := hgq.out; omega
                  case rel => exact ⟨k + 1, by omega, by simp, ⟨rfl⟩, ⟨by rw [HPREV.out, HPREV1.out]; exact HB2'.out⟩, ⟨pw_below_drewN BL4.out.1 _, pw_below_drewN BL4.out.2 _⟩⟩
                · have h4d : decide (y' ≤ y) = false := decide_eq_false h4
                  have hbf : bb = false := by
                    rw [← hcs, decide_eq_false (fun h => h4 (by have := h.2.2.2.2.2; rw [hpw] at this; exact this)), Bool.false_and]
                  subst hbf
                  have h5 : y < y' := by omega
                  clear hcs h1 h2 h0 hpv hpw hrow' h4
                  refine wp_region_still_tail 26 (by kernel_rfl) (by kernel_rfl) ?_
                  simp only [List.take_succ_cons, List.take_zero, List.drop_succ_cons, List.drop_zero]
                  iterate 26 ((with_reducible refine wpStill_step (fun K hK => ?_)); go_simp; (try simp only [undef, reduceCtorEq, if_false]); (with_reducible refine hK _ ?_); clear hK K)
                  (with_reducible refine wpStill_nil ?_)
                  go_wp2_with ((go_at_call 79; refine (must_no _).mono ?_; rintro e w' ⟨rfl, rfl⟩))
                  exact ⟨rfl, LookE.no ⟨rfl, BL4.out.1.drew⟩⟩
              · have h3d : decide (x' < x) = false := decide_eq_false h3
                have hbf : bb = false := by
                  rw [← hcs, decide_eq_false (fun h => h3 (by have := h.2.2.2.2.1; rw [hpv] at this; exact this)), Bool.false_and]
                subst hbf
                have h5 : x ≤ x' := by omega
                clear hcs h1 h2 h0 hpv hpw hrow' h3
                refine wp_region_still_tail 26 (by kernel_rfl) (by kernel_rfl) ?_
                simp only [List.take_succ_cons, List.take_zero, List.drop_succ_cons, List.drop_zero]
                iterate 26 ((with_reducible refine wpStill_step (fun K hK => ?_)); go_simp; (try simp only [undef, reduceCtorEq, if_false]); (with_reducible refine hK _ ?_); clear hK K)
                (with_reducible refine wpStill_nil ?_)
                go_wp2_with ((go_at_call 79; refine (must_no _).mono ?_; rintro e w' ⟨rfl, rfl⟩))
                exact ⟨rfl, LookE.no ⟨rfl, BL4.out.1.drew⟩⟩
          · have hbf : bb = false := by
              rw [← hcs, decide_eq_false (fun h => h2 ⟨h.2.2.1, h.2.2.2.1⟩), Bool.false_and]
            subst hbf
            have H2 := Aside0.mk (decide_eq_false h2)
            clear hcs h1 h2
            go_wp2_with (first
              | ((with_reducible refine gate_dst (N := 4) rfl ?_); refine copy_event3 rfl (N := 4) rfl rfl rfl rfl (t := 102) (v := .tmp 35) rfl (cs := #[.int .i64 x, .int .i64 y]) (zs := #[.int .i64 0, .int .i64 0]) (vm := .int .i64 k) ?hr ?hrm rfl rfl info_tier ?hz (two_one _ _) ?_; (case hr => first | (go_simp; done) | (go_simp; rfl)); (case hrm => intro W'; first | (go_simp; done) | (go_simp; rfl)); (case hz => rfl); intro g4 hg w4 hb4 hbl4; have g4lt := blk_lt hb4; clear hg; have z0 : w4.cell? ⟨g4, 0, none⟩ = some (.int .i64 x) := (blk_cell hb4 0).trans rfl; have z1 : w4.cell? ⟨g4, 1, none⟩ = some (.int .i64 y) := (blk_cell hb4 1).trans rfl; have HB5 := Aside0.mk (blk_below HB3.out hbl4); have BL4 := Aside0.mk (And.intro (below_step hbl.out.1 hbl4) (below_step hbl.out.2 hbl4)); have HBL4 := Aside0.mk hbl4; clear hb4 hbl4)
              | (go_at_call 81; refine (within_i_is H1.out _).mono ?_; rintro e w' ⟨rfl, rfl⟩)
              | (go_at_call 82; refine (within_l_is H2.out _).mono ?_; rintro e w' ⟨rfl, rfl⟩)
              | (go_at_call 79; refine (must_no _).mono ?_; rintro e w' ⟨rfl, rfl⟩))
            exact ⟨rfl, LookE.no ⟨rfl, BL4.out.1⟩⟩
        · have hbf : bb = false := by
            rw [← hcs, decide_eq_false (fun h => h1 ⟨h.1, h.2.1⟩), Bool.false_and]
          subst hbf
          have H1 := Aside0.mk (decide_eq_false h1)
          clear hcs h1
          go_wp2_with (first
            | ((with_reducible refine gate_dst (N := 4) rfl ?_); refine copy_event3 rfl (N := 4) rfl rfl rfl rfl (t := 102) (v := .tmp 35) rfl (cs := #[.int .i64 x, .int .i64 y]) (zs := #[.int .i64 0, .int .i64 0]) (vm := .int .i64 k) ?hr ?hrm rfl rfl info_tier ?hz (two_one _ _) ?_; (case hr => first | (go_simp; done) | (go_simp; rfl)); (case hrm => intro W'; first | (go_simp; done) | (go_simp; rfl)); (case hz => rfl); intro g4 hg w4 hb4 hbl4; have g4lt := blk_lt hb4; clear hg; have z0 : w4.cell? ⟨g4, 0, none⟩ = some (.int .i64 x) := (blk_cell hb4 0).trans rfl; have z1 : w4.cell? ⟨g4, 1, none⟩ = some (.int .i64 y) := (blk_cell hb4 1).trans rfl; have HB5 := Aside0.mk (blk_below HB3.out hbl4); have BL4 := Aside0.mk (And.intro (below_step hbl.out.1 hbl4) (below_step hbl.out.2 hbl4)); have HBL4 := Aside0.mk hbl4; clear hb4 hbl4)
            | (go_at_call 81; refine (within_i_is H1.out _).mono ?_; rintro e w' ⟨rfl, rfl⟩)
            | (go_at_call 82; refine (within_l_is H1.out _).mono ?_; rintro e w' ⟨rfl, rfl⟩)
            | (go_at_call 79; refine (must_no _).mono ?_; rintro e w' ⟨rfl, rfl⟩))
          exact ⟨rfl, LookE.no ⟨rfl, BL4.out.1⟩⟩
      · have hk2 : k = p.late.length := by omega
        subst hk2
        have hcs := hq.out
        rw [List.drop_length] at hcs
        obtain rfl : true = bb := hcs
        clear hq
        go_wp2_with fail
        go_end0
        exact LookE.yes ⟨rfl, hbl.out.1⟩

set_option maxRecDepth 100000 in
set_option maxHeartbeats 1000000 in
theorem late_5 (p : Prod) (A1 : Option Addr) (c1 : Nat) (A2 : Option Addr) (c2 : Nat) (A3 : Option Addr) (c3 : Nat) (w : World) (q8 : decide ((p.late.length : Int) ≤ 8) = true) (hn : p.late.length ≤ 8) (ha : decide (0 ≤ p.cap ∧ p.cap ≤ 10000000000000) = true) (q0 : p.late.length = 0) (q1 : (p.cap == 0) = true) :
    Calls Tryz.prog 69 #[pv p A1 c1 A2 c2 A3 c3] w (fun e w' => e = .returned (.tuple #[]) ∧ Below w.heap.size w w') := by
  have HA := Aside0.mk ha
  have HQ0 := Aside0.mk q0
  clear ha q0
  go_enter Tryz.func69, Tryz.ntmps69
  go_wp2_with (first
    | ((with_reducible refine gate_dst (N := 1) rfl ?_); refine box_event ?hg (N := 1) ?hd (cs := pcs p A1 c1 A2 c2 A3 c3) (t := 117) ?hr ?_; (case hd => rfl); (case hg => rfl); (case hr => first | (go_simp; done) | (go_simp; rfl)); intro g1 hg w1 hb1 hbl1; clear hg)
    | ((with_reducible refine gate_dst (N := 6) rfl ?_); refine wpList_load_row rfl 27 (.tmp 5) rfl g1 rfl 117 _ (0, 0) _ hb1 Tryz.underlying27 rfl info_prod ?_)
    | ((with_reducible refine gate_dst (N := 2) rfl ?_); refine copy_event rfl (N := 2) rfl rfl rfl (t := 27) (v := .tmp 6) rfl (cs := pcs p A1 c1 A2 c2 A3 c3) (zs := pzs) ?hr rfl rfl info_prod ?hz (pcs_one _ _ _ _ _ _ _) ?_; (case hr => first | (go_simp; done) | (go_simp; rfl)); (case hz => rfl); intro g2 hg w2 hb2 hbl2; have g2lt := blk_lt hb2; have g2ge := (show w.heap.size ≤ g2 by rw [hg]; exact hbl1.size); clear hg; have HB2 := Aside0.mk hb2; have BL2 := Aside0.mk (below_step hbl1 hbl2); clear hb1 hbl1 hbl2; have QQ := Aside0.mk (pc_cells hb2); clear hb2; obtain ⟨-, -, -, -, -, -, -, -, -, -, -, -, -, -, -, q15, q16, -⟩ := QQ.out))
  go_wp2_with fail
  refine (within_l_is HA.out _).mono ?_
  rintro e w' ⟨rfl, rfl⟩
  have q0 := HQ0.out
  go_wp2_with fail
  refine (must_yes _).mono ?_
  rintro e w' ⟨rfl, rfl⟩
  go_wp2_with fail
  go_loopg [31] 1 (fun gq i w' => i = .int .i64 0 ∧ w' = w2)
  case atStart => exact ⟨rfl, rfl⟩
  case round =>
    obtain ⟨rfl, rfl⟩ := hrel
    go_wp2_with fail
    go_end0
    exact ⟨rfl, BL2.out⟩
/-- A product's late fees are looked at. -/
theorem late_any (p : Prod) (A1 : Option Addr) (c1 : Nat) (A2 : Option Addr) (c2 : Nat) (A3 : Option Addr) (c3 : Nat) (w : World) (hr : Op.IntRows w A2 2 p.late) (hm : p.late.length ≤ 1000000) :
    Calls Tryz.prog 69 #[pv p A1 c1 A2 c2 A3 c3] w (LookE (lateOk p) w) := by
  unfold lateOk
  by_cases hn : p.late.length ≤ 8
  case neg =>
    rw [decide_eq_false (fun h => hn h.1), Bool.false_and]
    exact (late_1 p A1 c1 A2 c2 A3 c3 w (decide_eq_false (by omega))).mono fun e w' h => LookE.no h
  have hn' : decide ((p.late.length : Int) ≤ 8) = true := decide_eq_true (by omega)
  by_cases ha : 0 ≤ p.cap ∧ p.cap ≤ 10000000000000
  case neg =>
    rw [decide_eq_false (fun h => ha h.2.1), Bool.false_and]
    exact (late_2 p A1 c1 A2 c2 A3 c3 w hn' hn (decide_eq_false ha)).mono fun e w' h => LookE.no h
  by_cases hb : p.late = [] → p.cap = 0
  case neg =>
    rw [decide_eq_false (fun h => hb h.2.2), Bool.false_and]
    have h1 : p.late = [] := by
      cases hl : p.late with
      | nil => rfl
      | cons a l => exact absurd (fun h => by rw [hl] at h; cases h) hb
    have h2 : ¬ p.cap = 0 := fun h => hb (fun _ => h)
    exact (late_3 p A1 c1 A2 c2 A3 c3 w hn' hn (decide_eq_true ha) (by rw [h1]; rfl) (beqf h2)).mono fun e w' h => LookE.no h
  rw [decide_eq_true (show _ from ⟨hn, ha, hb⟩), Bool.true_and]
  by_cases h0 : p.late.length = 0
  · have h1 : p.late = [] := List.eq_nil_of_length_eq_zero h0
    have e1 : tiersOk 0 0 p.late = true := by rw [h1]; rfl
    rw [e1]
    exact (late_5 p A1 c1 A2 c2 A3 c3 w hn' hn (decide_eq_true ha) h0 (beqt (hb h1))).mono fun e w' h => LookE.yes h
  · exact late_4 p A1 c1 A2 c2 A3 c3 w hn' hn (decide_eq_true ha) (by omega) hr _ rfl
end Go.Proofs.YtbbbjjfecblhpaaGreat.Pd
/- Contracts by hand: a product's days are looked at. -/
namespace Go.Proofs.YtbbbjjfecblhpaaGreat.Pd
open Go.RowKit Go.Proofs.YtbbbjjfecblhpaaGreatW.PrintWords Go.Proofs.YtbbbjjfecblhpaaGreatW.PrintLast Go.Proofs.YtbbbjjfecblhpaaGreatW.PrintMore Go.Proofs.YtbbbjjfecblhpaaGreat.HW
open Pm
set_option linter.unusedVariables false
set_option linter.unusedSimpArgs false


set_option maxRecDepth 100000 in
set_option maxHeartbeats 2000000 in
theorem days_1 (p : Prod) (A1 : Option Addr) (c1 : Nat) (A2 : Option Addr) (c2 : Nat) (A3 : Option Addr) (c3 : Nat) (w : World) (hr : Kd.C (Kd.int .i64) w A3 p.hol.length p.hol) (hl : p.hol.length ≤ c3) (hn0 : A3 = none → c3 = 0) (hm : p.hol.length ≤ 1000000) (he : (if (decide (p.hol.length ≤ 200) && holsOk (-25568) p.hol) = true then (0 : Int) else 1) = 1) :
    Calls Tryz.prog 70 #[pv p A1 c1 A2 c2 A3 c3] w fun e w' => e = refusedE ∧ Below w.heap.size w w' := by
  have HR := Aside0.mk hr
  have HE := Aside0.mk he
  clear hr he
  go_enter Tryz.func70, Tryz.ntmps70
  go_wp2_with ((with_reducible refine gate_dst (N := 1) rfl ?_); refine box_event ?hg (N := 1) ?hd (cs := pcs p A1 c1 A2 c2 A3 c3) (t := 117) ?hr ?_; (case hd => rfl); (case hg => rfl); (case hr => first | (go_simp; done) | (go_simp; rfl)); intro g1 hg w1 hb1 hbl1; have g1lt := blk_lt hb1; clear hg; have HB1 := Aside0.mk hb1; have BL1 := Aside0.mk hbl1; clear hbl1; have q18 := (pc_cells hb1).2.2.2.2.2.2.2.2.2.2.2.2.2.2.2.2.2.2; clear hb1)
  refine (Nw.new_any A3 c3 p.hol _ (Kd.C_below HR.out BL1.out) hl hn0 hm).mono ?_
  rintro e w3 ⟨hb, q, rfl⟩
  rw [HE.out]
  have BL3 := Aside0.mk (below_step BL1.out hb)
  obtain ⟨-, -, -, -, -, -, -, -, -, -, -, -, -, -, -, -, -, q17, q18'⟩ := pc_cells (blk_below HB1.out hb)
  clear hb BL1 HB1 q18
  go_wp2_with fail
  refine (must_no _).mono ?_
  rintro e w' ⟨rfl, rfl⟩
  exact ⟨rfl, rfl, BL3.out⟩

set_option maxRecDepth 100000 in
set_option maxHeartbeats 2000000 in
theorem days_2 (p : Prod) (A1 : Option Addr) (c1 : Nat) (A2 : Option Addr) (c2 : Nat) (A3 : Option Addr) (c3 : Nat) (w : World) (hr : Kd.C (Kd.int .i64) w A3 p.hol.length p.hol) (hl : p.hol.length ≤ c3) (hn0 : A3 = none → c3 = 0) (hm : p.hol.length ≤ 1000000) (he : (if (decide (p.hol.length ≤ 200) && holsOk (-25568) p.hol) = true then (0 : Int) else 1) = 0) (ha : decide (1 ≤ p.roll ∧ p.roll ≤ 4) = false) :
    Calls Tryz.prog 70 #[pv p A1 c1 A2 c2 A3 c3] w fun e w' => e = refusedE ∧ Below w.heap.size w w' := by
  have HR := Aside0.mk hr
  have HE := Aside0.mk he
  have HA := Aside0.mk ha
  clear hr he ha
  go_enter Tryz.func70, Tryz.ntmps70
  go_wp2_with ((with_reducible refine gate_dst (N := 1) rfl ?_); refine box_event ?hg (N := 1) ?hd (cs := pcs p A1 c1 A2 c2 A3 c3) (t := 117) ?hr ?_; (case hd => rfl); (case hg => rfl); (case hr => first | (go_simp; done) | (go_simp; rfl)); intro g1 hg w1 hb1 hbl1; have g1lt := blk_lt hb1; clear hg; have HB1 := Aside0.mk hb1; have BL1 := Aside0.mk hbl1; clear hbl1; have q18 := (pc_cells hb1).2.2.2.2.2.2.2.2.2.2.2.2.2.2.2.2.2.2; clear hb1)
  refine (Nw.new_any A3 c3 p.hol _ (Kd.C_below HR.out BL1.out) hl hn0 hm).mono ?_
  rintro e w3 ⟨hb, q, rfl⟩
  rw [HE.out]
  have BL3 := Aside0.mk (below_step BL1.out hb)
  obtain ⟨-, -, -, -, -, -, -, -, -, -, -, -, -, -, -, -, -, q17, q18'⟩ := pc_cells (blk_below HB1.out hb)
  clear hb BL1 HB1 q18
  go_wp2_with fail
  refine (within_i_is HA.out _).mono ?_
  rintro e w' ⟨rfl, rfl⟩
  go_wp2_with fail
  refine (must_no _).mono ?_
  rintro e w' ⟨rfl, rfl⟩
  exact ⟨rfl, rfl, BL3.out⟩

set_option maxRecDepth 100000 in
set_option maxHeartbeats 2000000 in
theorem days_3 (p : Prod) (A1 : Option Addr) (c1 : Nat) (A2 : Option Addr) (c2 : Nat) (A3 : Option Addr) (c3 : Nat) (w : World) (hr : Kd.C (Kd.int .i64) w A3 p.hol.length p.hol) (hl : p.hol.length ≤ c3) (hn0 : A3 = none → c3 = 0) (hm : p.hol.length ≤ 1000000) (he : (if (decide (p.hol.length ≤ 200) && holsOk (-25568) p.hol) = true then (0 : Int) else 1) = 0) (ha : decide (1 ≤ p.roll ∧ p.roll ≤ 4) = true) (r1 : (p.roll != 1) = true) :
    Calls Tryz.prog 70 #[pv p A1 c1 A2 c2 A3 c3] w fun e w' => e = .returned (.tuple #[]) ∧ Below w.heap.size w w' := by
  have HR := Aside0.mk hr
  have HE := Aside0.mk he
  have HA := Aside0.mk ha
  clear hr he ha
  go_enter Tryz.func70, Tryz.ntmps70
  go_wp2_with ((with_reducible refine gate_dst (N := 1) rfl ?_); refine box_event ?hg (N := 1) ?hd (cs := pcs p A1 c1 A2 c2 A3 c3) (t := 117) ?hr ?_; (case hd => rfl); (case hg => rfl); (case hr => first | (go_simp; done) | (go_simp; rfl)); intro g1 hg w1 hb1 hbl1; have g1lt := blk_lt hb1; clear hg; have HB1 := Aside0.mk hb1; have BL1 := Aside0.mk hbl1; clear hbl1; have q18 := (pc_cells hb1).2.2.2.2.2.2.2.2.2.2.2.2.2.2.2.2.2.2; clear hb1)
  refine (Nw.new_any A3 c3 p.hol _ (Kd.C_below HR.out BL1.out) hl hn0 hm).mono ?_
  rintro e w3 ⟨hb, q, rfl⟩
  rw [HE.out]
  have BL3 := Aside0.mk (below_step BL1.out hb)
  obtain ⟨-, -, -, -, -, -, -, -, -, -, -, -, -, -, -, -, -, q17, q18'⟩ := pc_cells (blk_below HB1.out hb)
  clear hb BL1 HB1 q18
  go_wp2_with fail
  refine (within_i_is HA.out _).mono ?_
  rintro e w' ⟨rfl, rfl⟩
  go_wp2_with fail
  refine (must_yes _).mono ?_
  rintro e w' ⟨rfl, rfl⟩
  go_wp2_with fail
  go_end0
  exact ⟨rfl, BL3.out⟩

set_option maxRecDepth 100000 in
set_option maxHeartbeats 2000000 in
theorem days_4 (p : Prod) (A1 : Option Addr) (c1 : Nat) (A2 : Option Addr) (c2 : Nat) (A3 : Option Addr) (c3 : Nat) (w : World) (hr : Kd.C (Kd.int .i64) w A3 p.hol.length p.hol) (hl : p.hol.length ≤ c3) (hn0 : A3 = none → c3 = 0) (hm : p.hol.length ≤ 1000000) (he : (if (decide (p.hol.length ≤ 200) && holsOk (-25568) p.hol) = true then (0 : Int) else 1) = 0) (ha : decide (1 ≤ p.roll ∧ p.roll ≤ 4) = true) (r1 : (p.roll != 1) = false) (hz : p.hol.length = 0) :
    Calls Tryz.prog 70 #[pv p A1 c1 A2 c2 A3 c3] w fun e w' => e = .returned (.tuple #[]) ∧ Below w.heap.size w w' := by
  have HR := Aside0.mk hr
  have HE := Aside0.mk he
  have HA := Aside0.mk ha
  have HZ := Aside0.mk hz
  clear hr he ha hz
  go_enter Tryz.func70, Tryz.ntmps70
  go_wp2_with ((with_reducible refine gate_dst (N := 1) rfl ?_); refine box_event ?hg (N := 1) ?hd (cs := pcs p A1 c1 A2 c2 A3 c3) (t := 117) ?hr ?_; (case hd => rfl); (case hg => rfl); (case hr => first | (go_simp; done) | (go_simp; rfl)); intro g1 hg w1 hb1 hbl1; have g1lt := blk_lt hb1; clear hg; have HB1 := Aside0.mk hb1; have BL1 := Aside0.mk hbl1; clear hbl1; have q18 := (pc_cells hb1).2.2.2.2.2.2.2.2.2.2.2.2.2.2.2.2.2.2; clear hb1)
  refine (Nw.new_any A3 c3 p.hol _ (Kd.C_below HR.out BL1.out) hl hn0 hm).mono ?_
  rintro e w3 ⟨hb, q, rfl⟩
  rw [HE.out]
  have BL3 := Aside0.mk (below_step BL1.out hb)
  obtain ⟨-, -, -, -, -, -, -, -, -, -, -, -, -, -, -, -, -, q17, q18'⟩ := pc_cells (blk_below HB1.out hb)
  clear hb BL1 HB1 q18
  go_wp2_with fail
  refine (within_i_is HA.out _).mono ?_
  rintro e w' ⟨rfl, rfl⟩
  have hz := HZ.out
  go_wp2_with fail
  refine (must_yes _).mono ?_
  rintro e w' ⟨rfl, rfl⟩
  go_wp2_with fail
  go_end0
  exact ⟨rfl, BL3.out⟩

set_option maxRecDepth 100000 in
set_option maxHeartbeats 2000000 in
theorem days_5 (p : Prod) (A1 : Option Addr) (c1 : Nat) (A2 : Option Addr) (c2 : Nat) (A3 : Option Addr) (c3 : Nat) (w : World) (hr : Kd.C (Kd.int .i64) w A3 p.hol.length p.hol) (hl : p.hol.length ≤ c3) (hn0 : A3 = none → c3 = 0) (hm : p.hol.length ≤ 1000000) (he : (if (decide (p.hol.length ≤ 200) && holsOk (-25568) p.hol) = true then (0 : Int) else 1) = 0) (ha : decide (1 ≤ p.roll ∧ p.roll ≤ 4) = true) (r1 : (p.roll != 1) = false) (hz : ((p.hol.length : Int) == 0) = false) :
    Calls Tryz.prog 70 #[pv p A1 c1 A2 c2 A3 c3] w fun e w' => e = refusedE ∧ Below w.heap.size w w' := by
  have HR := Aside0.mk hr
  have HE := Aside0.mk he
  have HA := Aside0.mk ha
  have HZ := Aside0.mk hz
  clear hr he ha hz
  go_enter Tryz.func70, Tryz.ntmps70
  go_wp2_with ((with_reducible refine gate_dst (N := 1) rfl ?_); refine box_event ?hg (N := 1) ?hd (cs := pcs p A1 c1 A2 c2 A3 c3) (t := 117) ?hr ?_; (case hd => rfl); (case hg => rfl); (case hr => first | (go_simp; done) | (go_simp; rfl)); intro g1 hg w1 hb1 hbl1; have g1lt := blk_lt hb1; clear hg; have HB1 := Aside0.mk hb1; have BL1 := Aside0.mk hbl1; clear hbl1; have q18 := (pc_cells hb1).2.2.2.2.2.2.2.2.2.2.2.2.2.2.2.2.2.2; clear hb1)
  refine (Nw.new_any A3 c3 p.hol _ (Kd.C_below HR.out BL1.out) hl hn0 hm).mono ?_
  rintro e w3 ⟨hb, q, rfl⟩
  rw [HE.out]
  have BL3 := Aside0.mk (below_step BL1.out hb)
  obtain ⟨-, -, -, -, -, -, -, -, -, -, -, -, -, -, -, -, -, q17, q18'⟩ := pc_cells (blk_below HB1.out hb)
  clear hb BL1 HB1 q18
  go_wp2_with fail
  refine (within_i_is HA.out _).mono ?_
  rintro e w' ⟨rfl, rfl⟩
  have hz := HZ.out
  go_wp2_with fail
  refine (must_no _).mono ?_
  rintro e w' ⟨rfl, rfl⟩
  exact ⟨rfl, rfl, BL3.out⟩

/-- A product's days are looked at. -/
theorem days_any (p : Prod) (A1 : Option Addr) (c1 : Nat) (A2 : Option Addr) (c2 : Nat) (A3 : Option Addr) (c3 : Nat) (w : World) (hr : Kd.C (Kd.int .i64) w A3 p.hol.length p.hol) (hl : p.hol.length ≤ c3) (hn : A3 = none → c3 = 0) (hm : p.hol.length ≤ 1000000) :
    Calls Tryz.prog 70 #[pv p A1 c1 A2 c2 A3 c3] w (LookE (daysOk p) w) := by
  cases hb : (decide (p.hol.length ≤ 200) && holsOk (-25568) p.hol) with
  | false =>
    have e1 : daysOk p = false := by
      rw [Bool.and_eq_false_iff] at hb
      unfold daysOk
      rcases hb with h | h
      · rw [decide_eq_false (fun h2 => by rw [decide_eq_true h2.1] at h; cases h), Bool.false_and]
      · rw [h, Bool.and_false]
    rw [e1]
    exact (days_1 p A1 c1 A2 c2 A3 c3 w hr hl hn hm (by rw [hb]; rfl)).mono fun e w' h => LookE.no h
  | true =>
    have he : (if (decide (p.hol.length ≤ 200) && holsOk (-25568) p.hol) = true then (0 : Int) else 1) = 0 := by rw [hb]; rfl
    rw [Bool.and_eq_true] at hb
    have h200 := of_decide_eq_true hb.1
    unfold daysOk
    rw [hb.2, Bool.and_true]
    by_cases ha : 1 ≤ p.roll ∧ p.roll ≤ 4
    case neg =>
      rw [decide_eq_false (fun h => ha h.2.1)]
      exact (days_2 p A1 c1 A2 c2 A3 c3 w hr hl hn hm he (decide_eq_false ha)).mono fun e w' h => LookE.no h
    by_cases h1 : p.roll = 1
    · have r1 : (p.roll != 1) = false := by rw [h1]; rfl
      by_cases hz : p.hol.length = 0
      · rw [decide_eq_true (show _ from ⟨h200, ha, fun _ => List.eq_nil_of_length_eq_zero hz⟩)]
        exact (days_4 p A1 c1 A2 c2 A3 c3 w hr hl hn hm he (decide_eq_true ha) r1 hz).mono fun e w' h => LookE.yes h
      · rw [decide_eq_false (fun h => hz (by rw [h.2.2 h1]; rfl))]
        exact (days_5 p A1 c1 A2 c2 A3 c3 w hr hl hn hm he (decide_eq_true ha) r1 (beqf (by omega))).mono fun e w' h => LookE.no h
    · rw [decide_eq_true (show _ from ⟨h200, ha, fun h => absurd h h1⟩)]
      exact (days_3 p A1 c1 A2 c2 A3 c3 w hr hl hn hm he (decide_eq_true ha) (by simpa using h1)).mono fun e w' h => LookE.yes h
end Go.Proofs.YtbbbjjfecblhpaaGreat.Pd
/- Contracts by hand: a product is looked at. -/
namespace Go.Proofs.YtbbbjjfecblhpaaGreat.Pd
open Go.RowKit Go.Proofs.YtbbbjjfecblhpaaGreatW.PrintWords Go.Proofs.YtbbbjjfecblhpaaGreatW.PrintLast Go.Proofs.YtbbbjjfecblhpaaGreatW.PrintMore Go.Proofs.YtbbbjjfecblhpaaGreat.HW
open Pm
set_option linter.unusedVariables false
set_option linter.unusedSimpArgs false
/-- What does not recover is walked as1 ever. -/
theorem rest_plainP {P : Program} {c : Code} {Q0 : Exit → Act → List Frame → World → Prop} {a : Act} {cs : List Frame} {w : World}
    (h : ∀ Q : Exit → Act → World → Prop, Aside0 (∀ e a' w', Q0 e a' cs w' → Q e a' w') → c.wp P Q a w) : c.wpS P Q0 a cs w :=
  wpS_of_wp (h _ ⟨fun _ _ _ x => x⟩)
theorem check_idle (pe : Addr) (w : World) :
    CallsD Tryz.prog 65 #[.pointer (some pe)] .returning w fun e u' w' => e = .returned (.tuple #[]) ∧ u' = .returning ∧ w' = w := by
  refine callsD_of_wpS Tryz.func65 rfl fun c₀ cs hu => ?_
  simp only [Tryz.ntmps65, List.size_toArray, List.length_cons, List.length_nil, Nat.reduceAdd, Nat.reduceSub, Array.replicate_succ, Array.replicate_zero, List.push_toArray, List.append_toArray, List.nil_append, List.cons_append]
  apply wpS_seq
  apply wpS_region
  simp [wpOpsS, go_sem, recoverD, hu, Exit.thenS]
  refine rest_plainP fun Q HQ => ?_
  go_wp2
  refine HQ.out _ _ _ ?_
  clear HQ
  simp [bodyPostS, results, Tryz.results65, hu]
  cases c₀
  simp_all
theorem check_thrown (pe : Addr) (y : Int) (older : List PanicEntry) (w : World) (hy : w.cell? pe = some (.int .i64 y)) (fy : w.frozen? pe = false) :
    CallsD Tryz.prog 65 #[.pointer (some pe)] (.panicking ({ v := .iface 115 (.agg #[]), recovered := false } :: older)) w fun e u' w' =>
      e = .returned (.tuple #[]) ∧ u' = .panicking ({ v := .iface 115 (.agg #[]), recovered := true } :: older) ∧ w' = (w.alloc (.cells #[] 115)).setCell pe (.int .i64 9) := by
  refine callsD_of_wpS Tryz.func65 rfl fun c₀ cs hu => ?_
  simp only [Tryz.ntmps65, List.size_toArray, List.length_cons, List.length_nil, Nat.reduceAdd, Nat.reduceSub, Array.replicate_succ, Array.replicate_zero, List.push_toArray, List.append_toArray, List.nil_append, List.cons_append]
  apply wpS_seq
  apply wpS_region
  simp [wpOpsS, go_sem, recoverD, hu, Exit.thenS]
  refine rest_plainP fun Q HQ => ?_
  have hta : ∀ w, (Instr.typeAssert (.iface 115 (.agg #[])) 20 115 true).run Tryz.prog w = .ok (.tuple #[.agg #[], .bool true]) w := fun _ => by kernel_rfl
  have hlt := cell_ltR hy
  have hb := (Below.refl w.heap.size w).alloc (Nat.le_refl _) (.cells #[] 115)
  have hy2 : (w.alloc (.cells #[] 115)).cell? pe = some (.int .i64 y) := by rw [hb.cell hlt]; exact hy
  have fy2 : (w.alloc (.cells #[] 115)).frozen? pe = false := by rw [hb.frozen hlt]; exact fy
  clear hb
  go_wp2
  refine HQ.out _ _ _ ?_
  clear HQ
  simp [bodyPostS, results, Tryz.results65, hu]
/-- The result's cell. -/
structure Res1 (w W : World) (g : Nat) (x : Value) : Prop where
  below : Below w.heap.size w W
  ge : w.heap.size ≤ g
  c0 : W.cell? ⟨g, 0, none⟩ = some x
  f0 : W.frozen? ⟨g, 0, none⟩ = false
theorem Res1.lt {w W : World} {g : Nat} {x : Value} (h : Res1 w W g x) : g < W.heap.size := cell_ltR h.c0
theorem Res1.step {w W W' : World} {g : Nat} {x : Value} (h : Res1 w W g x) (hb : Below W.heap.size W W') : Res1 w W' g x :=
  ⟨below_step h.below hb, h.ge, by rw [hb.cell (by exact h.lt)]; exact h.c0, by rw [hb.frozen (by exact h.lt)]; exact h.f0⟩
theorem Res1.of {w W : World} {g : Nat} {cs : Array Value} {x : Value} {t : TypeId} (hb : Below w.heap.size w W) (hg : w.heap.size ≤ g) (h : W.heap[g]? = some (.cells cs t (0, 0))) (hx : cs[0]? = some x) : Res1 w W g x :=
  ⟨hb, hg, (blk_cell h 0).trans hx, frozen_of_row W g 0 _ _ h⟩
theorem built_looks (p : Prod) (A1 : Option Addr) (c1 : Nat) (A2 : Option Addr) (c2 : Nat) (A3 : Option Addr) (c3 : Nat) :
    Tryz.prog.built 117 [(0, .agg (pcs p A1 c1 A2 c2 A3 c3))] = some (pcs p A1 c1 A2 c2 A3 c3) := by kernel_rfl
section
variable {P : Program} {ops : Array Oper} {rest : List Oper} {a : Act} {Q : Exit → Act → World → Prop}
theorem build_event {W : World} {o : Oper} (hg : o.guard = none) {t : TypeId} {parts : Array (Nat × Operand)} (ho : o.op = .build t parts) {cs : Array Value}
    (hb : P.built t ((parts.map fun (i, x) => (i, a.eval x)).toList) = some cs) (h : wpList P ops Q rest (a.put o.dst (.agg cs)) W) : wpList P ops Q (o :: rest) a W :=
  wpList_build hg t parts ho (by rw [hb]; rfl) (by rw [hb]; exact h)
end
end Go.Proofs.YtbbbjjfecblhpaaGreat.Pd
/- Contracts by hand: a product is looked at, all of it. -/
namespace Go.Proofs.YtbbbjjfecblhpaaGreat.Pd
open Go.RowKit Go.Proofs.YtbbbjjfecblhpaaGreatW.PrintWords Go.Proofs.YtbbbjjfecblhpaaGreatW.PrintLast Go.Proofs.YtbbbjjfecblhpaaGreatW.PrintMore Go.Proofs.YtbbbjjfecblhpaaGreat.HW
open Pm
set_option linter.unusedVariables false
set_option linter.unusedSimpArgs false
theorem times_of {p : Prod} (h : shapeOk p = true) : 1 ≤ p.times ∧ p.times ≤ 600 := by
  unfold shapeOk at h
  rw [Bool.and_eq_true] at h
  exact (of_decide_eq_true h.2).2.2.2.2.1
theorem put_cell {w W : World} {g : Nat} {x : Value} (R : Res1 w W g x) (v : Value) (t : TypeId) : ((W.alloc (.cells #[] t)).setCell ⟨g, 0, none⟩ v).cell? ⟨g, 0, none⟩ = some v :=
  World.cell?_setCell_same _ _ _ (by rw [((Below.refl W.heap.size W).alloc (Nat.le_refl _) (.cells #[] t)).cell (by exact R.lt)]; exact R.c0)
theorem put_below {w W : World} {g : Nat} {x : Value} (R : Res1 w W g x) (v : Value) (t : TypeId) : Below w.heap.size w ((W.alloc (.cells #[] t)).setCell ⟨g, 0, none⟩ v) :=
  (R.below.alloc R.below.size _).setCell (by exact R.ge) _
/-- The looks, one behind the other. -/
abbrev lookC (p : Prod) (A1 : Option Addr) (c1 : Nat) (A2 : Option Addr) (c2 : Nat) (A3 : Option Addr) (c3 : Nat) : Array Value :=
  #[.func (.func 66) #[.agg (pcs p A1 c1 A2 c2 A3 c3)] #[], .func (.func 67) #[.agg (pcs p A1 c1 A2 c2 A3 c3)] #[], .func (.func 68) #[.agg (pcs p A1 c1 A2 c2 A3 c3)] #[], .func (.func 69) #[.agg (pcs p A1 c1 A2 c2 A3 c3)] #[], .func (.func 70) #[.agg (pcs p A1 c1 A2 c2 A3 c3)] #[]]
set_option maxRecDepth 100000 in
set_option maxHeartbeats 2000000 in
theorem check_any (p : Prod) (A1 : Option Addr) (c1 : Nat) (A2 : Option Addr) (c2 : Nat) (A3 : Option Addr) (c3 : Nat) (w : World) (hg : GV w) (hp : ProdAt w p A1 c1 A2 c2 A3 c3) (hs : Small p) :
    Calls Tryz.prog 53 #[pv p A1 c1 A2 c2 A3 c3] w fun e w' => e = .returned (.int .i64 (err p)) ∧ Below w.heap.size w w' := by
  have HG := Aside0.mk hg
  have HP := Aside0.mk hp
  have HS := Aside0.mk hs
  clear hg hp hs
  go_enter_defers Tryz.func53, Tryz.ntmps53
  go_wp2_with (first
    | ((with_reducible refine gate_dst (N := 1) rfl ?_); refine box_event ?hg (N := 1) ?hd (cs := pcs p A1 c1 A2 c2 A3 c3) (t := 27) ?hr ?_; (case hd => rfl); (case hg => rfl); (case hr => first | (go_simp; done) | (go_simp; rfl)); intro g1 hg w1 hb1 hbl1; clear hg; have HB1 := Aside0.mk hb1; have BL1 := Aside0.mk hbl1; clear hb1 hbl1)
    | ((with_reducible refine gate_dst (N := 2) rfl ?_); refine box_event ?hg (N := 2) ?hd (cs := #[.int .i64 0]) (t := 41) ?hr ?_; (case hd => rfl); (case hg => rfl); (case hr => first | (go_simp; done) | (go_simp; rfl)); intro g2 hg w2 hb2 hbl2; have g2ge := (show w.heap.size ≤ g2 by rw [hg]; exact BL1.out.size); clear hg; have R2 := Aside0.mk (Res1.of (below_step BL1.out hbl2) g2ge hb2 rfl); have HB2 := blk_below HB1.out hbl2; clear HB1 BL1 hb2 hbl2)
    | ((with_reducible refine gate_dst (N := 7) rfl ?_); refine wpList_load_row rfl 27 (.tmp 1) rfl g1 rfl 27 _ (0, 0) _ HB2 Tryz.underlying27 rfl info_prod ?_; clear HB2)
    | ((with_reducible refine gate_dst (N := 8) rfl ?_); refine build_event rfl (t := 117) rfl (cs := pcs p A1 c1 A2 c2 A3 c3) ?hb ?_; (case hb => simp only [List.map_toArray, List.map_cons, List.map_nil]; exact built_looks p A1 c1 A2 c2 A3 c3))
    | ((with_reducible refine gate_dst (N := 3) rfl ?_); refine copy_event rfl (N := 3) rfl rfl rfl (t := 117) (v := .tmp 8) rfl (cs := pcs p A1 c1 A2 c2 A3 c3) (zs := pzs) ?hr rfl rfl info_looks ?hz (pcs_one _ _ _ _ _ _ _) ?_; (case hr => first | (go_simp; done) | (go_simp; rfl)); (case hz => rfl); intro g3 hg w3 HB3 hbl3; clear hg; have R3 := Aside0.mk (R2.out.step hbl3); clear hbl3 R2)
    | ((with_reducible refine gate_dst (N := 9) rfl ?_); refine wpList_load_row rfl 117 (.tmp 3) rfl g3 rfl 117 _ (0, 0) _ HB3 Tryz.underlying117 rfl info_looks ?_)
    | ((with_reducible refine gate_dst (N := 11) rfl ?_); refine wpList_load_row rfl 117 (.tmp 3) rfl g3 rfl 117 _ (0, 0) _ HB3 Tryz.underlying117 rfl info_looks ?_)
    | ((with_reducible refine gate_dst (N := 13) rfl ?_); refine wpList_load_row rfl 117 (.tmp 3) rfl g3 rfl 117 _ (0, 0) _ HB3 Tryz.underlying117 rfl info_looks ?_)
    | ((with_reducible refine gate_dst (N := 15) rfl ?_); refine wpList_load_row rfl 117 (.tmp 3) rfl g3 rfl 117 _ (0, 0) _ HB3 Tryz.underlying117 rfl info_looks ?_)
    | ((with_reducible refine gate_dst (N := 17) rfl ?_); refine wpList_load_row rfl 117 (.tmp 3) rfl g3 rfl 117 _ (0, 0) _ HB3 Tryz.underlying117 rfl info_looks ?_)
    | ((with_reducible refine gate_dst (N := 19) rfl ?_); refine Hid.out ?_))
  refine Lib.hid ?_
  clear HB3
  refine Kd.event_run rfl (v := .slice (some ⟨w3.heap.size, 0, none⟩) 5 5) (w1 := w3.alloc (.cells (lookC p A1 c1 A2 c2 A3 c3) 1 (0, 0))) ?hr ?_
  case hr => first | (go_simp; done) | (go_simp; rfl)
  go_frame
  obtain ⟨g4, w4, hg4, hw4⟩ : ∃ g4 w4, g4 = w3.heap.size ∧ w4 = w3.alloc (.cells (lookC p A1 c1 A2 c2 A3 c3) 1 (0, 0)) := ⟨_, _, rfl, rfl⟩
  rw [← hg4, ← hw4]
  have hb4 : w4.heap[g4]? = some (.cells (lookC p A1 c1 A2 c2 A3 c3) 1 (0, 0)) := by rw [hg4, hw4]; exact heap_alloc_new _ _
  have hbl4 : Below w3.heap.size w3 w4 := by rw [hw4]; exact (Below.refl _ _).alloc (Nat.le_refl _) _
  have R := Aside0.mk (R3.out.step hbl4)
  have HB := Aside0.mk hb4
  have q0 : w4.cell? ⟨g4, 0, none⟩ = some (.func (.func 66) #[.agg (pcs p A1 c1 A2 c2 A3 c3)] #[]) := (blk_cell hb4 0).trans rfl
  clear hg4 hw4 hb4 hbl4 R3
  go_wp2_with fail
  refine wp_loop_rounds 6 ?_
  rw [rounds_succ]
  go_wp2_with fail
  refine (shape_any p A1 c1 A2 c2 A3 c3 _ (HG.out.below R.out.below)).mono ?_
  rintro e v0 ⟨hy, hn, hb⟩
  have RN := Aside0.mk (R.out.step hb)
  have HBN := Aside0.mk (blk_below HB.out hb)
  clear R HB
  have R := RN
  have HB := HBN
  clear RN HBN hb q0
  cases hk0 : shapeOk p with
  | false =>
    obtain rfl := hn hk0
    clear hy hn
    have c0 := R.out.c0
    have f0 := R.out.f0
    have e9 : err p = 9 := by unfold err ok; rw [hk0]; simp
    have E9 := Aside0.mk e9
    clear e9
    refine leaves_cons (f := 65) (args := #[.pointer (some ⟨g2, 0, none⟩)]) (by simp) (by simp [go_sem]) ?_
    refine (check_thrown ⟨g2, 0, none⟩ 0 [] _ c0 f0).mono ?_
    rintro e u' w'' ⟨rfl, rfl, rfl⟩
    have c9 := put_cell R.out (.int .i64 9) 115
    simp [Leaves, settle, results, Tryz.results53, go_sem, c9, E9.out]
    exact put_below R.out _ _
  | true =>
    obtain rfl := hy hk0
    clear hy hn
    have q1 : v0.cell? ⟨g4, 1, none⟩ = some (.func (.func 67) #[.agg (pcs p A1 c1 A2 c2 A3 c3)] #[]) := (blk_cell HB.out 1).trans rfl
    obtain ⟨t1, t2⟩ := times_of hk0
    go_wp2_with fail
    rw [rounds_succ]
    go_wp2_with fail
    refine (rates_any p A1 c1 A2 c2 A3 c3 _ t1 t2 (HP.out.below R.out.below).r1 HS.out.s1).mono ?_
    rintro e v1 ⟨hy, hn, hb⟩
    have RN := Aside0.mk (R.out.step hb)
    have HBN := Aside0.mk (blk_below HB.out hb)
    clear R HB
    have R := RN
    have HB := HBN
    clear RN HBN hb q1
    cases hk1 : ratesOk p with
    | false =>
      obtain rfl := hn hk1
      clear hy hn
      have c0 := R.out.c0
      have f0 := R.out.f0
      have e9 : err p = 9 := by unfold err ok; rw [hk1]; simp
      have E9 := Aside0.mk e9
      clear e9
      refine leaves_cons (f := 65) (args := #[.pointer (some ⟨g2, 0, none⟩)]) (by simp) (by simp [go_sem]) ?_
      refine (check_thrown ⟨g2, 0, none⟩ 0 [] _ c0 f0).mono ?_
      rintro e u' w'' ⟨rfl, rfl, rfl⟩
      have c9 := put_cell R.out (.int .i64 9) 115
      simp [Leaves, settle, results, Tryz.results53, go_sem, c9, E9.out]
      exact put_below R.out _ _
    | true =>
      obtain rfl := hy hk1
      clear hy hn
      have q2 : v1.cell? ⟨g4, 2, none⟩ = some (.func (.func 68) #[.agg (pcs p A1 c1 A2 c2 A3 c3)] #[]) := (blk_cell HB.out 2).trans rfl
      go_wp2_with fail
      rw [rounds_succ]
      go_wp2_with fail
      refine (order_any p A1 c1 A2 c2 A3 c3 _).mono ?_
      rintro e v2 ⟨hy, hn, hb⟩
      have RN := Aside0.mk (R.out.step hb)
      have HBN := Aside0.mk (blk_below HB.out hb)
      clear R HB
      have R := RN
      have HB := HBN
      clear RN HBN hb q2
      cases hk2 : ordOk p with
      | false =>
        obtain rfl := hn hk2
        clear hy hn
        have c0 := R.out.c0
        have f0 := R.out.f0
        have e9 : err p = 9 := by unfold err ok; rw [hk2]; simp
        have E9 := Aside0.mk e9
        clear e9
        refine leaves_cons (f := 65) (args := #[.pointer (some ⟨g2, 0, none⟩)]) (by simp) (by simp [go_sem]) ?_
        refine (check_thrown ⟨g2, 0, none⟩ 0 [] _ c0 f0).mono ?_
        rintro e u' w'' ⟨rfl, rfl, rfl⟩
        have c9 := put_cell R.out (.int .i64 9) 115
        simp [Leaves, settle, results, Tryz.results53, go_sem, c9, E9.out]
        exact put_below R.out _ _
      | true =>
        obtain rfl := hy hk2
        clear hy hn
        have q3 : v2.cell? ⟨g4, 3, none⟩ = some (.func (.func 69) #[.agg (pcs p A1 c1 A2 c2 A3 c3)] #[]) := (blk_cell HB.out 3).trans rfl
        go_wp2_with fail
        rw [rounds_succ]
        go_wp2_with fail
        refine (late_any p A1 c1 A2 c2 A3 c3 _ (HP.out.below R.out.below).r2 HS.out.s2).mono ?_
        rintro e v3 ⟨hy, hn, hb⟩
        have RN := Aside0.mk (R.out.step hb)
        have HBN := Aside0.mk (blk_below HB.out hb)
        clear R HB
        have R := RN
        have HB := HBN
        clear RN HBN hb q3
        cases hk3 : lateOk p with
        | false =>
          obtain rfl := hn hk3
          clear hy hn
          have c0 := R.out.c0
          have f0 := R.out.f0
          have e9 : err p = 9 := by unfold err ok; rw [hk3]; simp
          have E9 := Aside0.mk e9
          clear e9
          refine leaves_cons (f := 65) (args := #[.pointer (some ⟨g2, 0, none⟩)]) (by simp) (by simp [go_sem]) ?_
          refine (check_thrown ⟨g2, 0, none⟩ 0 [] _ c0 f0).mono ?_
          rintro e u' w'' ⟨rfl, rfl, rfl⟩
          have c9 := put_cell R.out (.int .i64 9) 115
          simp [Leaves, settle, results, Tryz.results53, go_sem, c9, E9.out]
          exact put_below R.out _ _
        | true =>
          obtain rfl := hy hk3
          clear hy hn
          have q4 : v3.cell? ⟨g4, 4, none⟩ = some (.func (.func 70) #[.agg (pcs p A1 c1 A2 c2 A3 c3)] #[]) := (blk_cell HB.out 4).trans rfl
          go_wp2_with fail
          rw [rounds_succ]
          go_wp2_with fail
          refine (days_any p A1 c1 A2 c2 A3 c3 _ (HP.out.below R.out.below).r3 (HP.out.below R.out.below).l3 (HP.out.below R.out.below).n3 HS.out.s3).mono ?_
          rintro e v4 ⟨hy, hn, hb⟩
          have RN := Aside0.mk (R.out.step hb)
          have HBN := Aside0.mk (blk_below HB.out hb)
          clear R HB
          have R := RN
          have HB := HBN
          clear RN HBN hb q4
          cases hk4 : daysOk p with
          | false =>
            obtain rfl := hn hk4
            clear hy hn
            have c0 := R.out.c0
            have f0 := R.out.f0
            have e9 : err p = 9 := by unfold err ok; rw [hk4]; simp
            have E9 := Aside0.mk e9
            clear e9
            refine leaves_cons (f := 65) (args := #[.pointer (some ⟨g2, 0, none⟩)]) (by simp) (by simp [go_sem]) ?_
            refine (check_thrown ⟨g2, 0, none⟩ 0 [] _ c0 f0).mono ?_
            rintro e u' w'' ⟨rfl, rfl, rfl⟩
            have c9 := put_cell R.out (.int .i64 9) 115
            simp [Leaves, settle, results, Tryz.results53, go_sem, c9, E9.out]
            exact put_below R.out _ _
          | true =>
            obtain rfl := hy hk4
            clear hy hn
            go_wp2_with fail
            rw [rounds_succ]
            have c0 := R.out.c0
            have f0 := R.out.f0
            have e0 : err p = 0 := by unfold err ok; rw [hk0, hk1, hk2, hk3, hk4]; rfl
            have E0 := Aside0.mk e0
            clear e0
            go_wp2_with fail
            refine leaves_cons (f := 65) (args := #[.pointer (some ⟨g2, 0, none⟩)]) (by simp) (by simp [go_sem]) ?_
            refine (check_idle ⟨g2, 0, none⟩ _).mono ?_
            rintro e u' w'' ⟨rfl, rfl, rfl⟩
            have c9 := World.cell?_setCell_same v4 ⟨g2, 0, none⟩ (.int .i64 0) c0
            simp [Leaves, settle, results, Tryz.results53, go_sem, c9, E0.out]
            exact R.out.below.setCell (by exact R.out.ge) _
end Go.Proofs.YtbbbjjfecblhpaaGreat.Pd
/- dues.Days: the days on which instalments are due. -/
namespace Go.Proofs.YtbbbjjfecblhpaaGreat.Du
open Go.RowKit Go.Proofs.YtbbbjjfecblhpaaGreatW.PrintWords Go.Proofs.YtbbbjjfecblhpaaGreatW.PrintLast Go.Proofs.YtbbbjjfecblhpaaGreatW.PrintMore Go.Proofs.YtbbbjjfecblhpaaGreat.HW
open Go.Proofs.YtbbbjjfecblhpaaGreat.Math Go.Proofs.YtbbbjjfecblhpaaGreat.H Go.Proofs.YtbbbjjfecblhpaaGreat.Pd Pm
attribute [local go_sem] run_makeFunc_
set_option linter.unusedVariables false
set_option linter.unusedSimpArgs false
theorem CalIn.below {B : Nat} {w w1 : World} {gb : Nat} {l : List Int} (h : CalIn B w gb l) (hb : Below w.heap.size w w1) : CalIn B w1 gb l := by
  obtain ⟨A, c, h1, h2, h3, h4, h5, h6, h7⟩ := h
  exact ⟨A, c, by rw [hb.cell (by exact h6)]; exact h1, Kd.C_below h2 hb, h3, h4, h5, Nat.lt_of_lt_of_le h6 hb.size, h7⟩
/-- What a call gives that hands back a list of its own, or none, and why. -/
def Listed (r : List Int × Int) (w : World) (e : Ending) (w' : World) : Prop := ∃ v, e = .returned (.tuple #[v, .int .i64 r.2]) ∧ RowI w' w.heap.size v r.1 ∧ Below w.heap.size w w'
end Go.Proofs.YtbbbjjfecblhpaaGreat.Du
/- dues.Days, where all may be: each day rolled, and whether they rise. -/
namespace Go.Proofs.YtbbbjjfecblhpaaGreat.Du
open Go.RowKit Go.Proofs.YtbbbjjfecblhpaaGreatW.PrintWords Go.Proofs.YtbbbjjfecblhpaaGreatW.PrintLast Go.Proofs.YtbbbjjfecblhpaaGreatW.PrintMore Go.Proofs.YtbbbjjfecblhpaaGreat.HW
open Go.Proofs.YtbbbjjfecblhpaaGreat.Math Go.Proofs.YtbbbjjfecblhpaaGreat.H Go.Proofs.YtbbbjjfecblhpaaGreat.Pd Pm
attribute [local go_sem] run_makeFunc_
set_option linter.unusedVariables false
set_option linter.unusedSimpArgs false
/-- A list of the call's own that is not empty. -/
def Listed1 (l : List Int) (w : World) (e : Ending) (w' : World) : Prop := ∃ g c t, e = .returned (.tuple #[.slice (some ⟨g, 0, none⟩) l.length c, .int .i64 0]) ∧ w.heap.size ≤ g ∧ l.length ≤ c ∧ H.Blk w' g 3 (nums .i64 l ++ t) ∧ Below w.heap.size w w'
theorem Listed.one {l : List Int} {w w' : World} {e : Ending} (h : Listed (l, 0) w e w') (hl : l ≠ []) : Listed1 l w e w' := by
  obtain ⟨v, he, hr, hb⟩ := h
  rcases hr with ⟨-, h⟩ | ⟨g, c, t, rfl, hg, hc, hk⟩
  · exact absurd h hl
  · exact ⟨g, c, t, he, hg, hc, hk, hb⟩
end Go.Proofs.YtbbbjjfecblhpaaGreat.Du
/- Contracts by hand: the document's names. -/
namespace Go.Proofs.YtbbbjjfecblhpaaGreat.Pd
open Go.RowKit Go.Proofs.YtbbbjjfecblhpaaGreatW.PrintWords Go.Proofs.YtbbbjjfecblhpaaGreatW.PrintLast Go.Proofs.YtbbbjjfecblhpaaGreatW.PrintMore Go.Proofs.YtbbbjjfecblhpaaGreat.HW
open Pm
set_option linter.unusedVariables false
set_option linter.unusedSimpArgs false
theorem within_r (v a b : Int) (w : World) : Calls Tryz.prog 27 #[.int .i64 v, .int .i64 a, .int .i64 b] w fun e w' => e = .returned (.bool (decide (a ≤ v ∧ v ≤ b))) ∧ w = w' := by
  by_cases h1 : a ≤ v
  · by_cases h2 : v ≤ b
    · have hd : decide (a ≤ v ∧ v ≤ b) = true := decide_eq_true ⟨h1, h2⟩
      rw [hd]
      clear hd
      go_enter Tryz.func27, Tryz.ntmps27
      go_wp2
      go_ret
      exact ⟨rfl, rfl⟩
    · have hd : decide (a ≤ v ∧ v ≤ b) = false := decide_eq_false (fun h => h2 h.2)
      rw [hd]
      have q : decide (v ≤ b) = false := decide_eq_false h2
      clear hd
      go_enter Tryz.func27, Tryz.ntmps27
      go_wp2
      go_ret
      exact ⟨rfl, rfl⟩
  · have hd : decide (a ≤ v ∧ v ≤ b) = false := decide_eq_false (fun h => h1 h.1)
    rw [hd]
    have q : decide (a ≤ v) = false := decide_eq_false h1
    clear hd
    go_enter Tryz.func27, Tryz.ntmps27
    go_wp2
    go_ret
    exact ⟨rfl, rfl⟩
theorem within_r_is {v a b : Int} {r : Bool} (h : decide (a ≤ v ∧ v ≤ b) = r) (w : World) : Calls Tryz.prog 27 #[.int .i64 v, .int .i64 a, .int .i64 b] w fun e w' => e = .returned (.bool r) ∧ w = w' := h ▸ within_r v a b w
theorem is_any (n : Int) (w : World) : Calls Tryz.prog 39 #[.int .i64 n] w fun e w' => e = .returned (.bool (decide (-25567 ≤ n ∧ n ≤ 84370))) ∧ w = w' := by
  by_cases h1 : -25567 ≤ n
  · by_cases h2 : n ≤ 84370
    · have hd : decide (-25567 ≤ n ∧ n ≤ 84370) = true := decide_eq_true ⟨h1, h2⟩
      rw [hd]
      clear hd
      go_enter Tryz.func39, Tryz.ntmps39
      go_wp2
      go_ret
      exact ⟨rfl, rfl⟩
    · have hd : decide (-25567 ≤ n ∧ n ≤ 84370) = false := decide_eq_false (fun h => h2 h.2)
      rw [hd]
      have q : decide (n ≤ 84370) = false := decide_eq_false h2
      clear hd
      go_enter Tryz.func39, Tryz.ntmps39
      go_wp2
      go_ret
      exact ⟨rfl, rfl⟩
  · have hd : decide (-25567 ≤ n ∧ n ≤ 84370) = false := decide_eq_false (fun h => h1 h.1)
    rw [hd]
    have q : decide (-25567 ≤ n) = false := decide_eq_false h1
    clear hd
    go_enter Tryz.func39, Tryz.ntmps39
    go_wp2
    go_ret
    exact ⟨rfl, rfl⟩
theorem is_is {n : Int} {r : Bool} (h : decide (-25567 ≤ n ∧ n ≤ 84370) = r) (w : World) : Calls Tryz.prog 39 #[.int .i64 n] w fun e w' => e = .returned (.bool r) ∧ w = w' := h ▸ is_any n w
/-- Is one among some numbers that lie in a block? -/
theorem in_int (g : Nat) (l : List Int) (c : Nat) (t : TypeId) (x : Int) (w : World) (hb : w.heap[g]? = some (.cells (l.map (Value.int .i64)).toArray t (0, 0))) (hm : l.length ≤ 1000000) :
    Calls Tryz.prog 28 #[.slice (some ⟨g, 0, none⟩) l.length c, .int .i64 x] w fun e w' => e = .returned (.bool (l.contains x)) ∧ w = w' := by
  obtain ⟨bb, hbb⟩ : ∃ bb, l.contains x = bb := ⟨_, rfl⟩
  rw [hbb]
  have HB := Aside0.mk hb
  have HBB := Aside0.mk hbb
  clear hb hbb
  go_enter Tryz.func28, Tryz.ntmps28
  go_wp2_with fail
  go_loop [5] (fun i => ∃ (k : Nat), k ≤ l.length ∧ i = .int .i64 k ∧ Aside0 ((l.drop k).contains x = bb)) (fun i => l.length - (intOf i).toNat)
  case atStart => exact ⟨0, Nat.zero_le _, rfl, ⟨HBB.out⟩⟩
  case round =>
    obtain ⟨k, hk, rfl, hq⟩ := hrel
    by_cases hlt : k < l.length
    · have hc : w.cell? ⟨g, k, none⟩ = some (.int .i64 (l.getD k 0)) := by
        rw [blk_cell HB.out k, List.getElem?_toArray, List.getElem?_map, List.getD_eq_getElem?_getD, List.getElem?_eq_getElem hlt]; rfl
      have hd : l.drop k = l.getD k 0 :: l.drop (k + 1) := by
        rw [List.drop_eq_getElem_cons hlt, List.getD_eq_getElem?_getD, List.getElem?_eq_getElem hlt]; rfl
      have hcs := hq.out
      rw [hd, List.contains_cons] at hcs
      generalize l.getD k 0 = y at *
      have kk0 : (0 : Int) ≤ (k : Int) := by omega
      clear hd hq
      cases hy : (x == y) with
      | true =>
        rw [hy, Bool.true_or] at hcs
        subst hcs
        have hy2 : (y == x) = true := by rw [beq_iff_eq] at hy ⊢; exact hy.symm
        clear hy
        go_wp2_with fail
        go_ret
        exact ⟨rfl, rfl⟩
      | false =>
        rw [hy, Bool.false_or] at hcs
        have HC := Aside0.mk hcs
        have hy2 : (y == x) = false := by rw [beq_eq_false_iff_ne] at hy ⊢; exact fun h => hy h.symm
        clear hy hcs
        go_wp2_with fail
        go_round
        case rel => exact ⟨k + 1, by omega, by go_num, HC⟩
        case measure => simp [intOf]; omega
    · have hk2 : k = l.length := by omega
      subst hk2
      have hcs := hq.out
      rw [List.drop_length] at hcs
      obtain rfl : false = bb := hcs
      clear hq
      go_wp2_with fail
      go_ret
      exact ⟨rfl, rfl⟩
theorem str_eq (x y : ByteArray) : (x.toList == y.toList) = true ↔ x = y := by
  rw [beq_iff_eq, ByteArray.toList_eq, ByteArray.toList_eq]
  constructor
  · intro h
    obtain ⟨⟨a⟩⟩ := x
    obtain ⟨⟨b⟩⟩ := y
    simp at h
    rw [h]
  · rintro rfl; rfl
/-- Is one among some texts that lie in a block? -/
theorem in_str (g : Nat) (l : List ByteArray) (c : Nat) (t : TypeId) (x : ByteArray) (bb : Bool) (hbb : bb = true ↔ x ∈ l) (w : World) (hb : w.heap[g]? = some (.cells (l.map Value.string).toArray t (0, 0))) (hm : l.length ≤ 1000000) :
    Calls Tryz.prog 51 #[.slice (some ⟨g, 0, none⟩) l.length c, .string x] w fun e w' => e = .returned (.bool bb) ∧ w = w' := by
  have HB := Aside0.mk hb
  have HBB := Aside0.mk hbb
  clear hb hbb
  go_enter Tryz.func51, Tryz.ntmps51
  go_wp2_with fail
  go_loop [5] (fun i => ∃ (k : Nat), k ≤ l.length ∧ i = .int .i64 k ∧ Aside0 (bb = true ↔ x ∈ l.drop k)) (fun i => l.length - (intOf i).toNat)
  case atStart => exact ⟨0, Nat.zero_le _, rfl, ⟨HBB.out⟩⟩
  case round =>
    obtain ⟨k, hk, rfl, hq⟩ := hrel
    by_cases hlt : k < l.length
    · have hc : w.cell? ⟨g, k, none⟩ = some (.string (l.getD k ByteArray.empty)) := by
        rw [blk_cell HB.out k, List.getElem?_toArray, List.getElem?_map, List.getD_eq_getElem?_getD, List.getElem?_eq_getElem hlt]; rfl
      have hd : l.drop k = l.getD k ByteArray.empty :: l.drop (k + 1) := by
        rw [List.drop_eq_getElem_cons hlt, List.getD_eq_getElem?_getD, List.getElem?_eq_getElem hlt]; rfl
      have hcs := hq.out
      rw [hd, List.mem_cons] at hcs
      generalize l.getD k ByteArray.empty = y at *
      have kk0 : (0 : Int) ≤ (k : Int) := by omega
      clear hd hq
      by_cases hy : y = x
      · have hbt : bb = true := hcs.2 (Or.inl hy.symm)
        subst hbt
        have hy2 : (y.toList == x.toList) = true := (str_eq y x).2 hy
        clear hy hcs
        go_wp2_with fail
        go_ret
        exact ⟨rfl, rfl⟩
      · have HC := Aside0.mk (show bb = true ↔ x ∈ l.drop (k + 1) from ⟨fun h => (hcs.1 h).resolve_left (fun e => hy e.symm), fun h => hcs.2 (Or.inr h)⟩)
        have hy2 : (y.toList == x.toList) = false := by
          cases h : (y.toList == x.toList) with
          | true => exact absurd ((str_eq y x).1 h) hy
          | false => rfl
        clear hy hcs
        go_wp2_with fail
        go_round
        case rel => exact ⟨k + 1, by omega, by go_num, HC⟩
        case measure => simp [intOf]; omega
    · have hk2 : k = l.length := by omega
      subst hk2
      have hcs := hq.out
      rw [List.drop_length] at hcs
      have hbf : bb = false := by
        cases bb with
        | true => exact absurd (hcs.1 rfl) (by simp)
        | false => rfl
      subst hbf
      clear hq hcs
      go_wp2_with fail
      go_ret
      exact ⟨rfl, rfl⟩
/-- The words of grammar. -/
def wordsB : List ByteArray := wordsL.map txt
def WordsE (w : World) (e : Ending) (w' : World) : Prop := ∃ g, e = .returned (.slice (some ⟨g, 0, none⟩) 34 34) ∧ w'.heap[g]? = some (.cells (wordsB.map Value.string).toArray 9 (0, 0)) ∧ Below w.heap.size w w'
set_option maxRecDepth 100000 in
theorem words_any (w : World) : Calls Tryz.prog 52 #[] w (WordsE w) := by
  go_enter Tryz.func52, Tryz.ntmps52
  go_wp2_with fail
  go_ret
  exact ⟨w.heap.size, rfl, heap_alloc_new _ _, (Below.refl _ _).alloc (Nat.le_refl _) _⟩
theorem txt_toList (s : ByteArray) : txt s.data.toList = s := by
  obtain ⟨⟨l⟩⟩ := s; rfl
theorem wordsB_is (s : ByteArray) : isWord s.data.toList = true ↔ s ∈ wordsB := by
  unfold wordsB isWord
  rw [List.contains_iff_mem, List.mem_map]
  constructor
  · intro h; exact ⟨_, h, txt_toList s⟩
  · rintro ⟨l, hl, rfl⟩; exact hl
end Go.Proofs.YtbbbjjfecblhpaaGreat.Pd
/- Contracts by hand: the document's names, orders and holidays. -/
namespace Go.Proofs.YtbbbjjfecblhpaaGreat.Pd
open Go.RowKit Go.Proofs.YtbbbjjfecblhpaaGreatW.PrintWords Go.Proofs.YtbbbjjfecblhpaaGreatW.PrintLast Go.Proofs.YtbbbjjfecblhpaaGreatW.PrintMore Go.Proofs.YtbbbjjfecblhpaaGreat.HW
open Pm
set_option linter.unusedVariables false
set_option linter.unusedSimpArgs false
/-- The letters from a place on. -/
def restOk (k : Nat) (l : List UInt8) : Bool := if k = 0 then chars l else l.all letter
theorem restOk_succ (k : Nat) (l : List UInt8) : restOk (k + 1) l = l.all letter := by unfold restOk; rw [if_neg (by omega)]
theorem restOk_nil (k : Nat) : restOk k [] = true := by unfold restOk; split <;> rfl
theorem drop_byte (s : ByteArray) (k : Nat) (h : k < s.size) : s.data.toList.drop k = s[k] :: s.data.toList.drop (k + 1) := by
  rw [List.drop_eq_getElem_cons (by simpa using h)]; rfl
theorem small_of {c : UInt8} (h1 : 97 ≤ (c.toNat : Int)) (h2 : (c.toNat : Int) ≤ 122) : small c = true := by simp [small, h1, h2]
theorem small_not {c : UInt8} (h : (c.toNat : Int) < 97 ∨ 122 < (c.toNat : Int)) : small c = false := by
  cases hc : small c with
  | false => rfl
  | true => exfalso; simp [small] at hc; omega
theorem other_of {c : UInt8} (h : (48 ≤ (c.toNat : Int) ∧ (c.toNat : Int) ≤ 57) ∨ (c.toNat : Int) = 45) : other c = true := by simpa [other] using h
theorem other_not {c : UInt8} (h : ¬ ((48 ≤ (c.toNat : Int) ∧ (c.toNat : Int) ≤ 57) ∨ (c.toNat : Int) = 45)) : other c = false := by
  cases hc : other c with
  | false => rfl
  | true => exact absurd (by simpa [other] using hc) h
set_option maxRecDepth 100000 in
set_option maxHeartbeats 2000000 in
theorem rname_any (s : ByteArray) (w : World) (hs : s.size ≤ 140737488351232) : Calls Tryz.prog 26 #[.string s] w fun e w' => e = .returned (.bool (nameOk s.data.toList)) ∧ Below w.heap.size w w' := by
  obtain ⟨l, hl⟩ : ∃ l, s.data.toList = l := ⟨_, rfl⟩
  obtain ⟨bb, hbb⟩ : ∃ bb, chars l = bb := ⟨_, rfl⟩
  obtain ⟨r, hr⟩ : ∃ r, nameOk s.data.toList = r := ⟨_, rfl⟩
  have hr2 := hr
  unfold nameOk at hr2
  rw [hl, hbb] at hr2
  have hlen : l.length = s.size := by rw [← hl]; rfl
  rw [hlen] at hr2
  have HR := Aside0.mk hr2
  have HL := Aside0.mk hl
  have HBB := Aside0.mk hbb
  have HLEN := Aside0.mk hlen
  rw [hr]
  clear hr hr2 hl hbb hlen
  go_enter Tryz.func26, Tryz.ntmps26
  go_wp2_with fail
  go_loop [3] (fun i => ∃ (k : Nat), k ≤ s.size ∧ i = .int .i64 k ∧ Aside0 (restOk k (l.drop k) = bb)) (fun i => s.size - (intOf i).toNat)
  case atStart => exact ⟨0, Nat.zero_le _, rfl, ⟨HBB.out⟩⟩
  case round =>
    obtain ⟨k, hk, rfl, hd⟩ := hrel
    by_cases hlt : k < s.size
    · have hd2 := hd.out
      rw [← HL.out, drop_byte s k hlt, HL.out] at hd2
      obtain ⟨c, hc⟩ : ∃ c, s[k] = c := ⟨_, rfl⟩
      rw [hc] at hd2
      have hb0 : 0 ≤ (c.toNat : Int) := by omega
      have hb1 : (c.toNat : Int) ≤ 255 := by have := c.toNat_lt; omega
      have kk0 : (0 : Int) ≤ (k : Int) := by omega
      clear hd
      rcases (by omega : (97 ≤ (c.toNat : Int) ∧ (c.toNat : Int) ≤ 122) ∨ (48 ≤ (c.toNat : Int) ∧ (c.toNat : Int) ≤ 57) ∨ (c.toNat : Int) = 45 ∨ ((c.toNat : Int) < 48 ∧ (c.toNat : Int) ≠ 45) ∨ (57 < (c.toNat : Int) ∧ (c.toNat : Int) < 97) ∨ 122 < (c.toNat : Int)) with ⟨q1, q2⟩ | ⟨q1, q2⟩ | q1 | ⟨q1, q2⟩ | ⟨q1, q2⟩ | q1
      · have hn : restOk (k + 1) (l.drop (k + 1)) = bb := by
          rw [restOk_succ, ← hd2]
          unfold restOk
          split
          · simp only [chars, small_of q1 q2, Bool.true_and]
          · simp only [List.all_cons, letter, small_of q1 q2, Bool.true_or, Bool.true_and]
        have HN := Aside0.mk hn
        have q3 : 57 < (c.toNat : Int) := by omega
        have q4 : 48 ≤ (c.toNat : Int) := by omega
        have q5 : ((c.toNat : Int) == 45) = false := by rw [beq_eq_false_iff_ne]; omega
        clear hd2 hn
        go_wp2_with fail
        go_round
        case rel => exact ⟨k + 1, by omega, by go_num, HN⟩
        case measure => simp [intOf]; omega
      · have hsm := small_not (c := c) (by omega)
        have hot := other_of (c := c) (by omega)
        have q3 : (c.toNat : Int) < 97 := by omega
        by_cases h0 : k = 0
        · have kz : ((k : Int) == 0) = true := by rw [h0]; rfl
          have hbf : bb = false := by
            rw [← hd2]
            unfold restOk
            rw [if_pos h0]
            simp only [chars, hsm, Bool.false_and]
          subst hbf
          have hrf : r = false := by
            rw [← HR.out]; rfl
          subst hrf
          clear hd2 h0 hsm hot
          go_wp2_with fail
          go_ret
          exact ⟨rfl, Below.refl _ _⟩
        · have kz : ((k : Int) == 0) = false := by rw [beq_eq_false_iff_ne]; omega
          have hn : restOk (k + 1) (l.drop (k + 1)) = bb := by
            rw [restOk_succ, ← hd2]
            unfold restOk
            rw [if_neg h0]
            simp only [List.all_cons, letter, hot, Bool.or_true, Bool.true_and]
          have HN := Aside0.mk hn
          clear hd2 hn h0 hsm hot
          go_wp2_with fail
          go_round
          case rel => exact ⟨k + 1, by omega, by go_num, HN⟩
          case measure => simp [intOf]; omega
      · have hsm := small_not (c := c) (by omega)
        have hot := other_of (c := c) (by omega)
        have q3 : (c.toNat : Int) < 97 := by omega
        have q4 : (c.toNat : Int) < 48 := by omega
        have q5 : ((c.toNat : Int) == 45) = true := by rw [q1]; rfl
        clear q1
        by_cases h0 : k = 0
        · have kz : ((k : Int) == 0) = true := by rw [h0]; rfl
          have hbf : bb = false := by
            rw [← hd2]
            unfold restOk
            rw [if_pos h0]
            simp only [chars, hsm, Bool.false_and]
          subst hbf
          have hrf : r = false := by
            rw [← HR.out]; rfl
          subst hrf
          clear hd2 h0 hsm hot
          go_wp2_with fail
          go_ret
          exact ⟨rfl, Below.refl _ _⟩
        · have kz : ((k : Int) == 0) = false := by rw [beq_eq_false_iff_ne]; omega
          have hn : restOk (k + 1) (l.drop (k + 1)) = bb := by
            rw [restOk_succ, ← hd2]
            unfold restOk
            rw [if_neg h0]
            simp only [List.all_cons, letter, hot, Bool.or_true, Bool.true_and]
          have HN := Aside0.mk hn
          clear hd2 hn h0 hsm hot
          go_wp2_with fail
          go_round
          case rel => exact ⟨k + 1, by omega, by go_num, HN⟩
          case measure => simp [intOf]; omega
      · have hsm := small_not (c := c) (by omega)
        have hot := other_not (c := c) (by omega)
        have q3 : (c.toNat : Int) < 97 := by omega
        have q5 : ((c.toNat : Int) == 45) = false := by rw [beq_eq_false_iff_ne]; exact q2
        by_cases h0 : k = 0
        · have kz : ((k : Int) == 0) = true := by rw [h0]; rfl
          have hbf : bb = false := by
            rw [← hd2]
            unfold restOk
            rw [if_pos h0]
            simp only [chars, hsm, Bool.false_and]
          subst hbf
          have hrf : r = false := by
            rw [← HR.out]; rfl
          subst hrf
          clear hd2 h0 hsm hot
          go_wp2_with fail
          go_ret
          exact ⟨rfl, Below.refl _ _⟩
        · have kz : ((k : Int) == 0) = false := by rw [beq_eq_false_iff_ne]; omega
          have hbf : bb = false := by
            rw [← hd2]
            unfold restOk
            rw [if_neg h0]
            simp only [List.all_cons, letter, hsm, hot, Bool.or_false, Bool.false_and]
          subst hbf
          have hrf : r = false := by
            rw [← HR.out]; rfl
          subst hrf
          clear hd2 h0 hsm hot
          go_wp2_with fail
          go_ret
          exact ⟨rfl, Below.refl _ _⟩
      · have hsm := small_not (c := c) (by omega)
        have hot := other_not (c := c) (by omega)
        have q3 : 48 ≤ (c.toNat : Int) := by omega
        have q6 : decide ((c.toNat : Int) ≤ 57) = false := decide_eq_false (by omega)
        have q5 : ((c.toNat : Int) == 45) = false := by rw [beq_eq_false_iff_ne]; omega
        by_cases h0 : k = 0
        · have kz : ((k : Int) == 0) = true := by rw [h0]; rfl
          have hbf : bb = false := by
            rw [← hd2]
            unfold restOk
            rw [if_pos h0]
            simp only [chars, hsm, Bool.false_and]
          subst hbf
          have hrf : r = false := by
            rw [← HR.out]; rfl
          subst hrf
          clear hd2 h0 hsm hot
          go_wp2_with fail
          go_ret
          exact ⟨rfl, Below.refl _ _⟩
        · have kz : ((k : Int) == 0) = false := by rw [beq_eq_false_iff_ne]; omega
          have hbf : bb = false := by
            rw [← hd2]
            unfold restOk
            rw [if_neg h0]
            simp only [List.all_cons, letter, hsm, hot, Bool.or_false, Bool.false_and]
          subst hbf
          have hrf : r = false := by
            rw [← HR.out]; rfl
          subst hrf
          clear hd2 h0 hsm hot
          go_wp2_with fail
          go_ret
          exact ⟨rfl, Below.refl _ _⟩
      · have hsm := small_not (c := c) (by omega)
        have hot := other_not (c := c) (by omega)
        have q2 : 97 ≤ (c.toNat : Int) := by omega
        have q3 : 48 ≤ (c.toNat : Int) := by omega
        have q4 : 57 < (c.toNat : Int) := by omega
        have q6 : decide ((c.toNat : Int) ≤ 57) = false := decide_eq_false (by omega)
        have q7 : decide ((c.toNat : Int) ≤ 122) = false := decide_eq_false (by omega)
        have q5 : ((c.toNat : Int) == 45) = false := by rw [beq_eq_false_iff_ne]; omega
        by_cases h0 : k = 0
        · have kz : ((k : Int) == 0) = true := by rw [h0]; rfl
          have hbf : bb = false := by
            rw [← hd2]
            unfold restOk
            rw [if_pos h0]
            simp only [chars, hsm, Bool.false_and]
          subst hbf
          have hrf : r = false := by
            rw [← HR.out]; rfl
          subst hrf
          clear hd2 h0 hsm hot
          go_wp2_with fail
          go_ret
          exact ⟨rfl, Below.refl _ _⟩
        · have kz : ((k : Int) == 0) = false := by rw [beq_eq_false_iff_ne]; omega
          have hbf : bb = false := by
            rw [← hd2]
            unfold restOk
            rw [if_neg h0]
            simp only [List.all_cons, letter, hsm, hot, Bool.or_false, Bool.false_and]
          subst hbf
          have hrf : r = false := by
            rw [← HR.out]; rfl
          subst hrf
          clear hd2 h0 hsm hot
          go_wp2_with fail
          go_ret
          exact ⟨rfl, Below.refl _ _⟩
    · have hk2 : k = s.size := by omega
      subst hk2
      have hd2 := hd.out
      rw [List.drop_of_length_le (by rw [HLEN.out]; omega), restOk_nil] at hd2
      obtain rfl : true = bb := hd2
      clear hd hlt
      have hr2 := HR.out
      rw [Bool.true_and] at hr2
      by_cases h1 : 1 ≤ s.size
      · rw [decide_eq_true h1, Bool.true_and] at hr2
        by_cases h20 : s.size ≤ 20
        · rw [decide_eq_true h20, Bool.true_and] at hr2
          have HR2 := Aside0.mk hr2
          have HWB := Aside0.mk (wordsB_is s)
          rw [HL.out] at HWB
          have hl34 : wordsB.length = 34 := rfl
          have HL34 := Aside0.mk hl34
          have HLS := HL
          clear hr2 hl34 HL
          go_wp2_with fail
          refine (words_any _).mono ?_
          rintro e w1 ⟨g, rfl, hb, hbl⟩
          have HB := Aside0.mk hb
          have HBL := Aside0.mk hbl
          clear hb hbl
          go_wp2_with fail
          refine (in_str g wordsB 34 _ s (isWord l) HWB.out w1 HB.out (by rw [HL34.out]; omega)).mono ?_
          rintro e w2 ⟨rfl, rfl⟩
          go_wp2_with fail
          go_ret
          exact ⟨by rw [← HR2.out]; simp, HBL.out⟩
        · have q2 : 20 < s.size := by omega
          rw [decide_eq_false h20, Bool.false_and] at hr2
          subst hr2
          clear h20
          go_wp2_with fail
          go_ret
          exact ⟨by simp; try omega, Below.refl _ _⟩
      · have q2 : s.size < 1 := by omega
        rw [decide_eq_false h1, Bool.false_and] at hr2
        subst hr2
        clear h1
        go_wp2_with fail
        go_ret
        exact ⟨by simp; try omega, Below.refl _ _⟩
/-- Does an order have each kind once? -/
theorem order_in (a b c d : Int) : orderOk a b c d = ([a, b, c, d].contains 1 && ([a, b, c, d].contains 2 && ([a, b, c, d].contains 3 && [a, b, c, d].contains 4))) := by
  unfold orderOk
  rw [Bool.eq_iff_iff, decide_eq_true_iff]
  simp only [Bool.and_eq_true, List.contains_iff_mem, List.mem_cons, List.not_mem_nil, or_false]
  constructor
  · rintro ⟨h1, h2, h3, h4, n1, n2, n3, n4, n5, n6⟩
    rcases (by omega : a = 1 ∨ a = 2 ∨ a = 3 ∨ a = 4) with rfl | rfl | rfl | rfl <;>
    rcases (by omega : b = 1 ∨ b = 2 ∨ b = 3 ∨ b = 4) with rfl | rfl | rfl | rfl <;> (try exact absurd rfl n1) <;>
    rcases (by omega : c = 1 ∨ c = 2 ∨ c = 3 ∨ c = 4) with rfl | rfl | rfl | rfl <;> (try exact absurd rfl n2) <;> (try exact absurd rfl n4) <;> omega
  · rintro ⟨h1, h2, h3, h4⟩
    rcases h1 with h1 | h1 | h1 | h1 <;> rcases h2 with h2 | h2 | h2 | h2 <;> (try (exfalso; omega)) <;> rcases h3 with h3 | h3 | h3 | h3 <;> (try (exfalso; omega)) <;> rcases h4 with h4 | h4 | h4 | h4 <;> omega
theorem in_int_is (g : Nat) (l : List Int) (c : Nat) (t : TypeId) (x : Int) (r : Bool) (h : l.contains x = r) (w : World) (hb : w.heap[g]? = some (.cells (l.map (Value.int .i64)).toArray t (0, 0))) (hm : l.length = 4) :
    Calls Tryz.prog 28 #[.slice (some ⟨g, 0, none⟩) 4 c, .int .i64 x] w fun e w' => e = .returned (.bool r) ∧ w = w' := by
  have := in_int g l c t x w hb (by omega)
  rw [hm, h] at this
  exact this
set_option maxHeartbeats 1000000 in
theorem rorder_any (a b c d : Int) (w : World) : Calls Tryz.prog 30 #[.agg #[.int .i64 a, .int .i64 b, .int .i64 c, .int .i64 d]] w fun e w' => e = .returned (.bool (orderOk a b c d)) ∧ Below w.heap.size w w' := by
  rw [order_in]
  obtain ⟨l, hl⟩ : ∃ l : List Int, [a, b, c, d] = l := ⟨_, rfl⟩
  have hcells : (#[Value.int .i64 a, .int .i64 b, .int .i64 c, .int .i64 d] : Array Value) = (l.map (Value.int .i64)).toArray := by rw [← hl]; rfl
  have hlen : l.length = 4 := by rw [← hl]; rfl
  have HC := Aside0.mk hcells
  have HLEN := Aside0.mk hlen
  rw [hl]
  obtain ⟨r1, h1⟩ : ∃ r, l.contains 1 = r := ⟨_, rfl⟩
  obtain ⟨r2, h2⟩ : ∃ r, l.contains 2 = r := ⟨_, rfl⟩
  obtain ⟨r3, h3⟩ : ∃ r, l.contains 3 = r := ⟨_, rfl⟩
  obtain ⟨r4, h4⟩ : ∃ r, l.contains 4 = r := ⟨_, rfl⟩
  rw [h1, h2, h3, h4]
  have H1 := Aside0.mk h1
  have H2 := Aside0.mk h2
  have H3 := Aside0.mk h3
  have H4 := Aside0.mk h4
  clear h1 h2 h3 h4 hl hcells hlen
  go_enter Tryz.func30, Tryz.ntmps30
  go_wp2_with ((with_reducible refine gate_dst (N := 1) rfl ?_); refine box_event ?hg (N := 1) ?hd (cs := #[.int .i64 a, .int .i64 b, .int .i64 c, .int .i64 d]) (t := 23) ?hr ?_; (case hd => rfl); (case hg => rfl); (case hr => first | (go_simp; done) | (go_simp; rfl)); intro g1 hg w1 hb1 hbl1; clear hg; have HB1 := Aside0.mk hb1; have BL1 := Aside0.mk hbl1; clear hb1 hbl1)
  have HBB := Aside0.mk (show w1.heap[g1]? = some (.cells (l.map (Value.int .i64)).toArray 23 (0, 0)) by rw [← HC.out]; exact HB1.out)
  refine wp_loop_rounds 5 ?_
  rw [rounds_succ]
  go_wp2_with fail
  refine (in_int_is g1 l 4 23 1 r1 H1.out w1 HBB.out HLEN.out).mono ?_
  rintro e w2 ⟨rfl, rfl⟩
  cases r1 with
  | false =>
    go_wp2_with fail
    go_ret
    exact ⟨by simp, BL1.out⟩
  | true =>
    go_wp2_with fail
    rw [rounds_succ]
    go_wp2_with fail
    refine (in_int_is g1 l 4 23 2 r2 H2.out w1 HBB.out HLEN.out).mono ?_
    rintro e w2 ⟨rfl, rfl⟩
    cases r2 with
    | false =>
      go_wp2_with fail
      go_ret
      exact ⟨by simp, BL1.out⟩
    | true =>
      go_wp2_with fail
      rw [rounds_succ]
      go_wp2_with fail
      refine (in_int_is g1 l 4 23 3 r3 H3.out w1 HBB.out HLEN.out).mono ?_
      rintro e w2 ⟨rfl, rfl⟩
      cases r3 with
      | false =>
        go_wp2_with fail
        go_ret
        exact ⟨by simp, BL1.out⟩
      | true =>
        go_wp2_with fail
        rw [rounds_succ]
        go_wp2_with fail
        refine (in_int_is g1 l 4 23 4 r4 H4.out w1 HBB.out HLEN.out).mono ?_
        rintro e w2 ⟨rfl, rfl⟩
        cases r4 with
        | false =>
          go_wp2_with fail
          go_ret
          exact ⟨by simp, BL1.out⟩
        | true =>
          go_wp2_with fail
          rw [rounds_succ]
          go_wp2_with fail
          go_ret
          exact ⟨rfl, BL1.out⟩
end Go.Proofs.YtbbbjjfecblhpaaGreat.Pd
/- Contracts by hand: the document's resets, tiers and holidays. -/
namespace Go.Proofs.YtbbbjjfecblhpaaGreat.Pd
open Go.RowKit Go.Proofs.YtbbbjjfecblhpaaGreatW.PrintWords Go.Proofs.YtbbbjjfecblhpaaGreatW.PrintLast Go.Proofs.YtbbbjjfecblhpaaGreatW.PrintMore Go.Proofs.YtbbbjjfecblhpaaGreat.HW
open Pm
set_option linter.unusedVariables false
set_option linter.unusedSimpArgs false

set_option maxRecDepth 100000 in
set_option maxHeartbeats 2000000 in
theorem rresets_1 (p : Prod) (A1 : Option Addr) (c1 : Nat) (A2 : Option Addr) (c2 : Nat) (A3 : Option Addr) (c3 : Nat) (w : World) (t1 : 1 ≤ p.times) (t2 : p.times ≤ 600) (hr : Op.IntRows w A1 2 p.resets) (hm : p.resets.length ≤ 140737488355328) (bb : Bool) (hbb : resetsOk p.times 0 p.resets = bb) :
    Calls Tryz.prog 29 #[pv p A1 c1 A2 c2 A3 c3] w fun e w' => e = .returned (.bool (bb && decide (p.resets.length ≤ 20))) ∧ Below w.heap.size w w' := by
  have HR := Aside0.mk hr
  have HBB := Aside0.mk hbb
  clear hr hbb
  go_enter Tryz.func29, Tryz.ntmps29
  go_wp2_with ((with_reducible refine gate_dst (N := 1) rfl ?_); refine box_event ?hg (N := 1) ?hd (cs := pcs p A1 c1 A2 c2 A3 c3) (t := 27) ?hr ?_; (case hd => rfl); (case hg => rfl); (case hr => first | (go_simp; done) | (go_simp; rfl)); intro g1 hg w1 hb1 hbl1; clear hg; have HB1 := Aside0.mk hb1; have BL1 := Aside0.mk hbl1; clear hb1 hbl1)
  go_loopg [3] (p.resets.length + 1) (fun gq i w' => ∃ (k : Nat), k ≤ p.resets.length ∧ i = .int .i64 k ∧ Aside0 (gq = p.resets.length + 1 - k) ∧ Aside0 (resetsOk p.times (prevOf 0 0 p.resets k) (p.resets.drop k) = bb) ∧ Aside0 (Below w.heap.size w w' ∧ Below w1.heap.size w1 w'))
  case atStart => exact ⟨0, Nat.zero_le _, rfl, ⟨rfl⟩, ⟨by rw [← HBB.out]; rfl⟩, ⟨BL1.out, Below.refl _ _⟩⟩
  case round =>
    obtain ⟨k, hk, rfl, hgq, hq, hbl⟩ := hrel
    have HB3 := Aside0.mk (blk_below HB1.out hbl.out.2)
    obtain ⟨-, -, -, -, -, q5, -, -, q8, -⟩ := pc_cells HB3.out
    by_cases hlt : k < p.resets.length
    · obtain ⟨ad, x, y, e0, hrow, q0', q1', wx, wy⟩ := two_at (HR.out.below hbl.out.1) k hlt
      subst e0
      have hcs := hq.out
      rw [drop_row hrow] at hcs
      simp only [resetsOk] at hcs
      simp only [List.getD_cons_zero, List.getD_cons_succ] at hcs
      have hprev := prevOf_succ (d := 0) (j := 0) hrow
      have hprev1 := prevOf_succ (d := 0) (j := 1) hrow
      simp only [List.getD_cons_zero, List.getD_cons_succ] at hprev hprev1
      have HPREV := Aside0.mk hprev
      have HPREV1 := Aside0.mk hprev1
      have adlt := cell_ltR q0'
      obtain ⟨bx0, bx1⟩ := wf_bd wx
      obtain ⟨by0, by1⟩ := wf_bd wy
      have g1l := blk_lt HB3.out
      have kk0 : (0 : Int) ≤ (k : Int) := by omega
      have kk1 : (k : Int) < (p.resets.length : Int) := by omega
      have QP : Aside0 (0 < k → ∃ x' y', p.resets[k - 1]? = some [x', y'] ∧ wr.cell? (ad.add ((k - 1) * 2)) = some (.int .i64 x') ∧ wr.cell? ⟨(ad.add ((k - 1) * 2)).block, (ad.add ((k - 1) * 2)).off + 1, none⟩ = some (.int .i64 y')) := ⟨fun h0 => by
        obtain ⟨ad', x', y', e', hrow', c', d', _⟩ := two_at (HR.out.below hbl.out.1) (k - 1) (by omega)
        obtain rfl : ad = ad' := Option.some.inj e'
        exact ⟨x', y', hrow', c', d'⟩⟩
      clear hq hrow hprev hprev1 wx wy
      go_wp2_with ((with_reducible refine gate_dst (N := 4) rfl ?_); refine copy_event rfl (N := 4) rfl rfl rfl (t := 100) (v := .tmp 16) rfl (cs := #[.int .i64 x, .int .i64 y]) (zs := #[.int .i64 0, .int .i64 0]) ?hr rfl rfl info_reset ?hz (two_one _ _) ?_; (case hr => first | (go_simp; done) | (go_simp; rfl)); (case hz => rfl); intro g4 hg w4 hb4 hbl4; have g4lt := blk_lt hb4; clear hg)
      go_frame
      have z0 : w4.cell? ⟨g4, 0, none⟩ = some (.int .i64 x) := (blk_cell hb4 0).trans rfl
      have z1 : w4.cell? ⟨g4, 1, none⟩ = some (.int .i64 y) := (blk_cell hb4 1).trans rfl
      have HB5 := Aside0.mk (blk_below HB3.out hbl4)
      have QP4 : Aside0 (0 < k → ∃ x' y', p.resets[k - 1]? = some [x', y'] ∧ w4.cell? (ad.add ((k - 1) * 2)) = some (.int .i64 x') ∧ w4.cell? ⟨(ad.add ((k - 1) * 2)).block, (ad.add ((k - 1) * 2)).off + 1, none⟩ = some (.int .i64 y')) := ⟨fun h0 => by
        obtain ⟨x', y', h1, h2, h3⟩ := QP.out h0
        exact ⟨x', y', h1, by rw [hbl4.cell (cell_ltR h2)]; exact h2, by rw [hbl4.cell (cell_ltR h3)]; exact h3⟩⟩
      have BL4 := Aside0.mk (And.intro (below_step hbl.out.1 hbl4) (below_step hbl.out.2 hbl4))
      clear hb4 hbl4 hbl HB3 QP q0' q1' q5 q8
      obtain ⟨-, -, -, -, -, q5, -, -, q8, -⟩ := pc_cells HB5.out
      have ew1 : IntKind.i64.wrap (p.times - 1) = p.times - 1 := IntWalk.i64_in _ (by omega)
      by_cases h1 : 1 ≤ x ∧ x ≤ p.times - 1
      · have H1 := Aside0.mk (decide_eq_true h1)
        by_cases h2 : 0 ≤ y ∧ y ≤ 1000000000
        · have H2 := Aside0.mk (decide_eq_true h2)
          by_cases h0 : k = 0
          · have hb2 : resetsOk p.times x (p.resets.drop (k + 1)) = bb := by
              rw [← hcs, decide_eq_true (show 1 ≤ x ∧ x ≤ p.times - 1 ∧ 0 ≤ y ∧ y ≤ 1000000000 ∧ prevOf 0 0 p.resets k < x from ⟨h1.1, h1.2, h2.1, h2.2, by have := h1.1; unfold prevOf; rw [if_pos h0]; omega⟩), Bool.true_and]
            have HB2' := Aside0.mk hb2
            have kz : decide (0 < k) = false := decide_eq_false (by omega)
            have kz2 : decide ((0 : Int) < (k : Int)) = false := decide_eq_false (by omega)
            clear hcs hb2 h1 h2 h0
            go_quiet ((first
              | (go_at_call 27; (with_reducible refine (within_r_is (v := x) H1.out _).mono ?_); rintro e w' ⟨rfl, rfl⟩; exact ⟨rfl, _, rfl⟩)
              | (go_at_call 27; (with_reducible refine (within_r_is (v := y) H2.out _).mono ?_); rintro e w' ⟨rfl, rfl⟩; exact ⟨rfl, _, rfl⟩)))
            go_wp2_with fail
            go_roundg (p.resets.length + 1 - (k + 1))
            case measure => have := hgq.out; omega
            case rel => exact ⟨k + 1, by omega, by simp, ⟨rfl⟩, ⟨by rw [HPREV.out]; exact HB2'.out⟩, ⟨pw_below_drewN BL4.out.1 _, pw_below_drewN BL4.out.2 _⟩⟩
          · obtain ⟨x', y', hrow', c', d'⟩ := QP4.out (by omega)
            have hpv := prevOf_pos (d := 0) (j := 0) (Nat.pos_of_ne_zero h0) hrow'
            simp only [List.getD_cons_zero] at hpv
            have kz : decide (0 < k) = true := decide_eq_true (by omega)
            have kz2 : decide ((0 : Int) < (k : Int)) = true := decide_eq_true (by omega)
            have ew2 : IntKind.i64.wrap ((k : Int) - 1) = (k : Int) - 1 := IntWalk.i64_in _ (by omega)
            have kk2 : (0 : Int) ≤ (k : Int) - 1 := by omega
            have kk3 : (k : Int) - 1 < (p.resets.length : Int) := by omega
            have kk4 : (1 : Int) ≤ (k : Int) := by omega
            have ek : ((k : Int) - 1).toNat = k - 1 := by omega
            by_cases h3 : x' < x
            · have hb2 : resetsOk p.times x (p.resets.drop (k + 1)) = bb := by
                rw [← hcs, decide_eq_true (show 1 ≤ x ∧ x ≤ p.times - 1 ∧ 0 ≤ y ∧ y ≤ 1000000000 ∧ prevOf 0 0 p.resets k < x from ⟨h1.1, h1.2, h2.1, h2.2, by rw [hpv]; exact h3⟩), Bool.true_and]
              have HB2' := Aside0.mk hb2
              have h5 : decide (x ≤ x') = false := decide_eq_false (by omega)
              clear hcs hb2 h1 h2 h0 hpv hrow'
              go_quiet ((first
                | (go_at_call 27; (with_reducible refine (within_r_is (v := x) H1.out _).mono ?_); rintro e w' ⟨rfl, rfl⟩; exact ⟨rfl, _, rfl⟩)
                | (go_at_call 27; (with_reducible refine (within_r_is (v := y) H2.out _).mono ?_); rintro e w' ⟨rfl, rfl⟩; exact ⟨rfl, _, rfl⟩)))
              clear ew1 ew2 ek
              go_wp2_with fail
              go_roundg (p.resets.length + 1 - (k + 1))
              case measure => have := hgq.out; omega
              case rel => exact ⟨k + 1, by omega, by simp, ⟨rfl⟩, ⟨by rw [HPREV.out]; exact HB2'.out⟩, ⟨pw_below_drewN BL4.out.1 _, pw_below_drewN BL4.out.2 _⟩⟩
            · have hbf : bb = false := by
                rw [← hcs, decide_eq_false (fun h => h3 (by have := h.2.2.2.2; rw [hpv] at this; exact this)), Bool.false_and]
              subst hbf
              have h5 : decide (x ≤ x') = true := decide_eq_true (by omega)
              clear hcs h1 h2 h0 hpv hrow' h3
              go_quiet ((first
                | (go_at_call 27; (with_reducible refine (within_r_is (v := x) H1.out _).mono ?_); rintro e w' ⟨rfl, rfl⟩; exact ⟨rfl, _, rfl⟩)
                | (go_at_call 27; (with_reducible refine (within_r_is (v := y) H2.out _).mono ?_); rintro e w' ⟨rfl, rfl⟩; exact ⟨rfl, _, rfl⟩)))
              clear ew1 ew2 ek
              go_wp2_with fail
              go_ret
              exact ⟨by simp, pw_below_drewN BL4.out.1 _⟩
        · have hbf : bb = false := by
            rw [← hcs, decide_eq_false (fun h => h2 ⟨h.2.2.1, h.2.2.2.1⟩), Bool.false_and]
          subst hbf
          have H2 := Aside0.mk (decide_eq_false h2)
          clear hcs h1 h2
          go_quiet ((first
            | (go_at_call 27; (with_reducible refine (within_r_is (v := x) H1.out _).mono ?_); rintro e w' ⟨rfl, rfl⟩; exact ⟨rfl, _, rfl⟩)
            | (go_at_call 27; (with_reducible refine (within_r_is (v := y) H2.out _).mono ?_); rintro e w' ⟨rfl, rfl⟩; exact ⟨rfl, _, rfl⟩)))
          go_wp2_with fail
          go_ret
          exact ⟨by simp, pw_below_drewN BL4.out.1 _⟩
      · have hbf : bb = false := by
          rw [← hcs, decide_eq_false (fun h => h1 ⟨h.1, h.2.1⟩), Bool.false_and]
        subst hbf
        have H1 := Aside0.mk (decide_eq_false h1)
        clear hcs h1
        go_quiet ((first
          | (go_at_call 27; (with_reducible refine (within_r_is (v := x) H1.out _).mono ?_); rintro e w' ⟨rfl, rfl⟩; exact ⟨rfl, _, rfl⟩)
          | (go_at_call 27; (with_reducible refine (within_r_is (v := x) H1.out _).mono ?_); rintro e w' ⟨rfl, rfl⟩; exact ⟨rfl, _, rfl⟩)))
        go_wp2_with fail
        go_ret
        exact ⟨by simp, pw_below_drewN BL4.out.1 _⟩
    · have hk2 : k = p.resets.length := by omega
      subst hk2
      have hcs := hq.out
      rw [List.drop_length] at hcs
      obtain rfl : true = bb := hcs
      clear hq
      go_wp2_with fail
      go_ret
      exact ⟨by simp; try omega, hbl.out.1⟩

set_option maxRecDepth 100000 in
set_option maxHeartbeats 2000000 in
theorem rtiers_1 (p : Prod) (A1 : Option Addr) (c1 : Nat) (A2 : Option Addr) (c2 : Nat) (A3 : Option Addr) (c3 : Nat) (w : World) (hr : Op.IntRows w A2 2 p.late) (hm : p.late.length ≤ 140737488355328) (bb : Bool) (hbb : tiersOk 0 0 p.late = bb) (r : Bool) (hrr : (decide (p.late.length ≤ 8 ∧ (0 ≤ p.cap ∧ p.cap ≤ 10000000000000) ∧ (p.late = [] → p.cap = 0)) && bb) = r) :
    Calls Tryz.prog 31 #[pv p A1 c1 A2 c2 A3 c3] w fun e w' => e = .returned (.bool r) ∧ Below w.heap.size w w' := by
  have HR := Aside0.mk hr
  have HBB := Aside0.mk hbb
  have HRR := Aside0.mk hrr
  clear hr hbb hrr
  go_enter Tryz.func31, Tryz.ntmps31
  go_wp2_with ((with_reducible refine gate_dst (N := 1) rfl ?_); refine box_event ?hg (N := 1) ?hd (cs := pcs p A1 c1 A2 c2 A3 c3) (t := 27) ?hr ?_; (case hd => rfl); (case hg => rfl); (case hr => first | (go_simp; done) | (go_simp; rfl)); intro g1 hg w1 hb1 hbl1; clear hg; have HB1 := Aside0.mk hb1; have BL1 := Aside0.mk hbl1; clear hb1 hbl1)
  go_loopg [3] (p.late.length + 1) (fun gq i w' => ∃ (k : Nat), k ≤ p.late.length ∧ i = .int .i64 k ∧ Aside0 (gq = p.late.length + 1 - k) ∧ Aside0 (tiersOk (prevOf 0 0 p.late k) (prevOf 0 1 p.late k) (p.late.drop k) = bb) ∧ Aside0 (Below w.heap.size w w' ∧ Below w1.heap.size w1 w'))
  case atStart => exact ⟨0, Nat.zero_le _, rfl, ⟨rfl⟩, ⟨by rw [← HBB.out]; rfl⟩, ⟨BL1.out, Below.refl _ _⟩⟩
  case round =>
    obtain ⟨k, hk, rfl, hgq, hq, hbl⟩ := hrel
    have HB3 := Aside0.mk (blk_below HB1.out hbl.out.2)
    obtain ⟨-, -, -, -, -, -, -, -, -, -, -, -, -, -, -, q15, q16, -⟩ := pc_cells HB3.out
    by_cases hlt : k < p.late.length
    · obtain ⟨ad, x, y, e0, hrow, q0', q1', wx, wy⟩ := two_at (HR.out.below hbl.out.1) k hlt
      subst e0
      have hcs := hq.out
      rw [drop_row hrow] at hcs
      simp only [tiersOk] at hcs
      simp only [List.getD_cons_zero, List.getD_cons_succ] at hcs
      have hprev := prevOf_succ (d := 0) (j := 0) hrow
      have hprev1 := prevOf_succ (d := 0) (j := 1) hrow
      simp only [List.getD_cons_zero, List.getD_cons_succ] at hprev hprev1
      have HPREV := Aside0.mk hprev
      have HPREV1 := Aside0.mk hprev1
      have adlt := cell_ltR q0'
      obtain ⟨bx0, bx1⟩ := wf_bd wx
      obtain ⟨by0, by1⟩ := wf_bd wy
      have g1l := blk_lt HB3.out
      have kk0 : (0 : Int) ≤ (k : Int) := by omega
      have kk1 : (k : Int) < (p.late.length : Int) := by omega
      have QP : Aside0 (0 < k → ∃ x' y', p.late[k - 1]? = some [x', y'] ∧ wr.cell? (ad.add ((k - 1) * 2)) = some (.int .i64 x') ∧ wr.cell? ⟨(ad.add ((k - 1) * 2)).block, (ad.add ((k - 1) * 2)).off + 1, none⟩ = some (.int .i64 y')) := ⟨fun h0 => by
        obtain ⟨ad', x', y', e', hrow', c', d', _⟩ := two_at (HR.out.below hbl.out.1) (k - 1) (by omega)
        obtain rfl : ad = ad' := Option.some.inj e'
        exact ⟨x', y', hrow', c', d'⟩⟩
      clear hq hrow hprev hprev1 wx wy
      go_wp2_with ((with_reducible refine gate_dst (N := 4) rfl ?_); refine copy_event rfl (N := 4) rfl rfl rfl (t := 102) (v := .tmp 16) rfl (cs := #[.int .i64 x, .int .i64 y]) (zs := #[.int .i64 0, .int .i64 0]) ?hr rfl rfl info_tier ?hz (two_one _ _) ?_; (case hr => first | (go_simp; done) | (go_simp; rfl)); (case hz => rfl); intro g4 hg w4 hb4 hbl4; have g4lt := blk_lt hb4; clear hg)
      go_frame
      have z0 : w4.cell? ⟨g4, 0, none⟩ = some (.int .i64 x) := (blk_cell hb4 0).trans rfl
      have z1 : w4.cell? ⟨g4, 1, none⟩ = some (.int .i64 y) := (blk_cell hb4 1).trans rfl
      have HB5 := Aside0.mk (blk_below HB3.out hbl4)
      have QP4 : Aside0 (0 < k → ∃ x' y', p.late[k - 1]? = some [x', y'] ∧ w4.cell? (ad.add ((k - 1) * 2)) = some (.int .i64 x') ∧ w4.cell? ⟨(ad.add ((k - 1) * 2)).block, (ad.add ((k - 1) * 2)).off + 1, none⟩ = some (.int .i64 y')) := ⟨fun h0 => by
        obtain ⟨x', y', h1, h2, h3⟩ := QP.out h0
        exact ⟨x', y', h1, by rw [hbl4.cell (cell_ltR h2)]; exact h2, by rw [hbl4.cell (cell_ltR h3)]; exact h3⟩⟩
      have BL4 := Aside0.mk (And.intro (below_step hbl.out.1 hbl4) (below_step hbl.out.2 hbl4))
      clear hb4 hbl4 hbl HB3 QP q0' q1' q15 q16
      obtain ⟨-, -, -, -, -, -, -, -, -, -, -, -, -, -, -, q15, q16, -⟩ := pc_cells HB5.out
      by_cases h1 : 1 ≤ x ∧ x ≤ 365
      · have H1 := Aside0.mk (decide_eq_true h1)
        by_cases h2 : 0 ≤ y ∧ y ≤ 10000000000000
        · have H2 := Aside0.mk (decide_eq_true h2)
          by_cases h0 : k = 0
          · have hb2 : tiersOk x y (p.late.drop (k + 1)) = bb := by
              rw [← hcs, decide_eq_true (show 1 ≤ x ∧ x ≤ 365 ∧ 0 ≤ y ∧ y ≤ 10000000000000 ∧ prevOf 0 0 p.late k < x ∧ prevOf 0 1 p.late k ≤ y from ⟨h1.1, h1.2, h2.1, h2.2, by have := h1.1; unfold prevOf; rw [if_pos h0]; omega, by have := h2.1; unfold prevOf; rw [if_pos h0]; omega⟩), Bool.true_and]
            have HB2' := Aside0.mk hb2
            have kz : decide (0 < k) = false := decide_eq_false (by omega)
            have kz2 : decide ((0 : Int) < (k : Int)) = false := decide_eq_false (by omega)
            clear hcs hb2 h1 h2 h0
            go_quiet ((first
              | (go_at_call 27; (with_reducible refine (within_r_is (v := x) H1.out _).mono ?_); rintro e w' ⟨rfl, rfl⟩; exact ⟨rfl, _, rfl⟩)
              | (go_at_call 27; (with_reducible refine (within_r_is (v := y) H2.out _).mono ?_); rintro e w' ⟨rfl, rfl⟩; exact ⟨rfl, _, rfl⟩)))
            go_wp2_with fail
            go_roundg (p.late.length + 1 - (k + 1))
            case measure => have := hgq.out; omega
            case rel => exact ⟨k + 1, by omega, by simp, ⟨rfl⟩, ⟨by rw [HPREV.out, HPREV1.out]; exact HB2'.out⟩, ⟨pw_below_drewN BL4.out.1 _, pw_below_drewN BL4.out.2 _⟩⟩
          · obtain ⟨x', y', hrow', c', d'⟩ := QP4.out (by omega)
            have hpv := prevOf_pos (d := 0) (j := 0) (Nat.pos_of_ne_zero h0) hrow'
            have hpw := prevOf_pos (d := 0) (j := 1) (Nat.pos_of_ne_zero h0) hrow'
            simp only [List.getD_cons_zero, List.getD_cons_succ] at hpv hpw
            have kz : decide (0 < k) = true := decide_eq_true (by omega)
            have kz2 : decide ((0 : Int) < (k : Int)) = true := decide_eq_true (by omega)
            have ew2 : IntKind.i64.wrap ((k : Int) - 1) = (k : Int) - 1 := IntWalk.i64_in _ (by omega)
            have kk2 : (0 : Int) ≤ (k : Int) - 1 := by omega
            have kk3 : (k : Int) - 1 < (p.late.length : Int) := by omega
            have kk4 : (1 : Int) ≤ (k : Int) := by omega
            have ek : ((k : Int) - 1).toNat = k - 1 := by omega
            by_cases h3 : x' < x
            · have h5 : decide (x ≤ x') = false := decide_eq_false (by omega)
              by_cases h4 : y' ≤ y
              · have h6 : decide (y < y') = false := decide_eq_false (by omega)
                have hb2 : tiersOk x y (p.late.drop (k + 1)) = bb := by
                  rw [← hcs, decide_eq_true (show 1 ≤ x ∧ x ≤ 365 ∧ 0 ≤ y ∧ y ≤ 10000000000000 ∧ prevOf 0 0 p.late k < x ∧ prevOf 0 1 p.late k ≤ y from ⟨h1.1, h1.2, h2.1, h2.2, by rw [hpv]; exact h3, by rw [hpw]; exact h4⟩), Bool.true_and]
                have HB2' := Aside0.mk hb2
                clear hcs hb2 h1 h2 h0 hpv hpw hrow'
                go_quiet ((first
                  | (go_at_call 27; (with_reducible refine (within_r_is (v := x) H1.out _).mono ?_); rintro e w' ⟨rfl, rfl⟩; exact ⟨rfl, _, rfl⟩)
                  | (go_at_call 27; (with_reducible refine (within_r_is (v := y) H2.out _).mono ?_); rintro e w' ⟨rfl, rfl⟩; exact ⟨rfl, _, rfl⟩)))
                clear ew2 ek
                go_wp2_with fail
                go_roundg (p.late.length + 1 - (k + 1))
                case measure => have := hgq.out; omega
                case rel => exact ⟨k + 1, by omega, by simp, ⟨rfl⟩, ⟨by rw [HPREV.out, HPREV1.out]; exact HB2'.out⟩, ⟨pw_below_drewN BL4.out.1 _, pw_below_drewN BL4.out.2 _⟩⟩
              · have h6 : decide (y < y') = true := decide_eq_true (by omega)
                have hbf : bb = false := by
                  rw [← hcs, decide_eq_false (fun h => h4 (by have := h.2.2.2.2.2; rw [hpw] at this; exact this)), Bool.false_and]
                subst hbf
                have hrf : r = false := by rw [← HRR.out, Bool.and_false]
                subst hrf
                clear hcs h1 h2 h0 hpv hpw hrow' h4
                go_quiet ((first
                  | (go_at_call 27; (with_reducible refine (within_r_is (v := x) H1.out _).mono ?_); rintro e w' ⟨rfl, rfl⟩; exact ⟨rfl, _, rfl⟩)
                  | (go_at_call 27; (with_reducible refine (within_r_is (v := y) H2.out _).mono ?_); rintro e w' ⟨rfl, rfl⟩; exact ⟨rfl, _, rfl⟩)))
                clear ew2 ek
                go_wp2_with fail
                go_ret
                exact ⟨rfl, pw_below_drewN BL4.out.1 _⟩
            · have hbf : bb = false := by
                rw [← hcs, decide_eq_false (fun h => h3 (by have := h.2.2.2.2.1; rw [hpv] at this; exact this)), Bool.false_and]
              have h5 : decide (x ≤ x') = true := decide_eq_true (by omega)
              subst hbf
              have hrf : r = false := by rw [← HRR.out, Bool.and_false]
              subst hrf
              clear hcs h1 h2 h0 hpv hpw hrow' h3
              go_quiet ((first
                | (go_at_call 27; (with_reducible refine (within_r_is (v := x) H1.out _).mono ?_); rintro e w' ⟨rfl, rfl⟩; exact ⟨rfl, _, rfl⟩)
                | (go_at_call 27; (with_reducible refine (within_r_is (v := y) H2.out _).mono ?_); rintro e w' ⟨rfl, rfl⟩; exact ⟨rfl, _, rfl⟩)))
              clear ew2 ek
              go_wp2_with fail
              go_ret
              exact ⟨rfl, pw_below_drewN BL4.out.1 _⟩
        · have hbf : bb = false := by
            rw [← hcs, decide_eq_false (fun h => h2 ⟨h.2.2.1, h.2.2.2.1⟩), Bool.false_and]
          have H2 := Aside0.mk (decide_eq_false h2)
          subst hbf
          have hrf : r = false := by rw [← HRR.out, Bool.and_false]
          subst hrf
          clear hcs h1 h2
          go_quiet ((first
            | (go_at_call 27; (with_reducible refine (within_r_is (v := x) H1.out _).mono ?_); rintro e w' ⟨rfl, rfl⟩; exact ⟨rfl, _, rfl⟩)
            | (go_at_call 27; (with_reducible refine (within_r_is (v := y) H2.out _).mono ?_); rintro e w' ⟨rfl, rfl⟩; exact ⟨rfl, _, rfl⟩)))
          go_wp2_with fail
          go_ret
          exact ⟨rfl, pw_below_drewN BL4.out.1 _⟩
      · have hbf : bb = false := by
          rw [← hcs, decide_eq_false (fun h => h1 ⟨h.1, h.2.1⟩), Bool.false_and]
        have H1 := Aside0.mk (decide_eq_false h1)
        subst hbf
        have hrf : r = false := by rw [← HRR.out, Bool.and_false]
        subst hrf
        clear hcs h1
        go_quiet ((first
          | (go_at_call 27; (with_reducible refine (within_r_is (v := x) H1.out _).mono ?_); rintro e w' ⟨rfl, rfl⟩; exact ⟨rfl, _, rfl⟩)
          | (go_at_call 27; (with_reducible refine (within_r_is (v := x) H1.out _).mono ?_); rintro e w' ⟨rfl, rfl⟩; exact ⟨rfl, _, rfl⟩)))
        go_wp2_with fail
        go_ret
        exact ⟨rfl, pw_below_drewN BL4.out.1 _⟩
    · have hk2 : k = p.late.length := by omega
      have hcs := hq.out
      rw [hk2, List.drop_length] at hcs
      obtain rfl : true = bb := hcs
      have hr2 := HRR.out
      rw [Bool.and_true] at hr2
      clear hq hk
      have q0' : decide (k < p.late.length) = false := decide_eq_false hlt
      by_cases hn : p.late.length ≤ 8
      · have n8 : decide ((p.late.length : Int) ≤ 8) = true := decide_eq_true (by omega)
        by_cases ha : 0 ≤ p.cap ∧ p.cap ≤ 10000000000000
        · have HA := Aside0.mk (decide_eq_true ha)
          by_cases h0 : p.cap = 0
          · have e1 : (p.cap == 0) = true := beqt h0
            rw [decide_eq_true (show _ from ⟨hn, ha, fun _ => h0⟩)] at hr2
            subst hr2
            clear ha h0 hk2
            go_wp2_with ((go_at_call 27; refine (within_r_is HA.out _).mono ?_; rintro e w' ⟨rfl, rfl⟩))
            go_ret
            exact ⟨rfl, hbl.out.1⟩
          · have e1 : (p.cap == 0) = false := beqf h0
            by_cases hz : 0 < p.late.length
            · have z1 : decide (0 < p.late.length) = true := decide_eq_true hz
              have z2 : decide ((0 : Int) < (p.late.length : Int)) = true := decide_eq_true (by omega)
              rw [decide_eq_true (show _ from ⟨hn, ha, fun h => by rw [h] at hz; exact absurd hz (Nat.lt_irrefl 0)⟩)] at hr2
              subst hr2
              clear ha h0 hk2
              go_wp2_with ((go_at_call 27; refine (within_r_is HA.out _).mono ?_; rintro e w' ⟨rfl, rfl⟩))
              go_ret
              exact ⟨rfl, hbl.out.1⟩
            · have z1 : decide (0 < p.late.length) = false := decide_eq_false hz
              have z2 : decide ((0 : Int) < (p.late.length : Int)) = false := decide_eq_false (by omega)
              rw [decide_eq_false (fun h => h0 (h.2.2 (List.eq_nil_of_length_eq_zero (by omega))))] at hr2
              subst hr2
              clear ha h0 hk2 hz
              go_wp2_with ((go_at_call 27; refine (within_r_is HA.out _).mono ?_; rintro e w' ⟨rfl, rfl⟩))
              go_ret
              exact ⟨by first | rfl | (simp; try omega), hbl.out.1⟩
        · have HA := Aside0.mk (decide_eq_false ha)
          rw [decide_eq_false (fun h => ha h.2.1)] at hr2
          subst hr2
          clear ha hk2
          go_wp2_with ((go_at_call 27; refine (within_r_is HA.out _).mono ?_; rintro e w' ⟨rfl, rfl⟩))
          go_ret
          exact ⟨rfl, hbl.out.1⟩
      · have n8 : decide ((p.late.length : Int) ≤ 8) = false := decide_eq_false (by omega)
        rw [decide_eq_false (fun h => hn h.1)] at hr2
        subst hr2
        clear hk2 hn
        go_wp2_with fail
        go_ret
        exact ⟨rfl, hbl.out.1⟩

set_option maxRecDepth 100000 in
set_option maxHeartbeats 1000000 in
theorem rright_1 (A : Option Addr) (c : Nat) (l : List Int) (w : World) (hr : Kd.C (Kd.int .i64) w A l.length l) (hm : l.length ≤ 140737488355328) (bb : Bool) (hbb : Nw.rises (-25568) l = bb) :
    Calls Tryz.prog 32 #[.slice A l.length c] w fun e w' => e = .returned (.bool (bb && decide (l.length ≤ 200))) ∧ Drawn0 w w' := by
  have HR := Aside0.mk hr
  have HBB := Aside0.mk hbb
  clear hr hbb
  go_enter Tryz.func32, Tryz.ntmps32
  go_wp2_with fail
  go_loopg [3] (l.length + 1) (fun gq i w' => ∃ (k : Nat) (q : Int), k ≤ l.length ∧ i = .int .i64 k ∧ Aside0 (gq = l.length + 1 - k) ∧ Aside0 (k = 0 ∧ q = -25568 ∨ 0 < k ∧ q = rd l ((k : Int) - 1)) ∧ Aside0 (Nw.rises q (l.drop k) = bb) ∧ Drawn0 w w')
  case atStart => exact ⟨0, -25568, Nat.zero_le _, rfl, ⟨rfl⟩, ⟨Or.inl ⟨rfl, rfl⟩⟩, ⟨by rw [← HBB.out]; rfl⟩, Drawn0.refl _⟩
  case round =>
    obtain ⟨k, q, hk, rfl, hg, hp, hq, ⟨m1, rfl⟩⟩ := hrel
    by_cases hlt : k < l.length
    · obtain ⟨ad, e0, hx0⟩ := Kd.at_int HR.out (k : Int) (by omega) (by omega)
      subst e0
      rw [Int.toNat_natCast] at hx0
      have hrc := hq.out
      rw [Nw.rd_cons l k hlt] at hrc
      simp only [Nw.rises] at hrc
      have HX : Aside0 (∀ j : Nat, j < l.length → w.cell? (ad.add j) = some (.int .i64 (rd l (j : Int)))) := ⟨fun j hj => by
        obtain ⟨ad', e', hx'⟩ := Kd.at_int HR.out (j : Int) (by omega) (by omega)
        obtain rfl : ad = ad' := Option.some.inj e'
        rw [Int.toNat_natCast] at hx'
        exact hx'⟩
      have kk0 : (0 : Int) ≤ (k : Int) := by omega
      have kk1 : (k : Int) < (l.length : Int) := by omega
      by_cases hd : Nw.isDay (rd l (k : Int))
      · have d1 := decide_eq_true hd
        rw [d1, Bool.true_and] at hrc
        have HD := Aside0.mk (show decide (-25567 ≤ rd l (k : Int) ∧ rd l (k : Int) ≤ 84370) = true from decide_eq_true hd)
        rcases (by omega : k = 0 ∨ 0 < k) with h0 | h0
        · have hp0 : q = -25568 := by rcases hp.out with h | h <;> omega
          have hlt2 : decide (q < rd l (k : Int)) = true := decide_eq_true (by have := hd.1; omega)
          rw [hlt2, Bool.true_and] at hrc
          have HQ := Aside0.mk hrc
          have kz : decide (0 < k) = false := decide_eq_false (by omega)
          have kz2 : decide ((0 : Int) < (k : Int)) = false := decide_eq_false (by omega)
          clear hrc hq hd hlt2 hp0 hp h0 d1
          go_wp2_with fail
          go_quiet ((go_at_call 39; refine (is_is HD.out _).mono ?_; rintro e w' ⟨rfl, rfl⟩; exact ⟨rfl, _, rfl⟩))
          go_wp2_with fail
          go_roundg (l.length + 1 - (k + 1))
          case measure => have := hg.out; omega
          case rel => exact ⟨k + 1, rd l (k : Int), by omega, by simp, ⟨rfl⟩, ⟨Or.inr ⟨by omega, by congr 1; omega⟩⟩, HQ, ⟨_, rfl⟩⟩
        · have hx1 := HX.out (k - 1) (by omega)
          have hp1 : q = rd l (((k - 1 : Nat) : Int)) := by
            rcases hp.out with h | h
            · omega
            · rw [h.2]; congr 1; omega
          have ecast : (((k - 1 : Nat) : Int)) = (k : Int) - 1 := by omega
          rw [ecast] at hx1 hp1
          have kz : decide (0 < k) = true := decide_eq_true (by omega)
          have kz2 : decide ((0 : Int) < (k : Int)) = true := decide_eq_true (by omega)
          have ew2 : IntKind.i64.wrap ((k : Int) - 1) = (k : Int) - 1 := IntWalk.i64_in _ (by omega)
          have kk2 : (0 : Int) ≤ (k : Int) - 1 := by omega
          have kk3 : (k : Int) - 1 < (l.length : Int) := by omega
          have kk4 : (1 : Int) ≤ (k : Int) := by omega
          have ek : ((k : Int) - 1).toNat = k - 1 := by omega
          by_cases hlt2 : q < rd l (k : Int)
          · rw [decide_eq_true hlt2, Bool.true_and] at hrc
            have HQ := Aside0.mk hrc
            have hle2 : decide (rd l (k : Int) ≤ rd l ((k : Int) - 1)) = false := decide_eq_false (by omega)
            clear hrc hq hd hlt2 hp1 hp d1 ecast
            go_wp2_with fail
            go_quiet ((go_at_call 39; refine (is_is HD.out _).mono ?_; rintro e w' ⟨rfl, rfl⟩; exact ⟨rfl, _, rfl⟩))
            clear ew2 ek
            go_wp2_with fail
            go_roundg (l.length + 1 - (k + 1))
            case measure => have := hg.out; omega
            case rel => exact ⟨k + 1, rd l (k : Int), by omega, by simp, ⟨rfl⟩, ⟨Or.inr ⟨by omega, by congr 1; omega⟩⟩, HQ, ⟨_, rfl⟩⟩
          · rw [decide_eq_false hlt2, Bool.false_and] at hrc
            subst hrc
            have hle2 : decide (rd l (k : Int) ≤ rd l ((k : Int) - 1)) = true := decide_eq_true (by omega)
            clear hq hd hlt2 hp1 hp d1 ecast
            go_wp2_with fail
            go_quiet ((go_at_call 39; refine (is_is HD.out _).mono ?_; rintro e w' ⟨rfl, rfl⟩; exact ⟨rfl, _, rfl⟩))
            clear ew2 ek
            go_wp2_with fail
            go_ret
            exact ⟨by simp, (show Drawn0 w (w.drewN m1) from ⟨m1, rfl⟩).step _⟩
      · have d1 := decide_eq_false hd
        rw [d1, Bool.false_and] at hrc
        subst hrc
        have HD := Aside0.mk (show decide (-25567 ≤ rd l (k : Int) ∧ rd l (k : Int) ≤ 84370) = false from decide_eq_false hd)
        clear hd hq d1
        go_wp2_with fail
        go_quiet ((go_at_call 39; refine (is_is HD.out _).mono ?_; rintro e w' ⟨rfl, rfl⟩; exact ⟨rfl, _, rfl⟩))
        go_wp2_with fail
        go_ret
        exact ⟨by simp, (show Drawn0 w (w.drewN m1) from ⟨m1, rfl⟩).step _⟩
    · have hk2 : k = l.length := by omega
      subst hk2
      have hrc := hq.out
      rw [List.drop_length] at hrc
      obtain rfl : true = bb := hrc
      clear hq
      go_wp2_with fail
      go_ret
      exact ⟨by simp; try omega, ⟨_, rfl⟩⟩
end Go.Proofs.YtbbbjjfecblhpaaGreat.Pd
/- Contracts by hand: the document's look at a product. -/
namespace Go.Proofs.YtbbbjjfecblhpaaGreat.Pd
open Go.RowKit Go.Proofs.YtbbbjjfecblhpaaGreatW.PrintWords Go.Proofs.YtbbbjjfecblhpaaGreatW.PrintLast Go.Proofs.YtbbbjjfecblhpaaGreatW.PrintMore Go.Proofs.YtbbbjjfecblhpaaGreat.HW
open Pm
set_option linter.unusedVariables false
set_option linter.unusedSimpArgs false
theorem load_want {P : Program} {ops : Array Oper} {rest : List Oper} {o : Oper} {a : Act} {w : World} {Q : Exit → Act → World → Prop} (hw : Region.wanted o (yielded ops a.tmps) = true) (ty : TypeId) (x : Operand) (ho : o.op = .load ty x)
    (g : Nat) (hx : a.eval x = .pointer (some ⟨g, 0, none⟩)) (t : TypeId) (cs : Array Value) (fr : Nat × Nat) (d : TypeDesc) (hg : w.heap[g]? = some (.cells cs t fr))
    (hu : P.underlying ty = some d) (hd : (match d with | .struct _ | .array _ _ => true | _ => false) = true) (hi : (P.info? ty).map (·.size) = some cs.size)
    (h : wpList P ops Q rest (a.put o.dst (.agg cs)) w) : wpList P ops Q (o :: rest) a w :=
  Go.BigFrame.wpList_want hw fun _ hK => wp_load_row ty x ho g hx t cs fr d hg hu hd hi (hK _ _ h)
theorem in_six (g : Nat) (c : Nat) (x : Int) (r : Bool) (h : [(1 : Int), 2, 3, 4, 6, 12].contains x = r) (w : World) (hb : w.heap[g]? = some (.cells #[.int .i64 1, .int .i64 2, .int .i64 3, .int .i64 4, .int .i64 6, .int .i64 12] 3 (0, 0))) :
    Calls Tryz.prog 28 #[.slice (some ⟨g, 0, none⟩) 6 c, .int .i64 x] w fun e w' => e = .returned (.bool r) ∧ w = w' := by
  have := in_int g [1, 2, 3, 4, 6, 12] c 3 x w hb (by decide)
  rw [h] at this
  exact this

theorem times_b2 {b1 : Bool} {p : Prod} (h : true = (b1 && [(1 : Int), 2, 3, 4, 6, 12].contains p.every && decide (1 ≤ p.times ∧ p.times ≤ 600) && decide (0 ≤ p.grace ∧ p.grace ≤ p.times - 1) && decide (p.kind = 3 → p.grace = 0))) : 1 ≤ p.times ∧ p.times ≤ 600 := by
  have h := h.symm
  simp only [Bool.and_eq_true] at h
  exact of_decide_eq_true h.1.1.2

set_option maxRecDepth 100000 in
set_option maxHeartbeats 4000000 in
theorem rcheck_0 (p : Prod) (A1 : Option Addr) (c1 : Nat) (A2 : Option Addr) (c2 : Nat) (A3 : Option Addr) (c3 : Nat) (w : World) (hp : ProdAt w p A1 c1 A2 c2 A3 c3) (hs : p.name.size ≤ 140737488351232 ∧ p.resets.length ≤ 140737488355328 ∧ p.late.length ≤ 140737488355328 ∧ p.hol.length ≤ 140737488355328)
    (b1 b2 b3 b4 : Bool)
    (h1 : b1 = (nameOk p.name.data.toList && decide (1 ≤ p.count ∧ p.count ≤ 3) && decide (p.round = 1 ∨ p.round = 3) && decide (1 ≤ p.kind ∧ p.kind ≤ 3)))
    (h2 : b2 = (b1 && [(1 : Int), 2, 3, 4, 6, 12].contains p.every && decide (1 ≤ p.times ∧ p.times ≤ 600) && decide (0 ≤ p.grace ∧ p.grace ≤ p.times - 1) && decide (p.kind = 3 → p.grace = 0)))
    (h3 : b3 = (b2 && decide (0 ≤ p.rate ∧ p.rate ≤ 1000000000) && decide (0 ≤ p.penalty ∧ p.penalty ≤ 1000000000) && (resetsOk p.times 0 p.resets && decide (p.resets.length ≤ 20)) && orderOk p.o1 p.o2 p.o3 p.o4 && decide (1 ≤ p.over ∧ p.over ≤ 3) && lateOk p))
    (h4 : b4 = (b3 && decide (1 ≤ p.roll ∧ p.roll ≤ 4) && (Nw.rises (-25568) p.hol && decide (p.hol.length ≤ 200)) && decide (p.roll = 1 → p.hol = []))) :
    Calls Tryz.prog 15 #[pv p A1 c1 A2 c2 A3 c3] w fun e w' => e = .returned (.int .i64 (if b4 = true then 0 else 9)) ∧ Below w.heap.size w w' := by
  have HP := Aside0.mk hp
  have HS := Aside0.mk hs
  have K1 := Aside0.mk h1
  have K2 := Aside0.mk h2
  have K3 := Aside0.mk h3
  have K4 := Aside0.mk h4
  clear hp hs h1 h2 h3 h4
  go_enter Tryz.func15, Tryz.ntmps15
  go_upto_region 1 with ((with_reducible refine gate_dst (N := 1) rfl ?_); refine box_event ?hg (N := 1) ?hd (cs := pcs p A1 c1 A2 c2 A3 c3) (t := 27) ?hr ?_; (case hd => rfl); (case hg => rfl); (case hr => first | (go_simp; done) | (go_simp; rfl)); intro g1 hg w1 hb1 hbl1; clear hg; have HB1 := Aside0.mk hb1; have BL1 := Aside0.mk hbl1; clear hb1 hbl1)
  have BLx := Aside0.mk (Below.refl w1.heap.size w1)
  have HBx := HB1
  go_cut [3] (fun s3 wx => s3 = .bool b1 ∧ Aside0 (Below w1.heap.size w1 wx))
  case first =>
    obtain ⟨q0, q1, q2, q3, -⟩ := pc_cells HBx.out
    have g1l := blk_lt HBx.out
    cases hn : nameOk p.name.data.toList with
    | false =>
      obtain rfl : b1 = false := by rw [K1.out, hn]; rfl
      have HN := Aside0.mk hn
      clear hn
      go_wp2_with (first
        | (go_at_call 26; refine (rname_any p.name _ HS.out.1).mono ?_; rw [HN.out]; rintro e w' ⟨rfl, hb⟩; have BLx := Aside0.mk (below_step BLx.out hb); have HBx := Aside0.mk (blk_below HBx.out hb); clear hb; obtain ⟨q0, q1, q2, q3, -⟩ := pc_cells HBx.out))
      go_meet
      case rel => exact ⟨rfl, ⟨by first | exact BLx.out | exact BLx.out.alloc BLx.out.size _⟩⟩
    | true =>
      have HN := Aside0.mk hn
      cases ha : decide (1 ≤ p.count ∧ p.count ≤ 3) with
      | false =>
        obtain rfl : b1 = false := by rw [K1.out, ha]; simp
        have HA := Aside0.mk ha
        clear hn ha
        go_wp2_with (first
          | (go_at_call 26; refine (rname_any p.name _ HS.out.1).mono ?_; rw [HN.out]; rintro e w' ⟨rfl, hb⟩; have BLx := Aside0.mk (below_step BLx.out hb); have HBx := Aside0.mk (blk_below HBx.out hb); clear hb; obtain ⟨q0, q1, q2, q3, -⟩ := pc_cells HBx.out)
          | (go_at_call 27; (with_reducible refine (within_r_is (v := p.count) HA.out _).mono ?_); rintro e w' ⟨rfl, rfl⟩))
        go_meet
        case rel => exact ⟨rfl, ⟨by first | exact BLx.out | exact BLx.out.alloc BLx.out.size _⟩⟩
      | true =>
        have HA := Aside0.mk ha
        by_cases hr : p.round = 1 ∨ p.round = 3
        · cases hb : decide (1 ≤ p.kind ∧ p.kind ≤ 3) with
          | false =>
            obtain rfl : b1 = false := by rw [K1.out, hb]; simp
            have HB := Aside0.mk hb
            clear hn ha hb
            rcases hr with hr | hr
            · have r1 := beqt hr
              clear hr
              go_wp2_with (first
                | (go_at_call 26; refine (rname_any p.name _ HS.out.1).mono ?_; rw [HN.out]; rintro e w' ⟨rfl, hb⟩; have BLx := Aside0.mk (below_step BLx.out hb); have HBx := Aside0.mk (blk_below HBx.out hb); clear hb; obtain ⟨q0, q1, q2, q3, -⟩ := pc_cells HBx.out)
                | (go_at_call 27; (with_reducible refine (within_r_is (v := p.count) HA.out _).mono ?_); rintro e w' ⟨rfl, rfl⟩)
                | (go_at_call 27; (with_reducible refine (within_r_is (v := p.kind) HB.out _).mono ?_); rintro e w' ⟨rfl, rfl⟩))
              go_meet
              case rel => exact ⟨rfl, ⟨by first | exact BLx.out | exact BLx.out.alloc BLx.out.size _⟩⟩
            · have r1 : (p.round == 1) = false := beqf (by omega)
              have r3 := beqt hr
              clear hr
              go_wp2_with (first
                | (go_at_call 26; refine (rname_any p.name _ HS.out.1).mono ?_; rw [HN.out]; rintro e w' ⟨rfl, hb⟩; have BLx := Aside0.mk (below_step BLx.out hb); have HBx := Aside0.mk (blk_below HBx.out hb); clear hb; obtain ⟨q0, q1, q2, q3, -⟩ := pc_cells HBx.out)
                | (go_at_call 27; (with_reducible refine (within_r_is (v := p.count) HA.out _).mono ?_); rintro e w' ⟨rfl, rfl⟩)
                | (go_at_call 27; (with_reducible refine (within_r_is (v := p.kind) HB.out _).mono ?_); rintro e w' ⟨rfl, rfl⟩))
              go_meet
              case rel => exact ⟨rfl, ⟨by first | exact BLx.out | exact BLx.out.alloc BLx.out.size _⟩⟩
          | true =>
            obtain rfl : b1 = true := by rw [K1.out, hn, ha, hb, decide_eq_true hr]; rfl
            have HB := Aside0.mk hb
            clear hn ha hb
            rcases hr with hr | hr
            · have r1 := beqt hr
              clear hr
              go_wp2_with (first
                | (go_at_call 26; refine (rname_any p.name _ HS.out.1).mono ?_; rw [HN.out]; rintro e w' ⟨rfl, hb⟩; have BLx := Aside0.mk (below_step BLx.out hb); have HBx := Aside0.mk (blk_below HBx.out hb); clear hb; obtain ⟨q0, q1, q2, q3, -⟩ := pc_cells HBx.out)
                | (go_at_call 27; (with_reducible refine (within_r_is (v := p.count) HA.out _).mono ?_); rintro e w' ⟨rfl, rfl⟩)
                | (go_at_call 27; (with_reducible refine (within_r_is (v := p.kind) HB.out _).mono ?_); rintro e w' ⟨rfl, rfl⟩))
              go_meet
              case rel => exact ⟨rfl, ⟨by first | exact BLx.out | exact BLx.out.alloc BLx.out.size _⟩⟩
            · have r1 : (p.round == 1) = false := beqf (by omega)
              have r3 := beqt hr
              clear hr
              go_wp2_with (first
                | (go_at_call 26; refine (rname_any p.name _ HS.out.1).mono ?_; rw [HN.out]; rintro e w' ⟨rfl, hb⟩; have BLx := Aside0.mk (below_step BLx.out hb); have HBx := Aside0.mk (blk_below HBx.out hb); clear hb; obtain ⟨q0, q1, q2, q3, -⟩ := pc_cells HBx.out)
                | (go_at_call 27; (with_reducible refine (within_r_is (v := p.count) HA.out _).mono ?_); rintro e w' ⟨rfl, rfl⟩)
                | (go_at_call 27; (with_reducible refine (within_r_is (v := p.kind) HB.out _).mono ?_); rintro e w' ⟨rfl, rfl⟩))
              go_meet
              case rel => exact ⟨rfl, ⟨by first | exact BLx.out | exact BLx.out.alloc BLx.out.size _⟩⟩
        · obtain rfl : b1 = false := by rw [K1.out, decide_eq_false hr]; simp
          have r1 : (p.round == 1) = false := beqf (fun h => hr (Or.inl h))
          have r3 : (p.round == 3) = false := beqf (fun h => hr (Or.inr h))
          clear hn ha hr
          go_wp2_with (first
            | (go_at_call 26; refine (rname_any p.name _ HS.out.1).mono ?_; rw [HN.out]; rintro e w' ⟨rfl, hb⟩; have BLx := Aside0.mk (below_step BLx.out hb); have HBx := Aside0.mk (blk_below HBx.out hb); clear hb; obtain ⟨q0, q1, q2, q3, -⟩ := pc_cells HBx.out)
            | (go_at_call 27; (with_reducible refine (within_r_is (v := p.count) HA.out _).mono ?_); rintro e w' ⟨rfl, rfl⟩))
          go_meet
          case rel => exact ⟨rfl, ⟨by first | exact BLx.out | exact BLx.out.alloc BLx.out.size _⟩⟩
  case rest =>
    obtain ⟨rfl, BLy⟩ := hcut
    clear HBx BLx
    have BLx := BLy
    clear BLy
    have HBx := Aside0.mk (blk_below HB1.out BLx.out)
    go_upto_region 2 with fail
    go_cut [3] (fun s3 wx => s3 = .bool b2 ∧ Aside0 (Below w1.heap.size w1 wx))
    case first =>
      obtain ⟨-, -, -, q3, q4, q5, q6, -⟩ := pc_cells HBx.out
      have g1l := blk_lt HBx.out
      cases b1 with
      | false =>
        obtain rfl : b2 = false := by rw [K2.out]; rfl
        go_wp2_with fail
        go_meet
        case rel => exact ⟨rfl, ⟨by first | exact BLx.out | exact BLx.out.alloc BLx.out.size _⟩⟩
      | true =>
        cases he : [(1 : Int), 2, 3, 4, 6, 12].contains p.every with
        | false =>
          obtain rfl : b2 = false := by rw [K2.out, he]; simp
          have HE := Aside0.mk he
          clear he
          go_wp2_with (first
            | (go_at_call 28; refine (in_six _ _ _ _ HE.out _ (heap_alloc_new _ _)).mono ?_; rintro e w' ⟨rfl, rfl⟩))
          go_meet
          case rel => exact ⟨rfl, ⟨by first | exact BLx.out | exact BLx.out.alloc BLx.out.size _⟩⟩
        | true =>
          have HE := Aside0.mk he
          cases hc : decide (1 ≤ p.times ∧ p.times ≤ 600) with
          | false =>
            obtain rfl : b2 = false := by rw [K2.out, hc]; simp
            have HC := Aside0.mk hc
            clear he hc
            go_wp2_with (first
              | (go_at_call 28; refine (in_six _ _ _ _ HE.out _ (heap_alloc_new _ _)).mono ?_; rintro e w' ⟨rfl, rfl⟩)
              | (go_at_call 27; (with_reducible refine (within_r_is (v := p.times) HC.out _).mono ?_); rintro e w' ⟨rfl, rfl⟩))
            go_meet
            case rel => exact ⟨rfl, ⟨by first | exact BLx.out | exact BLx.out.alloc BLx.out.size _⟩⟩
          | true =>
            obtain ⟨t1, t2⟩ := of_decide_eq_true hc
            have HC := Aside0.mk hc
            cases hd : decide (0 ≤ p.grace ∧ p.grace ≤ p.times - 1) with
            | false =>
              obtain rfl : b2 = false := by rw [K2.out, hd]; simp
              have HD := Aside0.mk hd
              clear he hc hd
              go_wp2_with (first
                | (go_at_call 28; refine (in_six _ _ _ _ HE.out _ (heap_alloc_new _ _)).mono ?_; rintro e w' ⟨rfl, rfl⟩)
                | (go_at_call 27; (with_reducible refine (within_r_is (v := p.times) HC.out _).mono ?_); rintro e w' ⟨rfl, rfl⟩)
                | (go_at_call 27; (with_reducible refine (within_r_is (v := p.grace) HD.out _).mono ?_); rintro e w' ⟨rfl, rfl⟩))
              go_meet
              case rel => exact ⟨rfl, ⟨by first | exact BLx.out | exact BLx.out.alloc BLx.out.size _⟩⟩
            | true =>
              have HD := Aside0.mk hd
              by_cases hk : p.kind = 3
              · have k1 : (p.kind != 3) = false := by rw [hk]; rfl
                by_cases h0 : p.grace = 0
                · have g0 := beqt h0
                  obtain rfl : b2 = true := by rw [K2.out, he, hc, hd, decide_eq_true (fun _ => h0)]; rfl
                  clear he hc hd hk h0
                  go_wp2_with (first
                    | (go_at_call 28; refine (in_six _ _ _ _ HE.out _ (heap_alloc_new _ _)).mono ?_; rintro e w' ⟨rfl, rfl⟩)
                    | (go_at_call 27; (with_reducible refine (within_r_is (v := p.times) HC.out _).mono ?_); rintro e w' ⟨rfl, rfl⟩)
                    | (go_at_call 27; (with_reducible refine (within_r_is (v := p.grace) HD.out _).mono ?_); rintro e w' ⟨rfl, rfl⟩))
                  go_meet
                  case rel => exact ⟨rfl, ⟨by first | exact BLx.out | exact BLx.out.alloc BLx.out.size _⟩⟩
                · have g0 := beqf h0
                  obtain rfl : b2 = false := by rw [K2.out, decide_eq_false (p := p.kind = 3 → p.grace = 0) (fun h => h0 (h hk))]; simp
                  clear he hc hd hk h0
                  go_wp2_with (first
                    | (go_at_call 28; refine (in_six _ _ _ _ HE.out _ (heap_alloc_new _ _)).mono ?_; rintro e w' ⟨rfl, rfl⟩)
                    | (go_at_call 27; (with_reducible refine (within_r_is (v := p.times) HC.out _).mono ?_); rintro e w' ⟨rfl, rfl⟩)
                    | (go_at_call 27; (with_reducible refine (within_r_is (v := p.grace) HD.out _).mono ?_); rintro e w' ⟨rfl, rfl⟩))
                  go_meet
                  case rel => exact ⟨rfl, ⟨by first | exact BLx.out | exact BLx.out.alloc BLx.out.size _⟩⟩
              · have k1 : (p.kind != 3) = true := by simpa using hk
                obtain rfl : b2 = true := by rw [K2.out, he, hc, hd, decide_eq_true (fun h => absurd h hk)]; rfl
                clear he hc hd hk
                go_wp2_with (first
                  | (go_at_call 28; refine (in_six _ _ _ _ HE.out _ (heap_alloc_new _ _)).mono ?_; rintro e w' ⟨rfl, rfl⟩)
                  | (go_at_call 27; (with_reducible refine (within_r_is (v := p.times) HC.out _).mono ?_); rintro e w' ⟨rfl, rfl⟩)
                  | (go_at_call 27; (with_reducible refine (within_r_is (v := p.grace) HD.out _).mono ?_); rintro e w' ⟨rfl, rfl⟩))
                go_meet
                case rel => exact ⟨rfl, ⟨by first | exact BLx.out | exact BLx.out.alloc BLx.out.size _⟩⟩
    case rest =>
      obtain ⟨rfl, BLy⟩ := hcut
      clear HBx BLx
      have BLx := BLy
      clear BLy
      have HBx := Aside0.mk (blk_below HB1.out BLx.out)
      go_upto_region 3 with fail
      go_cut [3] (fun s3 wx => s3 = .bool b3 ∧ Aside0 (Below w1.heap.size w1 wx))
      case first =>
        obtain ⟨-, -, -, -, -, -, -, q7, q8, q9, q10, q11, q12, q13, q14, q15, -⟩ := pc_cells HBx.out
        have g1l := blk_lt HBx.out
        cases b2 with
        | false =>
          obtain rfl : b3 = false := by rw [K3.out]; rfl
          go_wp2_with fail
          go_meet
          case rel => exact ⟨rfl, ⟨by first | exact BLx.out | exact BLx.out.alloc BLx.out.size _⟩⟩
        | true =>
          have HT := Aside0.mk (times_b2 K2.out)
          cases ha : decide (0 ≤ p.rate ∧ p.rate ≤ 1000000000) with
          | false =>
            obtain rfl : b3 = false := by rw [K3.out, ha]; simp
            have HA := Aside0.mk ha
            clear ha
            go_wp2_with (first
              | (go_at_call 27; (with_reducible refine (within_r_is (v := p.rate) HA.out _).mono ?_); rintro e w' ⟨rfl, rfl⟩))
            go_meet
            case rel => exact ⟨rfl, ⟨by first | exact BLx.out | exact BLx.out.alloc BLx.out.size _⟩⟩
          | true =>
            have HA := Aside0.mk ha
            cases hb : decide (0 ≤ p.penalty ∧ p.penalty ≤ 1000000000) with
            | false =>
              obtain rfl : b3 = false := by rw [K3.out, hb]; simp
              have HB := Aside0.mk hb
              clear ha hb
              go_wp2_with (first
                | (go_at_call 27; (with_reducible refine (within_r_is (v := p.rate) HA.out _).mono ?_); rintro e w' ⟨rfl, rfl⟩)
                | (go_at_call 27; (with_reducible refine (within_r_is (v := p.penalty) HB.out _).mono ?_); rintro e w' ⟨rfl, rfl⟩))
              go_meet
              case rel => exact ⟨rfl, ⟨by first | exact BLx.out | exact BLx.out.alloc BLx.out.size _⟩⟩
            | true =>
              have HB := Aside0.mk hb
              cases hre : (resetsOk p.times 0 p.resets && decide (p.resets.length ≤ 20)) with
              | false =>
                obtain rfl : b3 = false := by rw [K3.out, hre]; simp
                have HRE := Aside0.mk hre
                clear ha hb hre
                go_wp2_with (first
                  | (go_at_call 27; (with_reducible refine (within_r_is (v := p.rate) HA.out _).mono ?_); rintro e w' ⟨rfl, rfl⟩)
                  | (go_at_call 27; (with_reducible refine (within_r_is (v := p.penalty) HB.out _).mono ?_); rintro e w' ⟨rfl, rfl⟩)
                  | ((with_reducible refine gate_dst (N := 69) rfl ?_); refine load_want rfl 27 (.tmp 1) rfl g1 rfl 27 _ (0, 0) _ HBx.out Tryz.underlying27 rfl info_prod ?_)
                  | (go_at_call 29; refine (rresets_1 p A1 c1 A2 c2 A3 c3 _ HT.out.1 HT.out.2 (HP.out.below (below_step BL1.out BLx.out)).r1 HS.out.2.1 _ rfl).mono ?_; rw [HRE.out]; rintro e w' ⟨rfl, hb⟩; have BLx := Aside0.mk (below_step BLx.out hb); have HBx := Aside0.mk (blk_below HBx.out hb); clear hb; obtain ⟨-, -, -, -, -, -, -, q7, q8, q9, q10, q11, q12, q13, q14, q15, -⟩ := pc_cells HBx.out))
                go_meet
                case rel => exact ⟨rfl, ⟨by first | exact BLx.out | exact BLx.out.alloc BLx.out.size _⟩⟩
              | true =>
                have HRE := Aside0.mk hre
                cases ho : orderOk p.o1 p.o2 p.o3 p.o4 with
                | false =>
                  obtain rfl : b3 = false := by rw [K3.out, ho]; simp
                  have HO := Aside0.mk ho
                  clear ha hb hre ho
                  go_wp2_with (first
                    | (go_at_call 27; (with_reducible refine (within_r_is (v := p.rate) HA.out _).mono ?_); rintro e w' ⟨rfl, rfl⟩)
                    | (go_at_call 27; (with_reducible refine (within_r_is (v := p.penalty) HB.out _).mono ?_); rintro e w' ⟨rfl, rfl⟩)
                    | ((with_reducible refine gate_dst (N := 69) rfl ?_); refine load_want rfl 27 (.tmp 1) rfl g1 rfl 27 _ (0, 0) _ HBx.out Tryz.underlying27 rfl info_prod ?_)
                    | (go_at_call 29; refine (rresets_1 p A1 c1 A2 c2 A3 c3 _ HT.out.1 HT.out.2 (HP.out.below (below_step BL1.out BLx.out)).r1 HS.out.2.1 _ rfl).mono ?_; rw [HRE.out]; rintro e w' ⟨rfl, hb⟩; have BLx := Aside0.mk (below_step BLx.out hb); have HBx := Aside0.mk (blk_below HBx.out hb); clear hb; obtain ⟨-, -, -, -, -, -, -, q7, q8, q9, q10, q11, q12, q13, q14, q15, -⟩ := pc_cells HBx.out)
                    | (go_at_call 30; refine (rorder_any p.o1 p.o2 p.o3 p.o4 _).mono ?_; rw [HO.out]; rintro e w' ⟨rfl, hb⟩; have BLx := Aside0.mk (below_step BLx.out hb); have HBx := Aside0.mk (blk_below HBx.out hb); clear hb; obtain ⟨-, -, -, -, -, -, -, q7, q8, q9, q10, q11, q12, q13, q14, q15, -⟩ := pc_cells HBx.out))
                  go_meet
                  case rel => exact ⟨rfl, ⟨by first | exact BLx.out | exact BLx.out.alloc BLx.out.size _⟩⟩
                | true =>
                  have HO := Aside0.mk ho
                  cases hv : decide (1 ≤ p.over ∧ p.over ≤ 3) with
                  | false =>
                    obtain rfl : b3 = false := by rw [K3.out, hv]; simp
                    have HV := Aside0.mk hv
                    clear ha hb hre ho hv
                    go_wp2_with (first
                      | (go_at_call 27; (with_reducible refine (within_r_is (v := p.rate) HA.out _).mono ?_); rintro e w' ⟨rfl, rfl⟩)
                      | (go_at_call 27; (with_reducible refine (within_r_is (v := p.penalty) HB.out _).mono ?_); rintro e w' ⟨rfl, rfl⟩)
                      | ((with_reducible refine gate_dst (N := 69) rfl ?_); refine load_want rfl 27 (.tmp 1) rfl g1 rfl 27 _ (0, 0) _ HBx.out Tryz.underlying27 rfl info_prod ?_)
                      | (go_at_call 29; refine (rresets_1 p A1 c1 A2 c2 A3 c3 _ HT.out.1 HT.out.2 (HP.out.below (below_step BL1.out BLx.out)).r1 HS.out.2.1 _ rfl).mono ?_; rw [HRE.out]; rintro e w' ⟨rfl, hb⟩; have BLx := Aside0.mk (below_step BLx.out hb); have HBx := Aside0.mk (blk_below HBx.out hb); clear hb; obtain ⟨-, -, -, -, -, -, -, q7, q8, q9, q10, q11, q12, q13, q14, q15, -⟩ := pc_cells HBx.out)
                      | (go_at_call 30; refine (rorder_any p.o1 p.o2 p.o3 p.o4 _).mono ?_; rw [HO.out]; rintro e w' ⟨rfl, hb⟩; have BLx := Aside0.mk (below_step BLx.out hb); have HBx := Aside0.mk (blk_below HBx.out hb); clear hb; obtain ⟨-, -, -, -, -, -, -, q7, q8, q9, q10, q11, q12, q13, q14, q15, -⟩ := pc_cells HBx.out)
                      | (go_at_call 27; (with_reducible refine (within_r_is (v := p.over) HV.out _).mono ?_); rintro e w' ⟨rfl, rfl⟩))
                    go_meet
                    case rel => exact ⟨rfl, ⟨by first | exact BLx.out | exact BLx.out.alloc BLx.out.size _⟩⟩
                  | true =>
                    have HV := Aside0.mk hv
                    obtain ⟨r, hti⟩ : ∃ r, lateOk p = r := ⟨_, rfl⟩
                    have HTI := Aside0.mk (show (decide (p.late.length ≤ 8 ∧ (0 ≤ p.cap ∧ p.cap ≤ 10000000000000) ∧ (p.late = [] → p.cap = 0)) && tiersOk 0 0 p.late) = r from hti)
                    obtain rfl : b3 = r := by rw [K3.out, ha, hb, hre, ho, hv, hti]; rfl
                    clear ha hb hre ho hv hti
                    go_wp2_with (first
                      | (go_at_call 27; (with_reducible refine (within_r_is (v := p.rate) HA.out _).mono ?_); rintro e w' ⟨rfl, rfl⟩)
                      | (go_at_call 27; (with_reducible refine (within_r_is (v := p.penalty) HB.out _).mono ?_); rintro e w' ⟨rfl, rfl⟩)
                      | ((with_reducible refine gate_dst (N := 69) rfl ?_); refine load_want rfl 27 (.tmp 1) rfl g1 rfl 27 _ (0, 0) _ HBx.out Tryz.underlying27 rfl info_prod ?_)
                      | (go_at_call 29; refine (rresets_1 p A1 c1 A2 c2 A3 c3 _ HT.out.1 HT.out.2 (HP.out.below (below_step BL1.out BLx.out)).r1 HS.out.2.1 _ rfl).mono ?_; rw [HRE.out]; rintro e w' ⟨rfl, hb⟩; have BLx := Aside0.mk (below_step BLx.out hb); have HBx := Aside0.mk (blk_below HBx.out hb); clear hb; obtain ⟨-, -, -, -, -, -, -, q7, q8, q9, q10, q11, q12, q13, q14, q15, -⟩ := pc_cells HBx.out)
                      | (go_at_call 30; refine (rorder_any p.o1 p.o2 p.o3 p.o4 _).mono ?_; rw [HO.out]; rintro e w' ⟨rfl, hb⟩; have BLx := Aside0.mk (below_step BLx.out hb); have HBx := Aside0.mk (blk_below HBx.out hb); clear hb; obtain ⟨-, -, -, -, -, -, -, q7, q8, q9, q10, q11, q12, q13, q14, q15, -⟩ := pc_cells HBx.out)
                      | (go_at_call 27; (with_reducible refine (within_r_is (v := p.over) HV.out _).mono ?_); rintro e w' ⟨rfl, rfl⟩)
                      | ((with_reducible refine gate_dst (N := 83) rfl ?_); refine load_want rfl 27 (.tmp 1) rfl g1 rfl 27 _ (0, 0) _ HBx.out Tryz.underlying27 rfl info_prod ?_)
                      | (go_at_call 31; refine (rtiers_1 p A1 c1 A2 c2 A3 c3 _ (HP.out.below (below_step BL1.out BLx.out)).r2 HS.out.2.2.1 _ rfl _ HTI.out).mono ?_; rintro e w' ⟨rfl, hb⟩; have BLx := Aside0.mk (below_step BLx.out hb); have HBx := Aside0.mk (blk_below HBx.out hb); clear hb; obtain ⟨-, -, -, -, -, -, -, q7, q8, q9, q10, q11, q12, q13, q14, q15, -⟩ := pc_cells HBx.out))
                    go_meet
                    case rel => exact ⟨rfl, ⟨by first | exact BLx.out | exact BLx.out.alloc BLx.out.size _⟩⟩
      case rest =>
        obtain ⟨rfl, BLy⟩ := hcut
        clear HBx BLx
        have BLx := BLy
        clear BLy
        have HBx := Aside0.mk (blk_below HB1.out BLx.out)
        go_upto_region 4 with fail
        go_cut [3] (fun s3 wx => s3 = .bool b4 ∧ Aside0 (Below w1.heap.size w1 wx))
        case first =>
          obtain ⟨-, -, -, -, -, -, -, -, -, -, -, -, -, -, -, -, -, q17, q18⟩ := pc_cells HBx.out
          have g1l := blk_lt HBx.out
          cases b3 with
          | false =>
            obtain rfl : b4 = false := by rw [K4.out]; rfl
            go_wp2_with fail
            go_meet
            case rel => exact ⟨rfl, ⟨by first | exact BLx.out | exact BLx.out.alloc BLx.out.size _⟩⟩
          | true =>
            cases ha : decide (1 ≤ p.roll ∧ p.roll ≤ 4) with
            | false =>
              obtain rfl : b4 = false := by rw [K4.out, ha]; simp
              have HA := Aside0.mk ha
              clear ha
              go_wp2_with (first
                | (go_at_call 27; (with_reducible refine (within_r_is (v := p.roll) HA.out _).mono ?_); rintro e w' ⟨rfl, rfl⟩))
              go_meet
              case rel => exact ⟨rfl, ⟨by first | exact BLx.out | exact BLx.out.alloc BLx.out.size _⟩⟩
            | true =>
              have HA := Aside0.mk ha
              cases hri : (Nw.rises (-25568) p.hol && decide (p.hol.length ≤ 200)) with
              | false =>
                obtain rfl : b4 = false := by rw [K4.out, hri]; simp
                have HRI := Aside0.mk hri
                clear ha hri
                go_wp2_with (first
                  | (go_at_call 27; (with_reducible refine (within_r_is (v := p.roll) HA.out _).mono ?_); rintro e w' ⟨rfl, rfl⟩)
                  | (go_at_call 32; refine (rright_1 A3 c3 p.hol _ (HP.out.below (below_step BL1.out BLx.out)).r3 HS.out.2.2.2 _ rfl).mono ?_; rw [HRI.out]; rintro e w' ⟨rfl, hd⟩; have hb := hd.below; clear hd; have BLx := Aside0.mk (below_step BLx.out hb); have HBx := Aside0.mk (blk_below HBx.out hb); clear hb; obtain ⟨-, -, -, -, -, -, -, -, -, -, -, -, -, -, -, -, -, q17, q18⟩ := pc_cells HBx.out))
                go_meet
                case rel => exact ⟨rfl, ⟨by first | exact BLx.out | exact BLx.out.alloc BLx.out.size _⟩⟩
              | true =>
                have HRI := Aside0.mk hri
                by_cases h1 : p.roll = 1
                · have r1 : (p.roll != 1) = false := by rw [h1]; rfl
                  obtain ⟨r, hz⟩ : ∃ r, ((p.hol.length : Int) == 0) = r := ⟨_, rfl⟩
                  obtain rfl : b4 = r := by
                    rw [K4.out, ha, hri, ← hz]
                    by_cases h0 : p.hol.length = 0
                    · rw [decide_eq_true (fun _ => List.eq_nil_of_length_eq_zero h0), beqt (by omega)]; rfl
                    · rw [decide_eq_false (fun h => h0 (by rw [h h1]; rfl)), beqf (by omega)]; rfl
                  clear ha hri h1
                  go_wp2_with (first
                    | (go_at_call 27; (with_reducible refine (within_r_is (v := p.roll) HA.out _).mono ?_); rintro e w' ⟨rfl, rfl⟩)
                    | (go_at_call 32; refine (rright_1 A3 c3 p.hol _ (HP.out.below (below_step BL1.out BLx.out)).r3 HS.out.2.2.2 _ rfl).mono ?_; rw [HRI.out]; rintro e w' ⟨rfl, hd⟩; have hb := hd.below; clear hd; have BLx := Aside0.mk (below_step BLx.out hb); have HBx := Aside0.mk (blk_below HBx.out hb); clear hb; obtain ⟨-, -, -, -, -, -, -, -, -, -, -, -, -, -, -, -, -, q17, q18⟩ := pc_cells HBx.out))
                  go_meet
                  case rel => exact ⟨rfl, ⟨by first | exact BLx.out | exact BLx.out.alloc BLx.out.size _⟩⟩
                · have r1 : (p.roll != 1) = true := by simpa using h1
                  obtain rfl : b4 = true := by rw [K4.out, ha, hri, decide_eq_true (fun h => absurd h h1)]; rfl
                  clear ha hri h1
                  go_wp2_with (first
                    | (go_at_call 27; (with_reducible refine (within_r_is (v := p.roll) HA.out _).mono ?_); rintro e w' ⟨rfl, rfl⟩)
                    | (go_at_call 32; refine (rright_1 A3 c3 p.hol _ (HP.out.below (below_step BL1.out BLx.out)).r3 HS.out.2.2.2 _ rfl).mono ?_; rw [HRI.out]; rintro e w' ⟨rfl, hd⟩; have hb := hd.below; clear hd; have BLx := Aside0.mk (below_step BLx.out hb); have HBx := Aside0.mk (blk_below HBx.out hb); clear hb; obtain ⟨-, -, -, -, -, -, -, -, -, -, -, -, -, -, -, -, -, q17, q18⟩ := pc_cells HBx.out))
                  go_meet
                  case rel => exact ⟨rfl, ⟨by first | exact BLx.out | exact BLx.out.alloc BLx.out.size _⟩⟩
        case rest =>
          obtain ⟨rfl, BLy⟩ := hcut
          clear HBx BLx
          have BLx := BLy
          clear BLy
          have HBx := Aside0.mk (blk_below HB1.out BLx.out)
          cases b4 with
          | false =>
            go_wp2_with fail
            go_ret
            exact ⟨rfl, below_step BL1.out BLx.out⟩
          | true =>
            go_wp2_with fail
            go_ret
            exact ⟨rfl, below_step BL1.out BLx.out⟩

end Go.Proofs.YtbbbjjfecblhpaaGreat.Pd
/- Contracts by hand: the document's look at a product, in plain words; the plain product. -/
namespace Go.Proofs.YtbbbjjfecblhpaaGreat.Pd
open Go.RowKit Go.Proofs.YtbbbjjfecblhpaaGreatW.PrintWords Go.Proofs.YtbbbjjfecblhpaaGreatW.PrintLast Go.Proofs.YtbbbjjfecblhpaaGreatW.PrintMore Go.Proofs.YtbbbjjfecblhpaaGreat.HW
open Pm
set_option linter.unusedVariables false
set_option linter.unusedSimpArgs false
/-- Not longer than what a machine holds. -/
structure Held (p : Prod) : Prop where
  name : p.name.size ≤ 140737488351232
  s1 : p.resets.length ≤ 140737488355328
  s2 : p.late.length ≤ 140737488355328
  s3 : p.hol.length ≤ 140737488355328
theorem Small.held {p : Prod} (h : Small p) : Held p := ⟨Nat.le_trans h.name (by decide), Nat.le_trans h.s1 (by decide), Nat.le_trans h.s2 (by decide), Nat.le_trans h.s3 (by decide)⟩
theorem every_in (x : Int) : [(1 : Int), 2, 3, 4, 6, 12].contains x = decide (x = 1 ∨ x = 2 ∨ x = 3 ∨ x = 4 ∨ x = 6 ∨ x = 12) := by
  rw [Bool.eq_iff_iff, List.contains_iff_mem, decide_eq_true_iff]
  simp only [List.mem_cons, List.not_mem_nil, or_false]
theorem rcheck_any (p : Prod) (A1 : Option Addr) (c1 : Nat) (A2 : Option Addr) (c2 : Nat) (A3 : Option Addr) (c3 : Nat) (w : World) (hp : ProdAt w p A1 c1 A2 c2 A3 c3) (hs : Held p) :
    Calls Tryz.prog 15 #[pv p A1 c1 A2 c2 A3 c3] w fun e w' => e = .returned (.int .i64 (err p)) ∧ Below w.heap.size w w' := by
  have h := rcheck_0 p A1 c1 A2 c2 A3 c3 w hp ⟨hs.name, hs.s1, hs.s2, hs.s3⟩ _ _ _ _ rfl rfl rfl rfl
  refine h.mono ?_
  rintro e w1 ⟨rfl, hb⟩
  refine ⟨?_, hb⟩
  congr 2
  unfold err
  have key : ∀ x y : Bool, x = y → (if x = true then (0 : Int) else 9) = (if y = true then 0 else 9) := fun x y h => by rw [h]
  apply key
  rw [Nw.rises_pm, every_in, Bool.eq_iff_iff]
  have e1 : ok p = true ↔ ((((nameOk p.name.data.toList = true ∧ ((1 ≤ p.count ∧ p.count ≤ 3) ∧ (p.round = 1 ∨ p.round = 3) ∧ (1 ≤ p.kind ∧ p.kind ≤ 3) ∧ (p.every = 1 ∨ p.every = 2 ∨ p.every = 3 ∨ p.every = 4 ∨ p.every = 6 ∨ p.every = 12) ∧ (1 ≤ p.times ∧ p.times ≤ 600) ∧ (0 ≤ p.grace ∧ p.grace ≤ p.times - 1) ∧ (p.kind = 3 → p.grace = 0))) ∧ (((0 ≤ p.rate ∧ p.rate ≤ 1000000000) ∧ (0 ≤ p.penalty ∧ p.penalty ≤ 1000000000) ∧ p.resets.length ≤ 20) ∧ resetsOk p.times 0 p.resets = true)) ∧ (orderOk p.o1 p.o2 p.o3 p.o4 = true ∧ (1 ≤ p.over ∧ p.over ≤ 3))) ∧ lateOk p = true) ∧ ((p.hol.length ≤ 200 ∧ (1 ≤ p.roll ∧ p.roll ≤ 4) ∧ (p.roll = 1 → p.hol = [])) ∧ holsOk (-25568) p.hol = true) := by
    simp only [ok, shapeOk, ratesOk, ordOk, daysOk, Bool.and_eq_true, decide_eq_true_eq]
  rw [e1]
  simp only [Bool.and_eq_true, decide_eq_true_eq]
  constructor
  · rintro ⟨⟨⟨⟨⟨⟨⟨⟨⟨⟨⟨⟨⟨⟨⟨⟨N, C⟩, R⟩, K⟩, E⟩, T⟩, G⟩, KG⟩, Ra⟩, Pe⟩, RS, L20⟩, O⟩, Ov⟩, LT⟩, Ro⟩, H, L200⟩, RH⟩
    exact ⟨⟨⟨⟨⟨N, C, R, K, E, T, G, KG⟩, ⟨Ra, Pe, L20⟩, RS⟩, O, Ov⟩, LT⟩, ⟨L200, Ro, RH⟩, H⟩
  · rintro ⟨⟨⟨⟨⟨N, C, R, K, E, T, G, KG⟩, ⟨Ra, Pe, L20⟩, RS⟩, O, Ov⟩, LT⟩, ⟨L200, Ro, RH⟩, H⟩
    exact ⟨⟨⟨⟨⟨⟨⟨⟨⟨⟨⟨⟨⟨⟨⟨⟨N, C⟩, R⟩, K⟩, E⟩, T⟩, G⟩, KG⟩, Ra⟩, Pe⟩, RS, L20⟩, O⟩, Ov⟩, LT⟩, Ro⟩, H, L200⟩, RH⟩
/-- The plain product. -/
def plainP : Prod := { name := ⟨#[104, 111, 109, 101]⟩, count := 2, round := 1, kind := 1, every := 1, times := 12, grace := 0, rate := 60000000, resets := [], penalty := 100000000, o1 := 1, o2 := 2, o3 := 3, o4 := 4, over := 1, late := [], cap := 0, roll := 1, hol := [] }
abbrev plainC : Array Value :=
  #[.string ⟨#[104, 111, 109, 101]⟩, .int .i64 2, .int .i64 1, .int .i64 1, .int .i64 1, .int .i64 12, .int .i64 0, .int .i64 60000000, .slice none 0 0, .int .i64 100000000, .int .i64 1, .int .i64 2, .int .i64 3, .int .i64 4, .int .i64 1, .slice none 0 0, .int .i64 0, .int .i64 1, .slice none 0 0]
theorem nilRows (w : World) : Op.IntRows w none 2 [] := ⟨fun r h => by (cases h), fun i r h => by (simp at h)⟩
theorem nilAt {w : World} {p : Prod} (h1 : p.resets = []) (h2 : p.late = []) (h3 : p.hol = []) : ProdAt w p none 0 none 0 none 0 := by
  refine ⟨by rw [h1]; exact nilRows w, by rw [h1]; exact Nat.le_refl _, fun _ => rfl, by rw [h2]; exact nilRows w, by rw [h2]; exact Nat.le_refl _, fun _ => rfl, ?_, by rw [h3]; exact Nat.le_refl _, fun _ => rfl⟩
  rw [h3]; exact Kd.C_nil _ w
theorem built_plain : Tryz.prog.built 27 [(0, .string ⟨#[104, 111, 109, 101]⟩), (1, .int .i64 2), (2, .int .i64 1), (3, .int .i64 1), (4, .int .i64 1), (5, .int .i64 12), (7, .int .i64 60000000), (9, .int .i64 100000000), (10, .agg #[.int .i64 1, .int .i64 2, .int .i64 3, .int .i64 4]), (11, .int .i64 1), (14, .int .i64 1)] = some plainC := by kernel_rfl
theorem plainC_one : plainC.all (·.oneCell') = true := by simp [Value.oneCell']
theorem below_setRowP {B : Nat} {w W : World} {g : Nat} (h : Below B w W) (hg : B ≤ g) (cs : Array Value) : Below B w (W.setRow g cs) :=
  ⟨h.os, h.tape, h.output, by rw [size_setRow]; exact h.size, fun k hk => by rw [setRow_other W g k cs (by omega)]; exact h.block k hk⟩
def PlainE (w : World) (e : Ending) (w' : World) : Prop := e = .returned (.agg plainC) ∧ Below w.heap.size w w'
theorem plain_any (w : World) : Calls Tryz.prog 14 #[] w (PlainE w) := by
  go_enter Tryz.func14, Tryz.ntmps14
  go_wp2_with (first
    | ((with_reducible refine gate_dst (N := 0) rfl ?_); refine box_event ?hg (N := 0) ?hd (cs := pzs) (t := 27) ?hr ?_; (case hd => rfl); (case hg => rfl); (case hr => first | (go_simp; done) | (go_simp; rfl)); intro g1 hg w1 hb1 hbl1; have g1ge := (show w.heap.size ≤ g1 by rw [hg]; exact Nat.le_refl _); clear hg; have HB1 := Aside0.mk hb1; have BL1 := Aside0.mk hbl1; clear hb1 hbl1)
    | ((with_reducible refine gate_dst (N := 2) rfl ?_); refine build_event rfl (t := 27) rfl (cs := plainC) ?hb ?_; (case hb => simp only [List.map_toArray, List.map_cons, List.map_nil]; exact built_plain))
    | ((with_reducible refine gate_store (t := 27) (p := 0) rfl ?_); refine Hid.out ?_))
  refine Lib.hid ?_
  refine wpList_store_row rfl 27 (.tmp 0) (.tmp 2) rfl g1 plainC rfl rfl 27 pzs HB1.out info_prod rfl plainC_one ?_
  have hb2 := setRow_heap w1 g1 _ plainC _ _ HB1.out
  have bl2 := below_setRowP (g := g1) BL1.out g1ge plainC
  obtain ⟨w2, hw2⟩ : ∃ w2, w2 = w1.setRow g1 plainC := ⟨_, rfl⟩
  rw [← hw2] at hb2 bl2 ⊢
  have HB2 := Aside0.mk hb2
  have BL2 := Aside0.mk bl2
  clear hw2 hb2 bl2
  go_frame
  go_wp2_with fail
  exact bodyPost_ret (v := .agg plainC) (results_cell_row (g := g1) Tryz.results14 _ _ _ _ _ _ rfl HB2.out Tryz.underlying27 rfl info_prod) rfl ⟨rfl, BL2.out⟩
end Go.Proofs.YtbbbjjfecblhpaaGreat.Pd
-- Written by a program of this session (wip/tools/myprint.py) with the help of the printer of the kit; Lean checks it.
namespace Go.Proofs.YtbbbjjfecblhpaaGreat.PG
open Go.RowKit Go.Proofs.YtbbbjjfecblhpaaGreatW.PrintWords Go.Proofs.YtbbbjjfecblhpaaGreatW.PrintLast Go.Proofs.YtbbbjjfecblhpaaGreatW.PrintMore Go.Proofs.YtbbbjjfecblhpaaGreat.HW
attribute [local go_sem] run_makeFunc_ max2_int min2_int max_two min_two max_three min_three max_four min_four   -- for this text's walks alone
set_option linter.unusedVariables false
set_option linter.unusedSimpArgs false



def errW : Option Int → Value
  | none => .nilIface
  | some c => .iface 0 (.int .i64 c)
theorem errW_none : errW none = .nilIface := rfl
theorem errW_some (c : Int) : errW (some c) = .iface 0 (.int .i64 c) := rfl

-- the values' own types

end Go.Proofs.YtbbbjjfecblhpaaGreat.PG
