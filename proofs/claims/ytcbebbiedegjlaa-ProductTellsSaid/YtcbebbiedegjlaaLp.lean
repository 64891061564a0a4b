/- Contracts by hand: whether a copy of instalments was kept. -/
import Derived.Test.YtcbebbiedegjlaaLn
namespace Go.Proofs.Ytcbebbiedegjlaa.Pd
open Go.RowKit Go.Proofs.YtcbebbiedegjlaaW.PrintWords Go.Proofs.YtcbebbiedegjlaaW.PrintLast Go.Proofs.YtcbebbiedegjlaaW.PrintMore Go.Proofs.Ytcbebbiedegjlaa.HW
open Pm
set_option linter.unusedVariables false
set_option linter.unusedSimpArgs false
set_option maxRecDepth 100000 in
set_option maxHeartbeats 1000000 in
theorem plainD1 (a b c d : Int) (w : World) : Calls Try.prog 62 #[.agg #[.int .i64 a, .int .i64 b, .int .i64 c, .int .i64 d], .agg #[.int .i64 a, .int .i64 b, .int .i64 c, .int .i64 d]] w fun e w' => e = .returned (.bool true) ∧ Below w.heap.size w w' := by
  go_enter Try.func62, Try.ntmps62
  go_wp2_with (first
    | ((with_reducible refine gate_dst (N := 2) rfl ?_); refine box_event ?hg (N := 2) ?hd (cs := #[.int .i64 a, .int .i64 b, .int .i64 c, .int .i64 d]) (t := 56) ?hr ?_; (case hd => rfl); (case hg => rfl); (case hr => first | (go_simp; done) | (go_simp; rfl)); intro g2 hg w1 hb1 hbl1; clear hg; have HB2 := Aside0.mk hb1; have BL1 := Aside0.mk hbl1; clear hb1 hbl1)
    | ((with_reducible refine gate_dst (N := 3) rfl ?_); refine box_event ?hg (N := 3) ?hd (cs := #[.int .i64 a, .int .i64 b, .int .i64 c, .int .i64 d]) (t := 56) ?hr ?_; (case hd => rfl); (case hg => rfl); (case hr => first | (go_simp; done) | (go_simp; rfl)); intro g3 hg w2 hb1 hbl1; clear hg; have HB3 := Aside0.mk hb1; have HB22 := Aside0.mk (blk_below HB2.out hbl1); have BL2 := Aside0.mk (below_step BL1.out hbl1); clear hb1 hbl1)
    | ((with_reducible refine gate_dst (N := 5) rfl ?_); refine wpList_load_row rfl 56 (.tmp 2) rfl g2 rfl 56 _ (0, 0) _ HB22.out Try.underlying56 rfl info_due ?_)
    | ((with_reducible refine gate_dst (N := 6) rfl ?_); refine wpList_load_row rfl 56 (.tmp 3) rfl g3 rfl 56 _ (0, 0) _ HB3.out Try.underlying56 rfl info_due ?_))
  go_ret
  exact ⟨by simp, BL2.out⟩
set_option maxRecDepth 100000 in
set_option maxHeartbeats 1000000 in
theorem sameD (A0 A1 : Option Addr) (c0 c1 : Nat) (rows : List (List Int)) (w : World) (hr0 : Op.IntRows w A0 4 rows) (hr1 : Op.IntRows w A1 4 rows) (hm : rows.length ≤ 1000000) :
    Calls Try.prog 61 #[.slice A0 rows.length c0, .slice A1 rows.length c1, .func (.func 62) #[] #[]] w fun e w' => e = .returned (.bool true) ∧ Below w.heap.size w w' := by
  have HR0 := Aside0.mk hr0
  have HR1 := Aside0.mk hr1
  clear hr0 hr1
  go_enter Try.func61, Try.ntmps61
  go_wp2_with fail
  go_loopg [7] (rows.length + 1) (fun gq iv w' => ∃ (k : Nat), k ≤ rows.length ∧ iv = .int .i64 (k : Int) ∧ Aside0 (gq = rows.length + 1 - k) ∧ Aside0 (Below w.heap.size w w'))
  case atStart => exact ⟨0, Nat.zero_le _, rfl, ⟨rfl⟩, ⟨Below.refl _ _⟩⟩
  case round =>
    obtain ⟨k, hk, rfl, hgq, hbl⟩ := hrel
    by_cases hlt : k < rows.length
    · obtain ⟨ad0, n, d, i, q, e0, hrow, p0, p1, p2, p3, -⟩ := four_at (HR0.out.below hbl.out) k hlt
      obtain ⟨ad1, n', d', i', q', e1, hrow', s0, s1, s2, s3, -⟩ := four_at (HR1.out.below hbl.out) k hlt
      obtain ⟨rfl, rfl, rfl, rfl⟩ : n = n' ∧ d = d' ∧ i = i' ∧ q = q' := by
        have h := hrow.symm.trans hrow'
        simpa using h
      subst e0 e1
      have kk0 : (0 : Int) ≤ (k : Int) := by omega
      have kk1 : (k : Int) < (rows.length : Int) := by omega
      clear hrow hrow'
      go_wp2_with fail
      go_still_tail 9, (by kernel_rfl)
      go_wp2_with ((go_at_call 62; refine (plainD1 n d i q _).mono ?_; rintro e v1 ⟨rfl, hb⟩; have B1 := Aside0.mk (below_step (by first | exact pw_below_drewN hbl.out _ | exact Below.drew hbl.out | exact hbl.out) hb); clear hb))
      go_roundg (rows.length + 1 - (k + 1))
      case measure => have := hgq.out; omega
      case rel => exact ⟨k + 1, by omega, by simp, ⟨rfl⟩, B1⟩
    · have hk2 : k = rows.length := by omega
      subst hk2
      go_wp2_with fail
      go_ret
      exact ⟨rfl, hbl.out⟩
set_option maxRecDepth 100000 in
set_option maxHeartbeats 1000000 in
theorem plainD (A0 A1 : Option Addr) (c0 c1 : Nat) (rows : List (List Int)) (w : World) (hr0 : Op.IntRows w A0 4 rows) (hr1 : Op.IntRows w A1 4 rows) (hm : rows.length ≤ 1000000) :
    Calls Try.prog 48 #[.slice A0 rows.length c0, .slice A1 rows.length c1] w fun e w' => e = .returned (.bool true) ∧ Below w.heap.size w w' := by
  have HR0 := Aside0.mk hr0
  have HR1 := Aside0.mk hr1
  clear hr0 hr1
  go_enter Try.func48, Try.ntmps48
  go_wp2_with fail
  refine (sameD A0 A1 c0 c1 rows _ HR0.out HR1.out hm).mono ?_
  rintro e v1 ⟨rfl, hb⟩
  have B1 := Aside0.mk hb
  clear hb
  go_wp2_with fail
  go_ret
  exact ⟨rfl, B1.out⟩
/-- The first rows of a block. -/
theorem rows_front {W : World} {g sz : Nat} {T : TypeId} {rows more : List (List Int)} (h : W.heap[g]? = some (.cells (cellsR (rows ++ more)).toArray T (0, 0))) (hl : ∀ r ∈ rows ++ more, r.length = sz) (hw : ∀ r ∈ rows, ∀ x ∈ r, (Lit.int .i64 x).wf = true) : Op.IntRows W (some ⟨g, 0, none⟩) sz rows := by
  refine ⟨fun r hr => ⟨hl r (List.mem_append_left _ hr), hw r hr⟩, fun i r hi => ⟨_, rfl, fun j x hj => ?_⟩⟩
  have hi2 : (rows ++ more)[i]? = some r := by rw [List.getElem?_append_left (List.getElem?_eq_some_iff.1 hi).1]; exact hi
  rw [Addr.add_mid, Nat.zero_add, blk_cell h, List.getElem?_toArray]
  unfold cellsR
  rw [List.getElem?_map, flatten_at _ i j r x hl hi2 hj]
  rfl
set_option maxRecDepth 100000 in
set_option maxHeartbeats 1000000 in
theorem keptD (g : Nat) (A1 : Option Addr) (c1 : Nat) (rows : List (List Int)) (a b c d : Int) (w : World) (hg : w.heap[g]? = some (.cells (cellsR (rows ++ [[a, b, c, d], [a, b, c, d], [a, b, c, d]])).toArray 56 (0, 0))) (hr1 : Op.IntRows w A1 4 rows) (hm : rows.length ≤ 1000000) :
    Calls Try.prog 30 #[.slice (some ⟨g, 0, none⟩) rows.length (rows.length + 3), .slice A1 rows.length c1, .agg #[.int .i64 a, .int .i64 b, .int .i64 c, .int .i64 d]] w fun e w' => e = .returned (.bool true) ∧ Below w.heap.size w w' := by
  have HL4 : ∀ r ∈ rows ++ [[a, b, c, d], [a, b, c, d], [a, b, c, d]], r.length = 4 := fun r hr => by
    rcases List.mem_append.1 hr with h | h
    · exact (hr1.1 r h).1
    · simp at h; rw [h]; rfl
  have HF := Aside0.mk (rows_front hg HL4 (fun r hr => (hr1.1 r hr).2))
  have HG := Aside0.mk hg
  have HR1 := Aside0.mk hr1
  have HL := Aside0.mk HL4
  clear hg hr1 HL4
  go_enter Try.func30, Try.ntmps30
  go_wp2_with (first
    | ((with_reducible refine gate_dst (N := 5) rfl ?_); refine box_event ?hg (N := 5) ?hd (cs := #[.int .i64 a, .int .i64 b, .int .i64 c, .int .i64 d]) (t := 56) ?hr ?_; (case hd => rfl); (case hg => rfl); (case hr => first | (go_simp; done) | (go_simp; rfl)); intro g2 hg w1 hb1 hbl1; clear hg; have HB2 := Aside0.mk hb1; have BL1 := Aside0.mk hbl1; clear hb1 hbl1))
  refine (plainD (some ⟨g, 0, none⟩) A1 _ c1 rows _ (HF.out.below BL1.out) (HR1.out.below BL1.out) hm).mono ?_
  rintro e w2 ⟨rfl, hb⟩
  have BL2 := Aside0.mk (below_step BL1.out hb)
  have HB3 := Aside0.mk (blk_below HB2.out hb)
  clear hb HB2
  go_wp2_with fail
  go_loopg [8] 4 (fun gq iv w' => ∃ (k : Nat), k ≤ 3 ∧ iv = .int .i64 ((rows.length : Int) + (k : Int)) ∧ Aside0 (gq = 4 - k) ∧ Aside0 (Below w.heap.size w w' ∧ Below w2.heap.size w2 w'))
  case atStart => exact ⟨0, by omega, by simp, ⟨rfl⟩, ⟨BL2.out, Below.refl _ _⟩⟩
  case round =>
    obtain ⟨k, k3, rfl, hgq, hbl⟩ := hrel
    by_cases hlt : k < 3
    · have hrow : (rows ++ [[a, b, c, d], [a, b, c, d], [a, b, c, d]])[rows.length + k]? = some [a, b, c, d] := by
        rw [List.getElem?_append_right (by omega), show rows.length + k - rows.length = k by omega]
        rcases (by omega : k = 0 ∨ k = 1 ∨ k = 2) with rfl | rfl | rfl <;> rfl
      have hblk := blk_below HG.out hbl.out.1
      have cl : ∀ (j : Nat) (x : Int), [a, b, c, d][j]? = some x → wr.cell? ⟨g, (rows.length + k) * 4 + j, none⟩ = some (.int .i64 x) := fun j x hj => by
        rw [blk_cell hblk, List.getElem?_toArray]
        unfold cellsR
        rw [List.getElem?_map, flatten_at _ _ j _ x HL.out hrow hj]
        rfl
      have p0 := cl 0 a rfl
      have p1 := cl 1 b rfl
      have p2 := cl 2 c rfl
      have p3 := cl 3 d rfl
      have glt := blk_lt hblk
      have hb3 := blk_below HB3.out hbl.out.2
      have t0 := (blk_cell hb3 0).trans rfl
      have t1 := (blk_cell hb3 1).trans rfl
      have t2 := (blk_cell hb3 2).trans rfl
      have t3 := (blk_cell hb3 3).trans rfl
      rw [Nat.add_zero] at p0
      clear hrow hblk cl hb3
      go_wp2_with fail
      go_quiet (fail)
      go_wp2_with fail
      go_roundg (4 - (k + 1))
      case measure => have := hgq.out; omega
      case rel => exact ⟨k + 1, by omega, by simp; omega, ⟨rfl⟩, ⟨by first | exact pw_below_drewN hbl.out.1 _ | exact hbl.out.1, by first | exact pw_below_drewN hbl.out.2 _ | exact hbl.out.2⟩⟩
    · obtain rfl : k = 3 := by omega
      go_wp2_with fail
      go_ret
      exact ⟨rfl, hbl.out.1⟩
end Go.Proofs.Ytcbebbiedegjlaa.Pd
