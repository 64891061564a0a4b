/- The law ProductTells, walked. -/
import Derived.Test.YtcbebbiedegjlaaLs
import Derived.Test.YtcbebbiedegjlaaQf
import Derived.Deep.RegionHeld3
namespace Go.Proofs.Ytcbebbiedegjlaa.Pd
open Go.RowKit Go.Proofs.YtcbebbiedegjlaaW.PrintWords Go.Proofs.YtcbebbiedegjlaaW.PrintLast Go.Proofs.YtcbebbiedegjlaaW.PrintMore Go.Proofs.Ytcbebbiedegjlaa.HW
open Pm
set_option linter.unusedVariables false
set_option linter.unusedSimpArgs false
theorem built_resetX : Try.prog.built 31 [(0, .int .i64 71)] = some #[.int .i64 71, .int .i64 0] := by kernel_rfl
theorem built_tierX : Try.prog.built 34 [(0, .int .i64 71)] = some #[.int .i64 71, .int .i64 0] := by kernel_rfl
theorem rng {w : World} {g : Nat} {cs : Array Value} {t : TypeId} (h : w.heap[g]? = some (.cells cs t (0, 0))) : w.rangeAt g 0 cs.toList := fun j v hv => by
  rw [Nat.zero_add, blk_cell h, ← Array.getElem?_toList]
  exact hv
set_option maxRecDepth 100000 in
set_option maxHeartbeats 20000000 in
theorem productTells_walk (p : Prod) (A1 : Option Addr) (c1 : Nat) (A2 : Option Addr) (c2 : Nat) (A3 : Option Addr) (c3 : Nat) (s : ByteArray) (w : World) (hp : ProdAt w p A1 c1 A2 c2 A3 c3) (hz0 : p.name.size ≤ maxLen) (hz1 : c1 ≤ maxLen) (hz2 : c2 ≤ maxLen) (hz3 : c3 ≤ maxLen) (ws : s.size ≤ 140737488351232) (hgv : GV w) :
    Calls Try.prog 3 #[pv p A1 c1 A2 c2 A3 c3, .string s] w fun e w' => e = .returned (.bool true) ∧ Below w.heap.size w w' := by
  have HG := Aside0.mk hgv
  have HP := Aside0.mk hp
  unfold maxLen at hz0 hz1 hz2 hz3
  have z1 := Nat.le_trans hp.l1 hz1
  have z2 := Nat.le_trans hp.l2 hz2
  have z3 := Nat.le_trans hp.l3 hz3
  clear hgv hp hz1 hz2 hz3
  go_enter Try.func3, Try.ntmps3
  go_wp2_with (first
    | ((with_reducible refine gate_dst (N := 2) rfl ?_); refine box_event ?hg (N := 2) ?hd (cs := pcs p A1 c1 A2 c2 A3 c3) (t := 27) ?hr ?_; (case hd => rfl); (case hg => rfl); (case hr => first | (go_simp; done) | (go_simp; rfl)); intro g2 hg v0 hb1 hbl1; have g2ge := (show w.heap.size ≤ g2 by rw [hg]; exact Nat.le_refl _); clear hg; have HB1 := Aside0.mk hb1; have BL1 := Aside0.mk hbl1; clear hb1 hbl1; refine Hid.out ?_))
  refine Lib.hid ?_
  obtain ⟨q0, -, -, -, -, -, -, -, q8, -, -, -, -, -, -, q15, -, -, q18⟩ := pc_cells HB1.out
  by_cases big : 100 < p.name.size ∨ 100 < s.size ∨ 50 < p.resets.length ∨ 50 < p.late.length ∨ 300 < p.hol.length
  · rcases (by omega : 100 < p.name.size ∨ (p.name.size ≤ 100 ∧ 100 < s.size) ∨ (p.name.size ≤ 100 ∧ s.size ≤ 100 ∧ 50 < p.resets.length) ∨ (p.name.size ≤ 100 ∧ s.size ≤ 100 ∧ p.resets.length ≤ 50 ∧ 50 < p.late.length) ∨ (p.name.size ≤ 100 ∧ s.size ≤ 100 ∧ p.resets.length ≤ 50 ∧ p.late.length ≤ 50 ∧ 300 < p.hol.length)) with b1 | ⟨b1, b2⟩ | ⟨b1, b2, b3⟩ | ⟨b1, b2, b3, b4⟩ | ⟨b1, b2, b3, b4, b5⟩
    all_goals
      clear big
      go_wp2_with fail
      refine (prod_awake _ (HG.out.below BL1.out)).mono ?_
      rintro e x1 ⟨rfl, hb⟩
      have X1 := Aside0.mk (below_step BL1.out hb)
      clear hb
      go_wp2_with fail
      go_ret
      exact ⟨rfl, X1.out⟩
  · have b1 : p.name.size ≤ 100 := by omega
    have b2 : s.size ≤ 100 := by omega
    have b3 : p.resets.length ≤ 50 := by omega
    have b4 : p.late.length ≤ 50 := by omega
    have b5 : p.hol.length ≤ 300 := by omega
    have SM := Aside0.mk (show Small p from ⟨by omega, by omega, by omega, by omega⟩)
    clear big
    go_wp2_with (first
      | ((with_reducible refine gate_dst (N := 34) rfl ?_); refine wpList_load_row rfl 27 (.tmp 2) rfl g2 rfl 27 _ (0, 0) _ HB1.out Try.underlying27 rfl info_prod ?_)
      | ((with_reducible refine gate_dst (N := 5) rfl ?_); refine copy_event rfl (N := 5) rfl rfl rfl (t := 27) (v := .tmp 34) rfl (cs := pcs p A1 c1 A2 c2 A3 c3) (zs := pzs) ?hr rfl rfl info_prod ?hz (pcs_one _ _ _ _ _ _ _) ?_; (case hr => first | (go_simp; done) | (go_simp; rfl)); (case hz => rfl); intro g5 hg v2 hb0 hbl0; have g5ge := (show w.heap.size ≤ g5 by rw [hg]; exact BL1.out.size); have gne := (show g2 ≠ g5 by have := blk_lt HB1.out; omega); have H5 := Aside0.mk hb0; have H2 := Aside0.mk (blk_below HB1.out hbl0); have BL2 := Aside0.mk (below_step BL1.out hbl0); clear hg hb0 hbl0; refine Hid.out ?_))
    refine Lib.hid ?_
    try go_frame
    clear q0 q8 q15 q18
    obtain ⟨-, -, -, -, -, -, -, -, q8, -, -, -, -, -, -, q15, -, -, q18⟩ := pc_cells H2.out
    have R0 := Aside0.mk (Below.refl v2.heap.size v2)
    have far : ∀ (W : World) (i j : Nat) (u : Value), (W.setCell ⟨g5, i, none⟩ u).cell? ⟨g2, j, none⟩ = W.cell? ⟨g2, j, none⟩ := fun W i j u => World.cell?_of_block (heap_setCell_other W ⟨g5, i, none⟩ g2 u gne)
    have FAR := Aside0.mk far
    clear far
    go_wp2_with fail
    go_region_held3 (fun W => W.cell? ⟨g2, 8, none⟩ = some (.slice A1 p.resets.length c1) ∧ W.cell? ⟨g2, 15, none⟩ = some (.slice A2 p.late.length c2) ∧ W.cell? ⟨g2, 18, none⟩ = some (.slice A3 p.hol.length c3)) (first | exact ⟨q8, q15, q18⟩ | simp [FAR.out, q8, q15, q18] | go_keep) (first
      | (go_at_call 12; refine (ownS_any A1 c1 p.resets 71 0 _ ((HP.out.below (below_step BL2.out (by first | exact pw_below_drewN R0.out _ | exact Below.drew R0.out | exact R0.out))).r1) HP.out.l1 HP.out.n1 SM.out.s1).mono ?_; rintro e y1 ⟨o1, o1ge, rfl, hblk, hb⟩; have t1 := (show g5 < o1 from Nat.lt_of_lt_of_le (blk_lt H5.out) (Nat.le_trans (Below.size (by first | exact pw_below_drewN R0.out _ | exact Below.drew R0.out | exact R0.out)) o1ge)); have S1 := Aside0.mk (below_refl_of hb); have R1 := Aside0.mk (below_step (by first | exact pw_below_drewN R0.out _ | exact Below.drew R0.out | exact R0.out) hb); have O1 := Aside0.mk hblk; obtain ⟨-, -, -, -, -, -, -, -, q8, -, -, -, -, -, -, q15, -, -, q18⟩ := pc_cells (blk_below H2.out R1.out); clear hblk hb)
      | (go_at_call 13; refine (ownT_any A2 c2 p.late 71 0 _ ((HP.out.below (below_step BL2.out (by first | exact pw_below_drewN R1.out _ | exact Below.drew R1.out | exact R1.out))).r2) HP.out.l2 HP.out.n2 SM.out.s2).mono ?_; rintro e y2 ⟨o2, o2ge, rfl, hblk, hb⟩; have t2 := (show g5 < o2 from Nat.lt_of_lt_of_le (blk_lt (blk_below H5.out R1.out)) (Nat.le_trans (Below.size (by first | exact pw_below_drewN S1.out _ | exact Below.drew S1.out | exact S1.out)) o2ge)); have O1 := Aside0.mk (blk_below O1.out (below_step (by first | exact pw_below_drewN S1.out _ | exact Below.drew S1.out | exact S1.out) hb)); have S2 := Aside0.mk (below_refl_of hb); have R2 := Aside0.mk (below_step (by first | exact pw_below_drewN R1.out _ | exact Below.drew R1.out | exact R1.out) hb); have O2 := Aside0.mk hblk; obtain ⟨-, -, -, -, -, -, -, -, q8, -, -, -, -, -, -, q15, -, -, q18⟩ := pc_cells (blk_below H2.out R2.out); clear hblk hb)
      | (go_at_call 14; refine (H.own_any A3 c3 p.hol 71 _ ((HP.out.below (below_step BL2.out (by first | exact pw_below_drewN R2.out _ | exact Below.drew R2.out | exact R2.out))).r3) HP.out.l3 HP.out.n3 SM.out.s3).mono ?_; rintro e y3 ⟨o3, o3ge, rfl, hblk, hb⟩; have t3 := (show g5 < o3 from Nat.lt_of_lt_of_le (blk_lt (blk_below H5.out R2.out)) (Nat.le_trans (Below.size (by first | exact pw_below_drewN S2.out _ | exact Below.drew S2.out | exact S2.out)) o3ge)); have O1 := Aside0.mk (blk_below O1.out (below_step (by first | exact pw_below_drewN S2.out _ | exact Below.drew S2.out | exact S2.out) hb)); have O2 := Aside0.mk (blk_below O2.out (below_step (by first | exact pw_below_drewN S2.out _ | exact Below.drew S2.out | exact S2.out) hb)); have R3 := Aside0.mk (below_step (by first | exact pw_below_drewN R2.out _ | exact Below.drew R2.out | exact R2.out) hb); have O3 := Aside0.mk hblk; obtain ⟨-, -, -, -, -, -, -, -, q8, -, -, -, -, -, -, q15, -, -, q18⟩ := pc_cells (blk_below H2.out R3.out); have H53 := blk_below H5.out R3.out; have u8 := (blk_cell H53 8).trans rfl; have u15 := (blk_cell H53 15).trans rfl; have u18 := (blk_cell H53 18).trans rfl; have f8 := frozen_of_row y3 g5 8 _ _ H53; have f15 := frozen_of_row y3 g5 15 _ _ H53; have f18 := frozen_of_row y3 g5 18 _ _ H53; clear hblk hb H53))
    have H53 := blk_below H5.out R3.out
    obtain ⟨y9, hy9⟩ : ∃ y9, y9 = (((y3.setCell ⟨g5, 8, none⟩ (.slice (some ⟨o1, 0, none⟩) p.resets.length (p.resets.length + 3))).setCell ⟨g5, 15, none⟩ (.slice (some ⟨o2, 0, none⟩) p.late.length (p.late.length + 3))).setCell ⟨g5, 18, none⟩ (.slice (some ⟨o3, 0, none⟩) p.hol.length (p.hol.length + 3))) := ⟨_, rfl⟩
    rw [← hy9]
    have hb9 : y9.heap[g5]? = some (.cells (pcs p (some ⟨o1, 0, none⟩) (p.resets.length + 3) (some ⟨o2, 0, none⟩) (p.late.length + 3) (some ⟨o3, 0, none⟩) (p.hol.length + 3)) 27 (0, 0)) := by
      rw [hy9]
      exact (heap_setCell_same _ g5 18 _ _ _ (heap_setCell_same _ g5 15 _ _ _ (heap_setCell_same _ g5 8 _ _ _ H53))).trans rfl
    have hbut : But g5 y3 y9 := by
      rw [hy9]
      exact ((But.setCell y3 ⟨g5, 8, none⟩ _).trans (But.setCell _ ⟨g5, 15, none⟩ _)).trans (But.setCell _ ⟨g5, 18, none⟩ _)
    have I5 := Aside0.mk hb9
    have I2 := Aside0.mk (hbut.blk (blk_below H2.out R3.out) gne)
    have P1 := Aside0.mk (hbut.blk O1.out (by omega))
    have P2 := Aside0.mk (hbut.blk O2.out (by omega))
    have P3 := Aside0.mk (hbut.blk O3.out (by omega))
    have BY := Aside0.mk (hbut.below (below_step BL2.out R3.out) g5ge (below_step BL2.out R3.out).size)
    have PW := Aside0.mk (HP.out.below BY.out)
    clear hy9 hb9 hbut H53 u8 u15 u18 f8 f15 f18 q8 q15 q18 R0 R1 R2 R3 S1 S2 O1 O2 O3 FAR
    go_wp2_with fail
    have PIN := Aside0.mk (show ProdAt y9 p (some ⟨o1, 0, none⟩) (p.resets.length + 3) (some ⟨o2, 0, none⟩) (p.late.length + 3) (some ⟨o3, 0, none⟩) (p.hol.length + 3) from ⟨rows_front (more := [[71, 0], [71, 0], [71, 0]]) P1.out (fun r hr => (by rcases List.mem_append.1 hr with h | h; exact (PW.out.r1.1 r h).1; (simp at h; rw [h]; rfl))) (fun r hr => (PW.out.r1.1 r hr).2), by omega, (fun h => by cases h), rows_front (more := [[71, 0], [71, 0], [71, 0]]) P2.out (fun r hr => (by rcases List.mem_append.1 hr with h | h; exact (PW.out.r2.1 r h).1; (simp at h; rw [h]; rfl))) (fun r hr => (PW.out.r2.1 r hr).2), by omega, (fun h => by cases h), H.Blk.reads P3.out (by omega), by omega, (fun h => by cases h)⟩)
    have U := Aside0.mk (Below.refl y9.heap.size y9)
    have RN : ∀ W : World, Calls Try.prog 18 #[.string s] W fun e w' => e = .returned (.bool (nameOk s.data.toList)) ∧ Below W.heap.size W w' := fun W => rname_any s W (by omega)
    refine wp_region_held_drew (S := (fun W => W.heap[g5]? = some (.cells (pcs p (some ⟨o1, 0, none⟩) (p.resets.length + 3) (some ⟨o2, 0, none⟩) (p.late.length + 3) (some ⟨o3, 0, none⟩) (p.hol.length + 3)) 27 (0, 0)) ∧ W.heap[g2]? = some (.cells (pcs p A1 c1 A2 c2 A3 c3) 27 (0, 0)))) (by kernel_rfl) ⟨I5.out, I2.out⟩ (fun hHeld => ?_)
    refine wpAnyH_ready (rs := [0]) (by kernel_rfl) (by simp) ?_
    refine AllReadyH.cons rfl (fun K hK => ?_) AllReadyH.nil
    go_simp
    go_at_call 11
    refine (prod_awake _ (HG.out.below (below_step BY.out (by first | exact pw_below_drewN U.out _ | exact Below.drew U.out | exact U.out)))).mono ?_
    rintro e yy ⟨rfl, hb⟩
    have U := Aside0.mk (below_step (by first | exact pw_below_drewN U.out _ | exact Below.drew U.out | exact U.out) hb)
    clear hb
    try go_wp2_with fail
    refine hK.out _ _ ⟨blk_below I5.out U.out, blk_below I2.out U.out⟩ (fun hHeld => ?_)
    clear hK K
    (try simp only [Act.put, List.setIfInBounds_toArray, List.set_cons_zero, List.set_cons_succ])
    refine wpAnyH_take (i := 1) (v := ?_) rfl (by kernel_rfl) (by kernel_rfl) (by kernel_rfl) (fun _ _ _ h => h) (Or.inl ⟨by rfl, ?_⟩) (by assumption) ?_
    rotate_left
    · intro W hSw; clear hSw; go_simp; first | done | with_reducible rfl
    (try simp only [Act.put, List.setIfInBounds_toArray, List.set_cons_zero, List.set_cons_succ])
    refine wpAnyH_take (i := 2) (v := _) rfl (by kernel_rfl) (by kernel_rfl) (by kernel_rfl) (fun _ _ _ h => h) (yieldsIf_load_mid (by rfl) 27 _ rfl g5 0 rfl (pcs p (some ⟨o1, 0, none⟩) (p.resets.length + 3) (some ⟨o2, 0, none⟩) (p.late.length + 3) (some ⟨o3, 0, none⟩) (p.hol.length + 3)).toList _ (fun W hSw => rng hSw.1) Try.underlying27 rfl info_prod) (by assumption) ?_
    (try simp only [Act.put, List.setIfInBounds_toArray, List.set_cons_zero, List.set_cons_succ])
    refine wpAnyH_take (i := 4) (v := _) rfl (by kernel_rfl) (by kernel_rfl) (by kernel_rfl) (fun _ _ _ h => h) (yieldsIf_load_mid (by rfl) 27 _ rfl g2 0 rfl (pcs p A1 c1 A2 c2 A3 c3).toList _ (fun W hSw => rng hSw.2) Try.underlying27 rfl info_prod) (by assumption) ?_
    (try simp only [Act.put, List.setIfInBounds_toArray, List.set_cons_zero, List.set_cons_succ])
    refine wpAnyH_ready (rs := [3]) (by kernel_rfl) (by simp) ?_
    refine AllReadyH.cons rfl (fun K hK => ?_) AllReadyH.nil
    go_simp
    go_at_call 15
    refine (check_any p (some ⟨o1, 0, none⟩) (p.resets.length + 3) (some ⟨o2, 0, none⟩) (p.late.length + 3) (some ⟨o3, 0, none⟩) (p.hol.length + 3) _ (HG.out.below (below_step BY.out (by first | exact pw_below_drewN U.out _ | exact Below.drew U.out | exact U.out))) (PIN.out.below (by first | exact pw_below_drewN U.out _ | exact Below.drew U.out | exact U.out)) SM.out).mono ?_
    rintro e yy ⟨rfl, hb⟩
    have U := Aside0.mk (below_step (by first | exact pw_below_drewN U.out _ | exact Below.drew U.out | exact U.out) hb)
    clear hb
    try go_wp2_with fail
    refine hK.out _ _ ⟨blk_below I5.out U.out, blk_below I2.out U.out⟩ (fun hHeld => ?_)
    clear hK K
    (try simp only [Act.put, List.setIfInBounds_toArray, List.set_cons_zero, List.set_cons_succ])
    refine wpAnyH_ready (rs := [5]) (by kernel_rfl) (by simp) ?_
    refine AllReadyH.cons rfl (fun K hK => ?_) AllReadyH.nil
    go_simp
    go_at_call 16
    refine (rcheck_any p A1 c1 A2 c2 A3 c3 _ (PW.out.below (by first | exact pw_below_drewN U.out _ | exact Below.drew U.out | exact U.out)) SM.out.held).mono ?_
    rintro e yy ⟨rfl, hb⟩
    have U := Aside0.mk (below_step (by first | exact pw_below_drewN U.out _ | exact Below.drew U.out | exact U.out) hb)
    clear hb
    try go_wp2_with fail
    refine hK.out _ _ ⟨blk_below I5.out U.out, blk_below I2.out U.out⟩ (fun hHeld => ?_)
    clear hK K
    (try simp only [Act.put, List.setIfInBounds_toArray, List.set_cons_zero, List.set_cons_succ])
    refine wpAnyH_take (i := 6) (v := ?_) rfl (by kernel_rfl) (by kernel_rfl) (by kernel_rfl) (fun _ _ _ h => h) (Or.inl ⟨by rfl, ?_⟩) (by assumption) ?_
    rotate_left
    · intro W hSw; clear hSw; go_simp; first | done | with_reducible rfl
    (try simp only [Act.put, List.setIfInBounds_toArray, List.set_cons_zero, List.set_cons_succ])
    refine wpAnyH_take (i := 7) (v := ?_) rfl (by kernel_rfl) (by kernel_rfl) (by kernel_rfl) (fun _ _ _ h => h) (Or.inl ⟨by rfl, ?_⟩) (by assumption) ?_
    rotate_left
    · intro W hSw; clear hSw; go_simp; first | done | with_reducible rfl
    (try simp only [Act.put, List.setIfInBounds_toArray, List.set_cons_zero, List.set_cons_succ])
    refine wpAnyH_take (i := 8) (v := ?_) rfl (by kernel_rfl) (by kernel_rfl) (by kernel_rfl) (fun _ _ _ h => h) (Or.inl ⟨by rfl, ?_⟩) (by assumption) ?_
    rotate_left
    · intro W hSw; clear hSw; go_simp; first | done | with_reducible rfl
    (try simp only [Act.put, List.setIfInBounds_toArray, List.set_cons_zero, List.set_cons_succ])
    refine wpAnyH_take (i := 9) (v := ?_) rfl (by kernel_rfl) (by kernel_rfl) (by kernel_rfl) (fun _ _ _ h => h) (Or.inl ⟨by rfl, ?_⟩) (by assumption) ?_
    rotate_left
    · intro W hSw; clear hSw; go_simp; first | done | with_reducible rfl
    (try simp only [Act.put, List.setIfInBounds_toArray, List.set_cons_zero, List.set_cons_succ])
    refine wpAnyH_take (i := 11) (v := ?_) rfl (by kernel_rfl) (by kernel_rfl) (by kernel_rfl) (fun _ _ _ h => h) (Or.inl ⟨by rfl, ?_⟩) (by assumption) ?_
    rotate_left
    · intro W hSw; clear hSw; go_simp; first | done | with_reducible rfl
    (try simp only [Act.put, List.setIfInBounds_toArray, List.set_cons_zero, List.set_cons_succ])
    refine wpAnyH_ready (rs := [10]) (by kernel_rfl) (by simp) ?_
    refine AllReadyH.cons rfl (fun K hK => ?_) AllReadyH.nil
    go_simp
    go_at_call 17
    refine (name_any s _ (HG.out.below (below_step BY.out (by first | exact pw_below_drewN U.out _ | exact Below.drew U.out | exact U.out)))).mono ?_
    rintro e yy ⟨rfl, hb⟩
    have U := Aside0.mk (below_step (by first | exact pw_below_drewN U.out _ | exact Below.drew U.out | exact U.out) hb)
    clear hb
    try go_wp2_with fail
    refine hK.out _ _ ⟨blk_below I5.out U.out, blk_below I2.out U.out⟩ (fun hHeld => ?_)
    clear hK K
    (try simp only [Act.put, List.setIfInBounds_toArray, List.set_cons_zero, List.set_cons_succ])
    refine wpAnyH_ready (rs := [12]) (by kernel_rfl) (by simp) ?_
    refine AllReadyH.cons rfl (fun K hK => ?_) AllReadyH.nil
    go_simp
    go_at_call 18
    refine (RN _).mono ?_
    rintro e yy ⟨rfl, hb⟩
    have U := Aside0.mk (below_step (by first | exact pw_below_drewN U.out _ | exact Below.drew U.out | exact U.out) hb)
    clear hb
    try go_wp2_with fail
    refine hK.out _ _ ⟨blk_below I5.out U.out, blk_below I2.out U.out⟩ (fun hHeld => ?_)
    clear hK K
    (try simp only [Act.put, List.setIfInBounds_toArray, List.set_cons_zero, List.set_cons_succ])
    refine wpAnyH_take (i := 13) (v := ?_) rfl (by kernel_rfl) (by kernel_rfl) (by kernel_rfl) (fun _ _ _ h => h) (Or.inl ⟨by rfl, ?_⟩) (by assumption) ?_
    rotate_left
    · intro W hSw; clear hSw; go_simp; first | done | with_reducible rfl
    (try simp only [Act.put, List.setIfInBounds_toArray, List.set_cons_zero, List.set_cons_succ])
    refine wpAnyH_take (i := 14) (v := ?_) rfl (by kernel_rfl) (by kernel_rfl) (by kernel_rfl) (fun _ _ _ h => h) (Or.inl ⟨by rfl, ?_⟩) (by assumption) ?_
    rotate_left
    · intro W hSw; clear hSw; go_simp; first | done | with_reducible rfl
    (try simp only [Act.put, List.setIfInBounds_toArray, List.set_cons_zero, List.set_cons_succ])
    refine wpAnyH_take (i := 15) (v := ?_) rfl (by kernel_rfl) (by kernel_rfl) (by kernel_rfl) (fun _ _ _ h => h) (Or.inl ⟨by rfl, ?_⟩) (by assumption) ?_
    rotate_left
    · intro W hSw; clear hSw; go_simp; first | done | with_reducible rfl
    (try simp only [Act.put, List.setIfInBounds_toArray, List.set_cons_zero, List.set_cons_succ])
    refine wpAnyH_take (i := 16) (v := ?_) rfl (by kernel_rfl) (by kernel_rfl) (by kernel_rfl) (fun _ _ _ h => h) (Or.inl ⟨by rfl, ?_⟩) (by assumption) ?_
    rotate_left
    · intro W hSw; clear hSw; go_simp; first | done | with_reducible rfl
    (try simp only [Act.put, List.setIfInBounds_toArray, List.set_cons_zero, List.set_cons_succ])
    refine wpAnyH_take (i := 17) (v := ?_) rfl (by kernel_rfl) (by kernel_rfl) (by kernel_rfl) (fun _ _ _ h => h) (Or.inl ⟨by rfl, ?_⟩) (by assumption) ?_
    rotate_left
    · intro W hSw; (try dsimp only at hSw); obtain ⟨-, -, -, -, -, -, -, -, q8, -, -, -, -, -, -, q15, -, -, q18⟩ := pc_cells hSw.1; obtain ⟨-, -, -, -, -, -, -, -, p8, -, -, -, -, -, -, p15, -, -, p18⟩ := pc_cells hSw.2; clear hSw; go_simp; first | done | with_reducible rfl
    (try simp only [Act.put, List.setIfInBounds_toArray, List.set_cons_zero, List.set_cons_succ])
    refine wpAnyH_take (i := 18) (v := ?_) rfl (by kernel_rfl) (by kernel_rfl) (by kernel_rfl) (fun _ _ _ h => h) (Or.inl ⟨by rfl, ?_⟩) (by assumption) ?_
    rotate_left
    · intro W hSw; clear hSw; go_simp; first | done | with_reducible rfl
    (try simp only [Act.put, List.setIfInBounds_toArray, List.set_cons_zero, List.set_cons_succ])
    refine wpAnyH_take (i := 19) (v := ?_) rfl (by kernel_rfl) (by kernel_rfl) (by kernel_rfl) (fun _ _ _ h => h) (Or.inl ⟨by rfl, ?_⟩) (by assumption) ?_
    rotate_left
    · intro W hSw; (try dsimp only at hSw); obtain ⟨-, -, -, -, -, -, -, -, q8, -, -, -, -, -, -, q15, -, -, q18⟩ := pc_cells hSw.1; obtain ⟨-, -, -, -, -, -, -, -, p8, -, -, -, -, -, -, p15, -, -, p18⟩ := pc_cells hSw.2; clear hSw; go_simp; first | done | with_reducible rfl
    (try simp only [Act.put, List.setIfInBounds_toArray, List.set_cons_zero, List.set_cons_succ])
    refine wpAnyH_take (i := 20) (v := ?_) rfl (by kernel_rfl) (by kernel_rfl) (by kernel_rfl) (fun _ _ _ h => h) (Or.inl ⟨by rfl, ?_⟩) (by assumption) ?_
    rotate_left
    · intro W hSw; clear hSw; go_simp; first | done | with_reducible rfl
    (try simp only [Act.put, List.setIfInBounds_toArray, List.set_cons_zero, List.set_cons_succ])
    refine wpAnyH_ready (rs := [21]) (by kernel_rfl) (by simp) ?_
    refine AllReadyH.cons rfl (fun K hK => ?_) AllReadyH.nil
    go_simp
    go_at_call 19
    refine (keptS o1 A1 c1 p.resets 71 0 _ (blk_below P1.out (by first | exact pw_below_drewN U.out _ | exact Below.drew U.out | exact U.out)) ((PW.out.below (by first | exact pw_below_drewN U.out _ | exact Below.drew U.out | exact U.out)).r1) SM.out.s1).mono ?_
    rintro e yy ⟨rfl, hb⟩
    have U := Aside0.mk (below_step (by first | exact pw_below_drewN U.out _ | exact Below.drew U.out | exact U.out) hb)
    clear hb
    try go_wp2_with fail
    refine hK.out _ _ ⟨blk_below I5.out U.out, blk_below I2.out U.out⟩ (fun hHeld => ?_)
    clear hK K
    (try simp only [Act.put, List.setIfInBounds_toArray, List.set_cons_zero, List.set_cons_succ])
    refine wpAnyH_take (i := 22) (v := ?_) rfl (by kernel_rfl) (by kernel_rfl) (by kernel_rfl) (fun _ _ _ h => h) (Or.inl ⟨by rfl, ?_⟩) (by assumption) ?_
    rotate_left
    · intro W hSw; clear hSw; go_simp; first | done | with_reducible rfl
    (try simp only [Act.put, List.setIfInBounds_toArray, List.set_cons_zero, List.set_cons_succ])
    refine wpAnyH_take (i := 23) (v := ?_) rfl (by kernel_rfl) (by kernel_rfl) (by kernel_rfl) (fun _ _ _ h => h) (Or.inl ⟨by rfl, ?_⟩) (by assumption) ?_
    rotate_left
    · intro W hSw; clear hSw; go_simp; first | done | with_reducible rfl
    (try simp only [Act.put, List.setIfInBounds_toArray, List.set_cons_zero, List.set_cons_succ])
    refine wpAnyH_take (i := 24) (v := ?_) rfl (by kernel_rfl) (by kernel_rfl) (by kernel_rfl) (fun _ _ _ h => h) (Or.inl ⟨by rfl, ?_⟩) (by assumption) ?_
    rotate_left
    · intro W hSw; clear hSw; go_simp; first | done | with_reducible rfl
    (try simp only [Act.put, List.setIfInBounds_toArray, List.set_cons_zero, List.set_cons_succ])
    refine wpAnyH_take (i := 25) (v := ?_) rfl (by kernel_rfl) (by kernel_rfl) (by kernel_rfl) (fun _ _ _ h => h) (Or.inl ⟨by rfl, ?_⟩) (by assumption) ?_
    rotate_left
    · intro W hSw; (try dsimp only at hSw); obtain ⟨-, -, -, -, -, -, -, -, q8, -, -, -, -, -, -, q15, -, -, q18⟩ := pc_cells hSw.1; obtain ⟨-, -, -, -, -, -, -, -, p8, -, -, -, -, -, -, p15, -, -, p18⟩ := pc_cells hSw.2; clear hSw; go_simp; first | done | with_reducible rfl
    (try simp only [Act.put, List.setIfInBounds_toArray, List.set_cons_zero, List.set_cons_succ])
    refine wpAnyH_take (i := 26) (v := ?_) rfl (by kernel_rfl) (by kernel_rfl) (by kernel_rfl) (fun _ _ _ h => h) (Or.inl ⟨by rfl, ?_⟩) (by assumption) ?_
    rotate_left
    · intro W hSw; clear hSw; go_simp; first | done | with_reducible rfl
    (try simp only [Act.put, List.setIfInBounds_toArray, List.set_cons_zero, List.set_cons_succ])
    refine wpAnyH_take (i := 27) (v := ?_) rfl (by kernel_rfl) (by kernel_rfl) (by kernel_rfl) (fun _ _ _ h => h) (Or.inl ⟨by rfl, ?_⟩) (by assumption) ?_
    rotate_left
    · intro W hSw; (try dsimp only at hSw); obtain ⟨-, -, -, -, -, -, -, -, q8, -, -, -, -, -, -, q15, -, -, q18⟩ := pc_cells hSw.1; obtain ⟨-, -, -, -, -, -, -, -, p8, -, -, -, -, -, -, p15, -, -, p18⟩ := pc_cells hSw.2; clear hSw; go_simp; first | done | with_reducible rfl
    (try simp only [Act.put, List.setIfInBounds_toArray, List.set_cons_zero, List.set_cons_succ])
    refine wpAnyH_take (i := 28) (v := ?_) rfl (by kernel_rfl) (by kernel_rfl) (by kernel_rfl) (fun _ _ _ h => h) (Or.inl ⟨by rfl, ?_⟩) (by assumption) ?_
    rotate_left
    · intro W hSw; clear hSw; go_simp; first | done | with_reducible rfl
    (try simp only [Act.put, List.setIfInBounds_toArray, List.set_cons_zero, List.set_cons_succ])
    refine wpAnyH_ready (rs := [29]) (by kernel_rfl) (by simp) ?_
    refine AllReadyH.cons rfl (fun K hK => ?_) AllReadyH.nil
    go_simp
    go_at_call 20
    refine (keptT o2 A2 c2 p.late 71 0 _ (blk_below P2.out (by first | exact pw_below_drewN U.out _ | exact Below.drew U.out | exact U.out)) ((PW.out.below (by first | exact pw_below_drewN U.out _ | exact Below.drew U.out | exact U.out)).r2) SM.out.s2).mono ?_
    rintro e yy ⟨rfl, hb⟩
    have U := Aside0.mk (below_step (by first | exact pw_below_drewN U.out _ | exact Below.drew U.out | exact U.out) hb)
    clear hb
    try go_wp2_with fail
    refine hK.out _ _ ⟨blk_below I5.out U.out, blk_below I2.out U.out⟩ (fun hHeld => ?_)
    clear hK K
    (try simp only [Act.put, List.setIfInBounds_toArray, List.set_cons_zero, List.set_cons_succ])
    refine wpAnyH_take (i := 30) (v := ?_) rfl (by kernel_rfl) (by kernel_rfl) (by kernel_rfl) (fun _ _ _ h => h) (Or.inl ⟨by rfl, ?_⟩) (by assumption) ?_
    rotate_left
    · intro W hSw; clear hSw; go_simp; first | done | with_reducible rfl
    (try simp only [Act.put, List.setIfInBounds_toArray, List.set_cons_zero, List.set_cons_succ])
    refine wpAnyH_take (i := 31) (v := ?_) rfl (by kernel_rfl) (by kernel_rfl) (by kernel_rfl) (fun _ _ _ h => h) (Or.inl ⟨by rfl, ?_⟩) (by assumption) ?_
    rotate_left
    · intro W hSw; clear hSw; go_simp; first | done | with_reducible rfl
    (try simp only [Act.put, List.setIfInBounds_toArray, List.set_cons_zero, List.set_cons_succ])
    refine wpAnyH_take (i := 32) (v := ?_) rfl (by kernel_rfl) (by kernel_rfl) (by kernel_rfl) (fun _ _ _ h => h) (Or.inl ⟨by rfl, ?_⟩) (by assumption) ?_
    rotate_left
    · intro W hSw; clear hSw; go_simp; first | done | with_reducible rfl
    (try simp only [Act.put, List.setIfInBounds_toArray, List.set_cons_zero, List.set_cons_succ])
    refine wpAnyH_take (i := 33) (v := ?_) rfl (by kernel_rfl) (by kernel_rfl) (by kernel_rfl) (fun _ _ _ h => h) (Or.inl ⟨by rfl, ?_⟩) (by assumption) ?_
    rotate_left
    · intro W hSw; (try dsimp only at hSw); obtain ⟨-, -, -, -, -, -, -, -, q8, -, -, -, -, -, -, q15, -, -, q18⟩ := pc_cells hSw.1; obtain ⟨-, -, -, -, -, -, -, -, p8, -, -, -, -, -, -, p15, -, -, p18⟩ := pc_cells hSw.2; clear hSw; go_simp; first | done | with_reducible rfl
    (try simp only [Act.put, List.setIfInBounds_toArray, List.set_cons_zero, List.set_cons_succ])
    refine wpAnyH_take (i := 34) (v := ?_) rfl (by kernel_rfl) (by kernel_rfl) (by kernel_rfl) (fun _ _ _ h => h) (Or.inl ⟨by rfl, ?_⟩) (by assumption) ?_
    rotate_left
    · intro W hSw; clear hSw; go_simp; first | done | with_reducible rfl
    (try simp only [Act.put, List.setIfInBounds_toArray, List.set_cons_zero, List.set_cons_succ])
    refine wpAnyH_take (i := 35) (v := ?_) rfl (by kernel_rfl) (by kernel_rfl) (by kernel_rfl) (fun _ _ _ h => h) (Or.inl ⟨by rfl, ?_⟩) (by assumption) ?_
    rotate_left
    · intro W hSw; (try dsimp only at hSw); obtain ⟨-, -, -, -, -, -, -, -, q8, -, -, -, -, -, -, q15, -, -, q18⟩ := pc_cells hSw.1; obtain ⟨-, -, -, -, -, -, -, -, p8, -, -, -, -, -, -, p15, -, -, p18⟩ := pc_cells hSw.2; clear hSw; go_simp; first | done | with_reducible rfl
    (try simp only [Act.put, List.setIfInBounds_toArray, List.set_cons_zero, List.set_cons_succ])
    refine wpAnyH_ready (rs := [36]) (by kernel_rfl) (by simp) ?_
    refine AllReadyH.cons rfl (fun K hK => ?_) AllReadyH.nil
    go_simp
    go_at_call 21
    refine (H.keptI (H.Blk.below P3.out (by first | exact pw_below_drewN U.out _ | exact Below.drew U.out | exact U.out)) ((PW.out.below (by first | exact pw_below_drewN U.out _ | exact Below.drew U.out | exact U.out)).r3) SM.out.s3).mono ?_
    rintro e yy ⟨rfl, hb⟩
    have U := Aside0.mk (below_step (by first | exact pw_below_drewN U.out _ | exact Below.drew U.out | exact U.out) hb)
    clear hb
    try go_wp2_with fail
    refine hK.out _ _ ⟨blk_below I5.out U.out, blk_below I2.out U.out⟩ (fun hHeld => ?_)
    clear hK K
    (try simp only [Act.put, List.setIfInBounds_toArray, List.set_cons_zero, List.set_cons_succ])
    refine wpAnyH_ready (rs := [37]) (by kernel_rfl) (by simp) ?_
    refine AllReadyH.cons rfl (fun K hK => ?_) AllReadyH.nil
    go_simp
    refine hK.out _ _ ⟨blk_below I5.out U.out, blk_below I2.out U.out⟩ (fun hHeld => ?_)
    clear hK K
    (try simp only [Act.put, List.setIfInBounds_toArray, List.set_cons_zero, List.set_cons_succ])
    refine wpAnyH_ready (rs := [38]) (by kernel_rfl) (by simp) ?_
    refine AllReadyH.cons rfl (fun K hK => ?_) AllReadyH.nil
    go_simp
    refine hK.out _ _ ⟨blk_below I5.out U.out, blk_below I2.out U.out⟩ (fun hHeld => ?_)
    clear hK K
    (try simp only [Act.put, List.setIfInBounds_toArray, List.set_cons_zero, List.set_cons_succ])
    refine wpAnyH_done (by kernel_rfl) ?_ _
    clear hHeld
    go_wp2_with fail
    go_ret
    exact ⟨rfl, below_step BY.out U.out⟩
end Go.Proofs.Ytcbebbiedegjlaa.Pd
