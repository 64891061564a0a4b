/- Contracts by hand: copies of one's own, of rows of two; whether they were kept. -/
import Derived.Test.YtcbebbiedegjlaaLp
namespace Go.Proofs.Ytcbebbiedegjlaa.Pd
open Go.RowKit Go.Proofs.YtcbebbiedegjlaaW.PrintWords Go.Proofs.YtcbebbiedegjlaaW.PrintLast Go.Proofs.YtcbebbiedegjlaaW.PrintMore Go.Proofs.Ytcbebbiedegjlaa.HW
open Pm
set_option linter.unusedVariables false
set_option linter.unusedSimpArgs false
/-- k of the three are laid. -/
structure Laying2 (T : TypeId) (rows : List (List Int)) (x : List Int) (g : Nat) (W : World) (k : Nat) (ts : List Value) : Prop where
  len : ts.length = 2 * (3 - k)
  at_ : W.heap[g]? = some (.cells (cellsR (rows ++ List.replicate k x) ++ ts).toArray T (0, 0))
theorem Laying2.done {T : TypeId} {rows : List (List Int)} {x : List Int} {g : Nat} {W : World} {ts : List Value} (h : Laying2 T rows x g W 3 ts) : W.heap[g]? = some (.cells (cellsR (rows ++ [x, x, x])).toArray T (0, 0)) := by
  obtain rfl : ts = [] := List.eq_nil_of_length_eq_zero h.len
  have := h.at_
  rw [List.append_nil] at this
  exact this
theorem Laying2.next {T : TypeId} {rows : List (List Int)} {x : List Int} {g : Nat} {W w1 : World} {k : Nat} {ts : List Value} (h : Laying2 T rows x g W k ts) (hk : k < 3) (h1 : w1.heap[g]? = some (.cells (cellsR (rows ++ List.replicate k x) ++ (x.map (Value.int .i64) ++ ts.drop 2)).toArray T (0, 0))) : Laying2 T rows x g w1 (k + 1) (ts.drop 2) := by
  refine ⟨by rw [List.length_drop, h.len]; omega, ?_⟩
  rw [h1, List.replicate_succ', ← List.append_assoc rows, cellsR_snoc, List.append_assoc]
theorem Laying2.set {T : TypeId} {rows : List (List Int)} {x : List Int} {g : Nat} {W : World} {k : Nat} {ts : List Value} (h : Laying2 T rows x g W k ts) (hk : k < 3) (hr : ∀ r ∈ rows, r.length = 2) (hx : x.length = 2) :
    (rows.length + k) * 2 + 2 ≤ (cellsR (rows ++ List.replicate k x) ++ ts).toArray.size ∧ setAll (cellsR (rows ++ List.replicate k x) ++ ts).toArray ((rows.length + k) * 2) (x.map (Value.int .i64)) = (cellsR (rows ++ List.replicate k x) ++ (x.map (Value.int .i64) ++ ts.drop 2)).toArray := by
  have hl : (cellsR (rows ++ List.replicate k x)).length = (rows.length + k) * 2 := by
    rw [cellsR_len (sz := 2), List.length_append, List.length_replicate]
    intro r hr'
    rcases List.mem_append.1 hr' with h' | h'
    · exact hr r h'
    · rw [List.eq_of_mem_replicate h']; exact hx
  constructor
  · rw [List.size_toArray, List.length_append, hl, h.len]; omega
  · have e := setAll_mid (x.map (Value.int .i64)) (cellsR (rows ++ List.replicate k x)) (ts.take 2) (ts.drop 2) (by rw [List.length_take, h.len, List.length_map, hx]; omega)
    rw [List.take_append_drop, hl] at e
    exact e
theorem info2T : (Try.prog.info? 34).map (fun i => (i.zero, i.size, i.bytes)) = some (some (.agg #[.int .i64 0, .int .i64 0]), 2, 16) := by kernel_rfl
set_option maxRecDepth 100000 in
set_option maxHeartbeats 1000000 in
theorem ownT_some (ad : Addr) (c0 : Nat) (rows : List (List Int)) (a b : Int) (w : World) (hr0 : Op.IntRows w (some ad) 2 rows) (hc0 : rows.length ≤ c0) (hm : rows.length ≤ 1000000) :
    Calls Try.prog 13 #[.slice (some ad) rows.length c0, .agg #[.int .i64 a, .int .i64 b]] w (OwnedR 34 rows [a, b] w) := by
  obtain ⟨i0, hi, hz0, hz1, hz2⟩ := info_parts info2T
  have HR0 := Aside0.mk hr0
  have HL4 := Aside0.mk (fun r hr => (hr0.1 r hr).1)
  clear hr0
  go_enter Try.func13, Try.ntmps13
  go_wp2_with (first
    | ((with_reducible refine gate_dst (N := 3) rfl ?_); refine box_event ?hg (N := 3) ?hd (cs := #[.int .i64 a, .int .i64 b]) (t := 34) ?hr ?_; (case hd => rfl); (case hg => rfl); (case hr => first | (go_simp; done) | (go_simp; rfl)); intro g3 hg w1 hb1 hbl1; clear hg; have HB3 := Aside0.mk hb1; have BL1 := Aside0.mk hbl1; clear hb1 hbl1)
    | (refine wpList_make_own _ rfl _ _ 24 rfl w1.heap.size 34 i0 (.agg #[.int .i64 0, .int .i64 0]) 2 Try.underlying24 hi hz0 hz1 .i64 .i64 _ (rows.length + 3) rfl rfl (by simp) (by rw [hz2]; omega) (by unfold maxLen; omega) (Nat.le_refl _) ?_; intro w2 hown1 hgrow1; have HB1 := Aside0.mk ((Below.refl w1.heap.size w1).grown hgrow1 (Nat.le_refl _) (fun k hk => by cases hk)); have HO := Aside0.mk hown1; have HN := Aside0.mk (rows_news (by decide) (HR0.out.below (below_step BL1.out HB1.out))); clear hown1 hgrow1)
    | (at_builtin; refine wpList_append_fits _ rfl _ _ 24 rfl w1.heap.size 34 i0 2 Try.underlying24 hi hz1 w1.heap.size 0 (rows.length + 3) [] rfl HO.out ad rows.length c0 (cellsR rows) rfl (cellsR_len HL4.out) HN.out (cellsR_one rows) (by omega) ?_; intro w3 hown2 hgrow2; have HB2 := Aside0.mk (HB1.out.grown hgrow2 HB1.out.size (fun k hk => by cases hk; exact Nat.le_refl _)); have HO2 := Aside0.mk hown2; clear hown2 hgrow2))
  obtain ⟨ts, hts⟩ : ∃ ts, Laying2 34 rows [a, b] w1.heap.size w3 0 ts := by
    rcases HO2.out.2 with ⟨h, _⟩ | ⟨g', cap', cur, e', _, hh, h1, h2, h3, h4⟩
    · cases h
    · injection e' with e1 e2 e3
      injection e1 with e1
      injection e1 with e4
      subst e4
      subst e3
      rw [Nat.zero_add, List.nil_append] at h4
      refine ⟨cur.toList.drop (rows.length * 2), by rw [List.length_drop, Array.length_toList, h3]; omega, ?_⟩
      rw [List.replicate_zero, List.append_nil, ← h4, List.take_append_drop, hh]
  have HTS := Aside0.mk hts
  have BW := Aside0.mk HB2.out
  have BS := Aside0.mk (below_step BL1.out HB2.out)
  have g1ge := BL1.out.size
  clear hts HO HO2 HN HB1 HB2
  obtain ⟨g, hg⟩ : ∃ g, w1.heap.size = g := ⟨_, rfl⟩
  have g3ne := (show g3 < g by have := blk_lt HB3.out; omega)
  have H3 := Aside0.mk (blk_below HB3.out BW.out)
  rw [hg] at HTS g1ge
  simp only [hg]
  clear BW HB3 BL1
  go_wp2_with fail
  go_loopg [7] 4 (fun gq iv w' => ∃ (k : Nat) (ts : List Value), k ≤ 3 ∧ iv = .int .i64 ((rows.length : Int) + (k : Int)) ∧ Aside0 (gq = 4 - k) ∧ Aside0 (Laying2 34 rows [a, b] g w' k ts) ∧ Aside0 (Below w.heap.size w w') ∧ Aside0 (w'.heap[g3]? = some (.cells #[.int .i64 a, .int .i64 b] 34 (0, 0))))
  case atStart => exact ⟨0, ts, by omega, by simp, ⟨rfl⟩, HTS, BS, H3⟩
  case round =>
    obtain ⟨k, ts, k3, rfl, hgq, hL, hB, h3⟩ := hrel
    by_cases hlt : k < 3
    · obtain ⟨hfit, hset⟩ := hL.out.set hlt HL4.out rfl
      have HFIT := Aside0.mk hfit
      have HSET := Aside0.mk hset
      clear hfit hset
      have glt := blk_lt hL.out.at_
      have cc := (cell_of_row wr g ((rows.length + k) * 2) _ 34 (0, 0) hL.out.at_)
      clear cc
      go_wp2_with (first
        | ((with_reducible refine gate_dst (N := 30) rfl ?_); refine wpList_load_row rfl 34 (.tmp 3) rfl g3 rfl 34 _ (0, 0) _ h3.out Try.underlying34 rfl info_tier ?_)
        | ((with_reducible refine gate_store (t := 34) (p := 31) rfl ?_); refine puts_event rfl (t := 34) (p := 31) (v := .tmp 30) rfl rfl (g := g) (i := (rows.length + k) * 2) (cs := _) (cs' := _) (vs := #[.int .i64 a, .int .i64 b]) ?hx ?hy hL.out.at_ HFIT.out info_tier (two_one _ _) HSET.out ?_; (case hx => first | rfl | (go_simp; done) | (go_simp; rfl)); (case hy => first | rfl | (go_simp; done)); intro v3 hb hbut; have L3 := Aside0.mk (hL.out.next hlt hb); have B3 := Aside0.mk (hbut.below hB.out g1ge hB.out.size); have I3 := Aside0.mk (hbut.blk h3.out (by omega)); clear hb hbut))
      go_roundg (4 - (k + 1))
      case measure => have := hgq.out; omega
      case rel => exact ⟨k + 1, ts.drop 2, by omega, by simp; omega, ⟨rfl⟩, L3, B3, I3⟩
    · obtain rfl : k = 3 := by omega
      go_wp2_with fail
      go_ret
      exact ⟨g, g1ge, rfl, hL.out.done, hB.out⟩
set_option maxRecDepth 100000 in
set_option maxHeartbeats 1000000 in
theorem ownT_nil (a b : Int) (w : World) :
    Calls Try.prog 13 #[.slice none 0 0, .agg #[.int .i64 a, .int .i64 b]] w (OwnedR 34 [] [a, b] w) := by
  obtain ⟨i0, hi, hz0, hz1, hz2⟩ := info_parts info2T
  go_enter Try.func13, Try.ntmps13
  go_wp2_with (first
    | ((with_reducible refine gate_dst (N := 3) rfl ?_); refine box_event ?hg (N := 3) ?hd (cs := #[.int .i64 a, .int .i64 b]) (t := 34) ?hr ?_; (case hd => rfl); (case hg => rfl); (case hr => first | (go_simp; done) | (go_simp; rfl)); intro g3 hg w1 hb1 hbl1; clear hg; have HB3 := Aside0.mk hb1; have BL1 := Aside0.mk hbl1; clear hb1 hbl1)
    | (refine wpList_make_own _ rfl _ _ 24 rfl w1.heap.size 34 i0 (.agg #[.int .i64 0, .int .i64 0]) 2 Try.underlying24 hi hz0 hz1 .i64 .i64 _ (0 + 3) rfl rfl (by simp) (by rw [hz2]; omega) (by unfold maxLen; omega) (Nat.le_refl _) ?_; intro w2 hown1 hgrow1; have HB1 := Aside0.mk ((Below.refl w1.heap.size w1).grown hgrow1 (Nat.le_refl _) (fun k hk => by cases hk)); have HO2 := Aside0.mk hown1; clear hown1 hgrow1; refine Hid.out ?_))
  refine Lib.hid ?_
  obtain ⟨ts, hts⟩ : ∃ ts, Laying2 34 [] [a, b] w1.heap.size w2 0 ts := by
    rcases HO2.out.2 with ⟨h, _⟩ | ⟨g', cap', cur, e', _, hh, h1, h2, h3, h4⟩
    · cases h
    · injection e' with e1 e2 e3
      injection e1 with e1
      injection e1 with e4
      subst e4
      subst e3
      refine ⟨cur.toList, by rw [Array.length_toList, h3], ?_⟩
      rw [hh]
      rfl
  have HTS := Aside0.mk hts
  have BW := Aside0.mk HB1.out
  have BS := Aside0.mk (below_step BL1.out HB1.out)
  have g1ge := BL1.out.size
  clear hts HO2 HB1
  obtain ⟨g, hg⟩ : ∃ g, w1.heap.size = g := ⟨_, rfl⟩
  have g3ne := (show g3 < g by have := blk_lt HB3.out; omega)
  have H3 := Aside0.mk (blk_below HB3.out BW.out)
  have glt0 := blk_lt HTS.out.at_
  rw [hg] at HTS g1ge glt0
  simp only [hg]
  clear BW HB3 BL1
  go_wp2_with fail
  go_loopg [7] 4 (fun gq iv w' => ∃ (k : Nat) (ts : List Value), k ≤ 3 ∧ iv = .int .i64 (k : Int) ∧ Aside0 (gq = 4 - k) ∧ Aside0 (Laying2 34 [] [a, b] g w' k ts) ∧ Aside0 (Below w.heap.size w w') ∧ Aside0 (w'.heap[g3]? = some (.cells #[.int .i64 a, .int .i64 b] 34 (0, 0))))
  case atStart => exact ⟨0, ts, by omega, by simp, ⟨rfl⟩, HTS, BS, H3⟩
  case round =>
    obtain ⟨k, ts, k3, rfl, hgq, hL, hB, h3⟩ := hrel
    by_cases hlt : k < 3
    · obtain ⟨hfit, hset⟩ := hL.out.set hlt (fun r hr => by cases hr) rfl
      rw [show (([] : List (List Int)).length + k) * 2 = k * 2 by simp] at hfit hset
      have HFIT := Aside0.mk hfit
      have HSET := Aside0.mk hset
      clear hfit hset
      have glt := blk_lt hL.out.at_
      go_wp2_with (first
        | ((with_reducible refine gate_dst (N := 30) rfl ?_); refine wpList_load_row rfl 34 (.tmp 3) rfl g3 rfl 34 _ (0, 0) _ h3.out Try.underlying34 rfl info_tier ?_)
        | ((with_reducible refine gate_store (t := 34) (p := 31) rfl ?_); refine puts_event rfl (t := 34) (p := 31) (v := .tmp 30) rfl rfl (g := g) (i := k * 2) (cs := _) (cs' := _) (vs := #[.int .i64 a, .int .i64 b]) ?hx ?hy hL.out.at_ HFIT.out info_tier (two_one _ _) HSET.out ?_; (case hx => first | rfl | (go_simp; done) | (go_simp; rfl)); (case hy => first | rfl | (go_simp; done)); intro v3 hb hbut; have L3 := Aside0.mk (hL.out.next hlt hb); have B3 := Aside0.mk (hbut.below hB.out g1ge hB.out.size); have I3 := Aside0.mk (hbut.blk h3.out (by omega)); clear hb hbut))
      go_roundg (4 - (k + 1))
      case measure => have := hgq.out; omega
      case rel => exact ⟨k + 1, ts.drop 2, by omega, by simp, ⟨rfl⟩, L3, B3, I3⟩
    · obtain rfl : k = 3 := by omega
      go_wp2_with fail
      go_ret
      exact ⟨g, g1ge, rfl, hL.out.done, hB.out⟩
theorem ownT_any (A : Option Addr) (c0 : Nat) (rows : List (List Int)) (a b : Int) (w : World) (hr0 : Op.IntRows w A 2 rows) (hc0 : rows.length ≤ c0) (hn : A = none → c0 = 0) (hm : rows.length ≤ 1000000) :
    Calls Try.prog 13 #[.slice A rows.length c0, .agg #[.int .i64 a, .int .i64 b]] w (OwnedR 34 rows [a, b] w) := by
  cases A with
  | some ad => exact ownT_some ad c0 rows a b w hr0 hc0 hm
  | none =>
    obtain rfl := hn rfl
    obtain rfl : rows = [] := List.eq_nil_of_length_eq_zero (by omega)
    exact ownT_nil a b w
set_option maxRecDepth 100000 in
set_option maxHeartbeats 1000000 in
theorem plainT1 (a b : Int) (w : World) : Calls Try.prog 58 #[.agg #[.int .i64 a, .int .i64 b], .agg #[.int .i64 a, .int .i64 b]] w fun e w' => e = .returned (.bool true) ∧ Below w.heap.size w w' := by
  go_enter Try.func58, Try.ntmps58
  go_wp2_with (first
    | ((with_reducible refine gate_dst (N := 2) rfl ?_); refine box_event ?hg (N := 2) ?hd (cs := #[.int .i64 a, .int .i64 b]) (t := 34) ?hr ?_; (case hd => rfl); (case hg => rfl); (case hr => first | (go_simp; done) | (go_simp; rfl)); intro g2 hg w1 hb1 hbl1; clear hg; have HB2 := Aside0.mk hb1; have BL1 := Aside0.mk hbl1; clear hb1 hbl1)
    | ((with_reducible refine gate_dst (N := 3) rfl ?_); refine box_event ?hg (N := 3) ?hd (cs := #[.int .i64 a, .int .i64 b]) (t := 34) ?hr ?_; (case hd => rfl); (case hg => rfl); (case hr => first | (go_simp; done) | (go_simp; rfl)); intro g3 hg w2 hb1 hbl1; clear hg; have HB3 := Aside0.mk hb1; have HB22 := Aside0.mk (blk_below HB2.out hbl1); have BL2 := Aside0.mk (below_step BL1.out hbl1); clear hb1 hbl1)
    | ((with_reducible refine gate_dst (N := 5) rfl ?_); refine wpList_load_row rfl 34 (.tmp 2) rfl g2 rfl 34 _ (0, 0) _ HB22.out Try.underlying34 rfl info_tier ?_)
    | ((with_reducible refine gate_dst (N := 6) rfl ?_); refine wpList_load_row rfl 34 (.tmp 3) rfl g3 rfl 34 _ (0, 0) _ HB3.out Try.underlying34 rfl info_tier ?_))
  go_ret
  exact ⟨by simp, BL2.out⟩
set_option maxRecDepth 100000 in
set_option maxHeartbeats 1000000 in
theorem sameT (A0 A1 : Option Addr) (c0 c1 : Nat) (rows : List (List Int)) (w : World) (hr0 : Op.IntRows w A0 2 rows) (hr1 : Op.IntRows w A1 2 rows) (hm : rows.length ≤ 1000000) :
    Calls Try.prog 57 #[.slice A0 rows.length c0, .slice A1 rows.length c1, .func (.func 58) #[] #[]] w fun e w' => e = .returned (.bool true) ∧ Below w.heap.size w w' := by
  have HR0 := Aside0.mk hr0
  have HR1 := Aside0.mk hr1
  clear hr0 hr1
  go_enter Try.func57, Try.ntmps57
  go_wp2_with fail
  go_loopg [7] (rows.length + 1) (fun gq iv w' => ∃ (k : Nat), k ≤ rows.length ∧ iv = .int .i64 (k : Int) ∧ Aside0 (gq = rows.length + 1 - k) ∧ Aside0 (Below w.heap.size w w'))
  case atStart => exact ⟨0, Nat.zero_le _, rfl, ⟨rfl⟩, ⟨Below.refl _ _⟩⟩
  case round =>
    obtain ⟨k, hk, rfl, hgq, hbl⟩ := hrel
    by_cases hlt : k < rows.length
    · obtain ⟨ad0, x, y, e0, hrow, p0, p1, -, -⟩ := two_at (HR0.out.below hbl.out) k hlt
      obtain ⟨ad1, x', y', e1, hrow', s0, s1, -, -⟩ := two_at (HR1.out.below hbl.out) k hlt
      obtain ⟨rfl, rfl⟩ : x = x' ∧ y = y' := by
        have h := hrow.symm.trans hrow'
        simpa using h
      subst e0 e1
      have kk0 : (0 : Int) ≤ (k : Int) := by omega
      have kk1 : (k : Int) < (rows.length : Int) := by omega
      clear hrow hrow'
      go_wp2_with fail
      go_still_tail 9, (by kernel_rfl)
      go_wp2_with ((go_at_call 58; refine (plainT1 x y _).mono ?_; rintro e v1 ⟨rfl, hb⟩; have B1 := Aside0.mk (below_step (by first | exact pw_below_drewN hbl.out _ | exact Below.drew hbl.out | exact hbl.out) hb); clear hb))
      go_roundg (rows.length + 1 - (k + 1))
      case measure => have := hgq.out; omega
      case rel => exact ⟨k + 1, by omega, by simp, ⟨rfl⟩, B1⟩
    · have hk2 : k = rows.length := by omega
      subst hk2
      go_wp2_with fail
      go_ret
      exact ⟨rfl, hbl.out⟩
set_option maxRecDepth 100000 in
set_option maxHeartbeats 1000000 in
theorem plainT (A0 A1 : Option Addr) (c0 c1 : Nat) (rows : List (List Int)) (w : World) (hr0 : Op.IntRows w A0 2 rows) (hr1 : Op.IntRows w A1 2 rows) (hm : rows.length ≤ 1000000) :
    Calls Try.prog 45 #[.slice A0 rows.length c0, .slice A1 rows.length c1] w fun e w' => e = .returned (.bool true) ∧ Below w.heap.size w w' := by
  have HR0 := Aside0.mk hr0
  have HR1 := Aside0.mk hr1
  clear hr0 hr1
  go_enter Try.func45, Try.ntmps45
  go_wp2_with fail
  refine (sameT A0 A1 c0 c1 rows _ HR0.out HR1.out hm).mono ?_
  rintro e v1 ⟨rfl, hb⟩
  have B1 := Aside0.mk hb
  clear hb
  go_wp2_with fail
  go_ret
  exact ⟨rfl, B1.out⟩
set_option maxRecDepth 100000 in
set_option maxHeartbeats 1000000 in
theorem keptT (g : Nat) (A1 : Option Addr) (c1 : Nat) (rows : List (List Int)) (a b : Int) (w : World) (hg : w.heap[g]? = some (.cells (cellsR (rows ++ [[a, b], [a, b], [a, b]])).toArray 34 (0, 0))) (hr1 : Op.IntRows w A1 2 rows) (hm : rows.length ≤ 1000000) :
    Calls Try.prog 20 #[.slice (some ⟨g, 0, none⟩) rows.length (rows.length + 3), .slice A1 rows.length c1, .agg #[.int .i64 a, .int .i64 b]] w fun e w' => e = .returned (.bool true) ∧ Below w.heap.size w w' := by
  have HL4 : ∀ r ∈ rows ++ [[a, b], [a, b], [a, b]], r.length = 2 := fun r hr => by
    rcases List.mem_append.1 hr with h | h
    · exact (hr1.1 r h).1
    · simp at h; rw [h]; rfl
  have HF := Aside0.mk (rows_front hg HL4 (fun r hr => (hr1.1 r hr).2))
  have HG := Aside0.mk hg
  have HR1 := Aside0.mk hr1
  have HL := Aside0.mk HL4
  clear hg hr1 HL4
  go_enter Try.func20, Try.ntmps20
  go_wp2_with (first
    | ((with_reducible refine gate_dst (N := 5) rfl ?_); refine box_event ?hg (N := 5) ?hd (cs := #[.int .i64 a, .int .i64 b]) (t := 34) ?hr ?_; (case hd => rfl); (case hg => rfl); (case hr => first | (go_simp; done) | (go_simp; rfl)); intro g2 hg w1 hb1 hbl1; clear hg; have HB2 := Aside0.mk hb1; have BL1 := Aside0.mk hbl1; clear hb1 hbl1))
  refine (plainT (some ⟨g, 0, none⟩) A1 _ c1 rows _ (HF.out.below BL1.out) (HR1.out.below BL1.out) hm).mono ?_
  rintro e w2 ⟨rfl, hb⟩
  have BL2 := Aside0.mk (below_step BL1.out hb)
  have HB3 := Aside0.mk (blk_below HB2.out hb)
  clear hb HB2
  go_wp2_with fail
  go_loopg [8] 4 (fun gq iv w' => ∃ (k : Nat), k ≤ 3 ∧ iv = .int .i64 ((rows.length : Int) + (k : Int)) ∧ Aside0 (gq = 4 - k) ∧ Aside0 (Below w.heap.size w w' ∧ Below w2.heap.size w2 w'))
  case atStart => exact ⟨0, by omega, by simp, ⟨rfl⟩, ⟨BL2.out, Below.refl _ _⟩⟩
  case round =>
    obtain ⟨k, k3, rfl, hgq, hbl⟩ := hrel
    by_cases hlt : k < 3
    · have hrow : (rows ++ [[a, b], [a, b], [a, b]])[rows.length + k]? = some [a, b] := by
        rw [List.getElem?_append_right (by omega), show rows.length + k - rows.length = k by omega]
        rcases (by omega : k = 0 ∨ k = 1 ∨ k = 2) with rfl | rfl | rfl <;> rfl
      have hblk := blk_below HG.out hbl.out.1
      have cl : ∀ (j : Nat) (x : Int), [a, b][j]? = some x → wr.cell? ⟨g, (rows.length + k) * 2 + j, none⟩ = some (.int .i64 x) := fun j x hj => by
        rw [blk_cell hblk, List.getElem?_toArray]
        unfold cellsR
        rw [List.getElem?_map, flatten_at _ _ j _ x HL.out hrow hj]
        rfl
      have p0 := cl 0 a rfl
      have p1 := cl 1 b rfl
      have glt := blk_lt hblk
      have hb3 := blk_below HB3.out hbl.out.2
      have t0 := (blk_cell hb3 0).trans rfl
      have t1 := (blk_cell hb3 1).trans rfl
      rw [Nat.add_zero] at p0
      clear hrow hblk cl hb3
      go_wp2_with fail
      go_quiet (fail)
      go_wp2_with fail
      go_roundg (4 - (k + 1))
      case measure => have := hgq.out; omega
      case rel => exact ⟨k + 1, by omega, by simp; omega, ⟨rfl⟩, ⟨by first | exact pw_below_drewN hbl.out.1 _ | exact hbl.out.1, by first | exact pw_below_drewN hbl.out.2 _ | exact hbl.out.2⟩⟩
    · obtain rfl : k = 3 := by omega
      go_wp2_with fail
      go_ret
      exact ⟨rfl, hbl.out.1⟩
theorem info2S : (Try.prog.info? 31).map (fun i => (i.zero, i.size, i.bytes)) = some (some (.agg #[.int .i64 0, .int .i64 0]), 2, 16) := by kernel_rfl
set_option maxRecDepth 100000 in
set_option maxHeartbeats 1000000 in
theorem ownS_some (ad : Addr) (c0 : Nat) (rows : List (List Int)) (a b : Int) (w : World) (hr0 : Op.IntRows w (some ad) 2 rows) (hc0 : rows.length ≤ c0) (hm : rows.length ≤ 1000000) :
    Calls Try.prog 12 #[.slice (some ad) rows.length c0, .agg #[.int .i64 a, .int .i64 b]] w (OwnedR 31 rows [a, b] w) := by
  obtain ⟨i0, hi, hz0, hz1, hz2⟩ := info_parts info2S
  have HR0 := Aside0.mk hr0
  have HL4 := Aside0.mk (fun r hr => (hr0.1 r hr).1)
  clear hr0
  go_enter Try.func12, Try.ntmps12
  go_wp2_with (first
    | ((with_reducible refine gate_dst (N := 3) rfl ?_); refine box_event ?hg (N := 3) ?hd (cs := #[.int .i64 a, .int .i64 b]) (t := 31) ?hr ?_; (case hd => rfl); (case hg => rfl); (case hr => first | (go_simp; done) | (go_simp; rfl)); intro g3 hg w1 hb1 hbl1; clear hg; have HB3 := Aside0.mk hb1; have BL1 := Aside0.mk hbl1; clear hb1 hbl1)
    | (refine wpList_make_own _ rfl _ _ 22 rfl w1.heap.size 31 i0 (.agg #[.int .i64 0, .int .i64 0]) 2 Try.underlying22 hi hz0 hz1 .i64 .i64 _ (rows.length + 3) rfl rfl (by simp) (by rw [hz2]; omega) (by unfold maxLen; omega) (Nat.le_refl _) ?_; intro w2 hown1 hgrow1; have HB1 := Aside0.mk ((Below.refl w1.heap.size w1).grown hgrow1 (Nat.le_refl _) (fun k hk => by cases hk)); have HO := Aside0.mk hown1; have HN := Aside0.mk (rows_news (by decide) (HR0.out.below (below_step BL1.out HB1.out))); clear hown1 hgrow1)
    | (at_builtin; refine wpList_append_fits _ rfl _ _ 22 rfl w1.heap.size 31 i0 2 Try.underlying22 hi hz1 w1.heap.size 0 (rows.length + 3) [] rfl HO.out ad rows.length c0 (cellsR rows) rfl (cellsR_len HL4.out) HN.out (cellsR_one rows) (by omega) ?_; intro w3 hown2 hgrow2; have HB2 := Aside0.mk (HB1.out.grown hgrow2 HB1.out.size (fun k hk => by cases hk; exact Nat.le_refl _)); have HO2 := Aside0.mk hown2; clear hown2 hgrow2))
  obtain ⟨ts, hts⟩ : ∃ ts, Laying2 31 rows [a, b] w1.heap.size w3 0 ts := by
    rcases HO2.out.2 with ⟨h, _⟩ | ⟨g', cap', cur, e', _, hh, h1, h2, h3, h4⟩
    · cases h
    · injection e' with e1 e2 e3
      injection e1 with e1
      injection e1 with e4
      subst e4
      subst e3
      rw [Nat.zero_add, List.nil_append] at h4
      refine ⟨cur.toList.drop (rows.length * 2), by rw [List.length_drop, Array.length_toList, h3]; omega, ?_⟩
      rw [List.replicate_zero, List.append_nil, ← h4, List.take_append_drop, hh]
  have HTS := Aside0.mk hts
  have BW := Aside0.mk HB2.out
  have BS := Aside0.mk (below_step BL1.out HB2.out)
  have g1ge := BL1.out.size
  clear hts HO HO2 HN HB1 HB2
  obtain ⟨g, hg⟩ : ∃ g, w1.heap.size = g := ⟨_, rfl⟩
  have g3ne := (show g3 < g by have := blk_lt HB3.out; omega)
  have H3 := Aside0.mk (blk_below HB3.out BW.out)
  rw [hg] at HTS g1ge
  simp only [hg]
  clear BW HB3 BL1
  go_wp2_with fail
  go_loopg [7] 4 (fun gq iv w' => ∃ (k : Nat) (ts : List Value), k ≤ 3 ∧ iv = .int .i64 ((rows.length : Int) + (k : Int)) ∧ Aside0 (gq = 4 - k) ∧ Aside0 (Laying2 31 rows [a, b] g w' k ts) ∧ Aside0 (Below w.heap.size w w') ∧ Aside0 (w'.heap[g3]? = some (.cells #[.int .i64 a, .int .i64 b] 31 (0, 0))))
  case atStart => exact ⟨0, ts, by omega, by simp, ⟨rfl⟩, HTS, BS, H3⟩
  case round =>
    obtain ⟨k, ts, k3, rfl, hgq, hL, hB, h3⟩ := hrel
    by_cases hlt : k < 3
    · obtain ⟨hfit, hset⟩ := hL.out.set hlt HL4.out rfl
      have HFIT := Aside0.mk hfit
      have HSET := Aside0.mk hset
      clear hfit hset
      have glt := blk_lt hL.out.at_
      have cc := (cell_of_row wr g ((rows.length + k) * 2) _ 31 (0, 0) hL.out.at_)
      clear cc
      go_wp2_with (first
        | ((with_reducible refine gate_dst (N := 30) rfl ?_); refine wpList_load_row rfl 31 (.tmp 3) rfl g3 rfl 31 _ (0, 0) _ h3.out Try.underlying31 rfl info_reset ?_)
        | ((with_reducible refine gate_store (t := 31) (p := 31) rfl ?_); refine puts_event rfl (t := 31) (p := 31) (v := .tmp 30) rfl rfl (g := g) (i := (rows.length + k) * 2) (cs := _) (cs' := _) (vs := #[.int .i64 a, .int .i64 b]) ?hx ?hy hL.out.at_ HFIT.out info_reset (two_one _ _) HSET.out ?_; (case hx => first | rfl | (go_simp; done) | (go_simp; rfl)); (case hy => first | rfl | (go_simp; done)); intro v3 hb hbut; have L3 := Aside0.mk (hL.out.next hlt hb); have B3 := Aside0.mk (hbut.below hB.out g1ge hB.out.size); have I3 := Aside0.mk (hbut.blk h3.out (by omega)); clear hb hbut))
      go_roundg (4 - (k + 1))
      case measure => have := hgq.out; omega
      case rel => exact ⟨k + 1, ts.drop 2, by omega, by simp; omega, ⟨rfl⟩, L3, B3, I3⟩
    · obtain rfl : k = 3 := by omega
      go_wp2_with fail
      go_ret
      exact ⟨g, g1ge, rfl, hL.out.done, hB.out⟩
set_option maxRecDepth 100000 in
set_option maxHeartbeats 1000000 in
theorem ownS_nil (a b : Int) (w : World) :
    Calls Try.prog 12 #[.slice none 0 0, .agg #[.int .i64 a, .int .i64 b]] w (OwnedR 31 [] [a, b] w) := by
  obtain ⟨i0, hi, hz0, hz1, hz2⟩ := info_parts info2S
  go_enter Try.func12, Try.ntmps12
  go_wp2_with (first
    | ((with_reducible refine gate_dst (N := 3) rfl ?_); refine box_event ?hg (N := 3) ?hd (cs := #[.int .i64 a, .int .i64 b]) (t := 31) ?hr ?_; (case hd => rfl); (case hg => rfl); (case hr => first | (go_simp; done) | (go_simp; rfl)); intro g3 hg w1 hb1 hbl1; clear hg; have HB3 := Aside0.mk hb1; have BL1 := Aside0.mk hbl1; clear hb1 hbl1)
    | (refine wpList_make_own _ rfl _ _ 22 rfl w1.heap.size 31 i0 (.agg #[.int .i64 0, .int .i64 0]) 2 Try.underlying22 hi hz0 hz1 .i64 .i64 _ (0 + 3) rfl rfl (by simp) (by rw [hz2]; omega) (by unfold maxLen; omega) (Nat.le_refl _) ?_; intro w2 hown1 hgrow1; have HB1 := Aside0.mk ((Below.refl w1.heap.size w1).grown hgrow1 (Nat.le_refl _) (fun k hk => by cases hk)); have HO2 := Aside0.mk hown1; clear hown1 hgrow1; refine Hid.out ?_))
  refine Lib.hid ?_
  obtain ⟨ts, hts⟩ : ∃ ts, Laying2 31 [] [a, b] w1.heap.size w2 0 ts := by
    rcases HO2.out.2 with ⟨h, _⟩ | ⟨g', cap', cur, e', _, hh, h1, h2, h3, h4⟩
    · cases h
    · injection e' with e1 e2 e3
      injection e1 with e1
      injection e1 with e4
      subst e4
      subst e3
      refine ⟨cur.toList, by rw [Array.length_toList, h3], ?_⟩
      rw [hh]
      rfl
  have HTS := Aside0.mk hts
  have BW := Aside0.mk HB1.out
  have BS := Aside0.mk (below_step BL1.out HB1.out)
  have g1ge := BL1.out.size
  clear hts HO2 HB1
  obtain ⟨g, hg⟩ : ∃ g, w1.heap.size = g := ⟨_, rfl⟩
  have g3ne := (show g3 < g by have := blk_lt HB3.out; omega)
  have H3 := Aside0.mk (blk_below HB3.out BW.out)
  have glt0 := blk_lt HTS.out.at_
  rw [hg] at HTS g1ge glt0
  simp only [hg]
  clear BW HB3 BL1
  go_wp2_with fail
  go_loopg [7] 4 (fun gq iv w' => ∃ (k : Nat) (ts : List Value), k ≤ 3 ∧ iv = .int .i64 (k : Int) ∧ Aside0 (gq = 4 - k) ∧ Aside0 (Laying2 31 [] [a, b] g w' k ts) ∧ Aside0 (Below w.heap.size w w') ∧ Aside0 (w'.heap[g3]? = some (.cells #[.int .i64 a, .int .i64 b] 31 (0, 0))))
  case atStart => exact ⟨0, ts, by omega, by simp, ⟨rfl⟩, HTS, BS, H3⟩
  case round =>
    obtain ⟨k, ts, k3, rfl, hgq, hL, hB, h3⟩ := hrel
    by_cases hlt : k < 3
    · obtain ⟨hfit, hset⟩ := hL.out.set hlt (fun r hr => by cases hr) rfl
      rw [show (([] : List (List Int)).length + k) * 2 = k * 2 by simp] at hfit hset
      have HFIT := Aside0.mk hfit
      have HSET := Aside0.mk hset
      clear hfit hset
      have glt := blk_lt hL.out.at_
      go_wp2_with (first
        | ((with_reducible refine gate_dst (N := 30) rfl ?_); refine wpList_load_row rfl 31 (.tmp 3) rfl g3 rfl 31 _ (0, 0) _ h3.out Try.underlying31 rfl info_reset ?_)
        | ((with_reducible refine gate_store (t := 31) (p := 31) rfl ?_); refine puts_event rfl (t := 31) (p := 31) (v := .tmp 30) rfl rfl (g := g) (i := k * 2) (cs := _) (cs' := _) (vs := #[.int .i64 a, .int .i64 b]) ?hx ?hy hL.out.at_ HFIT.out info_reset (two_one _ _) HSET.out ?_; (case hx => first | rfl | (go_simp; done) | (go_simp; rfl)); (case hy => first | rfl | (go_simp; done)); intro v3 hb hbut; have L3 := Aside0.mk (hL.out.next hlt hb); have B3 := Aside0.mk (hbut.below hB.out g1ge hB.out.size); have I3 := Aside0.mk (hbut.blk h3.out (by omega)); clear hb hbut))
      go_roundg (4 - (k + 1))
      case measure => have := hgq.out; omega
      case rel => exact ⟨k + 1, ts.drop 2, by omega, by simp, ⟨rfl⟩, L3, B3, I3⟩
    · obtain rfl : k = 3 := by omega
      go_wp2_with fail
      go_ret
      exact ⟨g, g1ge, rfl, hL.out.done, hB.out⟩
theorem ownS_any (A : Option Addr) (c0 : Nat) (rows : List (List Int)) (a b : Int) (w : World) (hr0 : Op.IntRows w A 2 rows) (hc0 : rows.length ≤ c0) (hn : A = none → c0 = 0) (hm : rows.length ≤ 1000000) :
    Calls Try.prog 12 #[.slice A rows.length c0, .agg #[.int .i64 a, .int .i64 b]] w (OwnedR 31 rows [a, b] w) := by
  cases A with
  | some ad => exact ownS_some ad c0 rows a b w hr0 hc0 hm
  | none =>
    obtain rfl := hn rfl
    obtain rfl : rows = [] := List.eq_nil_of_length_eq_zero (by omega)
    exact ownS_nil a b w
set_option maxRecDepth 100000 in
set_option maxHeartbeats 1000000 in
theorem plainS1 (a b : Int) (w : World) : Calls Try.prog 56 #[.agg #[.int .i64 a, .int .i64 b], .agg #[.int .i64 a, .int .i64 b]] w fun e w' => e = .returned (.bool true) ∧ Below w.heap.size w w' := by
  go_enter Try.func56, Try.ntmps56
  go_wp2_with (first
    | ((with_reducible refine gate_dst (N := 2) rfl ?_); refine box_event ?hg (N := 2) ?hd (cs := #[.int .i64 a, .int .i64 b]) (t := 31) ?hr ?_; (case hd => rfl); (case hg => rfl); (case hr => first | (go_simp; done) | (go_simp; rfl)); intro g2 hg w1 hb1 hbl1; clear hg; have HB2 := Aside0.mk hb1; have BL1 := Aside0.mk hbl1; clear hb1 hbl1)
    | ((with_reducible refine gate_dst (N := 3) rfl ?_); refine box_event ?hg (N := 3) ?hd (cs := #[.int .i64 a, .int .i64 b]) (t := 31) ?hr ?_; (case hd => rfl); (case hg => rfl); (case hr => first | (go_simp; done) | (go_simp; rfl)); intro g3 hg w2 hb1 hbl1; clear hg; have HB3 := Aside0.mk hb1; have HB22 := Aside0.mk (blk_below HB2.out hbl1); have BL2 := Aside0.mk (below_step BL1.out hbl1); clear hb1 hbl1)
    | ((with_reducible refine gate_dst (N := 5) rfl ?_); refine wpList_load_row rfl 31 (.tmp 2) rfl g2 rfl 31 _ (0, 0) _ HB22.out Try.underlying31 rfl info_reset ?_)
    | ((with_reducible refine gate_dst (N := 6) rfl ?_); refine wpList_load_row rfl 31 (.tmp 3) rfl g3 rfl 31 _ (0, 0) _ HB3.out Try.underlying31 rfl info_reset ?_))
  go_ret
  exact ⟨by simp, BL2.out⟩
set_option maxRecDepth 100000 in
set_option maxHeartbeats 1000000 in
theorem sameS (A0 A1 : Option Addr) (c0 c1 : Nat) (rows : List (List Int)) (w : World) (hr0 : Op.IntRows w A0 2 rows) (hr1 : Op.IntRows w A1 2 rows) (hm : rows.length ≤ 1000000) :
    Calls Try.prog 55 #[.slice A0 rows.length c0, .slice A1 rows.length c1, .func (.func 56) #[] #[]] w fun e w' => e = .returned (.bool true) ∧ Below w.heap.size w w' := by
  have HR0 := Aside0.mk hr0
  have HR1 := Aside0.mk hr1
  clear hr0 hr1
  go_enter Try.func55, Try.ntmps55
  go_wp2_with fail
  go_loopg [7] (rows.length + 1) (fun gq iv w' => ∃ (k : Nat), k ≤ rows.length ∧ iv = .int .i64 (k : Int) ∧ Aside0 (gq = rows.length + 1 - k) ∧ Aside0 (Below w.heap.size w w'))
  case atStart => exact ⟨0, Nat.zero_le _, rfl, ⟨rfl⟩, ⟨Below.refl _ _⟩⟩
  case round =>
    obtain ⟨k, hk, rfl, hgq, hbl⟩ := hrel
    by_cases hlt : k < rows.length
    · obtain ⟨ad0, x, y, e0, hrow, p0, p1, -, -⟩ := two_at (HR0.out.below hbl.out) k hlt
      obtain ⟨ad1, x', y', e1, hrow', s0, s1, -, -⟩ := two_at (HR1.out.below hbl.out) k hlt
      obtain ⟨rfl, rfl⟩ : x = x' ∧ y = y' := by
        have h := hrow.symm.trans hrow'
        simpa using h
      subst e0 e1
      have kk0 : (0 : Int) ≤ (k : Int) := by omega
      have kk1 : (k : Int) < (rows.length : Int) := by omega
      clear hrow hrow'
      go_wp2_with fail
      go_still_tail 9, (by kernel_rfl)
      go_wp2_with ((go_at_call 56; refine (plainS1 x y _).mono ?_; rintro e v1 ⟨rfl, hb⟩; have B1 := Aside0.mk (below_step (by first | exact pw_below_drewN hbl.out _ | exact Below.drew hbl.out | exact hbl.out) hb); clear hb))
      go_roundg (rows.length + 1 - (k + 1))
      case measure => have := hgq.out; omega
      case rel => exact ⟨k + 1, by omega, by simp, ⟨rfl⟩, B1⟩
    · have hk2 : k = rows.length := by omega
      subst hk2
      go_wp2_with fail
      go_ret
      exact ⟨rfl, hbl.out⟩
set_option maxRecDepth 100000 in
set_option maxHeartbeats 1000000 in
theorem plainS (A0 A1 : Option Addr) (c0 c1 : Nat) (rows : List (List Int)) (w : World) (hr0 : Op.IntRows w A0 2 rows) (hr1 : Op.IntRows w A1 2 rows) (hm : rows.length ≤ 1000000) :
    Calls Try.prog 44 #[.slice A0 rows.length c0, .slice A1 rows.length c1] w fun e w' => e = .returned (.bool true) ∧ Below w.heap.size w w' := by
  have HR0 := Aside0.mk hr0
  have HR1 := Aside0.mk hr1
  clear hr0 hr1
  go_enter Try.func44, Try.ntmps44
  go_wp2_with fail
  refine (sameS A0 A1 c0 c1 rows _ HR0.out HR1.out hm).mono ?_
  rintro e v1 ⟨rfl, hb⟩
  have B1 := Aside0.mk hb
  clear hb
  go_wp2_with fail
  go_ret
  exact ⟨rfl, B1.out⟩
set_option maxRecDepth 100000 in
set_option maxHeartbeats 1000000 in
theorem keptS (g : Nat) (A1 : Option Addr) (c1 : Nat) (rows : List (List Int)) (a b : Int) (w : World) (hg : w.heap[g]? = some (.cells (cellsR (rows ++ [[a, b], [a, b], [a, b]])).toArray 31 (0, 0))) (hr1 : Op.IntRows w A1 2 rows) (hm : rows.length ≤ 1000000) :
    Calls Try.prog 19 #[.slice (some ⟨g, 0, none⟩) rows.length (rows.length + 3), .slice A1 rows.length c1, .agg #[.int .i64 a, .int .i64 b]] w fun e w' => e = .returned (.bool true) ∧ Below w.heap.size w w' := by
  have HL4 : ∀ r ∈ rows ++ [[a, b], [a, b], [a, b]], r.length = 2 := fun r hr => by
    rcases List.mem_append.1 hr with h | h
    · exact (hr1.1 r h).1
    · simp at h; rw [h]; rfl
  have HF := Aside0.mk (rows_front hg HL4 (fun r hr => (hr1.1 r hr).2))
  have HG := Aside0.mk hg
  have HR1 := Aside0.mk hr1
  have HL := Aside0.mk HL4
  clear hg hr1 HL4
  go_enter Try.func19, Try.ntmps19
  go_wp2_with (first
    | ((with_reducible refine gate_dst (N := 5) rfl ?_); refine box_event ?hg (N := 5) ?hd (cs := #[.int .i64 a, .int .i64 b]) (t := 31) ?hr ?_; (case hd => rfl); (case hg => rfl); (case hr => first | (go_simp; done) | (go_simp; rfl)); intro g2 hg w1 hb1 hbl1; clear hg; have HB2 := Aside0.mk hb1; have BL1 := Aside0.mk hbl1; clear hb1 hbl1))
  refine (plainS (some ⟨g, 0, none⟩) A1 _ c1 rows _ (HF.out.below BL1.out) (HR1.out.below BL1.out) hm).mono ?_
  rintro e w2 ⟨rfl, hb⟩
  have BL2 := Aside0.mk (below_step BL1.out hb)
  have HB3 := Aside0.mk (blk_below HB2.out hb)
  clear hb HB2
  go_wp2_with fail
  go_loopg [8] 4 (fun gq iv w' => ∃ (k : Nat), k ≤ 3 ∧ iv = .int .i64 ((rows.length : Int) + (k : Int)) ∧ Aside0 (gq = 4 - k) ∧ Aside0 (Below w.heap.size w w' ∧ Below w2.heap.size w2 w'))
  case atStart => exact ⟨0, by omega, by simp, ⟨rfl⟩, ⟨BL2.out, Below.refl _ _⟩⟩
  case round =>
    obtain ⟨k, k3, rfl, hgq, hbl⟩ := hrel
    by_cases hlt : k < 3
    · have hrow : (rows ++ [[a, b], [a, b], [a, b]])[rows.length + k]? = some [a, b] := by
        rw [List.getElem?_append_right (by omega), show rows.length + k - rows.length = k by omega]
        rcases (by omega : k = 0 ∨ k = 1 ∨ k = 2) with rfl | rfl | rfl <;> rfl
      have hblk := blk_below HG.out hbl.out.1
      have cl : ∀ (j : Nat) (x : Int), [a, b][j]? = some x → wr.cell? ⟨g, (rows.length + k) * 2 + j, none⟩ = some (.int .i64 x) := fun j x hj => by
        rw [blk_cell hblk, List.getElem?_toArray]
        unfold cellsR
        rw [List.getElem?_map, flatten_at _ _ j _ x HL.out hrow hj]
        rfl
      have p0 := cl 0 a rfl
      have p1 := cl 1 b rfl
      have glt := blk_lt hblk
      have hb3 := blk_below HB3.out hbl.out.2
      have t0 := (blk_cell hb3 0).trans rfl
      have t1 := (blk_cell hb3 1).trans rfl
      rw [Nat.add_zero] at p0
      clear hrow hblk cl hb3
      go_wp2_with fail
      go_quiet (fail)
      go_wp2_with fail
      go_roundg (4 - (k + 1))
      case measure => have := hgq.out; omega
      case rel => exact ⟨k + 1, by omega, by simp; omega, ⟨rfl⟩, ⟨by first | exact pw_below_drewN hbl.out.1 _ | exact hbl.out.1, by first | exact pw_below_drewN hbl.out.2 _ | exact hbl.out.2⟩⟩
    · obtain rfl : k = 3 := by omega
      go_wp2_with fail
      go_ret
      exact ⟨rfl, hbl.out.1⟩
end Go.Proofs.Ytcbebbiedegjlaa.Pd
