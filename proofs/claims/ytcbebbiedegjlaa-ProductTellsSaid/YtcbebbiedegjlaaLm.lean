/- Contracts by hand: a copy of one's own, of instalments. -/
import Derived.Test.YtcbebbiedegjlaaLh
import Derived.OwnWalk
import Derived.Laws.OwnMore
namespace Go.Proofs.Ytcbebbiedegjlaa.Pd
open Go.RowKit Go.Proofs.YtcbebbiedegjlaaW.PrintWords Go.Proofs.YtcbebbiedegjlaaW.PrintLast Go.Proofs.YtcbebbiedegjlaaW.PrintMore Go.Proofs.Ytcbebbiedegjlaa.HW
open Pm
set_option linter.unusedVariables false
set_option linter.unusedSimpArgs false
def cellsR (rows : List (List Int)) : List Value := rows.flatten.map (Value.int .i64)
theorem flat_len {sz : Nat} : ∀ rows : List (List Int), (∀ r ∈ rows, r.length = sz) → rows.flatten.length = rows.length * sz
  | [], _ => by simp
  | r :: l, h => by
    rw [List.flatten_cons, List.length_append, h r (by simp), flat_len l (fun r hr => h r (List.mem_cons_of_mem _ hr)), List.length_cons, Nat.succ_mul, Nat.add_comm]
theorem cellsR_len {sz : Nat} {rows : List (List Int)} (h : ∀ r ∈ rows, r.length = sz) : (cellsR rows).length = rows.length * sz := by unfold cellsR; rw [List.length_map, flat_len rows h]
theorem cellsR_one (rows : List (List Int)) : ∀ u ∈ cellsR rows, u.oneCell' = true := by
  intro u hu
  unfold cellsR at hu
  rw [List.mem_map] at hu
  obtain ⟨a, _, rfl⟩ := hu
  rfl
theorem cellsR_snoc (rows : List (List Int)) (r : List Int) : cellsR (rows ++ [r]) = cellsR rows ++ r.map (Value.int .i64) := by simp [cellsR]
theorem rows_news {sz : Nat} (hsz : 0 < sz) {W : World} {ad : Addr} {rows : List (List Int)} (h : Op.IntRows W (some ad) sz rows) : ∀ j u, (cellsR rows)[j]? = some u → W.cell? (ad.add j) = some u := by
  intro j u hu
  have hl : ∀ r ∈ rows, r.length = sz := fun r hr => (h.1 r hr).1
  have hj : j < rows.length * sz := by
    have := (List.getElem?_eq_some_iff.1 hu).1
    rwa [cellsR_len hl] at this
  have hi : j / sz < rows.length := Nat.div_lt_of_lt_mul (by rw [Nat.mul_comm]; exact hj)
  have hm : j % sz < sz := Nat.mod_lt _ hsz
  have e : j / sz * sz + j % sz = j := by rw [Nat.mul_comm]; exact Nat.div_add_mod j sz
  have hr := List.getElem?_eq_getElem hi
  have hx : (rows[j / sz])[j % sz]? = some (rows[j / sz][j % sz]'(by rw [hl _ (List.getElem_mem hi)]; exact hm)) := List.getElem?_eq_getElem _
  have hf := flatten_at rows _ _ _ _ hl hr hx
  rw [e] at hf
  unfold cellsR at hu
  rw [List.getElem?_map, hf] at hu
  obtain ⟨ad', e', hc⟩ := h.2 _ _ hr
  obtain rfl := Option.some.inj e'
  have := hc _ _ hx
  rw [e] at this
  rw [this]
  exact hu
theorem setAll_mid : ∀ (vs pre a b : List Value), a.length = vs.length → setAll (pre ++ (a ++ b)).toArray pre.length vs = (pre ++ (vs ++ b)).toArray
  | [], pre, a, b, h => by
    obtain rfl : a = [] := List.eq_nil_of_length_eq_zero h
    rfl
  | v :: r, pre, [], b, h => by simp at h
  | v :: r, pre, x :: a, b, h => by
    have ih := setAll_mid r (pre ++ [v]) a b (by simpa using h)
    rw [List.length_append, List.length_singleton] at ih
    simp only [setAll, List.cons_append, List.setIfInBounds_toArray]
    rw [List.set_append_right _ _ (Nat.le_refl _), Nat.sub_self, List.set_cons_zero]
    simpa using ih
/-- A copy, with three more behind it. -/
def OwnedR (T : TypeId) (rows : List (List Int)) (x : List Int) (w : World) (e : Ending) (w' : World) : Prop := ∃ g, w.heap.size ≤ g ∧ e = .returned (.slice (some ⟨g, 0, none⟩) rows.length (rows.length + 3)) ∧ w'.heap[g]? = some (.cells (cellsR (rows ++ [x, x, x])).toArray T (0, 0)) ∧ Below w.heap.size w w'
/-- k of the three are laid. -/
structure Laying (T : TypeId) (rows : List (List Int)) (x : List Int) (g : Nat) (W : World) (k : Nat) (ts : List Value) : Prop where
  len : ts.length = 4 * (3 - k)
  at_ : W.heap[g]? = some (.cells (cellsR (rows ++ List.replicate k x) ++ ts).toArray T (0, 0))
theorem Laying.done {T : TypeId} {rows : List (List Int)} {x : List Int} {g : Nat} {W : World} {ts : List Value} (h : Laying T rows x g W 3 ts) : W.heap[g]? = some (.cells (cellsR (rows ++ [x, x, x])).toArray T (0, 0)) := by
  obtain rfl : ts = [] := List.eq_nil_of_length_eq_zero h.len
  have := h.at_
  rw [List.append_nil] at this
  exact this
theorem Laying.next {T : TypeId} {rows : List (List Int)} {x : List Int} {g : Nat} {W w1 : World} {k : Nat} {ts : List Value} (h : Laying T rows x g W k ts) (hk : k < 3) (h1 : w1.heap[g]? = some (.cells (cellsR (rows ++ List.replicate k x) ++ (x.map (Value.int .i64) ++ ts.drop 4)).toArray T (0, 0))) : Laying T rows x g w1 (k + 1) (ts.drop 4) := by
  refine ⟨by rw [List.length_drop, h.len]; omega, ?_⟩
  rw [h1, List.replicate_succ', ← List.append_assoc rows, cellsR_snoc, List.append_assoc]
theorem Laying.set {T : TypeId} {rows : List (List Int)} {x : List Int} {g : Nat} {W : World} {k : Nat} {ts : List Value} (h : Laying T rows x g W k ts) (hk : k < 3) (hr : ∀ r ∈ rows, r.length = 4) (hx : x.length = 4) :
    (rows.length + k) * 4 + 4 ≤ (cellsR (rows ++ List.replicate k x) ++ ts).toArray.size ∧ setAll (cellsR (rows ++ List.replicate k x) ++ ts).toArray ((rows.length + k) * 4) (x.map (Value.int .i64)) = (cellsR (rows ++ List.replicate k x) ++ (x.map (Value.int .i64) ++ ts.drop 4)).toArray := by
  have hl : (cellsR (rows ++ List.replicate k x)).length = (rows.length + k) * 4 := by
    rw [cellsR_len (sz := 4), List.length_append, List.length_replicate]
    intro r hr'
    rcases List.mem_append.1 hr' with h' | h'
    · exact hr r h'
    · rw [List.eq_of_mem_replicate h']; exact hx
  constructor
  · rw [List.size_toArray, List.length_append, hl, h.len]; omega
  · have e := setAll_mid (x.map (Value.int .i64)) (cellsR (rows ++ List.replicate k x)) (ts.take 4) (ts.drop 4) (by rw [List.length_take, h.len, List.length_map, hx]; omega)
    rw [List.take_append_drop, hl] at e
    exact e
set_option maxRecDepth 100000 in
set_option maxHeartbeats 1000000 in
theorem ownD_some (ad : Addr) (c0 : Nat) (rows : List (List Int)) (a b c d : Int) (w : World) (hr0 : Op.IntRows w (some ad) 4 rows) (hc0 : rows.length ≤ c0) (hm : rows.length ≤ 1000000) :
    Calls Try.prog 27 #[.slice (some ad) rows.length c0, .agg #[.int .i64 a, .int .i64 b, .int .i64 c, .int .i64 d]] w (OwnedR 56 rows [a, b, c, d] w) := by
  obtain ⟨i0, hi, hz0, hz1, hz2⟩ := info_parts info_due4
  have HR0 := Aside0.mk hr0
  have HL4 := Aside0.mk (fun r hr => (hr0.1 r hr).1)
  clear hr0
  go_enter Try.func27, Try.ntmps27
  go_wp2_with (first
    | ((with_reducible refine gate_dst (N := 3) rfl ?_); refine box_event ?hg (N := 3) ?hd (cs := #[.int .i64 a, .int .i64 b, .int .i64 c, .int .i64 d]) (t := 56) ?hr ?_; (case hd => rfl); (case hg => rfl); (case hr => first | (go_simp; done) | (go_simp; rfl)); intro g3 hg w1 hb1 hbl1; clear hg; have HB3 := Aside0.mk hb1; have BL1 := Aside0.mk hbl1; clear hb1 hbl1)
    | (refine wpList_make_own _ rfl _ _ 52 rfl w1.heap.size 56 i0 (.agg #[.int .i64 0, .int .i64 0, .int .i64 0, .int .i64 0]) 4 Try.underlying52 hi hz0 hz1 .i64 .i64 _ (rows.length + 3) rfl rfl (by simp) (by rw [hz2]; omega) (by unfold maxLen; omega) (Nat.le_refl _) ?_; intro w2 hown1 hgrow1; have HB1 := Aside0.mk ((Below.refl w1.heap.size w1).grown hgrow1 (Nat.le_refl _) (fun k hk => by cases hk)); have HO := Aside0.mk hown1; have HN := Aside0.mk (rows_news (by decide) (HR0.out.below (below_step BL1.out HB1.out))); clear hown1 hgrow1)
    | (at_builtin; refine wpList_append_fits _ rfl _ _ 52 rfl w1.heap.size 56 i0 4 Try.underlying52 hi hz1 w1.heap.size 0 (rows.length + 3) [] rfl HO.out ad rows.length c0 (cellsR rows) rfl (cellsR_len HL4.out) HN.out (cellsR_one rows) (by omega) ?_; intro w3 hown2 hgrow2; have HB2 := Aside0.mk (HB1.out.grown hgrow2 HB1.out.size (fun k hk => by cases hk; exact Nat.le_refl _)); have HO2 := Aside0.mk hown2; clear hown2 hgrow2))
  obtain ⟨ts, hts⟩ : ∃ ts, Laying 56 rows [a, b, c, d] w1.heap.size w3 0 ts := by
    rcases HO2.out.2 with ⟨h, _⟩ | ⟨g', cap', cur, e', _, hh, h1, h2, h3, h4⟩
    · cases h
    · injection e' with e1 e2 e3
      injection e1 with e1
      injection e1 with e4
      subst e4
      subst e3
      rw [Nat.zero_add, List.nil_append] at h4
      refine ⟨cur.toList.drop (rows.length * 4), by rw [List.length_drop, Array.length_toList, h3]; omega, ?_⟩
      rw [List.replicate_zero, List.append_nil, ← h4, List.take_append_drop, hh]
  have HTS := Aside0.mk hts
  have BW := Aside0.mk HB2.out
  have BS := Aside0.mk (below_step BL1.out HB2.out)
  have g1ge := BL1.out.size
  clear hts HO HO2 HN HB1 HB2
  obtain ⟨g, hg⟩ : ∃ g, w1.heap.size = g := ⟨_, rfl⟩
  have g3ne := (show g3 < g by have := blk_lt HB3.out; omega)
  have H3 := Aside0.mk (blk_below HB3.out BW.out)
  rw [hg] at HTS g1ge
  simp only [hg]
  clear BW HB3 BL1
  go_wp2_with fail
  go_loopg [7] 4 (fun gq iv w' => ∃ (k : Nat) (ts : List Value), k ≤ 3 ∧ iv = .int .i64 ((rows.length : Int) + (k : Int)) ∧ Aside0 (gq = 4 - k) ∧ Aside0 (Laying 56 rows [a, b, c, d] g w' k ts) ∧ Aside0 (Below w.heap.size w w') ∧ Aside0 (w'.heap[g3]? = some (.cells #[.int .i64 a, .int .i64 b, .int .i64 c, .int .i64 d] 56 (0, 0))))
  case atStart => exact ⟨0, ts, by omega, by simp, ⟨rfl⟩, HTS, BS, H3⟩
  case round =>
    obtain ⟨k, ts, k3, rfl, hgq, hL, hB, h3⟩ := hrel
    by_cases hlt : k < 3
    · obtain ⟨hfit, hset⟩ := hL.out.set hlt HL4.out rfl
      have HFIT := Aside0.mk hfit
      have HSET := Aside0.mk hset
      clear hfit hset
      have glt := blk_lt hL.out.at_
      have cc := (cell_of_row wr g ((rows.length + k) * 4) _ 56 (0, 0) hL.out.at_)
      clear cc
      go_wp2_with (first
        | ((with_reducible refine gate_dst (N := 30) rfl ?_); refine wpList_load_row rfl 56 (.tmp 3) rfl g3 rfl 56 _ (0, 0) _ h3.out Try.underlying56 rfl info_due ?_)
        | ((with_reducible refine gate_store (t := 56) (p := 31) rfl ?_); refine puts_event rfl (t := 56) (p := 31) (v := .tmp 30) rfl rfl (g := g) (i := (rows.length + k) * 4) (cs := _) (cs' := _) (vs := #[.int .i64 a, .int .i64 b, .int .i64 c, .int .i64 d]) ?hx ?hy hL.out.at_ HFIT.out info_due (four_one _ _ _ _) HSET.out ?_; (case hx => first | rfl | (go_simp; done) | (go_simp; rfl)); (case hy => first | rfl | (go_simp; done)); intro v3 hb hbut; have L3 := Aside0.mk (hL.out.next hlt hb); have B3 := Aside0.mk (hbut.below hB.out g1ge hB.out.size); have I3 := Aside0.mk (hbut.blk h3.out (by omega)); clear hb hbut))
      go_roundg (4 - (k + 1))
      case measure => have := hgq.out; omega
      case rel => exact ⟨k + 1, ts.drop 4, by omega, by simp; omega, ⟨rfl⟩, L3, B3, I3⟩
    · obtain rfl : k = 3 := by omega
      go_wp2_with fail
      go_ret
      exact ⟨g, g1ge, rfl, hL.out.done, hB.out⟩
end Go.Proofs.Ytcbebbiedegjlaa.Pd
