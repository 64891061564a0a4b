/- Contracts by hand: a copy of one's own, of instalments; whether it was kept. -/
import Derived.Test.YtcbebbiedegjlaaLm
namespace Go.Proofs.Ytcbebbiedegjlaa.Pd
open Go.RowKit Go.Proofs.YtcbebbiedegjlaaW.PrintWords Go.Proofs.YtcbebbiedegjlaaW.PrintLast Go.Proofs.YtcbebbiedegjlaaW.PrintMore Go.Proofs.Ytcbebbiedegjlaa.HW
open Pm
set_option linter.unusedVariables false
set_option linter.unusedSimpArgs false
set_option maxRecDepth 100000 in
set_option maxHeartbeats 1000000 in
theorem ownD_nil (a b c d : Int) (w : World) :
    Calls Try.prog 27 #[.slice none 0 0, .agg #[.int .i64 a, .int .i64 b, .int .i64 c, .int .i64 d]] w (OwnedR 56 [] [a, b, c, d] w) := by
  obtain ⟨i0, hi, hz0, hz1, hz2⟩ := info_parts info_due4
  go_enter Try.func27, Try.ntmps27
  go_wp2_with (first
    | ((with_reducible refine gate_dst (N := 3) rfl ?_); refine box_event ?hg (N := 3) ?hd (cs := #[.int .i64 a, .int .i64 b, .int .i64 c, .int .i64 d]) (t := 56) ?hr ?_; (case hd => rfl); (case hg => rfl); (case hr => first | (go_simp; done) | (go_simp; rfl)); intro g3 hg w1 hb1 hbl1; clear hg; have HB3 := Aside0.mk hb1; have BL1 := Aside0.mk hbl1; clear hb1 hbl1)
    | (refine wpList_make_own _ rfl _ _ 52 rfl w1.heap.size 56 i0 (.agg #[.int .i64 0, .int .i64 0, .int .i64 0, .int .i64 0]) 4 Try.underlying52 hi hz0 hz1 .i64 .i64 _ (0 + 3) rfl rfl (by simp) (by rw [hz2]; omega) (by unfold maxLen; omega) (Nat.le_refl _) ?_; intro w2 hown1 hgrow1; have HB1 := Aside0.mk ((Below.refl w1.heap.size w1).grown hgrow1 (Nat.le_refl _) (fun k hk => by cases hk)); have HO2 := Aside0.mk hown1; clear hown1 hgrow1; refine Hid.out ?_))
  refine Lib.hid ?_
  obtain ⟨ts, hts⟩ : ∃ ts, Laying 56 [] [a, b, c, d] w1.heap.size w2 0 ts := by
    rcases HO2.out.2 with ⟨h, _⟩ | ⟨g', cap', cur, e', _, hh, h1, h2, h3, h4⟩
    · cases h
    · injection e' with e1 e2 e3
      injection e1 with e1
      injection e1 with e4
      subst e4
      subst e3
      refine ⟨cur.toList, by rw [Array.length_toList, h3], ?_⟩
      rw [hh]
      rfl
  have HTS := Aside0.mk hts
  have BW := Aside0.mk HB1.out
  have BS := Aside0.mk (below_step BL1.out HB1.out)
  have g1ge := BL1.out.size
  clear hts HO2 HB1
  obtain ⟨g, hg⟩ : ∃ g, w1.heap.size = g := ⟨_, rfl⟩
  have g3ne := (show g3 < g by have := blk_lt HB3.out; omega)
  have H3 := Aside0.mk (blk_below HB3.out BW.out)
  have glt0 := blk_lt HTS.out.at_
  rw [hg] at HTS g1ge glt0
  simp only [hg]
  clear BW HB3 BL1
  go_wp2_with fail
  go_loopg [7] 4 (fun gq iv w' => ∃ (k : Nat) (ts : List Value), k ≤ 3 ∧ iv = .int .i64 (k : Int) ∧ Aside0 (gq = 4 - k) ∧ Aside0 (Laying 56 [] [a, b, c, d] g w' k ts) ∧ Aside0 (Below w.heap.size w w') ∧ Aside0 (w'.heap[g3]? = some (.cells #[.int .i64 a, .int .i64 b, .int .i64 c, .int .i64 d] 56 (0, 0))))
  case atStart => exact ⟨0, ts, by omega, by simp, ⟨rfl⟩, HTS, BS, H3⟩
  case round =>
    obtain ⟨k, ts, k3, rfl, hgq, hL, hB, h3⟩ := hrel
    by_cases hlt : k < 3
    · obtain ⟨hfit, hset⟩ := hL.out.set hlt (fun r hr => by cases hr) rfl
      rw [show (([] : List (List Int)).length + k) * 4 = k * 4 by simp] at hfit hset
      have HFIT := Aside0.mk hfit
      have HSET := Aside0.mk hset
      clear hfit hset
      have glt := blk_lt hL.out.at_
      go_wp2_with (first
        | ((with_reducible refine gate_dst (N := 30) rfl ?_); refine wpList_load_row rfl 56 (.tmp 3) rfl g3 rfl 56 _ (0, 0) _ h3.out Try.underlying56 rfl info_due ?_)
        | ((with_reducible refine gate_store (t := 56) (p := 31) rfl ?_); refine puts_event rfl (t := 56) (p := 31) (v := .tmp 30) rfl rfl (g := g) (i := k * 4) (cs := _) (cs' := _) (vs := #[.int .i64 a, .int .i64 b, .int .i64 c, .int .i64 d]) ?hx ?hy hL.out.at_ HFIT.out info_due (four_one _ _ _ _) HSET.out ?_; (case hx => first | rfl | (go_simp; done) | (go_simp; rfl)); (case hy => first | rfl | (go_simp; done)); intro v3 hb hbut; have L3 := Aside0.mk (hL.out.next hlt hb); have B3 := Aside0.mk (hbut.below hB.out g1ge hB.out.size); have I3 := Aside0.mk (hbut.blk h3.out (by omega)); clear hb hbut))
      go_roundg (4 - (k + 1))
      case measure => have := hgq.out; omega
      case rel => exact ⟨k + 1, ts.drop 4, by omega, by simp, ⟨rfl⟩, L3, B3, I3⟩
    · obtain rfl : k = 3 := by omega
      go_wp2_with fail
      go_ret
      exact ⟨g, g1ge, rfl, hL.out.done, hB.out⟩
theorem ownD_any (A : Option Addr) (c0 : Nat) (rows : List (List Int)) (a b c d : Int) (w : World) (hr0 : Op.IntRows w A 4 rows) (hc0 : rows.length ≤ c0) (hn : A = none → c0 = 0) (hm : rows.length ≤ 1000000) :
    Calls Try.prog 27 #[.slice A rows.length c0, .agg #[.int .i64 a, .int .i64 b, .int .i64 c, .int .i64 d]] w (OwnedR 56 rows [a, b, c, d] w) := by
  cases A with
  | some ad => exact ownD_some ad c0 rows a b c d w hr0 hc0 hm
  | none =>
    obtain rfl := hn rfl
    obtain rfl : rows = [] := List.eq_nil_of_length_eq_zero (by omega)
    exact ownD_nil a b c d w
end Go.Proofs.Ytcbebbiedegjlaa.Pd
