/- Contracts by hand: fees for being late. -/
import Derived.Test.YtcbebbiedegjlaaQg
import Derived.Lib.Hide
namespace Go.Proofs.Ytcbebbiedegjlaa.Pd
open Go.RowKit Go.Proofs.YtcbebbiedegjlaaW.PrintWords Go.Proofs.YtcbebbiedegjlaaW.PrintLast Go.Proofs.YtcbebbiedegjlaaW.PrintMore Go.Proofs.Ytcbebbiedegjlaa.HW
open Pm
set_option linter.unusedVariables false
set_option linter.unusedSimpArgs false
/-- The fee of so many days. -/
def look (d : Int) : List (List Int) → Int
  | [] => 0
  | r :: l => if r.getD 0 0 = d then r.getD 1 0 else look d l
theorem tiers_row {pd pf : Int} {rows : List (List Int)} (h : tiersOk pd pf rows = true) : ∀ r ∈ rows, (1 ≤ r.getD 0 0 ∧ r.getD 0 0 ≤ 365) ∧ (0 ≤ r.getD 1 0 ∧ r.getD 1 0 ≤ 10000000000000) := by
  induction rows generalizing pd pf with
  | nil => intro r hr; cases hr
  | cons a l ih =>
    intro r hr
    simp only [tiersOk, Bool.and_eq_true, decide_eq_true_eq] at h
    rcases List.mem_cons.1 hr with rfl | hr
    · exact ⟨⟨h.1.1, h.1.2.1⟩, h.1.2.2.1, h.1.2.2.2.1⟩
    · exact ih h.2 r hr
theorem look_bd {rows : List (List Int)} (h : ∀ r ∈ rows, (1 ≤ r.getD 0 0 ∧ r.getD 0 0 ≤ 365) ∧ (0 ≤ r.getD 1 0 ∧ r.getD 1 0 ≤ 10000000000000)) (d : Int) : 0 ≤ look d rows ∧ look d rows ≤ 10000000000000 := by
  induction rows with
  | nil => exact ⟨by simp [look], by simp [look]⟩
  | cons a l ih =>
    unfold look
    split
    · exact (h a (by simp)).2
    · exact ih (fun r hr => h r (List.mem_cons_of_mem _ hr))
set_option maxRecDepth 100000 in
set_option maxHeartbeats 1000000 in
theorem fee_any (A : Option Addr) (c : Nat) (rows : List (List Int)) (d : Int) (w : World) (hr : Op.IntRows w A 2 rows) (hm : rows.length ≤ 1000000) (hb : ∀ r ∈ rows, (1 ≤ r.getD 0 0 ∧ r.getD 0 0 ≤ 365) ∧ (0 ≤ r.getD 1 0 ∧ r.getD 1 0 ≤ 10000000000000)) (v : Int) (hv : look d rows = v) :
    Calls Try.prog 47 #[.slice A rows.length c, .int .u64 d] w fun e w' => e = .returned (.int .i64 v) ∧ Below w.heap.size w w' := by
  have HR := Aside0.mk hr
  have HBB := Aside0.mk hb
  have HV := Aside0.mk hv
  clear hr hb hv
  go_enter Try.func47, Try.ntmps47
  go_wp2_with fail
  go_loopg [9] (rows.length + 1) (fun gq i w' => ∃ (k : Nat), k ≤ rows.length ∧ i = .int .i64 k ∧ Aside0 (gq = rows.length + 1 - k) ∧ Aside0 (look d (rows.drop k) = v) ∧ Aside0 (Below w.heap.size w w'))
  case atStart => exact ⟨0, Nat.zero_le _, rfl, ⟨rfl⟩, ⟨by simpa using HV.out⟩, ⟨Below.refl _ _⟩⟩
  case round =>
    obtain ⟨k, hk, rfl, hgq, hq, hbl⟩ := hrel
    by_cases hlt : k < rows.length
    · obtain ⟨ad, x, y, e0, hrow, q0', q1', wx, wy⟩ := two_at (HR.out.below hbl.out) k hlt
      subst e0
      have hcs := hq.out
      rw [drop_row hrow] at hcs
      simp only [look, List.getD_cons_zero, List.getD_cons_succ] at hcs
      have hb2 := HBB.out _ (List.mem_of_getElem? hrow)
      simp only [List.getD_cons_zero, List.getD_cons_succ] at hb2
      obtain ⟨⟨x0, x1⟩, y0, y1⟩ := hb2
      have adlt := cell_ltR q0'
      have kk0 : (0 : Int) ≤ (k : Int) := by omega
      have kk1 : (k : Int) < (rows.length : Int) := by omega
      clear hq hrow wx wy
      have ew : IntKind.u64.wrap x = x := by show x % 18446744073709551616 = x; omega
      by_cases hx : x = d
      · rw [if_pos hx] at hcs
        have hxd : (x == d) = true := beqt hx
        have HC := Aside0.mk hcs
        clear hcs hx
        go_wp2_with ((with_reducible refine gate_dst (N := 6) rfl ?_); refine copy_event rfl (N := 6) rfl rfl rfl (t := 34) (v := .tmp 12) rfl (cs := #[.int .i64 x, .int .i64 y]) (zs := #[.int .i64 0, .int .i64 0]) ?hr rfl rfl info_tier ?hz (two_one _ _) ?_; (case hr => first | (go_simp; done) | (go_simp; rfl)); (case hz => rfl); intro g4 hg w4 hb4 hbl4; have g4lt := blk_lt hb4; clear hg; have z0 : w4.cell? ⟨g4, 0, none⟩ = some (.int .i64 x) := (blk_cell hb4 0).trans rfl; have z1 : w4.cell? ⟨g4, 1, none⟩ = some (.int .i64 y) := (blk_cell hb4 1).trans rfl; have BL4 := Aside0.mk (below_step hbl.out hbl4); clear hb4 hbl4)
        clear ew
        go_ret
        exact ⟨by rw [HC.out]; rfl, BL4.out⟩
      · rw [if_neg hx] at hcs
        have hxd : (x == d) = false := beqf hx
        have HC := Aside0.mk hcs
        clear hcs hx
        go_wp2_with ((with_reducible refine gate_dst (N := 6) rfl ?_); refine copy_event rfl (N := 6) rfl rfl rfl (t := 34) (v := .tmp 12) rfl (cs := #[.int .i64 x, .int .i64 y]) (zs := #[.int .i64 0, .int .i64 0]) ?hr rfl rfl info_tier ?hz (two_one _ _) ?_; (case hr => first | (go_simp; done) | (go_simp; rfl)); (case hz => rfl); intro g4 hg w4 hb4 hbl4; have g4lt := blk_lt hb4; clear hg; have z0 : w4.cell? ⟨g4, 0, none⟩ = some (.int .i64 x) := (blk_cell hb4 0).trans rfl; have z1 : w4.cell? ⟨g4, 1, none⟩ = some (.int .i64 y) := (blk_cell hb4 1).trans rfl; have BL4 := Aside0.mk (below_step hbl.out hbl4); clear hb4 hbl4)
        clear ew
        go_roundg (rows.length + 1 - (k + 1))
        case measure => have := hgq.out; omega
        case rel => exact ⟨k + 1, by omega, by simp, ⟨rfl⟩, HC, BL4⟩
    · have hk2 : k = rows.length := by omega
      subst hk2
      have hcs := hq.out
      rw [List.drop_length] at hcs
      obtain rfl : 0 = v := hcs
      clear hq
      go_wp2_with fail
      go_ret
      exact ⟨rfl, hbl.out⟩
/-- A row of four. -/
theorem four_at {w : World} {A : Option Addr} {rows : List (List Int)} (h : Op.IntRows w A 4 rows) (k : Nat) (hk : k < rows.length) : ∃ ad n d i q, A = some ad ∧ rows[k]? = some [n, d, i, q] ∧ w.cell? (ad.add (k * 4)) = some (.int .i64 n) ∧ w.cell? ⟨(ad.add (k * 4)).block, (ad.add (k * 4)).off + 1, none⟩ = some (.int .i64 d) ∧ w.cell? ⟨(ad.add (k * 4)).block, (ad.add (k * 4)).off + 2, none⟩ = some (.int .i64 i) ∧ w.cell? ⟨(ad.add (k * 4)).block, (ad.add (k * 4)).off + 3, none⟩ = some (.int .i64 q) ∧ (Lit.int .i64 d).wf = true := by
  obtain ⟨h1, h2⟩ := h.1 _ (List.getElem_mem hk)
  obtain ⟨ad, e, hc⟩ := h.2 k _ (List.getElem?_eq_getElem hk)
  rw [List.getElem?_eq_getElem hk]
  generalize rows[k] = r at *
  match r, h1 with
  | [n, d, i, q], _ => exact ⟨ad, n, d, i, q, e, rfl, hc 0 n rfl, by rw [← add_fieldR _ _ _ (by decide)]; exact hc 1 d rfl, by rw [← add_fieldR _ _ _ (by decide)]; exact hc 2 i rfl, by rw [← add_fieldR _ _ _ (by decide)]; exact hc 3 q rfl, h2 d (by simp)⟩
/-- What comes together, one due behind the other. -/
def onR (late : List (List Int)) (day room : Int) : Int → List (List Int) → Int
  | acc, [] => acc
  | acc, r :: l => onR late day room (if r.getD 1 0 < day then min (acc + look (day - r.getD 1 0) late) room else acc) l
/-- What is due on a day, or why not. -/
def lateOn (p : Prod) (dues : List (List Int)) (day sofar : Int) : Int × Int :=
  if ok p = true then (if 0 ≤ sofar ∧ sofar ≤ 1000000000000000 then (onR p.late day (max (p.cap - sofar) 0) 0 dues, 0) else (0, 1)) else (0, 9)
theorem ok_parts {p : Prod} (h : ok p = true) : (0 ≤ p.cap ∧ p.cap ≤ 10000000000000) ∧ p.late.length ≤ 8 ∧ tiersOk 0 0 p.late = true ∧ (1 ≤ p.times ∧ p.times ≤ 600) := by
  unfold ok at h
  simp only [Bool.and_eq_true] at h
  obtain ⟨⟨⟨⟨hs, _⟩, _⟩, hl⟩, _⟩ := h
  have ht := times_of hs
  unfold lateOk at hl
  rw [Bool.and_eq_true] at hl
  have h1 := of_decide_eq_true hl.1
  exact ⟨h1.2.1, h1.1, hl.2, ht⟩
end Go.Proofs.Ytcbebbiedegjlaa.Pd
