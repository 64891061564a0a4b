/- Contracts by hand: the document's look at a product, in plain words; the plain product. -/
import Derived.Test.YtcbebbiedegjlaaQd
import Derived.Test.YtcbebbiedegjlaaPk
namespace Go.Proofs.Ytcbebbiedegjlaa.Pd
open Go.RowKit Go.Proofs.YtcbebbiedegjlaaW.PrintWords Go.Proofs.YtcbebbiedegjlaaW.PrintLast Go.Proofs.YtcbebbiedegjlaaW.PrintMore Go.Proofs.Ytcbebbiedegjlaa.HW
open Pm
set_option linter.unusedVariables false
set_option linter.unusedSimpArgs false
/-- Not longer than what a machine holds. -/
structure Held (p : Prod) : Prop where
  name : p.name.size ≤ 140737488351232
  s1 : p.resets.length ≤ 140737488355328
  s2 : p.late.length ≤ 140737488355328
  s3 : p.hol.length ≤ 140737488355328
theorem Small.held {p : Prod} (h : Small p) : Held p := ⟨Nat.le_trans h.name (by decide), Nat.le_trans h.s1 (by decide), Nat.le_trans h.s2 (by decide), Nat.le_trans h.s3 (by decide)⟩
theorem every_in (x : Int) : [(1 : Int), 2, 3, 4, 6, 12].contains x = decide (x = 1 ∨ x = 2 ∨ x = 3 ∨ x = 4 ∨ x = 6 ∨ x = 12) := by
  rw [Bool.eq_iff_iff, List.contains_iff_mem, decide_eq_true_iff]
  simp only [List.mem_cons, List.not_mem_nil, or_false]
theorem rcheck_any (p : Prod) (A1 : Option Addr) (c1 : Nat) (A2 : Option Addr) (c2 : Nat) (A3 : Option Addr) (c3 : Nat) (w : World) (hp : ProdAt w p A1 c1 A2 c2 A3 c3) (hs : Held p) :
    Calls Try.prog 16 #[pv p A1 c1 A2 c2 A3 c3] w fun e w' => e = .returned (.int .i64 (err p)) ∧ Below w.heap.size w w' := by
  have h := rcheck_0 p A1 c1 A2 c2 A3 c3 w hp ⟨hs.name, hs.s1, hs.s2, hs.s3⟩ _ _ _ _ rfl rfl rfl rfl
  refine h.mono ?_
  rintro e w1 ⟨rfl, hb⟩
  refine ⟨?_, hb⟩
  congr 2
  unfold err
  have key : ∀ x y : Bool, x = y → (if x = true then (0 : Int) else 9) = (if y = true then 0 else 9) := fun x y h => by rw [h]
  apply key
  rw [Nw.rises_pm, every_in, Bool.eq_iff_iff]
  have e1 : ok p = true ↔ ((((nameOk p.name.data.toList = true ∧ ((1 ≤ p.count ∧ p.count ≤ 3) ∧ (p.round = 1 ∨ p.round = 3) ∧ (1 ≤ p.kind ∧ p.kind ≤ 3) ∧ (p.every = 1 ∨ p.every = 2 ∨ p.every = 3 ∨ p.every = 4 ∨ p.every = 6 ∨ p.every = 12) ∧ (1 ≤ p.times ∧ p.times ≤ 600) ∧ (0 ≤ p.grace ∧ p.grace ≤ p.times - 1) ∧ (p.kind = 3 → p.grace = 0))) ∧ (((0 ≤ p.rate ∧ p.rate ≤ 1000000000) ∧ (0 ≤ p.penalty ∧ p.penalty ≤ 1000000000) ∧ p.resets.length ≤ 20) ∧ resetsOk p.times 0 p.resets = true)) ∧ (orderOk p.o1 p.o2 p.o3 p.o4 = true ∧ (1 ≤ p.over ∧ p.over ≤ 3))) ∧ lateOk p = true) ∧ ((p.hol.length ≤ 200 ∧ (1 ≤ p.roll ∧ p.roll ≤ 4) ∧ (p.roll = 1 → p.hol = [])) ∧ holsOk (-25568) p.hol = true) := by
    simp only [ok, shapeOk, ratesOk, ordOk, daysOk, Bool.and_eq_true, decide_eq_true_eq]
  rw [e1]
  simp only [Bool.and_eq_true, decide_eq_true_eq]
  constructor
  · rintro ⟨⟨⟨⟨⟨⟨⟨⟨⟨⟨⟨⟨⟨⟨⟨⟨N, C⟩, R⟩, K⟩, E⟩, T⟩, G⟩, KG⟩, Ra⟩, Pe⟩, RS, L20⟩, O⟩, Ov⟩, LT⟩, Ro⟩, H, L200⟩, RH⟩
    exact ⟨⟨⟨⟨⟨N, C, R, K, E, T, G, KG⟩, ⟨Ra, Pe, L20⟩, RS⟩, O, Ov⟩, LT⟩, ⟨L200, Ro, RH⟩, H⟩
  · rintro ⟨⟨⟨⟨⟨N, C, R, K, E, T, G, KG⟩, ⟨Ra, Pe, L20⟩, RS⟩, O, Ov⟩, LT⟩, ⟨L200, Ro, RH⟩, H⟩
    exact ⟨⟨⟨⟨⟨⟨⟨⟨⟨⟨⟨⟨⟨⟨⟨⟨N, C⟩, R⟩, K⟩, E⟩, T⟩, G⟩, KG⟩, Ra⟩, Pe⟩, RS, L20⟩, O⟩, Ov⟩, LT⟩, Ro⟩, H, L200⟩, RH⟩
/-- The plain product. -/
def plainP : Prod := { name := ⟨#[104, 111, 109, 101]⟩, count := 2, round := 1, kind := 1, every := 1, times := 12, grace := 0, rate := 60000000, resets := [], penalty := 100000000, o1 := 1, o2 := 2, o3 := 3, o4 := 4, over := 1, late := [], cap := 0, roll := 1, hol := [] }
/-- Nothing. -/
def zeroP : Prod := { name := ⟨#[]⟩, count := 0, round := 0, kind := 0, every := 0, times := 0, grace := 0, rate := 0, resets := [], penalty := 0, o1 := 0, o2 := 0, o3 := 0, o4 := 0, over := 0, late := [], cap := 0, roll := 0, hol := [] }
abbrev plainC : Array Value :=
  #[.string ⟨#[104, 111, 109, 101]⟩, .int .i64 2, .int .i64 1, .int .i64 1, .int .i64 1, .int .i64 12, .int .i64 0, .int .i64 60000000, .slice none 0 0, .int .i64 100000000, .int .i64 1, .int .i64 2, .int .i64 3, .int .i64 4, .int .i64 1, .slice none 0 0, .int .i64 0, .int .i64 1, .slice none 0 0]
theorem plain_ok : err plainP = 0 := by decide +kernel
theorem zero_no : err zeroP = 9 := by decide +kernel
theorem nilRows (w : World) : Op.IntRows w none 2 [] := ⟨fun r h => by (cases h), fun i r h => by (simp at h)⟩
theorem nilAt {w : World} {p : Prod} (h1 : p.resets = []) (h2 : p.late = []) (h3 : p.hol = []) : ProdAt w p none 0 none 0 none 0 := by
  refine ⟨by rw [h1]; exact nilRows w, by rw [h1]; exact Nat.le_refl _, fun _ => rfl, by rw [h2]; exact nilRows w, by rw [h2]; exact Nat.le_refl _, fun _ => rfl, ?_, by rw [h3]; exact Nat.le_refl _, fun _ => rfl⟩
  rw [h3]; exact Kd.C_nil _ w
theorem small_plain : Small plainP := ⟨by decide, by decide, by decide, by decide⟩
theorem small_zero : Small zeroP := ⟨by decide, by decide, by decide, by decide⟩
theorem built_plain : Try.prog.built 27 [(0, .string ⟨#[104, 111, 109, 101]⟩), (1, .int .i64 2), (2, .int .i64 1), (3, .int .i64 1), (4, .int .i64 1), (5, .int .i64 12), (7, .int .i64 60000000), (9, .int .i64 100000000), (10, .agg #[.int .i64 1, .int .i64 2, .int .i64 3, .int .i64 4]), (11, .int .i64 1), (14, .int .i64 1)] = some plainC := by kernel_rfl
theorem plainC_one : plainC.all (·.oneCell') = true := by simp [Value.oneCell']
theorem below_setRowP {B : Nat} {w W : World} {g : Nat} (h : Below B w W) (hg : B ≤ g) (cs : Array Value) : Below B w (W.setRow g cs) :=
  ⟨h.os, h.tape, h.output, by rw [size_setRow]; exact h.size, fun k hk => by rw [setRow_other W g k cs (by omega)]; exact h.block k hk⟩
def PlainE (w : World) (e : Ending) (w' : World) : Prop := e = .returned (.agg plainC) ∧ Below w.heap.size w w'
theorem plain_any (w : World) : Calls Try.prog 22 #[] w (PlainE w) := by
  go_enter Try.func22, Try.ntmps22
  go_wp2_with (first
    | ((with_reducible refine gate_dst (N := 0) rfl ?_); refine box_event ?hg (N := 0) ?hd (cs := pzs) (t := 27) ?hr ?_; (case hd => rfl); (case hg => rfl); (case hr => first | (go_simp; done) | (go_simp; rfl)); intro g1 hg w1 hb1 hbl1; have g1ge := (show w.heap.size ≤ g1 by rw [hg]; exact Nat.le_refl _); clear hg; have HB1 := Aside0.mk hb1; have BL1 := Aside0.mk hbl1; clear hb1 hbl1)
    | ((with_reducible refine gate_dst (N := 2) rfl ?_); refine build_event rfl (t := 27) rfl (cs := plainC) ?hb ?_; (case hb => simp only [List.map_toArray, List.map_cons, List.map_nil]; exact built_plain))
    | ((with_reducible refine gate_store (t := 27) (p := 0) rfl ?_); refine Hid.out ?_))
  refine Lib.hid ?_
  refine wpList_store_row rfl 27 (.tmp 0) (.tmp 2) rfl g1 plainC rfl rfl 27 pzs HB1.out info_prod rfl plainC_one ?_
  have hb2 := setRow_heap w1 g1 _ plainC _ _ HB1.out
  have bl2 := below_setRowP (g := g1) BL1.out g1ge plainC
  obtain ⟨w2, hw2⟩ : ∃ w2, w2 = w1.setRow g1 plainC := ⟨_, rfl⟩
  rw [← hw2] at hb2 bl2 ⊢
  have HB2 := Aside0.mk hb2
  have BL2 := Aside0.mk bl2
  clear hw2 hb2 bl2
  go_frame
  go_wp2_with fail
  exact bodyPost_ret (v := .agg plainC) (results_cell_row (g := g1) Try.results22 _ _ _ _ _ _ rfl HB2.out Try.underlying27 rfl info_prod) rfl ⟨rfl, BL2.out⟩
end Go.Proofs.Ytcbebbiedegjlaa.Pd
