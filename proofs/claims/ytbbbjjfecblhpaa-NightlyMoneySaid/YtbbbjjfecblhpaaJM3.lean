/- Texts of this claim, joined in build order. -/
import Derived.RowKit
import Derived.Below
import Derived.Test.YtbbbjjfecblhpaaProg
import Derived.Deep.Draws
import Derived.Deep.AppendLies
import Derived.Maps.AppendAt
import Derived.OwnWalk
import Derived.Laws.BytesArg
import Derived.Laws.MakeOwn
import Derived.Laws.OwnMore
import Derived.Tactics
import Derived.Lib.ConvBytes
import Derived.Laws.Slices
import Derived.WalkKit
import Derived.KernelRfl
import Derived.RowKit3
import Derived.Deep.LoopGhost
import Derived.Deep.QuietTactic
import Derived.BigQuiet
import Derived.WideLaws
import Derived.Deep.DeepCutAuto
import Derived.Deep.CutBlock
import Derived.Deep.RegionHeld3
import Derived.Lib.AppendStr
import Derived.ArgAppend
import Derived.Laws.IdiomCopy
import Derived.OrdersHeld
import Derived.Laws.BitsLemmas
import Derived.Laws.StructEq
import Derived.WalkLawsBesides
import Derived.WalkSpells
import Derived.Lib.IndexMore
import Derived.Deep.Slices
import Derived.Deep.Fields
import Derived.ChangeSame
import Derived.Lib.SmallJoins
import Derived.ProofKit
import Derived.Defers
import Derived.Laws.Tables
import Derived.Deep.WholeRow
import Derived.Recover
import Derived.StillTailTactics
import Derived.IntWalk
import Derived.Shelf.Small.Bits
import Derived.Shelf.Small.Wraps
import Derived.Shelf.Strconv.Itoa0
import Derived.Shelf.Strings.Search1
import Derived.Shelf.Strings.Search2
import Derived.Shelf.Strings.Search3
import Derived.Shelf.LaysM
import Derived.Shelf.Strings.Shaped
import Derived.Shelf.Bits.Mul64
import Derived.Ground.Names2Prog
import Derived.Shelf.Slices.Clone
import Derived.Shelf.Slices.SearchI
import Derived.Shelf.Slices.Empties
import Derived.Lib.SlBytesConst
import Derived.Deep.RegionWith
import Derived.Lib.Hide
import Derived.BigFrame
import Derived.Deep.MidRow
import Derived.Lib.BitFns
import Derived.Laws.BitsAllLaws
import Derived.Laws.Externs
import Derived.RegionTactic
import Derived.Laws.AppendOwnNone
import Derived.OpenShut
import Derived.ShutString
import Derived.ChangeOld
import Derived.Laws.IdiomArrays
import Derived.SizedLaws
import Derived.HandedShaped
import Derived.Shelf.Vars
import Derived.Test.YtbbbjjfecblhpaaJM1
import Derived.Test.YtbbbjjfecblhpaaJM2
set_option linter.unusedVariables false
set_option linter.unusedSimpArgs false
/- Months further on, walked by hand. -/
namespace Go.Proofs.Ytbbbjjfecblhpaa.H
open Go.RowKit Go.Proofs.YtbbbjjfecblhpaaW.PrintWords Go.Proofs.YtbbbjjfecblhpaaW.PrintLast Go.Proofs.YtbbbjjfecblhpaaW.PrintMore
open Go.Proofs.Ytbbbjjfecblhpaa.Math
set_option linter.unusedVariables false
set_option linter.unusedSimpArgs false
attribute [local go_sem] max2_int min2_int max_two min_two
theorem info_dateA : (Try.prog.info? 115).map (·.size) = some 3 := by kernel_rfl
def num3 (r : Int × Int) (w : World) (e : Ending) (w' : World) : Prop := e = .returned (.tuple #[.int .i64 r.1, .int .i64 r.2]) ∧ Below w.heap.size w w'
theorem cell_laterA {w w1 : World} {a : Addr} {v : Value} (hb : Below w.heap.size w w1) (hc : w.cell? a = some v) : w1.cell? a = some v := (hb.cell (World.block_lt_of_cell? w a hc)).trans hc
theorem add_out {n x : Int} (h : x < -3612 ∨ 3612 < x) : add n x = (0, 5) := by unfold add; rw [if_pos h]; split <;> rfl
theorem add_far {n x : Int} (hd : isDay n) (h : 12 * yearOf n + monthOf n - 1 + x < 22800 ∨ 26412 ≤ 12 * yearOf n + monthOf n - 1 + x) : add n x = (0, 5) := by
 unfold add
 rw [if_pos hd]
 split
 ·rfl
 ·unfold addRaw
  exact number_no (by unfold okDate; omega)
theorem add_in {n x : Int} (hd : isDay n) (h1 : -3612 ≤ x) (h2 : x ≤ 3612) : add n x = number ((12 * yearOf n + monthOf n - 1 + x) / 12) ((12 * yearOf n + monthOf n - 1 + x) % 12 + 1) (min (dayOf n) (mlen ((12 * yearOf n + monthOf n - 1 + x) / 12) ((12 * yearOf n + monthOf n - 1 + x) % 12 + 1))) := by
 unfold add
 rw [if_pos hd, if_neg (by omega)]
 rfl
set_option maxRecDepth 100000 in
set_option maxHeartbeats 4000000 in
theorem radd_none (n x y m d c : Int) (w : World) (hc : (c != 0) = true) (hD : ∀ W, Calls Try.prog 71 #[.int .i64 n] W fun e w' => e = .returned (.tuple #[.agg #[.int .i64 y, .int .i64 m, .int .i64 d], .int .i64 c]) ∧ Below W.heap.size W w') : Calls Try.prog 68 #[.int .i64 n, .int .i64 x] w (num3 (0, c) w) := by
 have DA := Aside0.mk hD
 clear hD
 go_enter Try.func68, Try.ntmps68
 go_wp2_with (first
  | (go_at_call 71; (with_reducible refine (DA.out _).mono ?_); rintro e w1 ⟨rfl, hb⟩; have HB := Aside0.mk hb; clear hb)
  | ((with_reducible refine gate_dst (N := 6) rfl ?_); refine Pd.copy_event rfl (N := 6) rfl rfl rfl (t := 115) (v := .tmp 14) rfl (cs := #[.int .i64 y, .int .i64 m, .int .i64 d]) (zs := #[.int .i64 0, .int .i64 0, .int .i64 0]) ?hr rfl rfl info_dateA ?hz (by simp [Value.oneCell']) ?_; (case hr => first | (go_simp; done) | (go_simp; rfl)); (case hz => rfl); intro ga hg w2 hb1 hb; clear hg; have GA := Aside0.mk hb1; have HB := Aside0.mk (below_step HB.out hb); clear hb1 hb; have q0 := (show w2.cell? ⟨ga, 0, none⟩ = some (.int .i64 y) from (blk_cell GA.out 0).trans rfl); have q1 := (show w2.cell? ⟨ga, 1, none⟩ = some (.int .i64 m) from (blk_cell GA.out 1).trans rfl); have q2 := (show w2.cell? ⟨ga, 2, none⟩ = some (.int .i64 d) from (blk_cell GA.out 2).trans rfl)))
 go_ret2
 exact ⟨rfl, HB.out⟩
set_option maxRecDepth 100000 in
set_option maxHeartbeats 4000000 in
theorem radd_walk (n x y m d r1 r2 t Y M L D : Int) (w : World) (hD : ∀ W, Calls Try.prog 71 #[.int .i64 n] W fun e w' => e = .returned (.tuple #[.agg #[.int .i64 y, .int .i64 m, .int .i64 d], .int .i64 0]) ∧ Below W.heap.size W w')
  (hM : ∀ W, Calls Try.prog 93 #[.int .i64 Y, .int .i64 M] W fun e w' => e = .returned (.int .i64 L) ∧ Drawn0 W w') (hN : 22800 ≤ t ∧ t < 26412 → ∀ W, Calls Try.prog 92 #[.agg #[.int .i64 Y, .int .i64 M, .int .i64 D]] W fun e w' => e = .returned (.tuple #[.int .i64 r1, .int .i64 r2]) ∧ Below W.heap.size W w')
  (y1 : 1900 ≤ y) (y2 : y ≤ 2200) (m1 : 1 ≤ m) (m2 : m ≤ 12) (ht : 12 * y + m - 1 + x = t) (hY : t / 12 = Y) (hM2 : t % 12 + 1 = M) (hmin : (if L < d then L else d) = D)
  (h : (x < -4000 ∧ r1 = 0 ∧ r2 = 5) ∨ (4000 < x ∧ r1 = 0 ∧ r2 = 5) ∨ -4000 ≤ x ∧ x ≤ 4000 ∧ (t < 22800 ∧ r1 = 0 ∧ r2 = 5 ∨ 26412 ≤ t ∧ r1 = 0 ∧ r2 = 5 ∨ 22800 ≤ t ∧ t < 26412)) : Calls Try.prog 68 #[.int .i64 n, .int .i64 x] w (num3 (r1, r2) w) := by
 have DA := Aside0.mk hD
 have MA := Aside0.mk hM
 have hx : x < -4000 ∨ 4000 < x ∨ -4000 ≤ x ∧ x ≤ 4000 := by omega
 have e1 : IntKind.i64.wrap (12 * y) = 12 * y := IntWalk.i64_in _ (by omega)
 have e2 : IntKind.i64.wrap (12 * y + m) = 12 * y + m := IntWalk.i64_in _ (by omega)
 have e3 : IntKind.i64.wrap (12 * y + m - 1) = 12 * y + m - 1 := IntWalk.i64_in _ (by omega)
 clear hD hM
 rcases h with ⟨h, rfl, rfl⟩ | ⟨h, rfl, rfl⟩ | ⟨h1, h2, h⟩
 ·clear e1 e2 e3 ht hY hM2 hmin hx y1 y2 m1 m2 hN
  go_enter Try.func68, Try.ntmps68
  go_wp2_with (first
   | (go_at_call 71; (with_reducible refine (DA.out _).mono ?_); rintro e w1 ⟨rfl, hb⟩; have HB := Aside0.mk hb; clear hb)
   | ((with_reducible refine gate_dst (N := 6) rfl ?_); refine Pd.copy_event rfl (N := 6) rfl rfl rfl (t := 115) (v := .tmp 14) rfl (cs := #[.int .i64 y, .int .i64 m, .int .i64 d]) (zs := #[.int .i64 0, .int .i64 0, .int .i64 0]) ?hr rfl rfl info_dateA ?hz (by simp [Value.oneCell']) ?_; (case hr => first | (go_simp; done) | (go_simp; rfl)); (case hz => rfl); intro ga hg w2 hb1 hb; clear hg; have GA := Aside0.mk hb1; have HB := Aside0.mk (below_step HB.out hb); clear hb1 hb; have q0 := (show w2.cell? ⟨ga, 0, none⟩ = some (.int .i64 y) from (blk_cell GA.out 0).trans rfl); have q1 := (show w2.cell? ⟨ga, 1, none⟩ = some (.int .i64 m) from (blk_cell GA.out 1).trans rfl); have q2 := (show w2.cell? ⟨ga, 2, none⟩ = some (.int .i64 d) from (blk_cell GA.out 2).trans rfl)))
  go_ret2
  exact ⟨rfl, HB.out⟩
 ·clear e1 e2 e3 ht hY hM2 hmin hx y1 y2 m1 m2 hN
  go_enter Try.func68, Try.ntmps68
  go_wp2_with (first
   | (go_at_call 71; (with_reducible refine (DA.out _).mono ?_); rintro e w1 ⟨rfl, hb⟩; have HB := Aside0.mk hb; clear hb)
   | ((with_reducible refine gate_dst (N := 6) rfl ?_); refine Pd.copy_event rfl (N := 6) rfl rfl rfl (t := 115) (v := .tmp 14) rfl (cs := #[.int .i64 y, .int .i64 m, .int .i64 d]) (zs := #[.int .i64 0, .int .i64 0, .int .i64 0]) ?hr rfl rfl info_dateA ?hz (by simp [Value.oneCell']) ?_; (case hr => first | (go_simp; done) | (go_simp; rfl)); (case hz => rfl); intro ga hg w2 hb1 hb; clear hg; have GA := Aside0.mk hb1; have HB := Aside0.mk (below_step HB.out hb); clear hb1 hb; have q0 := (show w2.cell? ⟨ga, 0, none⟩ = some (.int .i64 y) from (blk_cell GA.out 0).trans rfl); have q1 := (show w2.cell? ⟨ga, 1, none⟩ = some (.int .i64 m) from (blk_cell GA.out 1).trans rfl); have q2 := (show w2.cell? ⟨ga, 2, none⟩ = some (.int .i64 d) from (blk_cell GA.out 2).trans rfl)))
  go_ret2
  exact ⟨rfl, HB.out⟩
 ·have e4 : IntKind.i64.wrap (12 * y + m - 1 + x) = t := by rw [← ht]; exact IntWalk.i64_in _ (by omega)
  have t0 : 0 ≤ t := by omega
  have t1 : t ≤ 40000 := by omega
  have e5 : IntKind.i64.wrap (Int.tdiv t 12) = Y := by rw [Int.tdiv_eq_ediv_of_nonneg t0, hY]; exact IntWalk.i64_in _ (by omega)
  have e5b : IntKind.i64.wrap (t / 12) = Y := by rw [hY]; exact IntWalk.i64_in _ (by omega)
  have e6 : IntKind.i64.wrap (Int.tmod t 12) = M - 1 := by rw [Int.tmod_eq_emod_of_nonneg t0]; rw [IntWalk.i64_in _ (by omega)]; omega
  have e7 : IntKind.i64.wrap (M - 1 + 1) = M := by rw [IntWalk.i64_in _ (by omega)]; omega
  have e8 : IntKind.i64.wrap (Int.tmod t 12 + 1) = M := by rw [Int.tmod_eq_emod_of_nonneg t0, hM2]; exact IntWalk.i64_in _ (by omega)
  have e9 : IntKind.i64.wrap (t % 12 + 1) = M := by rw [hM2]; exact IntWalk.i64_in _ (by omega)
  have HMIN := Aside0.mk hmin
  clear ht hY hM2 hmin hx y1 y2 m1 m2
  rcases h with ⟨h, rfl, rfl⟩ | ⟨h, rfl, rfl⟩ | ⟨h, h3⟩
  ·clear hN
   go_enter Try.func68, Try.ntmps68
   go_wp2_with (first
    | (go_at_call 71; (with_reducible refine (DA.out _).mono ?_); rintro e w1 ⟨rfl, hb⟩; have HB := Aside0.mk hb; clear hb)
    | ((with_reducible refine gate_dst (N := 6) rfl ?_); refine Pd.copy_event rfl (N := 6) rfl rfl rfl (t := 115) (v := .tmp 14) rfl (cs := #[.int .i64 y, .int .i64 m, .int .i64 d]) (zs := #[.int .i64 0, .int .i64 0, .int .i64 0]) ?hr rfl rfl info_dateA ?hz (by simp [Value.oneCell']) ?_; (case hr => first | (go_simp; done) | (go_simp; rfl)); (case hz => rfl); intro ga hg w2 hb1 hb; clear hg; have GA := Aside0.mk hb1; have HB := Aside0.mk (below_step HB.out hb); clear hb1 hb; have q0 := (show w2.cell? ⟨ga, 0, none⟩ = some (.int .i64 y) from (blk_cell GA.out 0).trans rfl); have q1 := (show w2.cell? ⟨ga, 1, none⟩ = some (.int .i64 m) from (blk_cell GA.out 1).trans rfl); have q2 := (show w2.cell? ⟨ga, 2, none⟩ = some (.int .i64 d) from (blk_cell GA.out 2).trans rfl)))
   go_ret2
   exact ⟨rfl, HB.out⟩
  ·clear hN
   go_enter Try.func68, Try.ntmps68
   go_wp2_with (first
    | (go_at_call 71; (with_reducible refine (DA.out _).mono ?_); rintro e w1 ⟨rfl, hb⟩; have HB := Aside0.mk hb; clear hb)
    | ((with_reducible refine gate_dst (N := 6) rfl ?_); refine Pd.copy_event rfl (N := 6) rfl rfl rfl (t := 115) (v := .tmp 14) rfl (cs := #[.int .i64 y, .int .i64 m, .int .i64 d]) (zs := #[.int .i64 0, .int .i64 0, .int .i64 0]) ?hr rfl rfl info_dateA ?hz (by simp [Value.oneCell']) ?_; (case hr => first | (go_simp; done) | (go_simp; rfl)); (case hz => rfl); intro ga hg w2 hb1 hb; clear hg; have GA := Aside0.mk hb1; have HB := Aside0.mk (below_step HB.out hb); clear hb1 hb; have q0 := (show w2.cell? ⟨ga, 0, none⟩ = some (.int .i64 y) from (blk_cell GA.out 0).trans rfl); have q1 := (show w2.cell? ⟨ga, 1, none⟩ = some (.int .i64 m) from (blk_cell GA.out 1).trans rfl); have q2 := (show w2.cell? ⟨ga, 2, none⟩ = some (.int .i64 d) from (blk_cell GA.out 2).trans rfl)))
   go_ret2
   exact ⟨rfl, HB.out⟩
  ·have NA := Aside0.mk (hN ⟨h, h3⟩)
   clear hN
   go_enter Try.func68, Try.ntmps68
   go_wp2_with (first
    | (go_at_call 71; (with_reducible refine (DA.out _).mono ?_); rintro e w1 ⟨rfl, hb⟩; have HB := Aside0.mk hb; clear hb)
    | ((with_reducible refine gate_dst (N := 6) rfl ?_); refine Pd.copy_event rfl (N := 6) rfl rfl rfl (t := 115) (v := .tmp 14) rfl (cs := #[.int .i64 y, .int .i64 m, .int .i64 d]) (zs := #[.int .i64 0, .int .i64 0, .int .i64 0]) ?hr rfl rfl info_dateA ?hz (by simp [Value.oneCell']) ?_; (case hr => first | (go_simp; done) | (go_simp; rfl)); (case hz => rfl); intro ga hg w2 hb1 hb; clear hg; have GA := Aside0.mk hb1; have HB := Aside0.mk (below_step HB.out hb); clear hb1 hb; have q0 := (show w2.cell? ⟨ga, 0, none⟩ = some (.int .i64 y) from (blk_cell GA.out 0).trans rfl); have q1 := (show w2.cell? ⟨ga, 1, none⟩ = some (.int .i64 m) from (blk_cell GA.out 1).trans rfl); have q2 := (show w2.cell? ⟨ga, 2, none⟩ = some (.int .i64 d) from (blk_cell GA.out 2).trans rfl)))
   have hmin := HMIN.out
   go_region_held3 (fun W => W.cell? ⟨ga, 2, none⟩ = some (.int .i64 d)) (first | exact q2 | go_keep) (first
    | (go_at_call 93; (with_reducible refine (MA.out _).mono ?_); rintro e yy ⟨rfl, hb⟩; have q2 := cell_laterA hb.below q2; have HB := Aside0.mk (below_step (by first | exact Below.drew HB.out | exact pw_below_drewN HB.out _ | exact HB.out) hb.below); clear hb)
    | (go_at_call 92; (with_reducible refine (NA.out _).mono ?_); rintro e yy ⟨rfl, hb⟩; have q2 := cell_laterA hb q2; have HB := Aside0.mk (below_step (by first | exact Below.drew HB.out | exact pw_below_drewN HB.out _ | exact HB.out) hb); clear hb))
   go_wp2_with fail
   go_ret2
   exact ⟨rfl, by first | exact HB.out | exact Below.drew HB.out | exact pw_below_drewN HB.out _⟩
theorem keep_date {w : World} {ga gb : Nat} {t : TypeId} {y m d Y M z : Int} (ha : w.heap[ga]? = some (.cells #[.int .i64 y, .int .i64 m, .int .i64 d] t (0, 0))) (hb : w.heap[gb]? = some (.cells #[.int .i64 Y, .int .i64 M, .int .i64 z] t (0, 0))) (hne : ga ≠ gb) (u : Value) : (w.setCell ⟨gb, 2, none⟩ u).cell? ⟨ga, 2, none⟩ = some (.int .i64 d) ∧ (w.setCell ⟨gb, 2, none⟩ u).cell? ⟨gb, 0, none⟩ = some (.int .i64 Y) ∧ (w.setCell ⟨gb, 2, none⟩ u).cell? ⟨gb, 1, none⟩ = some (.int .i64 M) :=
 ⟨(blk_cell (blk_far ha hne u) 2).trans rfl, (blk_cell (blk_set hb 2 u) 0).trans rfl, (blk_cell (blk_set hb 2 u) 1).trans rfl⟩
theorem built_date (a b : Int) : Try.prog.built 115 [(0, .int .i64 a), (1, .int .i64 b)] = some #[.int .i64 a, .int .i64 b, .int .i64 0] := by kernel_rfl
set_option maxRecDepth 100000 in
set_option maxHeartbeats 4000000 in
theorem cadd_none (n x y m d c : Int) (w : World) (hc : (c != 0) = true) (hD : ∀ W, Calls Try.prog 96 #[.int .i64 n] W fun e w' => e = .returned (.tuple #[.agg #[.int .i64 y, .int .i64 m, .int .i64 d], .int .i64 c]) ∧ Below W.heap.size W w') : Calls Try.prog 88 #[.int .i64 n, .int .i64 x] w (num3 (0, c) w) := by
 have DA := Aside0.mk hD
 clear hD
 go_enter Try.func88, Try.ntmps88
 go_wp2_with (first
  | (go_at_call 96; (with_reducible refine (DA.out _).mono ?_); rintro e w1 ⟨rfl, hb⟩; have HB := Aside0.mk hb; clear hb)
  | ((with_reducible refine gate_dst (N := 6) rfl ?_); refine Pd.copy_event rfl (N := 6) rfl rfl rfl (t := 115) (v := .tmp 13) rfl (cs := #[.int .i64 y, .int .i64 m, .int .i64 d]) (zs := #[.int .i64 0, .int .i64 0, .int .i64 0]) ?hr rfl rfl info_dateA ?hz (by simp [Value.oneCell']) ?_; (case hr => first | (go_simp; done) | (go_simp; rfl)); (case hz => rfl); intro ga hg w2 hb1 hb; clear hg; have GA := Aside0.mk hb1; have HB := Aside0.mk (below_step HB.out hb); clear hb1 hb; have q0 := (show w2.cell? ⟨ga, 0, none⟩ = some (.int .i64 y) from (blk_cell GA.out 0).trans rfl); have q1 := (show w2.cell? ⟨ga, 1, none⟩ = some (.int .i64 m) from (blk_cell GA.out 1).trans rfl); have q2 := (show w2.cell? ⟨ga, 2, none⟩ = some (.int .i64 d) from (blk_cell GA.out 2).trans rfl)))
 go_ret2
 exact ⟨rfl, HB.out⟩
set_option maxRecDepth 100000 in
set_option maxHeartbeats 4000000 in
theorem cadd_walk (n x y m d r1 r2 t Y M L D : Int) (w : World) (hD : ∀ W, Calls Try.prog 96 #[.int .i64 n] W fun e w' => e = .returned (.tuple #[.agg #[.int .i64 y, .int .i64 m, .int .i64 d], .int .i64 0]) ∧ Below W.heap.size W w')
  (hM : ∀ W, Calls Try.prog 106 #[.int .i64 Y, .int .i64 M] W fun e w' => e = .returned (.int .i64 L) ∧ Drawn0 W w') (hN : -3612 ≤ x ∧ x ≤ 3612 → ∀ W, Calls Try.prog 107 #[.agg #[.int .i64 Y, .int .i64 M, .int .i64 D]] W fun e w' => e = .returned (.tuple #[.int .i64 r1, .int .i64 r2]) ∧ Below W.heap.size W w')
  (y1 : 1900 ≤ y) (y2 : y ≤ 2200) (m1 : 1 ≤ m) (m2 : m ≤ 12) (ht : 12 * y + m - 1 + x = t) (hY : t / 12 = Y) (hM2 : t % 12 + 1 = M) (hmin : (if L < d then L else d) = D)
  (h : (x < -3612 ∧ r1 = 0 ∧ r2 = 5) ∨ (3612 < x ∧ r1 = 0 ∧ r2 = 5) ∨ -3612 ≤ x ∧ x ≤ 3612) : Calls Try.prog 88 #[.int .i64 n, .int .i64 x] w (num3 (r1, r2) w) := by
 have DA := Aside0.mk hD
 have MA := Aside0.mk hM
 have e1 : IntKind.i64.wrap (12 * y) = 12 * y := IntWalk.i64_in _ (by omega)
 have e2 : IntKind.i64.wrap (12 * y + m) = 12 * y + m := IntWalk.i64_in _ (by omega)
 have e3 : IntKind.i64.wrap (12 * y + m - 1) = 12 * y + m - 1 := IntWalk.i64_in _ (by omega)
 clear hD hM
 rcases h with ⟨h, rfl, rfl⟩ | ⟨h, rfl, rfl⟩ | ⟨h1, h2⟩
 ·clear e1 e2 e3 ht hY hM2 hmin y1 y2 m1 m2 hN
  go_enter Try.func88, Try.ntmps88
  go_wp2_with (first
   | (go_at_call 96; (with_reducible refine (DA.out _).mono ?_); rintro e w1 ⟨rfl, hb⟩; have HB := Aside0.mk hb; clear hb)
   | ((with_reducible refine gate_dst (N := 6) rfl ?_); refine Pd.copy_event rfl (N := 6) rfl rfl rfl (t := 115) (v := .tmp 13) rfl (cs := #[.int .i64 y, .int .i64 m, .int .i64 d]) (zs := #[.int .i64 0, .int .i64 0, .int .i64 0]) ?hr rfl rfl info_dateA ?hz (by simp [Value.oneCell']) ?_; (case hr => first | (go_simp; done) | (go_simp; rfl)); (case hz => rfl); intro ga hg w2 hb1 hb; clear hg; have GA := Aside0.mk hb1; have HB := Aside0.mk (below_step HB.out hb); clear hb1 hb; have q0 := (show w2.cell? ⟨ga, 0, none⟩ = some (.int .i64 y) from (blk_cell GA.out 0).trans rfl); have q1 := (show w2.cell? ⟨ga, 1, none⟩ = some (.int .i64 m) from (blk_cell GA.out 1).trans rfl); have q2 := (show w2.cell? ⟨ga, 2, none⟩ = some (.int .i64 d) from (blk_cell GA.out 2).trans rfl)))
  go_ret2
  exact ⟨rfl, HB.out⟩
 ·clear e1 e2 e3 ht hY hM2 hmin y1 y2 m1 m2 hN
  go_enter Try.func88, Try.ntmps88
  go_wp2_with (first
   | (go_at_call 96; (with_reducible refine (DA.out _).mono ?_); rintro e w1 ⟨rfl, hb⟩; have HB := Aside0.mk hb; clear hb)
   | ((with_reducible refine gate_dst (N := 6) rfl ?_); refine Pd.copy_event rfl (N := 6) rfl rfl rfl (t := 115) (v := .tmp 13) rfl (cs := #[.int .i64 y, .int .i64 m, .int .i64 d]) (zs := #[.int .i64 0, .int .i64 0, .int .i64 0]) ?hr rfl rfl info_dateA ?hz (by simp [Value.oneCell']) ?_; (case hr => first | (go_simp; done) | (go_simp; rfl)); (case hz => rfl); intro ga hg w2 hb1 hb; clear hg; have GA := Aside0.mk hb1; have HB := Aside0.mk (below_step HB.out hb); clear hb1 hb; have q0 := (show w2.cell? ⟨ga, 0, none⟩ = some (.int .i64 y) from (blk_cell GA.out 0).trans rfl); have q1 := (show w2.cell? ⟨ga, 1, none⟩ = some (.int .i64 m) from (blk_cell GA.out 1).trans rfl); have q2 := (show w2.cell? ⟨ga, 2, none⟩ = some (.int .i64 d) from (blk_cell GA.out 2).trans rfl)))
  go_ret2
  exact ⟨rfl, HB.out⟩
 ·have e4 : IntKind.i64.wrap (12 * y + m - 1 + x) = t := by rw [← ht]; exact IntWalk.i64_in _ (by omega)
  have t0 : 0 ≤ t := by omega
  have t1 : t ≤ 40000 := by omega
  have e5 : IntKind.i64.wrap (Int.tdiv t 12) = Y := by rw [Int.tdiv_eq_ediv_of_nonneg t0, hY]; exact IntWalk.i64_in _ (by omega)
  have e5b : IntKind.i64.wrap (t / 12) = Y := by rw [hY]; exact IntWalk.i64_in _ (by omega)
  have e6 : IntKind.i64.wrap (Int.tmod t 12) = M - 1 := by rw [Int.tmod_eq_emod_of_nonneg t0]; rw [IntWalk.i64_in _ (by omega)]; omega
  have e7 : IntKind.i64.wrap (M - 1 + 1) = M := by rw [IntWalk.i64_in _ (by omega)]; omega
  have e8 : IntKind.i64.wrap (Int.tmod t 12 + 1) = M := by rw [Int.tmod_eq_emod_of_nonneg t0, hM2]; exact IntWalk.i64_in _ (by omega)
  have e9 : IntKind.i64.wrap (t % 12 + 1) = M := by rw [hM2]; exact IntWalk.i64_in _ (by omega)
  have HMIN := Aside0.mk hmin
  have NA := Aside0.mk (hN ⟨h1, h2⟩)
  clear ht hY hM2 hmin y1 y2 m1 m2 hN
  go_enter Try.func88, Try.ntmps88
  go_wp2_with (first
   | (go_at_call 96; (with_reducible refine (DA.out _).mono ?_); rintro e w1 ⟨rfl, hb⟩; have HB := Aside0.mk hb; clear hb)
   | ((with_reducible refine gate_dst (N := 6) rfl ?_); refine Pd.copy_event rfl (N := 6) rfl rfl rfl (t := 115) (v := .tmp 13) rfl (cs := #[.int .i64 y, .int .i64 m, .int .i64 d]) (zs := #[.int .i64 0, .int .i64 0, .int .i64 0]) ?hr rfl rfl info_dateA ?hz (by simp [Value.oneCell']) ?_; (case hr => first | (go_simp; done) | (go_simp; rfl)); (case hz => rfl); intro ga hg w2 hb1 hb; clear hg; have GA := Aside0.mk hb1; have HB := Aside0.mk (below_step HB.out hb); clear hb1 hb; have q0 := (show w2.cell? ⟨ga, 0, none⟩ = some (.int .i64 y) from (blk_cell GA.out 0).trans rfl); have q1 := (show w2.cell? ⟨ga, 1, none⟩ = some (.int .i64 m) from (blk_cell GA.out 1).trans rfl); have q2 := (show w2.cell? ⟨ga, 2, none⟩ = some (.int .i64 d) from (blk_cell GA.out 2).trans rfl))
   | ((with_reducible refine gate_dst (N := 38) rfl ?_); refine Pd.build_event rfl (t := 115) rfl (cs := #[.int .i64 Y, .int .i64 M, .int .i64 0]) ?hb ?_; (case hb => simp only [List.map_toArray, List.map_cons, List.map_nil]; exact built_date Y M))
   | ((with_reducible refine gate_dst (N := 9) rfl ?_); refine Pd.copy_event rfl (N := 9) rfl rfl rfl (t := 115) (v := .tmp 38) rfl (cs := #[.int .i64 Y, .int .i64 M, .int .i64 0]) (zs := #[.int .i64 0, .int .i64 0, .int .i64 0]) ?hr rfl rfl info_dateA ?hz (by simp [Value.oneCell']) ?_; (case hr => first | (go_simp; done) | (go_simp; rfl)); (case hz => rfl); intro gb hg w3 hb1 hb; have gge := (show w.heap.size ≤ gb by rw [hg]; exact HB.out.size); have gne := (show ga ≠ gb by have := blk_lt GA.out; omega); clear hg; have GB := Aside0.mk hb1; have HB := Aside0.mk (below_step HB.out hb); have GA := Aside0.mk (Pd.blk_below GA.out hb); clear hb1 hb q0 q1 q2; have q2 := (show w3.cell? ⟨ga, 2, none⟩ = some (.int .i64 d) from (blk_cell GA.out 2).trans rfl); have p0 := (show w3.cell? ⟨gb, 0, none⟩ = some (.int .i64 Y) from (blk_cell GB.out 0).trans rfl); have p1 := (show w3.cell? ⟨gb, 1, none⟩ = some (.int .i64 M) from (blk_cell GB.out 1).trans rfl); have p2 := (show w3.cell? ⟨gb, 2, none⟩ = some (.int .i64 0) from (blk_cell GB.out 2).trans rfl); have fp2 := frozen_of_row w3 gb 2 _ _ GB.out))
  have hmin := HMIN.out
  go_region_held3 (fun W => W.cell? ⟨ga, 2, none⟩ = some (.int .i64 d) ∧ W.cell? ⟨gb, 0, none⟩ = some (.int .i64 Y) ∧ W.cell? ⟨gb, 1, none⟩ = some (.int .i64 M)) (first | exact ⟨q2, p0, p1⟩ | go_keep | exact keep_date GA.out GB.out gne _) (
   (go_at_call 106; (with_reducible refine (MA.out _).mono ?_); rintro e yy ⟨rfl, hb⟩; have q2 := cell_laterA hb.below q2; have p0 := cell_laterA hb.below p0; have p1 := cell_laterA hb.below p1; have GB := Aside0.mk (Pd.blk_below (by exact GB.out) hb.below); have GA := Aside0.mk (Pd.blk_below (by exact GA.out) hb.below); have p2 := (show yy.cell? ⟨gb, 2, none⟩ = some (.int .i64 0) from (blk_cell GB.out 2).trans rfl); have fp2 := frozen_of_row yy gb 2 _ _ GB.out; have HB := Aside0.mk (below_step (by first | exact Below.drew HB.out | exact pw_below_drewN HB.out _ | exact HB.out) hb.below); clear hb))
  obtain ⟨w5, hw5⟩ : ∃ w5, yy.setCell ⟨gb, 2, none⟩ (.int .i64 D) = w5 := ⟨_, rfl⟩
  have G5 := Aside0.mk (show w5.heap[gb]? = some (.cells #[.int .i64 Y, .int .i64 M, .int .i64 D] 115 (0, 0)) by rw [← hw5]; exact blk_set GB.out 2 _)
  have HB := Aside0.mk (show Below w.heap.size w w5 by rw [← hw5]; exact Below.setCell HB.out gge _)
  rw [hw5]
  clear hw5 q2 p0 p1 p2 fp2
  go_wp2_with (first
   | ((with_reducible refine gate_dst (N := 48) rfl ?_); refine wpList_load_row rfl 115 (.tmp 9) rfl gb rfl 115 _ (0, 0) _ G5.out Try.underlying115 rfl info_dateA ?_)
   | (go_at_call 107; (with_reducible refine (NA.out _).mono ?_); rintro e w6 ⟨rfl, hb⟩; have HB := Aside0.mk (below_step HB.out hb); clear hb))
  go_ret2
  exact ⟨rfl, HB.out⟩
end Go.Proofs.Ytbbbjjfecblhpaa.H
/- What the printed functions on months further on and on parts of a year come to, in plain numbers; and their contracts in these words. -/
namespace Go.Proofs.Ytbbbjjfecblhpaa.H
open Go.RowKit Go.Proofs.YtbbbjjfecblhpaaW.PrintWords Go.Proofs.YtbbbjjfecblhpaaW.PrintLast Go.Proofs.YtbbbjjfecblhpaaW.PrintMore
open Go.Proofs.Ytbbbjjfecblhpaa.Math
theorem mn_min (a b : Int) : mn a b = min a b := by unfold mn; omega
theorem mx_max (a b : Int) : mx a b = max a b := by unfold mx; omega
theorem date_bd {n : Int} (h : isDay n) : 1900 ≤ yearOf n ∧ yearOf n ≤ 2200 ∧ 1 ≤ monthOf n ∧ monthOf n ≤ 12 ∧ 1 ≤ dayOf n ∧ dayOf n ≤ 31 := by
 obtain ⟨⟨y1, y2, d1, d2⟩, m1, m2, _⟩ := date_ok h
 have := mlen_bd (yearOf n) (monthOf n)
 exact ⟨y1, y2, m1, m2, d1, by omega⟩
def thirty (n : Int) : Int := if isDay n then 360 * yearOf n + 30 * monthOf n + min (dayOf n) 30 else 0
theorem refThirty (n : Int) : PD.quittanceref06_thirty.f n = some (thirty n) := by
 unfold PD.quittanceref06_thirty.f thirty
 simp only [quittanceref03_Date.f, Option.bind_some]
 by_cases hd : isDay n
 ·rw [date_yes hd, if_pos hd]
  obtain ⟨y1, y2, m1, m2, d1, d2⟩ := date_bd hd
  simp only [mn_min]
  rw [w64 (x := 360 * yearOf n) (by omega) (by omega), w64 (x := 30 * monthOf n) (by omega) (by omega), w64 (x := 360 * yearOf n + 30 * monthOf n) (by omega) (by omega), w64 (by omega) (by omega)]
 ·rw [date_no hd, if_neg hd]; simp [wrap64, mn]
theorem thirty_bd (n : Int) : 0 ≤ thirty n ∧ thirty n ≤ 1000000 := by
 unfold thirty
 split
 ·rename_i h
  obtain ⟨y1, y2, m1, m2, d1, d2⟩ := date_bd h
  omega
 ·omega
def actual (n : Int) : Int := 133590 * yearOf n + (n - opens (yearOf n)) * (366 - leap (yearOf n))
def one (c n : Int) : Int := if c = 2 then 1 else if c = 3 then 366 - leap (date n).1 else thirty (n + 1) - thirty n
theorem refOne (c n : Int) (h1 : -9223372036854775808 ≤ n) (h2 : n < 9223372036854775807) : PD.quittanceref06_One.f c n = some (one c n) := by
 unfold PD.quittanceref06_One.f one
 simp only [quittanceref03_Date.f, quittanceref03_Long.f, Option.bind_some]
 by_cases a : c = 2
 ·rw [if_pos a, if_pos a]
 rw [if_neg a, if_neg a]
 by_cases b : c = 3
 ·rw [if_pos b, if_pos b]
  exact long_bind _ (fun x => if x = true then some 365 else some 366) (fun l => some (366 - l)) rfl rfl
 ·rw [if_neg b, if_neg b]
  rw [w64 (by omega) (by omega), refThirty, refThirty]
  simp only [Option.bind_some]
  have := thirty_bd n
  have := thirty_bd (n + 1)
  rw [w64 (by omega) (by omega)]
theorem busMonth (n : Int) : PD.business_month.f n = some (12 * (date n).1 + (date n).2.1) := by
 unfold PD.business_month.f
 simp only [civil_Date.f, Option.bind_some]
 by_cases hd : isDay n
 ·rw [date_yes hd]
  obtain ⟨y1, y2, m1, m2, d1, d2⟩ := date_bd hd
  simp only []
  rw [w64 (x := 12 * yearOf n) (by omega) (by omega), w64 (by omega) (by omega)]
 ·rw [date_no hd]; simp [wrap64]
/-! ### Parts between two days -/
theorem next_day {n : Int} (h : isDay n) (h' : isDay (n + 1)) : (yearOf (n + 1) = yearOf n ∧ n + 1 < opens (yearOf n + 1)) ∨ (yearOf (n + 1) = yearOf n + 1 ∧ n + 1 = opens (yearOf n + 1)) := by
 obtain ⟨y1, y2, y3, y4⟩ := yearOf_spec h
 obtain ⟨z1, z2, z3, z4⟩ := yearOf_spec h'
 by_cases e : n + 1 < opens (yearOf n + 1)
 ·exact Or.inl ⟨(year_unique h' (by omega) e y1 y2).symm, e⟩
 ·have e' : n + 1 = opens (yearOf n + 1) := by omega
  have ho := opens_succ (yearOf n + 1)
  have hl := leap_01 (yearOf n + 1)
  refine Or.inr ⟨(year_unique h' (by omega) (by omega) (by omega) ?_).symm, e'⟩
  by_cases e2 : yearOf n = 2200
  ·rw [e2] at e'
   have : opens 2201 = 84371 := by decide
   obtain ⟨_, h2⟩ := h'
   rw [show (2200 : Int) + 1 = 2201 from rfl, this] at e'
   omega
  ·omega
theorem actual_succ {n : Int} (h : isDay n) (h' : isDay (n + 1)) : actual (n + 1) = actual n + (366 - leap (yearOf n)) := by
 have hl := leap_01 (yearOf n)
 have ho := opens_succ (yearOf n)
 unfold actual
 rcases next_day h h' with ⟨e, e2⟩ | ⟨e, e2⟩
 ·rw [e]
  rcases (by omega : leap (yearOf n) = 0 ∨ leap (yearOf n) = 1) with l | l <;> rw [l] <;> omega
 ·rw [e, show n + 1 - opens (yearOf n + 1) = 0 by omega]
  rcases (by omega : leap (yearOf n) = 0 ∨ leap (yearOf n) = 1) with l | l <;> rw [l] at ho ⊢ <;> omega
theorem actual_bd {n : Int} (h : isDay n) : 0 ≤ actual n ∧ actual n ≤ 300000000 := by
 obtain ⟨y1, y2, y3, y4⟩ := yearOf_spec h
 have hl := leap_01 (yearOf n)
 have ho := opens_succ (yearOf n)
 unfold actual
 rcases (by omega : leap (yearOf n) = 0 ∨ leap (yearOf n) = 1) with l | l <;> rw [l] at ho ⊢ <;> omega
def place (c n : Int) : Int := if c = 1 then thirty n else if c = 2 then n else actual n
theorem place_succ {c n : Int} (hc : c = 1 ∨ c = 2 ∨ c = 3) (h : isDay n) (h' : isDay (n + 1)) : place c (n + 1) = place c n + one c n := by
 unfold place one
 rcases hc with rfl | rfl | rfl
 ·simp; omega
 ·simp
 ·simp only [show ¬ ((3 : Int) = 1) by decide, show ¬ ((3 : Int) = 2) by decide, if_false, if_true]
  rw [date_yes h]
  exact actual_succ h h'
theorem place_bd {c n : Int} (h : isDay n) : -300000000 ≤ place c n ∧ place c n ≤ 300000000 := by
 have a := thirty_bd n
 have b := actual_bd h
 obtain ⟨h1, h2⟩ := h
 unfold place
 repeat' split
 all_goals omega
def between (c a b : Int) : Int × Int := if c = 1 ∨ c = 2 ∨ c = 3 then (if isDay a ∧ isDay b then (place c b - place c a, 0) else (0, 5)) else (0, 1)
theorem between_loop (d : Nat) : ∀ (k : Nat) (c a b s i : Int), (c = 2 ∨ c = 3) → isDay a → isDay b → min a b ≤ i → max a b - i = d → d < k → s = place c i - place c (min a b) →
  PD.quittanceref06_Between.l0 k c a b s i = some (place c b - place c a, 0) := by
 induction d with
 | zero =>
  intro k c a b s i hc ha hb h1 h2 h3 h4
  obtain ⟨k, rfl⟩ : ∃ m, k = m + 1 := ⟨k - 1, by omega⟩
  obtain rfl : i = max a b := by omega
  have b1 := place_bd (c := c) ha
  have b2 := place_bd (c := c) hb
  simp only [PD.quittanceref06_Between.l0, mx_max]
  rw [if_neg (by omega)]
  by_cases hlt : b < a
  ·rw [if_pos hlt, h4, show max a b = a by omega, show min a b = b by omega, w64 (by omega) (by omega)]
   congr 2; omega
  ·rw [if_neg hlt, h4, show max a b = b by omega, show min a b = a by omega]
 | succ d ih =>
  intro k c a b s i hc ha hb h1 h2 h3 h4
  obtain ⟨k, rfl⟩ : ∃ m, k = m + 1 := ⟨k - 1, by omega⟩
  obtain ⟨a1, a2⟩ := id ha
  obtain ⟨b1, b2⟩ := id hb
  have hi : isDay i := ⟨by omega, by omega⟩
  have hi' : isDay (i + 1) := ⟨by omega, by omega⟩
  have hm : isDay (min a b) := ⟨by omega, by omega⟩
  have p1 := place_bd (c := c) hi
  have p2 := place_bd (c := c) hi'
  have p3 := place_bd (c := c) hm
  have hs := place_succ (c := c) (Or.inr hc) hi hi'
  simp only [PD.quittanceref06_Between.l0, mx_max]
  rw [if_pos (by omega), refOne c i (by omega) (by omega)]
  simp only [Option.bind_some]
  rw [w64 (x := s + one c i) (by omega) (by omega), w64 (x := i + 1) (by omega) (by omega)]
  exact ih k c a b _ _ hc ha hb (by omega) (by omega) (by omega) (by omega)
theorem refBetween (k : Nat) (hk : 120000 ≤ k) (c a b : Int) : PD.quittanceref06_Between.f k c a b = some (between c a b) := by
 obtain ⟨k, rfl⟩ : ∃ m, k = m + 2 := ⟨k - 2, by omega⟩
 unfold PD.quittanceref06_Between.f between
 simp only [PD.quittanceref06_Between.j0, PD.quittanceref06_Between.j1, quittanceref03_Is.f, Option.bind_some]
 by_cases h1 : c < 1
 ·rw [if_pos h1, if_neg (show ¬ (c = 1 ∨ c = 2 ∨ c = 3) by omega)]; simp
 rw [if_neg h1]
 by_cases h2 : c > 3
 ·rw [decide_eq_true h2, if_neg (show ¬ (c = 1 ∨ c = 2 ∨ c = 3) by omega)]; simp
 rw [decide_eq_false h2, if_pos (show c = 1 ∨ c = 2 ∨ c = 3 by omega)]
 simp only [Bool.false_eq_true, if_false]
 by_cases ha : isDay a
 ·rw [decide_eq_true ha]
  simp only [if_true]
  by_cases hb : isDay b
  ·rw [decide_eq_true hb, if_pos (show isDay a ∧ isDay b from ⟨ha, hb⟩)]
   simp only [Bool.not_true, Bool.false_eq_true, if_false]
   by_cases hc : c = 1
   ·subst hc
    rw [if_pos rfl, refThirty, refThirty]
    simp only [Option.bind_some]
    have := thirty_bd a
    have := thirty_bd b
    rw [w64 (by omega) (by omega)]; rfl
   ·rw [if_neg hc, mn_min]
    obtain ⟨a1, a2⟩ := id ha
    obtain ⟨b1, b2⟩ := id hb
    exact between_loop (max a b - min a b).toNat k c a b 0 (min a b) (by omega) ha hb (by omega) (by omega) (by omega) (by omega)
  ·rw [decide_eq_false hb, if_neg (show ¬ (isDay a ∧ isDay b) from fun h => hb h.2)]; simp
 ·rw [decide_eq_false ha, if_neg (show ¬ (isDay a ∧ isDay b) from fun h => ha h.1)]; simp
/-! ### The contracts in these words -/
def monthly_Add.f (n x : Int) : Option (Int × Int) := some (add n x)
theorem monthly_Add.calls (a0 a1 r1 r2 : Int) (w : World) (h : monthly_Add.f a0 a1 = some (r1, r2)) :
  Calls Try.prog 88 #[.int .i64 a0, .int .i64 a1] w fun e w' => e = .returned (.tuple #[.int .i64 r1, .int .i64 r2]) ∧ Below w.heap.size w w' :=
 by
  have e : add a0 a1 = (r1, r2) := Option.some.inj h
  by_cases hd : isDay a0
  ·obtain ⟨y1, y2, m1, m2, d1, d2⟩ := date_bd hd
   have hD := fun W => civil_Date.calls a0 (yearOf a0) (monthOf a0) (dayOf a0) 0 W (by unfold civil_Date.f; rw [date_yes hd])
   refine (cadd_walk a0 a1 _ _ _ r1 r2 _ _ _ _ _ w hD (fun W => civil_Month.calls _ _ _ W rfl) (fun hh W => civil_Number.calls _ _ _ r1 r2 W ?_) y1 y2 m1 m2 rfl rfl rfl rfl ?_).mono fun e w' h => h
   ·rw [add_in hd (by omega) (by omega)] at e
    unfold civil_Number.f
    rw [← e]
    congr 2
    omega
   ·rcases (by omega : a1 < -3612 ∨ 3612 < a1 ∨ -3612 ≤ a1 ∧ a1 ≤ 3612) with g | g | g
    ·obtain ⟨rfl, rfl⟩ := Prod.mk.inj ((add_out (.inl g)).symm.trans e); exact .inl ⟨g, rfl, rfl⟩
    ·obtain ⟨rfl, rfl⟩ := Prod.mk.inj ((add_out (.inr g)).symm.trans e); exact .inr (.inl ⟨g, rfl, rfl⟩)
    ·exact .inr (.inr g)
  ·have e2 : add a0 a1 = (0, 5) := by unfold add; rw [if_neg hd]
   obtain ⟨rfl, rfl⟩ := Prod.mk.inj (e2.symm.trans e)
   exact (cadd_none a0 a1 0 0 0 5 w rfl (fun W => civil_Date.calls a0 0 0 0 5 W (by unfold civil_Date.f; rw [date_no hd]))).mono fun e w' h => h
def quittanceref04_Add.f (n x : Int) : Option (Int × Int) := some (add n x)
theorem quittanceref04_Add.calls (a0 a1 r1 r2 : Int) (w : World) (h : quittanceref04_Add.f a0 a1 = some (r1, r2)) :
  Calls Try.prog 68 #[.int .i64 a0, .int .i64 a1] w fun e w' => e = .returned (.tuple #[.int .i64 r1, .int .i64 r2]) ∧ Below w.heap.size w w' :=
 by
  have e : add a0 a1 = (r1, r2) := Option.some.inj h
  by_cases hd : isDay a0
  ·obtain ⟨y1, y2, m1, m2, d1, d2⟩ := date_bd hd
   have hD := fun W => quittanceref03_Date.calls a0 (yearOf a0) (monthOf a0) (dayOf a0) 0 W (by unfold quittanceref03_Date.f; rw [date_yes hd])
   refine (radd_walk a0 a1 _ _ _ r1 r2 _ _ _ _ _ w hD (fun W => quittanceref03_Month.calls _ _ _ W rfl) (fun hh W => quittanceref03_Number.calls _ _ _ r1 r2 W ?_) y1 y2 m1 m2 rfl rfl rfl rfl ?_).mono fun e w' h => h
   ·rw [add_in hd (by omega) (by omega)] at e
    unfold quittanceref03_Number.f
    rw [← e]
    congr 2
    omega
   ·rcases (by omega : a1 < -4000 ∨ 4000 < a1 ∨ -4000 ≤ a1 ∧ a1 ≤ 4000) with g | g | g
    ·obtain ⟨rfl, rfl⟩ := Prod.mk.inj ((add_out (.inl (by omega))).symm.trans e); exact .inl ⟨g, rfl, rfl⟩
    ·obtain ⟨rfl, rfl⟩ := Prod.mk.inj ((add_out (.inr (by omega))).symm.trans e); exact .inr (.inl ⟨g, rfl, rfl⟩)
    ·refine .inr (.inr ⟨g.1, g.2, ?_⟩)
     rcases (by omega : 12 * yearOf a0 + monthOf a0 - 1 + a1 < 22800 ∨ 26412 ≤ 12 * yearOf a0 + monthOf a0 - 1 + a1 ∨ 22800 ≤ 12 * yearOf a0 + monthOf a0 - 1 + a1 ∧ 12 * yearOf a0 + monthOf a0 - 1 + a1 < 26412) with g | g | g
     ·obtain ⟨rfl, rfl⟩ := Prod.mk.inj ((add_far hd (.inl g)).symm.trans e); exact .inl ⟨g, rfl, rfl⟩
     ·obtain ⟨rfl, rfl⟩ := Prod.mk.inj ((add_far hd (.inr g)).symm.trans e); exact .inr (.inl ⟨g, rfl, rfl⟩)
     ·exact .inr (.inr g)
  ·have e2 : add a0 a1 = (0, 5) := by unfold add; rw [if_neg hd]
   obtain ⟨rfl, rfl⟩ := Prod.mk.inj (e2.symm.trans e)
   exact (radd_none a0 a1 0 0 0 5 w rfl (fun W => quittanceref03_Date.calls a0 0 0 0 5 W (by unfold quittanceref03_Date.f; rw [date_no hd]))).mono fun e w' h => h
def quittanceref06_thirty.f (n : Int) : Option Int := some (thirty n)
theorem quittanceref06_thirty.calls (a0 r : Int) (w : World) (h : quittanceref06_thirty.f a0 = some r) : Calls Try.prog 75 #[.int .i64 a0] w fun e w' => e = .returned (.int .i64 r) ∧ Below w.heap.size w w' :=
 PD.quittanceref06_thirty.calls a0 r w ((refThirty a0).trans h)
def quittanceref06_One.f (c n : Int) : Option Int := if -9223372036854775808 ≤ n ∧ n < 9223372036854775807 then some (one c n) else none
theorem quittanceref06_One.calls (a0 a1 r : Int) (w : World) (h : quittanceref06_One.f a0 a1 = some r) : Calls Try.prog 76 #[.int .i64 a0, .int .i64 a1] w fun e w' => e = .returned (.int .i64 r) ∧ Below w.heap.size w w' := by
 unfold quittanceref06_One.f at h
 split at h
 ·rename_i hb; exact PD.quittanceref06_One.calls a0 a1 r w ((refOne a0 a1 hb.1 hb.2).trans h)
 ·cases h
def business_month.f (n : Int) : Option Int := some (12 * (date n).1 + (date n).2.1)
theorem business_month.calls (a0 r : Int) (w : World) (h : business_month.f a0 = some r) : Calls Try.prog 91 #[.int .i64 a0] w fun e w' => e = .returned (.int .i64 r) ∧ Below w.heap.size w w' :=
 PD.business_month.calls a0 r w ((busMonth a0).trans h)
def quittanceref06_Between.f (c a b : Int) : Option (Int × Int) := some (between c a b)
theorem quittanceref06_Between.calls (a0 a1 a2 r1 r2 : Int) (w : World) (h : quittanceref06_Between.f a0 a1 a2 = some (r1, r2)) :
  Calls Try.prog 45 #[.int .i64 a0, .int .i64 a1, .int .i64 a2] w fun e w' => e = .returned (.tuple #[.int .i64 r1, .int .i64 r2]) ∧ Below w.heap.size w w' :=
 PD.quittanceref06_Between.calls 120000 a0 a1 a2 r1 r2 w ((refBetween 120000 (by omega) a0 a1 a2).trans h)
end Go.Proofs.Ytbbbjjfecblhpaa.H
/- Nightly, plain: money and its dues; what nights make of a state. -/
namespace Go.Proofs.Ytbbbjjfecblhpaa.Nt
open Go.Proofs.Ytbbbjjfecblhpaa.Math Go.Proofs.Ytbbbjjfecblhpaa.H Go.Proofs.Ytbbbjjfecblhpaa.Lv Pm
set_option linter.unusedVariables false
set_option linter.unusedSimpArgs false
def mayB (v : Int) : Bool := decide (0 ≤ v) && decide (v ≤ 1000000000000000)
theorem mayB_iff {v : Int} : mayB v = true ↔ 0 ≤ v ∧ v ≤ 1000000000000000 := by simp [mayB]
def behind : Option (Int × Int) → Int → Int → Bool
 | none, _, _ => true
 | some (a, b), n, d => decide (a < n) && decide (b < d)
def okDue (pv : Option (Int × Int)) (n d i q : Int) : Bool := mayB i && mayB q && !(i + q == 0) && decide (1 ≤ n) && behind pv n d
def dsum : Option (Int × Int) → List (List Int) → Int → Int → Option (Int × Int)
 | _, [], a, b => some (a, b)
 | pv, [n, d, i, q] :: r, a, b => if (okDue pv n d i q && mayB (a + i) && mayB (b + q)) = true then dsum (some (n, d)) r (a + i) (b + q) else none
 | _, _ :: _, _, _ => none
theorem dsum_bd : ∀ (l : List (List Int)) (pv : Option (Int × Int)) (a b x y : Int), mayB a = true → mayB b = true → dsum pv l a b = some (x, y) → mayB x = true ∧ mayB y = true
 | [], pv, a, b, x, y, ha, hb, h => by
  obtain ⟨rfl, rfl⟩ := Prod.mk.inj (Option.some.inj h)
  exact ⟨ha, hb⟩
 | [n, d, i, q] :: r, pv, a, b, x, y, ha, hb, h => by
  rw [dsum] at h
  split at h
  ·rename_i hc
   simp only [Bool.and_eq_true] at hc
   exact dsum_bd r _ _ _ x y hc.1.2 hc.2 h
  ·simp at h
 | [] :: r, pv, a, b, x, y, ha, hb, h => by simp [dsum] at h
 | [_] :: r, pv, a, b, x, y, ha, hb, h => by simp [dsum] at h
 | [_, _] :: r, pv, a, b, x, y, ha, hb, h => by simp [dsum] at h
 | [_, _, _] :: r, pv, a, b, x, y, ha, hb, h => by simp [dsum] at h
 | (_ :: _ :: _ :: _ :: _ :: _) :: r, pv, a, b, x, y, ha, hb, h => by simp [dsum] at h
structure Mny where
 p : Int
 acc : Int
 dues : List (List Int)
 pen : Int
 fees : Int
 un : Int
 cash : Int
 earned : Int
 fined : Int
 charged : Int
def Mny.flat (m : Mny) : List Int := [m.p, m.acc, m.pen, m.fees, m.un, m.earned, m.fined, m.charged]
def readM (m : Mny) : Option (Int × Int) :=
 if m.flat.all mayB = true then
  match dsum none m.dues 0 0 with
  | none => none
  | some (a, b) => if -1000000000000000 ≤ m.cash ∧ m.cash ≤ 1000000000000000 ∧ m.cash + m.p + m.acc + a + b + m.pen + m.fees = m.un + m.earned + m.fined + m.charged then some (a, b) else none
 else none
def owedP (m : Mny) : Int := match readM m with
 | none => 0
 | some (_, b) => b
structure St where
 day : Int
 opn : Bool
 start : Int
 plan : List Int
 next : Int
 rate : Int
 m : Mny
 lateFees : Int
 residue : Int
 fine : Int
def zeroM : Mny := ⟨0, 0, [], 0, 0, 0, 0, 0, 0, 0⟩
def zeroS : St := ⟨0, false, 0, [], 0, 0, zeroM, 0, 0, 0⟩
def restOk (P : Pm.Prod) (r : Int) : Bool := decide (-(Gm.half P.count P.round) ≤ r) && decide (r < Gm.whole P.count - Gm.half P.count P.round)
def mayE (P : Pm.Prod) (s : St) : Int :=
 if err P ≠ 0 then err P
 else if (restOk P s.residue && restOk P s.fine && decide (0 ≤ s.rate) && decide (s.rate ≤ 1000000000) && (readM s.m).isSome) = true then
  (if -25567 ≤ s.day ∧ s.day < 84370 then 0 else 5)
 else 1
def nightsB (P : Pm.Prod) (s : St) (n : Int) : St × Int :=
 if (Gm.bear (Gm.whole P.count) (Gm.half P.count P.round) s.residue s.m.p s.rate (place P.count (s.day + n) - place P.count s.day)).2.1 ≠ 0 then (zeroS, 3)
 else if (Gm.bear (Gm.whole P.count) (Gm.half P.count P.round) s.fine (owedP s.m) P.penalty (place P.count (s.day + n) - place P.count s.day)).2.1 ≠ 0 then (zeroS, 3)
 else
  let z1 := Gm.bear (Gm.whole P.count) (Gm.half P.count P.round) s.residue s.m.p s.rate (place P.count (s.day + n) - place P.count s.day)
  let z2 := Gm.bear (Gm.whole P.count) (Gm.half P.count P.round) s.fine (owedP s.m) P.penalty (place P.count (s.day + n) - place P.count s.day)
  let m2 : Mny := { s.m with acc := s.m.acc + z1.1, earned := s.m.earned + z1.1, pen := s.m.pen + z2.1, fined := s.m.fined + z2.1 }
  if (readM m2).isSome = true then ({ s with m := m2, residue := z1.2.2, fine := z2.2.2, day := s.day + n }, 0) else (zeroS, 3)
def nightsP (P : Pm.Prod) (s : St) (n : Int) : St × Int :=
 if mayE P s ≠ 0 then (zeroS, mayE P s) else if n < 0 then (zeroS, 1) else if 84370 - s.day < n then (zeroS, 5) else nightsB P s n
end Go.Proofs.Ytbbbjjfecblhpaa.Nt
namespace Go.Proofs.Ytbbbjjfecblhpaa.PDA
open Go.RowKit Go.Proofs.YtbbbjjfecblhpaaW.PrintWords Go.Proofs.YtbbbjjfecblhpaaW.PrintLast Go.Proofs.YtbbbjjfecblhpaaW.PrintMore Go.Proofs.Ytbbbjjfecblhpaa.HW
attribute [local go_sem] run_makeFunc_ max2_int min2_int max_two min_two max_three min_three max_four min_four   -- for this text's walks alone
set_option linter.unusedVariables false
set_option linter.unusedSimpArgs false
def errW : Option Int → Value
 | none => .nilIface
 | some c => .iface 0 (.int .i64 c)
theorem errW_none : errW none = .nilIface := rfl
theorem errW_some (c : Int) : errW (some c) = .iface 0 (.int .i64 c) := rfl
theorem info3 : (Try.prog.info? 3).map (fun i => (i.zero, i.size, i.bytes)) = some (some (.int .i64 0), 1, 8) := by kernel_rfl
end Go.Proofs.Ytbbbjjfecblhpaa.PDA
namespace Go.Proofs.Ytbbbjjfecblhpaa.PDA
open Go.RowKit Go.Proofs.YtbbbjjfecblhpaaW.PrintWords Go.Proofs.YtbbbjjfecblhpaaW.PrintLast Go.Proofs.YtbbbjjfecblhpaaW.PrintMore Go.Proofs.Ytbbbjjfecblhpaa.HW
attribute [local go_sem] run_makeFunc_ max2_int min2_int max_two min_two max_three min_three max_four min_four   -- for this text's walks alone
set_option linter.unusedVariables false
set_option linter.unusedSimpArgs false
/-! ### monthly_from_add: function 64 -/
def monthly_from_add.f (a0_0 : Int) (a1 : Int) : Option (Int × Int) := (Go.Proofs.Ytbbbjjfecblhpaa.H.monthly_Add.f a0_0 a1).bind fun bt102 => (some (bt102.1, bt102.2))
set_option maxHeartbeats 8000000 in
set_option maxRecDepth 100000 in
theorem monthly_from_add.calls (a0_0 : Int) (a1 : Int) (r1 : Int) (r2 : Int) (w : World) (h : monthly_from_add.f a0_0 a1 = some (r1, r2)) :
  Calls Try.prog 64 #[.agg #[.int .i64 a0_0], .int .i64 a1] w fun e w' => e = .returned (.tuple #[.int .i64 r1, .int .i64 r2]) ∧ Below w.heap.size w w' := by
 have hu107 := Try.underlying107
 have HB := Aside0.mk (Below.refl w.heap.size w)
 have H : ((Go.Proofs.Ytbbbjjfecblhpaa.H.monthly_Add.f a0_0 a1).bind fun bt102 => (some (bt102.1, bt102.2))) = some (r1, r2) := h
 clear h
 replace H := Option.bind_eq_some_iff.mp H
 obtain ⟨⟨t102, t103⟩, A30, H⟩ := H
 replace H : (some (t102, t103)) = some (r1, r2) := H
 have A3 := Aside0.mk A30
 clear A30
 simp only [Option.some.injEq, Prod.mk.injEq] at H
 obtain ⟨rfl, rfl⟩ := H
 go_enter Try.func64, Try.ntmps64
 go_wp2_with (first | ((with_reducible refine gate_dst (N := 2) rfl ?_); refine box_event ?hg (N := 2) ?hd (cs := #[.int .i64 a0_0]) (t := 107) ?hr ?_; (case hd => rfl); (case hg => rfl); (case hr => first | (go_simp; done) | (go_simp; rfl)); intro gb101 hg w4 hbox hb; have n0_ := Aside0.mk (below_step (by repeat (first | (with_reducible first | exact HB.out | apply below_alloc | apply pw_below_drewN | apply below_drew1) | exact HB.out)) hb); have n1_ := Aside0.mk (hbox); have n2_ := Aside0.mk ((by rw [hg]; exact (below_size (by repeat (first | (with_reducible first | exact HB.out | apply below_alloc | apply pw_below_drewN | apply below_drew1) | exact HB.out))) : w.heap.size ≤ gb101)); have n3_ := Aside0.mk ((by rw [hg]; exact (below_size (by repeat (first | (with_reducible first | exact HB.out | apply below_alloc | apply pw_below_drewN | apply below_drew1) | exact HB.out))) : w.heap.size ≤ gb101)); clear HB; have HB := n0_; have BK101 := n1_; have GW101 := n2_; have GE101 := n3_; clear n0_ n1_ n2_ n3_; clear hb hbox hg; (try have hu101_0 : w4.cell? ⟨gb101, 0, none⟩ = some (.int .i64 a0_0) := (blk_cell BK101.out 0).trans rfl); (try have hv101_0 := blk_frozen BK101.out 0); have hcz5_0 : w4.cell? ⟨gb101, 0, none⟩ = some (.int .i64 a0_0) := (blk_cell BK101.out 0).trans rfl; have hfz5_0 := blk_frozen BK101.out 0) | ((with_reducible refine gate_callee (f := 88) rfl ?_); refine goesL_ (some 9) rfl rfl Try.func88 (by kernel_rfl) rfl #[.int .i64 a0_0, .int .i64 a1] rfl (by (try simp only [List.map_toArray, List.map_cons, List.map_nil]); first | done | rfl | (simp only [List.length_drop, List.length_take]; rfl)) ?_; (with_reducible refine (Go.Proofs.Ytbbbjjfecblhpaa.H.monthly_Add.calls a0_0 a1 t102 t103 _ A3.out).mono ?_); rintro e w6 ⟨rfl, hb⟩; refine ⟨_, rfl, ?_⟩; have n0_ := Aside0.mk (blk_below (g := gb101) (o := .cells #[.int .i64 a0_0] 107 (0, 0)) (by (with_reducible repeat (first | refine blk_drewN ?_ _ | refine blk_drew ?_ | refine blk_alloc ?_ _)); exact BK101.out) hb); have n1_ := Aside0.mk (below_step (by repeat (first | (with_reducible first | exact HB.out | apply below_alloc | apply pw_below_drewN | apply below_drew1 | refine below_set ?_ GE101.out) | exact HB.out)) hb); clear BK101; clear HB; have BK101 := n0_; have HB := n1_; clear n0_ n1_; (try clear hb); (try clear hb2); (try clear hk); (try clear hi); (try have hu101_0 : w6.cell? ⟨gb101, 0, none⟩ = some (.int .i64 a0_0) := (blk_cell BK101.out 0).trans rfl); (try have hv101_0 := blk_frozen BK101.out 0)))
 go_ret2
 exact ⟨by first | rfl | (simp [errW_none, errW_some] <;> rfl) | (simp [*, errW_none, errW_some] <;> rfl), by repeat (first | (with_reducible first | exact HB.out | apply below_alloc | apply pw_below_drewN | apply below_drew1 | refine below_set ?_ GE101.out) | exact HB.out)⟩
/-! ### monthly_Dates: function 39 -/
mutual
def monthly_Dates.j0 : Nat → Int → Int → Int → Bool → Option (List Int × Int)
 | 0, _, _, _, _ => none
 | k + 1, x0, x1, x2, x26 => if x26 = true then (some (([] : List Int), 1)) else (monthly_Dates.l0 k x0 x1 ([] : List Int) x2 0)
def monthly_Dates.l0 : Nat → Int → Int → List Int → Int → Int → Option (List Int × Int)
 | 0, _, _, _, _, _ => none
 | k + 1, x0, x1, x9, x30, x31 => if x31 < x30 then ((monthly_from_add.f x0 (wrap64 ((wrap64 (x31 + 1)) * x1))).bind fun bt104 => (if bt104.2 = 0 then (if x9.length < 17592186044416 then (monthly_Dates.l0 k x0 x1 (x9 ++ [bt104.1]) x30 (wrap64 (x31 + 1))) else (none)) else (some (([] : List Int), bt104.2)))) else (some (x9, 0))
end
def monthly_Dates.f (k : Nat) (a0 : Int) (a1 : Int) (a2 : Int) : Option (List Int × Int) := if a1 < 1 then (monthly_Dates.j0 k a0 a1 a2 true) else (if a1 > 12 then (monthly_Dates.j0 k a0 a1 a2 true) else (if a2 < 1 then (monthly_Dates.j0 k a0 a1 a2 true) else (monthly_Dates.j0 k a0 a1 a2 (decide (a2 > 600)))))
theorem monthly_Dates.mono_l : ∀ k, (∀ y0 y1 y2 y3, LeO (monthly_Dates.j0 k y0 y1 y2 y3) (monthly_Dates.j0 (k + 1) y0 y1 y2 y3)) ∧ (∀ y0 y1 y2 y3 y4, LeO (monthly_Dates.l0 k y0 y1 y2 y3 y4) (monthly_Dates.l0 (k + 1) y0 y1 y2 y3 y4))
 | 0 => ⟨fun _ _ _ _ r h => by simp [monthly_Dates.j0] at h, fun _ _ _ _ _ r h => by simp [monthly_Dates.l0] at h⟩
 | k + 1 => by
  obtain ⟨ih0, ih1⟩ := monthly_Dates.mono_l k
  refine ⟨?_, ?_⟩
  ·intro y0 y1 y2 y3
   unfold monthly_Dates.j0
   repeat' first
   | (with_reducible exact ih0 _ _ _ _)
   | (with_reducible exact ih1 _ _ _ _ _)
   | (with_reducible exact LeO.refl _)
   | (with_reducible exact LeO.none _)
   | (with_reducible refine LeO.ite ?_ ?_)
   | (with_reducible refine LeO.bind ?_ (fun _ => ?_))
   | exact ih0 _ _ _ _
   | exact ih1 _ _ _ _ _
   | exact LeO.none _
   | refine LeO.ite ?_ ?_
   | refine LeO.bind ?_ (fun _ => ?_)
  ·intro y0 y1 y2 y3 y4
   unfold monthly_Dates.l0
   repeat' first
   | (with_reducible exact ih0 _ _ _ _)
   | (with_reducible exact ih1 _ _ _ _ _)
   | (with_reducible exact LeO.refl _)
   | (with_reducible exact LeO.none _)
   | (with_reducible refine LeO.ite ?_ ?_)
   | (with_reducible refine LeO.bind ?_ (fun _ => ?_))
   | exact ih0 _ _ _ _
   | exact ih1 _ _ _ _ _
   | exact LeO.none _
   | refine LeO.ite ?_ ?_
   | refine LeO.bind ?_ (fun _ => ?_)
theorem monthly_Dates.mono : ∀ a0 a1 a2 k, LeO (monthly_Dates.f k a0 a1 a2) (monthly_Dates.f (k + 1) a0 a1 a2) := by
 intro a0 a1 a2 k
 obtain ⟨ih0, ih1⟩ := monthly_Dates.mono_l k
 unfold monthly_Dates.f
 repeat' first
   | (with_reducible exact ih0 _ _ _ _)
   | (with_reducible exact ih1 _ _ _ _ _)
   | (with_reducible exact LeO.refl _)
   | (with_reducible exact LeO.none _)
   | (with_reducible refine LeO.ite ?_ ?_)
   | (with_reducible refine LeO.bind ?_ (fun _ => ?_))
   | exact ih0 _ _ _ _
   | exact ih1 _ _ _ _ _
   | exact LeO.none _
   | refine LeO.ite ?_ ?_
   | refine LeO.bind ?_ (fun _ => ?_)
set_option maxHeartbeats 8000000 in
set_option maxRecDepth 100000 in
theorem monthly_Dates.calls (k : Nat) (a0 : Int) (a1 : Int) (a2 : Int) (r1 : List Int) (r2 : Int) (w : World) (h : monthly_Dates.f k a0 a1 a2 = some (r1, r2)) :
  Calls Try.prog 39 #[.int .i64 a0, .int .i64 a1, .int .i64 a2] w fun e w' => ∃ v0_ : Value, e = .returned (.tuple #[v0_, .int .i64 r2]) ∧ Kd.R (Kd.int .i64) 3 w' w.heap.size (fun _ => True) v0_ r1 ∧ Below w.heap.size w w' := by
 have hu107 := Try.underlying107
 have HB := Aside0.mk (Below.refl w.heap.size w)
 have H : (if a1 < 1 then (monthly_Dates.j0 k a0 a1 a2 true) else (if a1 > 12 then (monthly_Dates.j0 k a0 a1 a2 true) else (if a2 < 1 then (monthly_Dates.j0 k a0 a1 a2 true) else (monthly_Dates.j0 k a0 a1 a2 (decide (a2 > 600)))))) = some (r1, r2) := h
 clear h
 have HC4 := Aside0.mk H
 clear H
 go_enter Try.func39, Try.ntmps39
 go_upto_region 1 with (fail)
 go_cut [26] (fun v26 wc => ∃ (kq : Nat) (x26_3 : Bool), v26 = .bool x26_3 ∧ Aside0 (monthly_Dates.j0 kq a0 a1 a2 x26_3 = some (r1, r2)) ∧ Aside0 (kq ≤ k) ∧ Aside0 (Below w.heap.size w wc))
 case first =>
  have H := HC4.out
  clear HC4
  by_cases c5 : a1 < 1
  ·rw [if_pos c5] at H
   have c5b0 : decide (a1 < 1) = true := decide_eq_true c5
   clear c5
   (first | rw [c5b0] | (simp only [i64_w, i32_w]; rw [c5b0]) | skip)
   have H' := Aside0.mk H
   clear H
   go_wp2
   go_meet
   case rel => exact ⟨_, (true), (by first | rfl | (simp; done) | (simp [*]; done)), H', ⟨by first | omega | exact Nat.le_refl _⟩, ⟨by repeat (first | (with_reducible first | exact HB.out | apply below_alloc | apply pw_below_drewN | apply below_drew1) | exact HB.out)⟩⟩
  ·rw [if_neg c5] at H
   have c5b0 : decide (a1 < 1) = false := decide_eq_false c5
   clear c5
   (first | rw [c5b0] | (simp only [i64_w, i32_w]; rw [c5b0]) | skip)
   by_cases c6 : a1 > 12
   ·rw [if_pos c6] at H
    have c6b0 : decide (12 < a1) = true := decide_eq_true c6
    clear c6
    have H' := Aside0.mk H
    clear H
    go_wp2
    go_meet
    case rel => exact ⟨_, (true), (by first | rfl | (simp; done) | (simp [*]; done)), H', ⟨by first | omega | exact Nat.le_refl _⟩, ⟨by repeat (first | (with_reducible first | exact HB.out | apply below_alloc | apply pw_below_drewN | apply below_drew1) | exact HB.out)⟩⟩
   ·rw [if_neg c6] at H
    have c6b0 : decide (12 < a1) = false := decide_eq_false c6
    clear c6
    by_cases c7 : a2 < 1
    ·rw [if_pos c7] at H
     have c7b0 : decide (a2 < 1) = true := decide_eq_true c7
     clear c7
     have H' := Aside0.mk H
     clear H
     go_wp2
     go_meet
     case rel => exact ⟨_, (true), (by first | rfl | (simp; done) | (simp [*]; done)), H', ⟨by first | omega | exact Nat.le_refl _⟩, ⟨by repeat (first | (with_reducible first | exact HB.out | apply below_alloc | apply pw_below_drewN | apply below_drew1) | exact HB.out)⟩⟩
    ·rw [if_neg c7] at H
     have c7b0 : decide (a2 < 1) = false := decide_eq_false c7
     clear c7
     have H' := Aside0.mk H
     clear H
     go_wp2
     go_meet
     case rel => exact ⟨_, (decide (a2 > 600)), (by first | rfl | (simp; done) | (simp [*]; done)), H', ⟨by first | omega | exact Nat.le_refl _⟩, ⟨by repeat (first | (with_reducible first | exact HB.out | apply below_alloc | apply pw_below_drewN | apply below_drew1) | exact HB.out)⟩⟩
 case rest =>
  clear HC4
  try clear p2
  try clear c3
  try clear c5
  try clear c5b0
  try clear c6
  try clear c6b0
  try clear c7
  try clear c7b0
  obtain ⟨kq, x26_3, rfl, HA, HJ3, HB⟩ := hcut
  cases kq with
  | zero => exact absurd HA.out (by simp [monthly_Dates.j0])
  | succ kj3 =>
   have H := HA.out
   clear HA
   simp only [monthly_Dates.j0] at H
   by_cases c8 : x26_3 = true
   ·subst c8
    have H1 : (some (([] : List Int), 1)) = some (r1, r2) := by rw [if_pos rfl] at H; exact H
    clear H
    have H := H1
    clear H1
    simp only [Option.some.injEq, Prod.mk.injEq] at H
    obtain ⟨rfl, rfl⟩ := H
    go_wp2
    go_ret2
    exact ⟨_, by first | rfl | (simp [errW_none, errW_some] <;> rfl) | (simp [*, errW_none, errW_some] <;> rfl), by first | exact Kd.R_nil _ _ _ _ _ | exact Kd.N_nil _ _ _ _ _ | exact Kd.V_nil _ _ _ _ _ | exact Kd.Q_nil _ _ _ _ _ | exact Kd.S_nil _ _ _ _ _, by repeat (first | (with_reducible first | exact HB.out | apply below_alloc | apply pw_below_drewN | apply below_drew1) | exact HB.out)⟩
   ·replace c8 := Bool.eq_false_iff.mpr c8
    subst c8
    have H1 : (monthly_Dates.l0 kj3 a0 a1 ([] : List Int) a2 0) = some (r1, r2) := by rw [if_neg (show ¬ (false = true) by decide)] at H; exact H
    clear H
    have H := H1
    clear H1
    have H' := Aside0.mk H
    clear H
    go_wp2
    go_loopg [9, 31] kj3 (fun kq v9 v31 w' => ∃ (x9_2 : List Int) (x31_2 : Int), v31 = .int .i64 x31_2 ∧ Aside0 (monthly_Dates.l0 kq a0 a1 x9_2 a2 x31_2 = some (r1, r2)) ∧ Aside0 (kq ≤ kj3) ∧ Aside0 (Kd.R (Kd.int .i64) 3 w' w.heap.size (fun _ => True) v9 x9_2) ∧ Aside0 (Below w.heap.size w w'))
    case atStart => exact ⟨(([] : List Int)), (0), (by first | rfl | (simp; done) | (simp [*]; done)), H', ⟨Nat.le_refl _⟩, ⟨by first | exact Kd.R_nil _ _ _ _ _ | exact Kd.N_nil _ _ _ _ _ | exact Kd.V_nil _ _ _ _ _ | exact Kd.Q_nil _ _ _ _ _ | exact Kd.S_nil _ _ _ _ _⟩, ⟨by repeat (first | (with_reducible first | exact HB.out | apply below_alloc | apply pw_below_drewN | apply below_drew1) | exact HB.out)⟩⟩
    case round =>
     clear H'
     try clear p2
     try clear c3
     try clear c5
     try clear c5b0
     try clear c6
     try clear c6b0
     try clear c7
     try clear c7b0
     try clear c8
     try clear p2
     obtain ⟨x9_2, x31_2, rfl, HA, HK2, HO_9, HB⟩ := hrel
     cases gk with
     | zero => exact absurd HA.out (by simp [monthly_Dates.l0])
     | succ k2 =>
      have H := HA.out
      clear HA
      simp only [monthly_Dates.l0] at H
      by_cases c9 : x31_2 < a2
      ·rw [if_pos c9] at H
       have c9b0 : decide (x31_2 < a2) = true := decide_eq_true c9
       clear c9
       replace H := Option.bind_eq_some_iff.mp H
       obtain ⟨⟨t104, t105⟩, A100, H⟩ := H
       replace H : (if t105 = 0 then (if x9_2.length < 17592186044416 then (monthly_Dates.l0 k2 a0 a1 (x9_2 ++ [t104]) a2 (wrap64 (x31_2 + 1))) else (none)) else (some (([] : List Int), t105))) = some (r1, r2) := H
       have A10 := Aside0.mk A100
       clear A100
       by_cases c11 : t105 = 0
       ·rw [if_pos c11] at H
        have c11b0 : (t105 == 0) = true := beq_iff_eq.mpr c11
        have c11b1 : (t105 != 0) = false := bne_eq_false_iff_eq.mpr c11
        clear c11
        by_cases c12 : x9_2.length < 17592186044416
        ·rw [if_pos c12] at H
         have LMc12 := Aside0.mk c12
         clear c12
         obtain ⟨y106, hy106⟩ : ∃ y_ : List Int, y_ = (x9_2 ++ [t104]) := ⟨_, rfl⟩
         replace H : (monthly_Dates.l0 k2 a0 a1 y106 a2 (wrap64 (x31_2 + 1))) = some (r1, r2) := by first | (rw [hy106]; with_reducible exact H) | (have H2_ := (Option.bind_some _ _).symm.trans H; rw [hy106]; with_reducible exact H2_) | (have H2_ := (Option.bind_some _ _).symm.trans H; with_reducible exact H2_) | with_reducible exact H | (rw [hy106]; exact H) | exact H
         have Ny106 := Aside0.mk hy106
         clear hy106
         have H' := Aside0.mk H
         clear H
         go_wp2_with (first | ((with_reducible refine gate_calleeV (t := 35) rfl ?_); refine goesV_ 35 #[.agg #[.int .i64 a0]] (by first | rfl | (simp; done)) (some 40) rfl rfl Try.func64 (by kernel_rfl) rfl #[.agg #[.int .i64 a0], .int .i64 (wrap64 ((wrap64 (x31_2 + 1)) * a1))] rfl (by (try simp only [List.map_toArray, List.map_cons, List.map_nil]); first | done | rfl | (simp; done) | rfl | (simp only [List.length_drop, List.length_take]; rfl)) ?_; (with_reducible refine (monthly_from_add.calls a0 (wrap64 ((wrap64 (x31_2 + 1)) * a1)) t104 t105 _ A10.out).mono ?_); rintro e w13 ⟨rfl, hb⟩; refine ⟨_, rfl, ?_⟩; have n0_ := Aside0.mk (Kd.R_below (by (with_reducible repeat (first | apply Kd.R_alloc | apply Kd.R_drewN | apply Kd.R_drew)); exact HO_9.out) hb); have n1_ := Aside0.mk (below_step (by repeat (first | (with_reducible first | exact HB.out | apply below_alloc | apply pw_below_drewN | apply below_drew1) | exact HB.out)) hb); clear HO_9; clear HB; have HO_9 := n0_; have HB := n1_; clear n0_ n1_; (try clear hb); (try clear hb2); (try clear hk); (try clear hi)) | ((with_reducible refine gate_builtin (b := .append) (xs := #[.tmp 46, .tmp 48]) rfl ?_); at_builtin; refine Kd.R_append (Kd.int .i64) (w0 := w) w.heap.size rfl (.tmp 46) (.tmp 48) 25 3 (.int .i64 0) 8 rfl Try.underlying25 info3 rfl (by decide) (by omega) u9 x9_2 t104 [.int .i64 t104] (fun _ => True) (fun _ => False) rfl rfl ?aP (fun _ hk => hk.elim) ?aF ?aO ?aB ?aS ?aL ?_; (case aP => exact rfl); (case aB => exact (by repeat (first | (with_reducible first | exact HB.out | apply below_alloc | apply pw_below_drewN | apply below_drew1) | exact HB.out))); (case aF => exact (fun _ _ => trivial)); (case aO => exact (by (with_reducible repeat (first | apply Kd.R_alloc | apply Kd.R_drewN | apply Kd.R_drew)); exact HO_9.out)); (case aS => exact (below_size (by repeat (first | (with_reducible first | exact HB.out | apply below_alloc | apply pw_below_drewN | apply below_drew1) | exact HB.out)))); (case aL => have := LMc12.out; omega); intro v107 w14 ho hb hg hat; rw [← Ny106.out] at ho; have n0_ := Aside0.mk (hb); have n1_ := Aside0.mk (ho); clear HB; clear HO_9; have HB := n0_; have HO108 := n1_; clear n0_ n1_; clear ho hb hg hat))
         go_roundg k2
         case measure => have := HJ3.out; have := HK2.out; omega
         case rel => exact ⟨(y106), (wrap64 (x31_2 + 1)), (by first | rfl | (simp; done) | (simp [*]; done)), H', ⟨by have := HJ3.out; have := HK2.out; omega⟩, ⟨by (with_reducible repeat (first | apply Kd.R_alloc | apply Kd.R_drewN | apply Kd.R_drew)); exact HO108.out⟩, ⟨by repeat (first | (with_reducible first | exact HB.out | apply below_alloc | apply pw_below_drewN | apply below_drew1) | exact HB.out)⟩⟩
        ·rw [if_neg c12] at H
         exact absurd H (by simp)
       ·rw [if_neg c11] at H
        have c11b0 : (t105 == 0) = false := beq_eq_false_iff_ne.mpr c11
        have c11b1 : (t105 != 0) = true := bne_iff_ne.mpr c11
        simp only [Option.some.injEq, Prod.mk.injEq] at H
        obtain ⟨rfl, rfl⟩ := H
        go_wp2_with (first | ((with_reducible refine gate_calleeV (t := 35) rfl ?_); refine goesV_ 35 #[.agg #[.int .i64 a0]] (by first | rfl | (simp; done)) (some 40) rfl rfl Try.func64 (by kernel_rfl) rfl #[.agg #[.int .i64 a0], .int .i64 (wrap64 ((wrap64 (x31_2 + 1)) * a1))] rfl (by (try simp only [List.map_toArray, List.map_cons, List.map_nil]); first | done | rfl | (simp; done) | rfl | (simp only [List.length_drop, List.length_take]; rfl)) ?_; (with_reducible refine (monthly_from_add.calls a0 (wrap64 ((wrap64 (x31_2 + 1)) * a1)) t104 t105 _ A10.out).mono ?_); rintro e w15 ⟨rfl, hb⟩; refine ⟨_, rfl, ?_⟩; have n0_ := Aside0.mk (Kd.R_below (by (with_reducible repeat (first | apply Kd.R_alloc | apply Kd.R_drewN | apply Kd.R_drew)); exact HO_9.out) hb); have n1_ := Aside0.mk (below_step (by repeat (first | (with_reducible first | exact HB.out | apply below_alloc | apply pw_below_drewN | apply below_drew1) | exact HB.out)) hb); clear HO_9; clear HB; have HO_9 := n0_; have HB := n1_; clear n0_ n1_; (try clear hb); (try clear hb2); (try clear hk); (try clear hi)))
        go_ret2
        exact ⟨_, by first | rfl | (simp [errW_none, errW_some] <;> rfl) | (simp [*, errW_none, errW_some] <;> rfl), by first | exact Kd.R_nil _ _ _ _ _ | exact Kd.N_nil _ _ _ _ _ | exact Kd.V_nil _ _ _ _ _ | exact Kd.Q_nil _ _ _ _ _ | exact Kd.S_nil _ _ _ _ _, by repeat (first | (with_reducible first | exact HB.out | apply below_alloc | apply pw_below_drewN | apply below_drew1) | exact HB.out)⟩
      ·rw [if_neg c9] at H
       have c9b0 : decide (x31_2 < a2) = false := decide_eq_false c9
       clear c9
       simp only [Option.some.injEq, Prod.mk.injEq] at H
       obtain ⟨rfl, rfl⟩ := H
       go_wp2
       go_ret2
       exact ⟨_, by first | rfl | (simp [errW_none, errW_some] <;> rfl) | (simp [*, errW_none, errW_some] <;> rfl), by (with_reducible repeat (first | apply Kd.R_alloc | apply Kd.R_drewN | apply Kd.R_drew)); exact HO_9.out, by repeat (first | (with_reducible first | exact HB.out | apply below_alloc | apply pw_below_drewN | apply below_drew1) | exact HB.out)⟩
/-! ### quittanceref04_Dates: function 42 -/
mutual
def quittanceref04_Dates.j0 : Nat → Int → Int → Int → Bool → Option (List Int × Int)
 | 0, _, _, _, _ => none
 | k + 1, x0, x1, x2, x25 => if x25 = true then (some (([] : List Int), 1)) else (quittanceref04_Dates.l0 k x0 x1 x2 ([] : List Int) 1)
def quittanceref04_Dates.l0 : Nat → Int → Int → Int → List Int → Int → Option (List Int × Int)
 | 0, _, _, _, _, _ => none
 | k + 1, x0, x1, x2, x8, x9 => if x9 ≤ x2 then ((Go.Proofs.Ytbbbjjfecblhpaa.H.quittanceref04_Add.f x0 (wrap64 (x9 * x1))).bind fun bt109 => (if bt109.2 = 0 then (if x8.length < 17592186044416 then (quittanceref04_Dates.l0 k x0 x1 x2 (x8 ++ [bt109.1]) (wrap64 (x9 + 1))) else (none)) else (some (([] : List Int), bt109.2)))) else (some (x8, 0))
end
def quittanceref04_Dates.f (k : Nat) (a0 : Int) (a1 : Int) (a2 : Int) : Option (List Int × Int) := if a1 < 1 then (quittanceref04_Dates.j0 k a0 a1 a2 true) else (if a1 > 12 then (quittanceref04_Dates.j0 k a0 a1 a2 true) else (if a2 < 1 then (quittanceref04_Dates.j0 k a0 a1 a2 true) else (quittanceref04_Dates.j0 k a0 a1 a2 (decide (a2 > 600)))))
theorem quittanceref04_Dates.mono_l : ∀ k, (∀ y0 y1 y2 y3, LeO (quittanceref04_Dates.j0 k y0 y1 y2 y3) (quittanceref04_Dates.j0 (k + 1) y0 y1 y2 y3)) ∧ (∀ y0 y1 y2 y3 y4, LeO (quittanceref04_Dates.l0 k y0 y1 y2 y3 y4) (quittanceref04_Dates.l0 (k + 1) y0 y1 y2 y3 y4))
 | 0 => ⟨fun _ _ _ _ r h => by simp [quittanceref04_Dates.j0] at h, fun _ _ _ _ _ r h => by simp [quittanceref04_Dates.l0] at h⟩
 | k + 1 => by
  obtain ⟨ih0, ih1⟩ := quittanceref04_Dates.mono_l k
  refine ⟨?_, ?_⟩
  ·intro y0 y1 y2 y3
   unfold quittanceref04_Dates.j0
   repeat' first
   | (with_reducible exact ih0 _ _ _ _)
   | (with_reducible exact ih1 _ _ _ _ _)
   | (with_reducible exact LeO.refl _)
   | (with_reducible exact LeO.none _)
   | (with_reducible refine LeO.ite ?_ ?_)
   | (with_reducible refine LeO.bind ?_ (fun _ => ?_))
   | exact ih0 _ _ _ _
   | exact ih1 _ _ _ _ _
   | exact LeO.none _
   | refine LeO.ite ?_ ?_
   | refine LeO.bind ?_ (fun _ => ?_)
  ·intro y0 y1 y2 y3 y4
   unfold quittanceref04_Dates.l0
   repeat' first
   | (with_reducible exact ih0 _ _ _ _)
   | (with_reducible exact ih1 _ _ _ _ _)
   | (with_reducible exact LeO.refl _)
   | (with_reducible exact LeO.none _)
   | (with_reducible refine LeO.ite ?_ ?_)
   | (with_reducible refine LeO.bind ?_ (fun _ => ?_))
   | exact ih0 _ _ _ _
   | exact ih1 _ _ _ _ _
   | exact LeO.none _
   | refine LeO.ite ?_ ?_
   | refine LeO.bind ?_ (fun _ => ?_)
theorem quittanceref04_Dates.mono : ∀ a0 a1 a2 k, LeO (quittanceref04_Dates.f k a0 a1 a2) (quittanceref04_Dates.f (k + 1) a0 a1 a2) := by
 intro a0 a1 a2 k
 obtain ⟨ih0, ih1⟩ := quittanceref04_Dates.mono_l k
 unfold quittanceref04_Dates.f
 repeat' first
   | (with_reducible exact ih0 _ _ _ _)
   | (with_reducible exact ih1 _ _ _ _ _)
   | (with_reducible exact LeO.refl _)
   | (with_reducible exact LeO.none _)
   | (with_reducible refine LeO.ite ?_ ?_)
   | (with_reducible refine LeO.bind ?_ (fun _ => ?_))
   | exact ih0 _ _ _ _
   | exact ih1 _ _ _ _ _
   | exact LeO.none _
   | refine LeO.ite ?_ ?_
   | refine LeO.bind ?_ (fun _ => ?_)
set_option maxHeartbeats 8000000 in
set_option maxRecDepth 100000 in
theorem quittanceref04_Dates.calls (k : Nat) (a0 : Int) (a1 : Int) (a2 : Int) (r1 : List Int) (r2 : Int) (w : World) (h : quittanceref04_Dates.f k a0 a1 a2 = some (r1, r2)) :
  Calls Try.prog 42 #[.int .i64 a0, .int .i64 a1, .int .i64 a2] w fun e w' => ∃ v0_ : Value, e = .returned (.tuple #[v0_, .int .i64 r2]) ∧ Kd.R (Kd.int .i64) 3 w' w.heap.size (fun _ => True) v0_ r1 ∧ Below w.heap.size w w' := by
 have HB := Aside0.mk (Below.refl w.heap.size w)
 have H : (if a1 < 1 then (quittanceref04_Dates.j0 k a0 a1 a2 true) else (if a1 > 12 then (quittanceref04_Dates.j0 k a0 a1 a2 true) else (if a2 < 1 then (quittanceref04_Dates.j0 k a0 a1 a2 true) else (quittanceref04_Dates.j0 k a0 a1 a2 (decide (a2 > 600)))))) = some (r1, r2) := h
 clear h
 have HC4 := Aside0.mk H
 clear H
 go_enter Try.func42, Try.ntmps42
 go_upto_region 1 with (fail)
 go_cut [25] (fun v25 wc => ∃ (kq : Nat) (x25_3 : Bool), v25 = .bool x25_3 ∧ Aside0 (quittanceref04_Dates.j0 kq a0 a1 a2 x25_3 = some (r1, r2)) ∧ Aside0 (kq ≤ k) ∧ Aside0 (Below w.heap.size w wc))
 case first =>
  have H := HC4.out
  clear HC4
  by_cases c5 : a1 < 1
  ·rw [if_pos c5] at H
   have c5b0 : decide (a1 < 1) = true := decide_eq_true c5
   clear c5
   (first | rw [c5b0] | (simp only [i64_w, i32_w]; rw [c5b0]) | skip)
   have H' := Aside0.mk H
   clear H
   go_wp2
   go_meet
   case rel => exact ⟨_, (true), (by first | rfl | (simp; done) | (simp [*]; done)), H', ⟨by first | omega | exact Nat.le_refl _⟩, ⟨by repeat (first | (with_reducible first | exact HB.out | apply below_alloc | apply pw_below_drewN | apply below_drew1) | exact HB.out)⟩⟩
  ·rw [if_neg c5] at H
   have c5b0 : decide (a1 < 1) = false := decide_eq_false c5
   clear c5
   (first | rw [c5b0] | (simp only [i64_w, i32_w]; rw [c5b0]) | skip)
   by_cases c6 : a1 > 12
   ·rw [if_pos c6] at H
    have c6b0 : decide (12 < a1) = true := decide_eq_true c6
    clear c6
    have H' := Aside0.mk H
    clear H
    go_wp2
    go_meet
    case rel => exact ⟨_, (true), (by first | rfl | (simp; done) | (simp [*]; done)), H', ⟨by first | omega | exact Nat.le_refl _⟩, ⟨by repeat (first | (with_reducible first | exact HB.out | apply below_alloc | apply pw_below_drewN | apply below_drew1) | exact HB.out)⟩⟩
   ·rw [if_neg c6] at H
    have c6b0 : decide (12 < a1) = false := decide_eq_false c6
    clear c6
    by_cases c7 : a2 < 1
    ·rw [if_pos c7] at H
     have c7b0 : decide (a2 < 1) = true := decide_eq_true c7
     clear c7
     have H' := Aside0.mk H
     clear H
     go_wp2
     go_meet
     case rel => exact ⟨_, (true), (by first | rfl | (simp; done) | (simp [*]; done)), H', ⟨by first | omega | exact Nat.le_refl _⟩, ⟨by repeat (first | (with_reducible first | exact HB.out | apply below_alloc | apply pw_below_drewN | apply below_drew1) | exact HB.out)⟩⟩
    ·rw [if_neg c7] at H
     have c7b0 : decide (a2 < 1) = false := decide_eq_false c7
     clear c7
     have H' := Aside0.mk H
     clear H
     go_wp2
     go_meet
     case rel => exact ⟨_, (decide (a2 > 600)), (by first | rfl | (simp; done) | (simp [*]; done)), H', ⟨by first | omega | exact Nat.le_refl _⟩, ⟨by repeat (first | (with_reducible first | exact HB.out | apply below_alloc | apply pw_below_drewN | apply below_drew1) | exact HB.out)⟩⟩
 case rest =>
  clear HC4
  try clear p2
  try clear c4
  try clear c5
  try clear c5b0
  try clear c6
  try clear c6b0
  try clear c7
  try clear c7b0
  obtain ⟨kq, x25_3, rfl, HA, HJ3, HB⟩ := hcut
  cases kq with
  | zero => exact absurd HA.out (by simp [quittanceref04_Dates.j0])
  | succ kj3 =>
   have H := HA.out
   clear HA
   simp only [quittanceref04_Dates.j0] at H
   by_cases c8 : x25_3 = true
   ·subst c8
    have H1 : (some (([] : List Int), 1)) = some (r1, r2) := by rw [if_pos rfl] at H; exact H
    clear H
    have H := H1
    clear H1
    simp only [Option.some.injEq, Prod.mk.injEq] at H
    obtain ⟨rfl, rfl⟩ := H
    go_wp2
    go_ret2
    exact ⟨_, by first | rfl | (simp [errW_none, errW_some] <;> rfl) | (simp [*, errW_none, errW_some] <;> rfl), by first | exact Kd.R_nil _ _ _ _ _ | exact Kd.N_nil _ _ _ _ _ | exact Kd.V_nil _ _ _ _ _ | exact Kd.Q_nil _ _ _ _ _ | exact Kd.S_nil _ _ _ _ _, by repeat (first | (with_reducible first | exact HB.out | apply below_alloc | apply pw_below_drewN | apply below_drew1) | exact HB.out)⟩
   ·replace c8 := Bool.eq_false_iff.mpr c8
    subst c8
    have H1 : (quittanceref04_Dates.l0 kj3 a0 a1 a2 ([] : List Int) 1) = some (r1, r2) := by rw [if_neg (show ¬ (false = true) by decide)] at H; exact H
    clear H
    have H := H1
    clear H1
    have H' := Aside0.mk H
    clear H
    go_wp2
    go_loopg [8, 9] kj3 (fun kq v8 v9 w' => ∃ (x8_2 : List Int) (x9_2 : Int), v9 = .int .i64 x9_2 ∧ Aside0 (quittanceref04_Dates.l0 kq a0 a1 a2 x8_2 x9_2 = some (r1, r2)) ∧ Aside0 (kq ≤ kj3) ∧ Aside0 (Kd.R (Kd.int .i64) 3 w' w.heap.size (fun _ => True) v8 x8_2) ∧ Aside0 (Below w.heap.size w w'))
    case atStart => exact ⟨(([] : List Int)), (1), (by first | rfl | (simp; done) | (simp [*]; done)), H', ⟨Nat.le_refl _⟩, ⟨by first | exact Kd.R_nil _ _ _ _ _ | exact Kd.N_nil _ _ _ _ _ | exact Kd.V_nil _ _ _ _ _ | exact Kd.Q_nil _ _ _ _ _ | exact Kd.S_nil _ _ _ _ _⟩, ⟨by repeat (first | (with_reducible first | exact HB.out | apply below_alloc | apply pw_below_drewN | apply below_drew1) | exact HB.out)⟩⟩
    case round =>
     clear H'
     try clear p2
     try clear c4
     try clear c5
     try clear c5b0
     try clear c6
     try clear c6b0
     try clear c7
     try clear c7b0
     try clear c8
     try clear p2
     obtain ⟨x8_2, x9_2, rfl, HA, HK2, HO_8, HB⟩ := hrel
     cases gk with
     | zero => exact absurd HA.out (by simp [quittanceref04_Dates.l0])
     | succ k2 =>
      have H := HA.out
      clear HA
      simp only [quittanceref04_Dates.l0] at H
      by_cases c9 : x9_2 ≤ a2
      ·rw [if_pos c9] at H
       have c9b0 : decide (x9_2 ≤ a2) = true := decide_eq_true c9
       clear c9
       replace H := Option.bind_eq_some_iff.mp H
       obtain ⟨⟨t109, t110⟩, A100, H⟩ := H
       replace H : (if t110 = 0 then (if x8_2.length < 17592186044416 then (quittanceref04_Dates.l0 k2 a0 a1 a2 (x8_2 ++ [t109]) (wrap64 (x9_2 + 1))) else (none)) else (some (([] : List Int), t110))) = some (r1, r2) := H
       have A10 := Aside0.mk A100
       clear A100
       by_cases c11 : t110 = 0
       ·rw [if_pos c11] at H
        have c11b0 : (t110 == 0) = true := beq_iff_eq.mpr c11
        have c11b1 : (t110 != 0) = false := bne_eq_false_iff_eq.mpr c11
        clear c11
        by_cases c12 : x8_2.length < 17592186044416
        ·rw [if_pos c12] at H
         have LMc12 := Aside0.mk c12
         clear c12
         obtain ⟨y111, hy111⟩ : ∃ y_ : List Int, y_ = (x8_2 ++ [t109]) := ⟨_, rfl⟩
         replace H : (quittanceref04_Dates.l0 k2 a0 a1 a2 y111 (wrap64 (x9_2 + 1))) = some (r1, r2) := by first | (rw [hy111]; with_reducible exact H) | (have H2_ := (Option.bind_some _ _).symm.trans H; rw [hy111]; with_reducible exact H2_) | (have H2_ := (Option.bind_some _ _).symm.trans H; with_reducible exact H2_) | with_reducible exact H | (rw [hy111]; exact H) | exact H
         have Ny111 := Aside0.mk hy111
         clear hy111
         have H' := Aside0.mk H
         clear H
         go_wp2_with (first | ((with_reducible refine gate_callee (f := 68) rfl ?_); refine goesL_ (some 36) rfl rfl Try.func68 (by kernel_rfl) rfl #[.int .i64 a0, .int .i64 (wrap64 (x9_2 * a1))] rfl (by (try simp only [List.map_toArray, List.map_cons, List.map_nil]); first | done | rfl | (simp only [List.length_drop, List.length_take]; rfl)) ?_; (with_reducible refine (Go.Proofs.Ytbbbjjfecblhpaa.H.quittanceref04_Add.calls a0 (wrap64 (x9_2 * a1)) t109 t110 _ A10.out).mono ?_); rintro e w13 ⟨rfl, hb⟩; refine ⟨_, rfl, ?_⟩; have n0_ := Aside0.mk (Kd.R_below (by (with_reducible repeat (first | apply Kd.R_alloc | apply Kd.R_drewN | apply Kd.R_drew)); exact HO_8.out) hb); have n1_ := Aside0.mk (below_step (by repeat (first | (with_reducible first | exact HB.out | apply below_alloc | apply pw_below_drewN | apply below_drew1) | exact HB.out)) hb); clear HO_8; clear HB; have HO_8 := n0_; have HB := n1_; clear n0_ n1_; (try clear hb); (try clear hb2); (try clear hk); (try clear hi)) | ((with_reducible refine gate_builtin (b := .append) (xs := #[.tmp 42, .tmp 44]) rfl ?_); at_builtin; refine Kd.R_append (Kd.int .i64) (w0 := w) w.heap.size rfl (.tmp 42) (.tmp 44) 25 3 (.int .i64 0) 8 rfl Try.underlying25 info3 rfl (by decide) (by omega) u8 x8_2 t109 [.int .i64 t109] (fun _ => True) (fun _ => False) rfl rfl ?aP (fun _ hk => hk.elim) ?aF ?aO ?aB ?aS ?aL ?_; (case aP => exact rfl); (case aB => exact (by repeat (first | (with_reducible first | exact HB.out | apply below_alloc | apply pw_below_drewN | apply below_drew1) | exact HB.out))); (case aF => exact (fun _ _ => trivial)); (case aO => exact (by (with_reducible repeat (first | apply Kd.R_alloc | apply Kd.R_drewN | apply Kd.R_drew)); exact HO_8.out)); (case aS => exact (below_size (by repeat (first | (with_reducible first | exact HB.out | apply below_alloc | apply pw_below_drewN | apply below_drew1) | exact HB.out)))); (case aL => have := LMc12.out; omega); intro v112 w14 ho hb hg hat; rw [← Ny111.out] at ho; have n0_ := Aside0.mk (hb); have n1_ := Aside0.mk (ho); clear HB; clear HO_8; have HB := n0_; have HO113 := n1_; clear n0_ n1_; clear ho hb hg hat))
         go_roundg k2
         case measure => have := HJ3.out; have := HK2.out; omega
         case rel => exact ⟨(y111), (wrap64 (x9_2 + 1)), (by first | rfl | (simp; done) | (simp [*]; done)), H', ⟨by have := HJ3.out; have := HK2.out; omega⟩, ⟨by (with_reducible repeat (first | apply Kd.R_alloc | apply Kd.R_drewN | apply Kd.R_drew)); exact HO113.out⟩, ⟨by repeat (first | (with_reducible first | exact HB.out | apply below_alloc | apply pw_below_drewN | apply below_drew1) | exact HB.out)⟩⟩
        ·rw [if_neg c12] at H
         exact absurd H (by simp)
       ·rw [if_neg c11] at H
        have c11b0 : (t110 == 0) = false := beq_eq_false_iff_ne.mpr c11
        have c11b1 : (t110 != 0) = true := bne_iff_ne.mpr c11
        simp only [Option.some.injEq, Prod.mk.injEq] at H
        obtain ⟨rfl, rfl⟩ := H
        go_wp2_with (first | ((with_reducible refine gate_callee (f := 68) rfl ?_); refine goesL_ (some 36) rfl rfl Try.func68 (by kernel_rfl) rfl #[.int .i64 a0, .int .i64 (wrap64 (x9_2 * a1))] rfl (by (try simp only [List.map_toArray, List.map_cons, List.map_nil]); first | done | rfl | (simp only [List.length_drop, List.length_take]; rfl)) ?_; (with_reducible refine (Go.Proofs.Ytbbbjjfecblhpaa.H.quittanceref04_Add.calls a0 (wrap64 (x9_2 * a1)) t109 t110 _ A10.out).mono ?_); rintro e w15 ⟨rfl, hb⟩; refine ⟨_, rfl, ?_⟩; have n0_ := Aside0.mk (Kd.R_below (by (with_reducible repeat (first | apply Kd.R_alloc | apply Kd.R_drewN | apply Kd.R_drew)); exact HO_8.out) hb); have n1_ := Aside0.mk (below_step (by repeat (first | (with_reducible first | exact HB.out | apply below_alloc | apply pw_below_drewN | apply below_drew1) | exact HB.out)) hb); clear HO_8; clear HB; have HO_8 := n0_; have HB := n1_; clear n0_ n1_; (try clear hb); (try clear hb2); (try clear hk); (try clear hi)))
        go_ret2
        exact ⟨_, by first | rfl | (simp [errW_none, errW_some] <;> rfl) | (simp [*, errW_none, errW_some] <;> rfl), by first | exact Kd.R_nil _ _ _ _ _ | exact Kd.N_nil _ _ _ _ _ | exact Kd.V_nil _ _ _ _ _ | exact Kd.Q_nil _ _ _ _ _ | exact Kd.S_nil _ _ _ _ _, by repeat (first | (with_reducible first | exact HB.out | apply below_alloc | apply pw_below_drewN | apply below_drew1) | exact HB.out)⟩
      ·rw [if_neg c9] at H
       have c9b0 : decide (x9_2 ≤ a2) = false := decide_eq_false c9
       clear c9
       simp only [Option.some.injEq, Prod.mk.injEq] at H
       obtain ⟨rfl, rfl⟩ := H
       go_wp2
       go_ret2
       exact ⟨_, by first | rfl | (simp [errW_none, errW_some] <;> rfl) | (simp [*, errW_none, errW_some] <;> rfl), by (with_reducible repeat (first | apply Kd.R_alloc | apply Kd.R_drewN | apply Kd.R_drew)); exact HO_8.out, by repeat (first | (with_reducible first | exact HB.out | apply below_alloc | apply pw_below_drewN | apply below_drew1) | exact HB.out)⟩
end Go.Proofs.Ytbbbjjfecblhpaa.PDA
/- Plain: the days so many months apart; both printed walks give them. -/
namespace Go.Proofs.Ytbbbjjfecblhpaa.Du
open Go.RowKit Go.Proofs.Ytbbbjjfecblhpaa.PDA Go.Proofs.YtbbbjjfecblhpaaW.PrintWords Go.Proofs.YtbbbjjfecblhpaaW.PrintLast Go.Proofs.YtbbbjjfecblhpaaW.PrintMore
open Go.Proofs.Ytbbbjjfecblhpaa.Math Go.Proofs.Ytbbbjjfecblhpaa.H
set_option linter.unusedVariables false
set_option linter.unusedSimpArgs false
def dates : Nat → Int → Int → Int → List Int → List Int × Int
 | 0, _, _, _, l => (l, 0)
 | m + 1, n, e, i, l => if (add n ((i + 1) * e)).2 = 0 then dates m n e (i + 1) (l ++ [(add n ((i + 1) * e)).1]) else ([], (add n ((i + 1) * e)).2)
theorem dates_len : ∀ (m : Nat) (n e i : Int) (l : List Int), (dates m n e i l).1.length ≤ l.length + m
 | 0, n, e, i, l => by simp [dates]
 | m + 1, n, e, i, l => by
  unfold dates
  split
  ·have := dates_len m n e (i + 1) (l ++ [(add n ((i + 1) * e)).1])
   simp at this ⊢
   omega
  ·simp
theorem mul_small {i e : Int} (h1 : 0 ≤ i) (h2 : i ≤ 700) (e1 : 1 ≤ e) (e2 : e ≤ 12) : 0 ≤ i * e ∧ i * e ≤ 8400 := by
 have a := Int.mul_le_mul_of_nonneg_right h2 (show 0 ≤ e by omega)
 have b := Int.mul_nonneg h1 (show 0 ≤ e by omega)
 omega
theorem civ_loop : ∀ (m : Nat) {n e t i : Int} (l : List Int), 1 ≤ e → e ≤ 12 → 0 ≤ i → t ≤ 600 → i + m = t → l.length ≤ 100000 - m → m ≤ 600 →
  monthly_Dates.l0 (m + 1) n e l t i = some (dates m n e i l)
 | 0, n, e, t, i, l, e1, e2, i0, t0, h, hl, hm => by
  simp only [monthly_Dates.l0]
  rw [if_neg (by omega)]
  rfl
 | m + 1, n, e, t, i, l, e1, e2, i0, t0, h, hl, hm => by
  rw [monthly_Dates.l0]
  obtain ⟨p1, p2⟩ := mul_small (i := i + 1) (by omega) (by omega) e1 e2
  rw [if_pos (by omega), w64 (x := i + 1) (by omega) (by omega), w64 (x := (i + 1) * e) (by omega) (by omega)]
  simp only [monthly_from_add.f, monthly_Add.f, Option.bind_some]
  rw [dates]
  by_cases hz : (add n ((i + 1) * e)).2 = 0
  ·rw [if_pos hz, if_pos hz, if_pos (by omega)]
   exact civ_loop m _ e1 e2 (by omega) t0 (by omega) (by simp; omega) (by omega)
  ·rw [if_neg hz, if_neg hz]
theorem ref_loop : ∀ (m : Nat) {n e t i : Int} (l : List Int), 1 ≤ e → e ≤ 12 → 0 ≤ i → t ≤ 600 → i + m = t → l.length ≤ 100000 - m → m ≤ 600 →
  quittanceref04_Dates.l0 (m + 1) n e t l (i + 1) = some (dates m n e i l)
 | 0, n, e, t, i, l, e1, e2, i0, t0, h, hl, hm => by
  simp only [quittanceref04_Dates.l0]
  rw [if_neg (by omega)]
  rfl
 | m + 1, n, e, t, i, l, e1, e2, i0, t0, h, hl, hm => by
  rw [quittanceref04_Dates.l0]
  obtain ⟨p1, p2⟩ := mul_small (i := i + 1) (by omega) (by omega) e1 e2
  rw [if_pos (by omega), w64 (x := (i + 1) * e) (by omega) (by omega), w64 (x := i + 1 + 1) (by omega) (by omega)]
  simp only [quittanceref04_Add.f, Option.bind_some]
  rw [dates]
  by_cases hz : (add n ((i + 1) * e)).2 = 0
  ·rw [if_pos hz, if_pos hz, if_pos (by omega)]
   exact ref_loop m _ e1 e2 (by omega) t0 (by omega) (by simp; omega) (by omega)
  ·rw [if_neg hz, if_neg hz]
def datesP (n e t : Int) : List Int × Int := if 1 ≤ e ∧ e ≤ 12 ∧ 1 ≤ t ∧ t ≤ 600 then dates t.toNat n e 0 [] else ([], 1)
theorem civ_dates {n e t : Int} : (datesP n e t).1.length ≤ 600 ∧ monthly_Dates.f (t.toNat + 2) n e t = some (datesP n e t) ∧ quittanceref04_Dates.f (t.toNat + 2) n e t = some (datesP n e t) := by
 unfold datesP
 by_cases h : 1 ≤ e ∧ e ≤ 12 ∧ 1 ≤ t ∧ t ≤ 600
 ·rw [if_pos h]
  obtain ⟨e1, e2, t1, t2⟩ := h
  refine ⟨?_, ?_, ?_⟩
  ·have := dates_len t.toNat n e 0 []
   simp at this
   omega
  ·unfold monthly_Dates.f
   rw [if_neg (by omega), if_neg (by omega), if_neg (by omega), decide_eq_false (by omega)]
   simp only [monthly_Dates.j0, Bool.false_eq_true, if_false]
   exact civ_loop t.toNat [] e1 e2 (by omega) t2 (by omega) (by first | (simp; done) | (simp; omega)) (by omega)
  ·unfold quittanceref04_Dates.f
   rw [if_neg (by omega), if_neg (by omega), if_neg (by omega), decide_eq_false (by omega)]
   simp only [quittanceref04_Dates.j0, Bool.false_eq_true, if_false]
   exact ref_loop t.toNat (i := 0) [] e1 e2 (by omega) t2 (by omega) (by first | (simp; done) | (simp; omega)) (by omega)
 ·rw [if_neg h]
  refine ⟨by simp, ?_, ?_⟩
  ·unfold monthly_Dates.f
   repeat' split
   all_goals first | rfl | (rw [decide_eq_true (by omega)]; done) | (rw [decide_eq_true (by omega)]; rfl)
  ·unfold quittanceref04_Dates.f
   repeat' split
   all_goals first | rfl | (rw [decide_eq_true (by omega)]; done) | (rw [decide_eq_true (by omega)]; rfl)
end Go.Proofs.Ytbbbjjfecblhpaa.Du
/- Lists of days: which may be holidays, and whether a day is among them. -/
namespace Go.Proofs.Ytbbbjjfecblhpaa.H
open Go.RowKit Go.Proofs.YtbbbjjfecblhpaaW.PrintWords Go.Proofs.YtbbbjjfecblhpaaW.PrintLast Go.Proofs.YtbbbjjfecblhpaaW.PrintMore
open Go.Proofs.Ytbbbjjfecblhpaa.Math
set_option linter.unusedVariables false
set_option linter.unusedSimpArgs false
theorem rd_nat (l : List Int) (k : Nat) (h : k < l.length) : rd l (k : Int) = l[k] := by
 simp [rd, h]
theorem rd_cons (l : List Int) (k : Nat) (h : k < l.length) : l.drop k = rd l (k : Int) :: l.drop (k + 1) := by
 rw [List.drop_eq_getElem_cons h, rd_nat l k h]
def rises : Int → List Int → Bool
 | _, [] => true
 | p, x :: xs => decide (isDay x) && (decide (p < x) && rises x xs)
def rightB (l : List Int) : Bool := rises (-25568) l && decide (l.length ≤ 200)
theorem rises_all (l : List Int) : ∀ p, rises p l = true → ∀ x ∈ l, isDay x ∧ p < x := by
 induction l with
 | nil => intro p _ x hx; simp at hx
 | cons y ys ih =>
  intro p h x hx
  simp only [rises, Bool.and_eq_true, decide_eq_true_eq] at h
  obtain ⟨h1, h2, h3⟩ := h
  rcases List.mem_cons.1 hx with rfl | hx
  ·exact ⟨h1, h2⟩
  ·obtain ⟨h4, h5⟩ := ih y h3 x hx
   exact ⟨h4, by omega⟩
theorem rises_pair (l : List Int) : ∀ p, rises p l = true → l.Pairwise (· < ·) := by
 induction l with
 | nil => intro p _; exact List.Pairwise.nil
 | cons y ys ih =>
  intro p h
  simp only [rises, Bool.and_eq_true, decide_eq_true_eq] at h
  exact List.Pairwise.cons (fun x hx => (rises_all ys y h.2.2 x hx).2) (ih y h.2.2)
theorem rises_lt {l : List Int} (h : l.Pairwise (· < ·)) {i j : Nat} (hij : i < j) (hj : j < l.length) : rd l (i : Int) < rd l (j : Int) := by
 rw [rd_nat l i (by omega), rd_nat l j hj]
 exact List.pairwise_iff_getElem.1 h i j (by omega) hj hij
theorem rises_of {l : List Int} : ∀ (p : Int), (∀ x ∈ l, isDay x ∧ p < x) → l.Pairwise (· < ·) → rises p l = true := by
 induction l with
 | nil => intro p _ _; rfl
 | cons y ys ih =>
  intro p h hp
  obtain ⟨h1, h2⟩ := h y (List.mem_cons_self)
  cases hp with
  | cons h3 h4 =>
   simp only [rises, Bool.and_eq_true, decide_eq_true_eq]
   exact ⟨h1, h2, ih y (fun x hx => ⟨(h x (List.mem_cons_of_mem _ hx)).1, h3 x hx⟩) h4⟩
theorem in_loop (l : List Int) (x : Int) (hm : l.length ≤ 1000000000) (d : Nat) : ∀ (k i : Nat), i ≤ l.length → l.length - i = d → d < k → PA.quittancehelp_In_int.l0 k l x (i : Int) = some ((l.drop i).contains x) := by
 induction d with
 | zero =>
  intro k i h1 h2 h3
  obtain ⟨k, rfl⟩ : ∃ m, k = m + 1 := ⟨k - 1, by omega⟩
  simp only [PA.quittancehelp_In_int.l0]
  rw [if_neg (by omega), List.drop_eq_nil_of_le (by omega)]; rfl
 | succ d ih =>
  intro k i h1 h2 h3
  obtain ⟨k, rfl⟩ : ∃ m, k = m + 1 := ⟨k - 1, by omega⟩
  simp only [PA.quittancehelp_In_int.l0]
  rw [if_pos (by omega), if_pos (by omega), rd_cons l i (by omega), List.contains_cons]
  by_cases e : rd l (i : Int) = x
  ·rw [if_pos e]; simp [e]
  ·have e' : (x == rd l (i : Int)) = false := by simpa using fun h => e h.symm
   rw [if_neg e, w64 (by omega) (by omega), show (i : Int) + 1 = ((i + 1 : Nat) : Int) by omega, ih k (i + 1) (by omega) (by omega) (by omega), e', Bool.false_or]
theorem in_is (l : List Int) (x : Int) (hm : l.length ≤ 1000000000) : PA.quittancehelp_In_int.f 1000000001 l x = some (l.contains x) := in_loop l x hm l.length 1000000001 0 (by omega) (by omega) (by omega)
theorem right_loop (l : List Int) (hm : l.length ≤ 1000000000) (d : Nat) : ∀ (k i : Nat) (p : Int), i ≤ l.length → l.length - i = d → d < k → (i = 0 ∧ p = -25568 ∨ 0 < i ∧ p = rd l ((i : Int) - 1)) →
  PA.quittanceref05_Right.l0 k l (i : Int) = some (rises p (l.drop i) && decide (l.length ≤ 200)) := by
 induction d with
 | zero =>
  intro k i p h1 h2 h3 hp
  obtain ⟨k, rfl⟩ : ∃ m, k = m + 1 := ⟨k - 1, by omega⟩
  simp only [PA.quittanceref05_Right.l0]
  rw [if_neg (by omega), List.drop_eq_nil_of_le (by omega)]
  simp only [rises, Bool.true_and]
  congr 1
  rw [decide_eq_decide]; omega
 | succ d ih =>
  intro k i p h1 h2 h3 hp
  obtain ⟨k, rfl⟩ : ∃ m, k = m + 1 := ⟨k - 1, by omega⟩
  simp only [PA.quittanceref05_Right.l0]
  rw [if_pos (by omega), if_pos (by omega), refIs, rd_cons l i (by omega)]
  simp only [Option.bind_some, rises]
  have hstep := ih k (i + 1) (rd l (i : Int)) (by omega) (by omega) (by omega) (Or.inr ⟨by omega, by rw [show (((i + 1 : Nat) : Int) - 1) = (i : Int) by omega]⟩)
  by_cases hd : isDay (rd l (i : Int))
  ·rw [decide_eq_true hd, if_pos rfl, Bool.true_and]
   rcases hp with ⟨rfl, rfl⟩ | ⟨h0, rfl⟩
   ·rw [if_neg (by omega), w64 (by omega) (by omega), show ((0 : Nat) : Int) + 1 = ((0 + 1 : Nat) : Int) by omega, hstep]
    have : decide (-25568 < rd l ((0 : Nat) : Int)) = true := decide_eq_true (by have := hd.1; omega)
    rw [this, Bool.true_and]
   ·rw [if_pos (by omega), w64 (x := (i : Int) - 1) (by omega) (by omega), if_pos (by omega), if_pos (by omega)]
    by_cases hle : rd l (i : Int) ≤ rd l ((i : Int) - 1)
    ·rw [if_pos hle, decide_eq_false (show ¬ rd l ((i : Int) - 1) < rd l (i : Int) by omega)]; rfl
    ·rw [if_neg hle, w64 (by omega) (by omega), show (i : Int) + 1 = ((i + 1 : Nat) : Int) by omega, hstep, decide_eq_true (show rd l ((i : Int) - 1) < rd l (i : Int) by omega), Bool.true_and]
  ·rw [decide_eq_false hd, if_neg (by decide)]; rfl
theorem right_is (l : List Int) (hm : l.length ≤ 1000000000) : PA.quittanceref05_Right.f 1000000001 l = some (rightB l) := right_loop l hm l.length 1000000001 0 (-25568) (by omega) (by omega) (by omega) (Or.inl ⟨rfl, rfl⟩)
theorem less_is (a b : Int) : PA.cmp_Less_int.f a b = some (decide (a < b)) := by simp [PA.cmp_Less_int.f, PA.cmp_isNaN_int.f]
theorem mid_is {x y : Int} (h0 : 0 ≤ x) (h1 : x < y) (h2 : y ≤ 1000000000) : wrap64 (IntKind.u64.wrap (wrap64 (x + y)) / 2) = (x + y) / 2 := by
 rw [w64 (x := x + y) (by omega) (by omega), show IntKind.u64.wrap (x + y) = x + y from IntWalk.u64_in _ (by omega), w64 (by omega) (by omega)]
theorem bs_loop (l : List Int) (x : Int) (hm : l.length ≤ 1000000000) (hs : l.Pairwise (· < ·)) (d : Nat) : ∀ (k lo hi : Nat), lo ≤ hi → hi ≤ l.length → hi - lo ≤ d → d < k →
  (∀ j : Nat, j < lo → rd l (j : Int) < x) → (∀ j : Nat, hi ≤ j → j < l.length → x ≤ rd l (j : Int)) → ∃ i, PA.slices_BinarySearch_int_int.l0 k l x (l.length : Int) (lo : Int) (hi : Int) = some (i, l.contains x) := by
 induction d with
 | zero =>
  intro k lo hi h1 h2 h3 h4 hL hH
  obtain ⟨k, rfl⟩ : ∃ m, k = m + 1 := ⟨k - 1, by omega⟩
  obtain rfl : hi = lo := by omega
  refine ⟨(hi : Int), ?_⟩
  have hc : l.contains x = true ↔ hi < l.length ∧ rd l (hi : Int) = x := by
   constructor
   ·intro h
    obtain ⟨j, hj, e⟩ := List.getElem_of_mem (List.contains_iff_mem.1 h)
    rw [← rd_nat l j hj] at e
    have a : ¬ j < hi := fun h => by have := hL j h; omega
    have b : hi < l.length := by omega
    refine ⟨b, ?_⟩
    by_cases c : j = hi
    ·rw [← c]; exact e
    ·have := rises_lt hs (show hi < j by omega) hj
     have := hH hi (Nat.le_refl _) b
     omega
   ·rintro ⟨h, e⟩
    rw [List.contains_iff_mem, ← e, rd_nat l hi h]
    exact List.getElem_mem _
  simp only [PA.slices_BinarySearch_int_int.l0]
  rw [if_neg (by omega)]
  by_cases hl : hi < l.length
  ·rw [if_pos (by omega), if_pos (by omega), if_pos (by omega)]
   by_cases e : rd l (hi : Int) = x
   ·rw [if_pos e, hc.2 ⟨hl, e⟩]
   ·rw [if_neg e]
    have : l.contains x = false := by rw [Bool.eq_false_iff]; exact fun h => e (hc.1 h).2
    rw [this]
    simp [PA.slices_isNaN_int.f]
  ·rw [if_neg (by omega)]
   have : l.contains x = false := by rw [Bool.eq_false_iff]; exact fun h => hl (hc.1 h).1
   rw [this]
 | succ d ih =>
  intro k lo hi h1 h2 h3 h4 hL hH
  by_cases hlt : lo < hi
  ·obtain ⟨k, rfl⟩ : ∃ m, k = m + 1 := ⟨k - 1, by omega⟩
   simp only [PA.slices_BinarySearch_int_int.l0]
   rw [if_pos (by omega), mid_is (by omega) (by omega) (by omega), if_pos (by omega), if_pos (by omega), less_is]
   simp only [Option.bind_some, decide_eq_true_eq]
   have em : ((lo : Int) + (hi : Int)) / 2 = (((lo + hi) / 2 : Nat) : Int) := by omega
   rw [em]
   by_cases hlx : rd l (((lo + hi) / 2 : Nat) : Int) < x
   ·rw [if_pos hlx, w64 (by omega) (by omega), show ((((lo + hi) / 2 : Nat) : Int) + 1) = (((lo + hi) / 2 + 1 : Nat) : Int) by omega]
    refine ih k _ hi (by omega) h2 (by omega) (by omega) (fun j hj => ?_) hH
    rcases (by omega : j < (lo + hi) / 2 ∨ j = (lo + hi) / 2) with h | rfl
    ·have := rises_lt hs h (by omega)
     omega
    ·exact hlx
   ·rw [if_neg hlx]
    refine ih k lo _ (by omega) (by omega) (by omega) (by omega) hL (fun j hj hj2 => ?_)
    rcases (by omega : (lo + hi) / 2 < j ∨ j = (lo + hi) / 2) with h | rfl
    ·have := rises_lt hs h hj2
     omega
    ·omega
  ·exact Nat.lt_irrefl 0 |> fun _ => by
    obtain ⟨i, h⟩ := ih k lo hi h1 h2 (by omega) (by omega) hL hH
    exact ⟨i, h⟩
theorem bs_is (l : List Int) (x : Int) (hm : l.length ≤ 1000000000) (hs : l.Pairwise (· < ·)) : ∃ i, PA.slices_BinarySearch_int_int.f 1000000001 l x = some (i, l.contains x) :=
 bs_loop l x hm hs l.length 1000000001 0 l.length (by omega) (by omega) (by omega) (by omega) (fun j hj => by omega) (fun j h1 h2 => by omega)
/-! ### Contracts, restated -/
def help_In_int.f (l : List Int) (x : Int) : Option Bool := if l.length ≤ 1000000000 then some (l.contains x) else none
theorem help_In_int.calls (A0 : Option Addr) (c0 : Nat) (l0 : List Int) (a1 : Int) (r : Bool) (w : World) (hr0 : Kd.C (Kd.int .i64) w A0 l0.length l0) (hc0 : l0.length ≤ c0) (h : help_In_int.f l0 a1 = some r) :
  Calls Try.prog 50 #[.slice A0 l0.length c0, .int .i64 a1] w fun e w' => e = .returned (.bool r) ∧ Drawn0 w w' := by
 unfold help_In_int.f at h
 split at h
 ·rename_i hm
  exact PA.quittancehelp_In_int.calls 1000000001 A0 c0 l0 a1 r w hr0 hc0 ((in_is l0 a1 hm).trans h)
 ·cases h
def ref05_Right.f (l : List Int) : Option Bool := if l.length ≤ 1000000000 then some (rightB l) else none
theorem ref05_Right.calls (A0 : Option Addr) (c0 : Nat) (l0 : List Int) (r : Bool) (w : World) (hr0 : Kd.C (Kd.int .i64) w A0 l0.length l0) (hc0 : l0.length ≤ c0) (h : ref05_Right.f l0 = some r) :
  Calls Try.prog 17 #[.slice A0 l0.length c0] w fun e w' => e = .returned (.bool r) ∧ Drawn0 w w' := by
 unfold ref05_Right.f at h
 split at h
 ·rename_i hm
  exact PA.quittanceref05_Right.calls 1000000001 A0 c0 l0 r w hr0 hc0 ((right_is l0 hm).trans h)
 ·cases h
theorem search_any (A0 : Option Addr) (c0 : Nat) (l0 : List Int) (a1 : Int) (w : World) (hr0 : Kd.C (Kd.int .i64) w A0 l0.length l0) (hc0 : l0.length ≤ c0) (hm : l0.length ≤ 1000000000) (hs : l0.Pairwise (· < ·)) :
  Calls Try.prog 109 #[.slice A0 l0.length c0, .int .i64 a1] w fun e w' => (∃ i : Int, e = .returned (.tuple #[.int .i64 i, .bool (l0.contains a1)])) ∧ Drawn0 w w' := by
 obtain ⟨i, h⟩ := bs_is l0 a1 hm hs
 exact (PA.slices_BinarySearch_int_int.calls 1000000001 A0 c0 l0 a1 _ _ w hr0 hc0 h).mono fun e w' ⟨h1, h2⟩ => ⟨⟨i, h1⟩, h2⟩
end Go.Proofs.Ytbbbjjfecblhpaa.H
/- Contracts by hand: a calendar: which days are open. -/
namespace Go.Proofs.Ytbbbjjfecblhpaa.H
open Go.RowKit Go.Proofs.YtbbbjjfecblhpaaW.PrintWords Go.Proofs.YtbbbjjfecblhpaaW.PrintLast Go.Proofs.YtbbbjjfecblhpaaW.PrintMore Go.Proofs.Ytbbbjjfecblhpaa.HW
open Go.Proofs.Ytbbbjjfecblhpaa.Math
set_option linter.unusedVariables false
set_option linter.unusedSimpArgs false
def CalAt (w : World) (gb : Nat) (l : List Int) : Prop := ∃ A c, w.cell? ⟨gb, 0, none⟩ = some (.slice A l.length c) ∧ Kd.C (Kd.int .i64) w A l.length l ∧ l.length ≤ c ∧ l.length ≤ 200 ∧ l.Pairwise (· < ·) ∧ gb < w.heap.size
theorem CalAt.below {w w1 : World} {gb : Nat} {l : List Int} (h : CalAt w gb l) (hb : Below w.heap.size w w1) : CalAt w1 gb l := by
 obtain ⟨A, c, h1, h2, h3, h4, h5, h6⟩ := h
 exact ⟨A, c, by rw [hb.cell (by exact h6)]; exact h1, Kd.C_below h2 hb, h3, h4, h5, Nat.lt_of_lt_of_le h6 hb.size⟩
theorem CalAt.drawn {w w1 : World} {gb : Nat} {l : List Int} (h : CalAt w gb l) (hb : Drawn0 w w1) : CalAt w1 gb l := h.below hb.below
def openB (l : List Int) (day : Int) : Bool := decide (isDay day) && (decide (weekday day < 5) && !(l.contains day))
theorem there_any (n : Int) (w : World) : Calls Try.prog 65 #[.int .i64 n] w fun e w' => e = .returned (.bool (decide (isDay n))) ∧ Drawn0 w w' := business_there.calls n _ w rfl
theorem wk_any (n : Int) (w : World) : Calls Try.prog 108 #[.int .i64 n] w fun e w' => e = .returned (.int .i64 (weekday n)) ∧ Drawn0 w w' := civil_Weekday.calls n _ w rfl
theorem open_any {gb : Nat} {l : List Int} {day : Int} {r : Bool} {w : World} (h : CalAt w gb l) (hr : openB l day = r) : Calls Try.prog 90 #[.pointer (some ⟨gb, 0, none⟩), .int .i64 day] w fun e w' => e = .returned (.bool r) ∧ Drawn0 w w' := by
 have HA := Aside0.mk h
 have HR := Aside0.mk hr
 clear h hr
 by_cases hd : isDay day
 ·by_cases hw : weekday day < 5
  ·have hd1 := decide_eq_true hd
   have hw1 : decide (5 ≤ weekday day) = false := decide_eq_false (by omega)
   have HO := Aside0.mk (show (!(l.contains day)) = r by rw [← HR.out]; unfold openB; rw [hd1, decide_eq_true hw]; rfl)
   clear hd hw HR
   obtain ⟨A, c, c1, c2, c3, c4, c5, c6⟩ := HA.out
   have C2 := Aside0.mk c2
   have C5 := Aside0.mk c5
   have C3 := Aside0.mk c3
   clear c2 c5 c3
   go_enter Try.func90, Try.ntmps90
   go_wp2_with fail
   refine (there_any day _).mono ?_
   rintro e w1 ⟨rfl, ⟨m1, rfl⟩⟩
   go_wp2_with fail
   refine (wk_any day _).mono ?_
   rintro e w2 ⟨rfl, ⟨m2, rfl⟩⟩
   go_wp2_with fail
   refine (search_any A c l day _ (Kd.C_drewN C2.out _) C3.out (by omega) C5.out).mono ?_
   rintro e w3 ⟨⟨i, rfl⟩, ⟨m3, rfl⟩⟩
   go_wp2_with fail
   go_ret
   exact ⟨by rw [← HO.out]; simp, ⟨_, rfl⟩⟩
  ·have hd1 := decide_eq_true hd
   have hw1 : decide (5 ≤ weekday day) = true := decide_eq_true (by omega)
   obtain rfl : r = false := by rw [← HR.out]; unfold openB; rw [hd1, decide_eq_false hw]; rfl
   clear hd hw HR HA
   go_enter Try.func90, Try.ntmps90
   go_wp2_with fail
   refine (there_any day _).mono ?_
   rintro e w1 ⟨rfl, ⟨m1, rfl⟩⟩
   go_wp2_with fail
   refine (wk_any day _).mono ?_
   rintro e w2 ⟨rfl, ⟨m2, rfl⟩⟩
   go_wp2_with fail
   go_ret
   exact ⟨rfl, ⟨_, rfl⟩⟩
 ·have hd1 := decide_eq_false hd
  obtain rfl : r = false := by rw [← HR.out]; unfold openB; rw [hd1]; rfl
  clear hd HR HA
  go_enter Try.func90, Try.ntmps90
  go_wp2_with fail
  refine (there_any day _).mono ?_
  rintro e w1 ⟨rfl, ⟨m1, rfl⟩⟩
  go_wp2_with fail
  go_ret
  exact ⟨rfl, ⟨_, rfl⟩⟩
def seekS (l : List Int) (step : Int) : Nat → Int → Int × Int
 | 0, _ => (0, 5)
 | k + 1, day => if isDay day then (if openB l day = true then (day, 0) else seekS l step k (day + step)) else (0, 5)
set_option maxHeartbeats 1000000 in
theorem seek_any {gb : Nat} {l : List Int} {day step : Int} {r1 r2 : Int} {w : World} (h : CalAt w gb l) (hs : step = 1 ∨ step = -1) (k0 : Nat) (hk : (if step = 1 then 84371 - day else day + 25568) < (k0 : Int)) (b1 : -1000000 ≤ day) (b2 : day ≤ 1000000) (hr : seekS l step k0 day = (r1, r2)) :
  Calls Try.prog 89 #[.func (.func 90) #[.pointer (some ⟨gb, 0, none⟩)] #[], .int .i64 day, .int .i64 step] w fun e w' => e = .returned (.tuple #[.int .i64 r1, .int .i64 r2]) ∧ Drawn0 w w' := by
 have HA := Aside0.mk h
 have HR := Aside0.mk hr
 have HS := Aside0.mk hs
 have HK := Aside0.mk hk
 have hsb : -1 ≤ step ∧ step ≤ 1 := by omega
 clear h hr hs hk
 go_enter Try.func89, Try.ntmps89
 go_wp2
 go_loopg [1] k0 (fun gq i w' => ∃ (x : Int), -1000000 ≤ x ∧ x ≤ 1000000 ∧ i = .int .i64 x ∧ Aside0 (seekS l step gq x = (r1, r2)) ∧ Aside0 ((if step = 1 then 84371 - x else x + 25568) < (gq : Int)) ∧ Drawn0 w w')
 case atStart => exact ⟨day, b1, b2, rfl, HR, HK, Drawn0.refl _⟩
 case round =>
  obtain ⟨x, x1, x2, rfl, hq, hm, ⟨m1, rfl⟩⟩ := hrel
  by_cases hd : isDay x
  ·have hd1 := decide_eq_true hd
   have hp : 0 < gk := by have := hm.out; unfold isDay at hd; split at this <;> omega
   obtain ⟨k, rfl⟩ : ∃ m, gk = m + 1 := ⟨gk - 1, by omega⟩
   have hx1 : -25567 ≤ x := hd.1
   have hx2 : x ≤ 84370 := hd.2
   cases ho : openB l x with
   | true =>
    have HO := Aside0.mk ho
    clear ho
    have e := hq.out
    simp only [seekS] at e
    rw [if_pos hd, if_pos HO.out] at e
    obtain ⟨rfl, rfl⟩ := Prod.mk.inj e
    clear hq hd e
    go_wp2_with fail
    refine (there_any x _).mono ?_
    rintro e w1 ⟨rfl, ⟨m2, rfl⟩⟩
    go_wp2_with fail
    refine (open_any (HA.out.drawn ⟨_, rfl⟩) HO.out).mono ?_
    rintro e w2 ⟨rfl, ⟨m3, rfl⟩⟩
    go_wp2_with fail
    refine (there_any x _).mono ?_
    rintro e w1 ⟨rfl, ⟨m4, rfl⟩⟩
    go_wp2_with fail
    go_ret2
    exact ⟨rfl, ⟨_, rfl⟩⟩
   | false =>
    have HO := Aside0.mk ho
    clear ho
    have HQ := Aside0.mk (show seekS l step k (x + step) = (r1, r2) by have := hq.out; simp only [seekS] at this; rw [if_pos hd, if_neg (by rw [HO.out]; decide)] at this; exact this)
    clear hq hd
    go_wp2_with fail
    refine (there_any x _).mono ?_
    rintro e w1 ⟨rfl, ⟨m2, rfl⟩⟩
    go_wp2_with fail
    refine (open_any (HA.out.drawn ⟨_, rfl⟩) HO.out).mono ?_
    rintro e w2 ⟨rfl, ⟨m3, rfl⟩⟩
    go_wp2_with fail
    go_roundg k
    case measure => omega
    case rel => exact ⟨x + step, by omega, by omega, rfl, HQ, ⟨by have h1 := hm.out; have h2 := HS.out; split at h1 <;> rename_i h3 <;> (first | rw [if_pos h3] | rw [if_neg h3]) <;> omega⟩, ⟨_, rfl⟩⟩
  ·have hd1 := decide_eq_false hd
   have e : ((0 : Int), (5 : Int)) = (r1, r2) := by
    rw [← hq.out]
    cases gk with
    | zero => rfl
    | succ k => simp only [seekS]; rw [if_neg hd]
   obtain ⟨rfl, rfl⟩ := Prod.mk.inj e
   clear hq hd e
   go_wp2_with fail
   refine (there_any x _).mono ?_
   rintro e w1 ⟨rfl, ⟨m2, rfl⟩⟩
   go_wp2_with fail
   refine (there_any x _).mono ?_
   rintro e w1 ⟨rfl, ⟨m4, rfl⟩⟩
   go_wp2_with fail
   go_ret2
   exact ⟨rfl, ⟨_, rfl⟩⟩
end Go.Proofs.Ytbbbjjfecblhpaa.H
/- Contracts by hand: a day rolled. -/
namespace Go.Proofs.Ytbbbjjfecblhpaa.H
open Go.RowKit Go.Proofs.YtbbbjjfecblhpaaW.PrintWords Go.Proofs.YtbbbjjfecblhpaaW.PrintLast Go.Proofs.YtbbbjjfecblhpaaW.PrintMore Go.Proofs.Ytbbbjjfecblhpaa.HW
open Go.Proofs.Ytbbbjjfecblhpaa.Math
set_option linter.unusedVariables false
set_option linter.unusedSimpArgs false
def mon (n : Int) : Int := 12 * (date n).1 + (date n).2.1
theorem month_any (n : Int) (w : World) : Calls Try.prog 91 #[.int .i64 n] w fun e w' => e = .returned (.int .i64 (mon n)) ∧ Below w.heap.size w w' := business_month.calls n _ w rfl
def rollS (l : List Int) (day how : Int) : Int × Int :=
 if ¬ isDay day then (0, 5) else if how < 1 ∨ 4 < how then (0, 1) else if how = 1 then (day, 0) else if how = 4 then seekS l (-1) 200000 day else
  if how = 3 ∧ ((seekS l 1 200000 day).2 ≠ 0 ∨ mon (seekS l 1 200000 day).1 ≠ mon day) then seekS l (-1) 200000 day else seekS l 1 200000 day
theorem seek_up {gb : Nat} {l : List Int} {day : Int} {r1 r2 : Int} {w : World} (h : CalAt w gb l) (hd : isDay day) (hr : seekS l 1 200000 day = (r1, r2)) :
  Calls Try.prog 89 #[.func (.func 90) #[.pointer (some ⟨gb, 0, none⟩)] #[], .int .i64 day, .int .i64 1] w fun e w' => e = .returned (.tuple #[.int .i64 r1, .int .i64 r2]) ∧ Drawn0 w w' := by
 obtain ⟨h1, h2⟩ := hd
 exact seek_any h (Or.inl rfl) 200000 (by rw [if_pos rfl]; omega) (by omega) (by omega) hr
theorem seek_down {gb : Nat} {l : List Int} {day : Int} {r1 r2 : Int} {w : World} (h : CalAt w gb l) (hd : isDay day) (hr : seekS l (-1) 200000 day = (r1, r2)) :
  Calls Try.prog 89 #[.func (.func 90) #[.pointer (some ⟨gb, 0, none⟩)] #[], .int .i64 day, .int .i64 (-1)] w fun e w' => e = .returned (.tuple #[.int .i64 r1, .int .i64 r2]) ∧ Drawn0 w w' := by
 obtain ⟨h1, h2⟩ := hd
 exact seek_any h (Or.inr rfl) 200000 (by rw [if_neg (by decide)]; omega) (by omega) (by omega) hr
set_option maxHeartbeats 1000000 in
theorem roll_any {gb : Nat} {l : List Int} {day how r1 r2 : Int} {w : World} (h : CalAt w gb l) (hr : rollS l day how = (r1, r2)) :
  Calls Try.prog 67 #[.pointer (some ⟨gb, 0, none⟩), .int .i64 day, .int .i64 how] w fun e w' => e = .returned (.tuple #[.int .i64 r1, .int .i64 r2]) ∧ Below w.heap.size w w' := by
 have HA := Aside0.mk h
 have HR := Aside0.mk hr
 clear h hr
 by_cases hd : isDay day
 ·have d1 := decide_eq_true hd
  have HD := Aside0.mk hd
  have e1 := HR.out
  unfold rollS at e1
  rw [if_neg (fun h => h hd)] at e1
  clear hd HR
  by_cases h1 : how < 1 ∨ 4 < how
  ·rw [if_pos h1] at e1
   obtain ⟨rfl, rfl⟩ := Prod.mk.inj e1
   clear e1
   by_cases h2 : how < 1
   ·clear h1
    go_enter Try.func67, Try.ntmps67
    go_wp2_with fail
    refine (there_any day _).mono ?_
    rintro e w1 ⟨rfl, ⟨m2, rfl⟩⟩
    go_wp2_with fail
    go_ret2
    exact ⟨rfl, pw_below_drewN (Below.refl _ _) _⟩
   ·have h3 : 4 < how := by omega
    clear h1
    go_enter Try.func67, Try.ntmps67
    go_wp2_with fail
    refine (there_any day _).mono ?_
    rintro e w1 ⟨rfl, ⟨m2, rfl⟩⟩
    go_wp2_with fail
    go_ret2
    exact ⟨rfl, pw_below_drewN (Below.refl _ _) _⟩
  ·rw [if_neg h1] at e1
   have q1 : 1 ≤ how := by omega
   have q2 : how ≤ 4 := by omega
   clear h1
   by_cases h2 : how = 1
   ·subst h2
    rw [if_pos rfl] at e1
    obtain ⟨rfl, rfl⟩ := Prod.mk.inj e1
    clear e1
    go_enter Try.func67, Try.ntmps67
    go_wp2_with fail
    refine (there_any day _).mono ?_
    rintro e w1 ⟨rfl, ⟨m2, rfl⟩⟩
    go_wp2_with fail
    go_ret2
    exact ⟨rfl, pw_below_drewN (Below.refl _ _) _⟩
   ·rw [if_neg h2] at e1
    by_cases h3 : how = 4
    ·subst h3
     rw [if_pos rfl] at e1
     have E1 := Aside0.mk e1
     clear e1 h2
     go_enter Try.func67, Try.ntmps67
     go_wp2_with fail
     refine (there_any day _).mono ?_
     rintro e w1 ⟨rfl, ⟨m2, rfl⟩⟩
     go_wp2_with fail
     refine (seek_down (HA.out.drawn ⟨_, rfl⟩) HD.out E1.out).mono ?_
     rintro e w1 ⟨rfl, ⟨m3, rfl⟩⟩
     go_wp2_with fail
     go_ret2
     exact ⟨rfl, pw_below_drewN (Below.refl _ _) _⟩
    ·rw [if_neg h3] at e1
     obtain ⟨n1, n2, hn⟩ : ∃ n1 n2, seekS l 1 200000 day = (n1, n2) := ⟨_, _, rfl⟩
     rw [hn] at e1
     have HN := Aside0.mk hn
     clear hn
     by_cases h4 : how = 3
     ·subst h4
      by_cases h5 : n2 = 0
      ·subst h5
       obtain ⟨ma, hma⟩ : ∃ x, mon n1 = x := ⟨_, rfl⟩
       obtain ⟨mb, hmb⟩ : ∃ x, mon day = x := ⟨_, rfl⟩
       rw [hma, hmb] at e1
       have MA := Aside0.mk hma
       have MB := Aside0.mk hmb
       clear hma hmb h2 h3
       by_cases h6 : ma = mb
       ·rw [if_neg (by intro h; rcases h.2 with h | h; exact h rfl; exact h h6)] at e1
        obtain ⟨rfl, rfl⟩ := Prod.mk.inj e1
        subst h6
        clear e1
        go_enter Try.func67, Try.ntmps67
        go_wp2_with fail
        refine (there_any day _).mono ?_
        rintro e w1 ⟨rfl, ⟨m2, rfl⟩⟩
        go_wp2_with fail
        refine (seek_up (HA.out.drawn ⟨_, rfl⟩) HD.out HN.out).mono ?_
        rintro e w1 ⟨rfl, ⟨m3, rfl⟩⟩
        go_wp2_with fail
        refine (month_any n1 _).mono ?_
        rw [MA.out]
        rintro e w1 ⟨rfl, hb1⟩
        have B1 := Aside0.mk (below_step (pw_below_drewN (Below.refl w.heap.size w) _) hb1)
        clear hb1
        go_wp2_with fail
        refine (month_any day _).mono ?_
        rw [MB.out]
        rintro e w2 ⟨rfl, hb2⟩
        have B2 := Aside0.mk (below_step B1.out hb2)
        clear hb2
        go_wp2_with fail
        go_ret2
        exact ⟨rfl, B2.out⟩
       ·rw [if_pos ⟨rfl, Or.inr h6⟩] at e1
        have E1 := Aside0.mk e1
        clear e1
        go_enter Try.func67, Try.ntmps67
        go_wp2_with fail
        refine (there_any day _).mono ?_
        rintro e w1 ⟨rfl, ⟨m2, rfl⟩⟩
        go_wp2_with fail
        refine (seek_up (HA.out.drawn ⟨_, rfl⟩) HD.out HN.out).mono ?_
        rintro e w1 ⟨rfl, ⟨m3, rfl⟩⟩
        go_wp2_with fail
        refine (month_any n1 _).mono ?_
        rw [MA.out]
        rintro e w1 ⟨rfl, hb1⟩
        have B1 := Aside0.mk (below_step (pw_below_drewN (Below.refl w.heap.size w) _) hb1)
        clear hb1
        go_wp2_with fail
        refine (month_any day _).mono ?_
        rw [MB.out]
        rintro e w2 ⟨rfl, hb2⟩
        have B2 := Aside0.mk (below_step B1.out hb2)
        clear hb2
        go_wp2_with fail
        refine (seek_down (HA.out.below B2.out) HD.out E1.out).mono ?_
        rintro e w3 ⟨rfl, ⟨m4, rfl⟩⟩
        go_wp2_with fail
        go_ret2
        exact ⟨rfl, pw_below_drewN B2.out _⟩
      ·rw [if_pos ⟨rfl, Or.inl h5⟩] at e1
       have E1 := Aside0.mk e1
       have h5b : (n2 != 0) = true := by simpa using h5
       clear e1 h2 h3 h5
       go_enter Try.func67, Try.ntmps67
       go_wp2_with fail
       refine (there_any day _).mono ?_
       rintro e w1 ⟨rfl, ⟨m2, rfl⟩⟩
       go_wp2_with fail
       refine (seek_up (HA.out.drawn ⟨_, rfl⟩) HD.out HN.out).mono ?_
       rintro e w1 ⟨rfl, ⟨m3, rfl⟩⟩
       go_wp2_with fail
       refine (seek_down (HA.out.drawn ⟨_, rfl⟩) HD.out E1.out).mono ?_
       rintro e w3 ⟨rfl, ⟨m4, rfl⟩⟩
       go_wp2_with fail
       go_ret2
       exact ⟨rfl, pw_below_drewN (Below.refl _ _) _⟩
     ·rw [if_neg (fun h => h4 h.1)] at e1
      obtain ⟨rfl, rfl⟩ := Prod.mk.inj e1
      obtain rfl : how = 2 := by omega
      clear e1 h2 h3 h4
      go_enter Try.func67, Try.ntmps67
      go_wp2_with fail
      refine (there_any day _).mono ?_
      rintro e w1 ⟨rfl, ⟨m2, rfl⟩⟩
      go_wp2_with fail
      refine (seek_up (HA.out.drawn ⟨_, rfl⟩) HD.out HN.out).mono ?_
      rintro e w1 ⟨rfl, ⟨m3, rfl⟩⟩
      go_wp2_with fail
      go_ret2
      exact ⟨rfl, pw_below_drewN (Below.refl _ _) _⟩
 ·have d1 := decide_eq_false hd
  have e1 := HR.out
  unfold rollS at e1
  rw [if_pos hd] at e1
  obtain ⟨rfl, rfl⟩ := Prod.mk.inj e1
  clear hd HR e1
  go_enter Try.func67, Try.ntmps67
  go_wp2_with fail
  refine (there_any day _).mono ?_
  rintro e w1 ⟨rfl, ⟨m2, rfl⟩⟩
  go_wp2_with fail
  go_ret2
  exact ⟨rfl, pw_below_drewN (Below.refl _ _) _⟩
end Go.Proofs.Ytbbbjjfecblhpaa.H
/- Contracts by hand: a list of numbers cloned; a calendar made. -/
namespace Go.Proofs.Ytbbbjjfecblhpaa.H
open Go.RowKit Go.Proofs.YtbbbjjfecblhpaaW.PrintWords Go.Proofs.YtbbbjjfecblhpaaW.PrintLast Go.Proofs.YtbbbjjfecblhpaaW.PrintMore Go.Proofs.Ytbbbjjfecblhpaa.HW
open Go.Proofs.Ytbbbjjfecblhpaa.Math
set_option linter.unusedVariables false
set_option linter.unusedSimpArgs false
theorem info_int : (Try.prog.info? 3).map (fun i => (i.zero, i.size, i.bytes)) = some (some (.int .i64 0), 1, 8) := by kernel_rfl
def Cloned (l : List Int) (w : World) (e : Ending) (w' : World) : Prop := ∃ A c, e = .returned (.slice A l.length c) ∧ Kd.C (Kd.int .i64) w' A l.length l ∧ l.length ≤ c ∧ Below w.heap.size w w' ∧ (∀ ad, A = some ad → w.heap.size ≤ ad.block)
theorem clone_nil (w : World) : Calls Try.prog 66 #[.slice none 0 0] w (Cloned [] w) := by
 have hnil := fun (w : World) => Lib.run_eql_slice_nil (P := Try.prog) w 25 3 none 0 0 0 0 Try.underlying25
 go_enter Try.func66, Try.ntmps66
 go_wp2_with fail
 go_ret
 exact ⟨none, 0, rfl, ⟨rfl, by simp, fun h => absurd h (Nat.lt_irrefl 0)⟩, Nat.le_refl _, Below.refl _ _, fun ad h => by cases h⟩
theorem clone_some (ad : Addr) (c0 : Nat) (l : List Int) (w : World) (hr0 : Kd.C (Kd.int .i64) w (some ad) l.length l) (hc0 : l.length ≤ c0) (hm : l.length ≤ 1000000) : Calls Try.prog 66 #[.slice (some ad) l.length c0] w (Cloned l w) := by
 have HN : ∀ j u, (nums .i64 l)[j]? = some u → (w.alloc (.cells #[] 3)).cell? (ad.add j) = some u := by
  intro j u hu
  have hj : j < l.length := by
   rcases Nat.lt_or_ge j l.length with h | h
   ·exact h
   ·rw [List.getElem?_eq_none (by rw [nums_length]; exact h)] at hu; cases hu
  obtain ⟨ad', e, hc⟩ := Kd.at_int (Kd.C_below hr0 ((Below.refl w.heap.size w).alloc (Nat.le_refl _) (.cells #[] 3))) (j : Int) (by omega) (by omega)
  obtain rfl : ad = ad' := Option.some.inj e
  rw [Int.toNat_natCast] at hc
  rw [hc, ← hu, rd_nat l j hj]
  simp [nums, hj]
 have HNN := Aside0.mk HN
 clear hr0 HN
 have hown : (w.alloc (.cells #[] 3)).ownsRow w.heap.size 3 1 (.slice (some ⟨w.heap.size, 0, none⟩) 0 0) 0 [] :=
  ⟨rfl, Or.inr ⟨w.heap.size, 0, #[], rfl, Nat.le_refl _, heap_alloc_new w _, Nat.le_refl _, Nat.zero_le _, rfl, rfl⟩⟩
 have HO := Aside0.mk hown
 clear hown
 obtain ⟨i0, hi, hz0, hz1, hz2⟩ := info_parts info_int
 have hnil := fun (w : World) => Lib.run_eql_slice_nil (P := Try.prog) w 25 3 (some ad) l.length c0 0 0 Try.underlying25
 go_enter Try.func66, Try.ntmps66
 go_wp2_with ((at_builtin; refine wpList_append_own _ rfl _ _ 25 rfl w.heap.size 3 i0 (.int .i64 0) 1 8 Try.underlying25 hi hz0 hz1 hz2 rfl (by decide) _ 0 [] rfl HO.out ad l.length c0 (nums .i64 l) rfl (by simp [nums]) HNN.out (by intro u hu; simp [nums] at hu; obtain ⟨a, _, rfl⟩ := hu; rfl) (by unfold maxLen; omega) (by omega) (by simp) ?_); intro v' w1 hown1 hgrow _)
 have hown2 : w1.ownsRow w.heap.size 3 1 v' l.length (encs (Value.int .i64) l) := by simpa [nums, encs] using hown1
 obtain ⟨A, c, rfl, hle, hr⟩ := own_reads_of_le (d := (0 : Int)) hown2
 have hb : Below w.heap.size w w1 := ((Below.refl w.heap.size w).alloc (Nat.le_refl _) (.cells #[] 3)).grown hgrow (by simp) (fun k hk => by cases hk; exact Nat.le_refl _)
 have hbs : ∀ ad, A = some ad → w.heap.size ≤ ad.block := fun ad e => own_base hown2 _ (by rw [e]; rfl)
 have HBS := Aside0.mk hbs
 clear hbs
 have HB := Aside0.mk hb
 have HC := Aside0.mk (show Kd.C (Kd.int .i64) w1 A l.length l from Kd.C_of_reads hr)
 clear hown1 hown2 hgrow hr hb
 go_wp2
 go_ret
 exact ⟨A, c, rfl, HC.out, hle, HB.out, HBS.out⟩
theorem clone_any (A0 : Option Addr) (c0 : Nat) (l : List Int) (w : World) (hr0 : Kd.C (Kd.int .i64) w A0 l.length l) (hc0 : l.length ≤ c0) (hn : A0 = none → c0 = 0) (hm : l.length ≤ 1000000) : Calls Try.prog 66 #[.slice A0 l.length c0] w (Cloned l w) := by
 cases A0 with
 | some ad => exact clone_some ad c0 l w hr0 hc0 hm
 | none =>
  obtain rfl := hn rfl
  obtain rfl : l = [] := List.eq_nil_of_length_eq_zero (by omega)
  exact clone_nil w
theorem new_many (A0 : Option Addr) (c0 : Nat) (l : List Int) (w : World) (h200 : 200 < l.length) (hm : l.length ≤ 1000000) :
  Calls Try.prog 40 #[.slice A0 l.length c0] w fun e w' => e = .returned (.tuple #[.pointer none, .int .i64 1]) ∧ Drawn0 w w' := by
 go_enter Try.func40, Try.ntmps40
 go_wp2_with fail
 go_ret2
 exact ⟨rfl, Drawn0.refl _⟩
def CalIn (B : Nat) (w : World) (gb : Nat) (l : List Int) : Prop := ∃ A c, w.cell? ⟨gb, 0, none⟩ = some (.slice A l.length c) ∧ Kd.C (Kd.int .i64) w A l.length l ∧ l.length ≤ c ∧ l.length ≤ 200 ∧ l.Pairwise (· < ·) ∧ gb < w.heap.size ∧ (∀ ad, A = some ad → B ≤ ad.block)
theorem CalIn.at {B : Nat} {w : World} {gb : Nat} {l : List Int} (h : CalIn B w gb l) : CalAt w gb l := by
 obtain ⟨A, c, h1, h2, h3, h4, h5, h6, _⟩ := h
 exact ⟨A, c, h1, h2, h3, h4, h5, h6⟩
def Made2 (l : List Int) (b : Bool) (w : World) (e : Ending) (w' : World) : Prop := Below w.heap.size w w' ∧ (b = false → e = .returned (.tuple #[.pointer none, .int .i64 1])) ∧ (b = true → ∃ gb, w.heap.size ≤ gb ∧ e = .returned (.tuple #[.pointer (some ⟨gb, 0, none⟩), .int .i64 0]) ∧ CalIn w.heap.size w' gb l)
set_option maxHeartbeats 1000000 in
theorem new_few2 (A0 : Option Addr) (c0 : Nat) (l : List Int) (b : Bool) (w : World) (hr0 : Kd.C (Kd.int .i64) w A0 l.length l) (hc0 : l.length ≤ c0) (hn : A0 = none → c0 = 0) (hm : l.length ≤ 200) (hb : rises (-25568) l = b) :
  Calls Try.prog 40 #[.slice A0 l.length c0] w (Made2 l b w) := by
 have HR0 := Aside0.mk hr0
 have HB := Aside0.mk hb
 have HN := Aside0.mk hn
 clear hr0 hb hn
 go_enter Try.func40, Try.ntmps40
 go_wp2_with fail
 go_loopg [11] (l.length + 1) (fun gq i w' => ∃ (k : Nat) (p : Int), k ≤ l.length ∧ i = .int .i64 k ∧ Aside0 (gq = l.length + 1 - k) ∧ Aside0 (k = 0 ∧ p = -25568 ∨ 0 < k ∧ p = rd l ((k : Int) - 1)) ∧ Aside0 (rises p (l.drop k) = b) ∧ Drawn0 w w')
 case atStart => exact ⟨0, -25568, Nat.zero_le _, rfl, ⟨rfl⟩, ⟨Or.inl ⟨rfl, rfl⟩⟩, ⟨by rw [← HB.out]; rfl⟩, Drawn0.refl _⟩
 case round =>
  obtain ⟨k, p, hk, rfl, hg, hp, hq, ⟨m1, rfl⟩⟩ := hrel
  by_cases hlt : k < l.length
  ·obtain ⟨ad, e0, hx0⟩ := Kd.at_int HR0.out (k : Int) (by omega) (by omega)
   subst e0
   rw [Int.toNat_natCast] at hx0
   have hrc := hq.out
   rw [rd_cons l k hlt] at hrc
   simp only [rises] at hrc
   have HX : Aside0 (∀ j : Nat, j < l.length → w.cell? (ad.add j) = some (.int .i64 (rd l (j : Int)))) := ⟨fun j hj => by
    obtain ⟨ad', e', hx'⟩ := Kd.at_int HR0.out (j : Int) (by omega) (by omega)
    obtain rfl : ad = ad' := Option.some.inj e'
    rw [Int.toNat_natCast] at hx'
    exact hx'⟩
   by_cases hd : isDay (rd l (k : Int))
   ·have d1 := decide_eq_true hd
    rw [d1, Bool.true_and] at hrc
    rcases (by omega : k = 0 ∨ 0 < k) with h0 | h0
    ·have hp0 : p = -25568 := by rcases hp.out with h | h <;> omega
     have hlt2 : decide (p < rd l (k : Int)) = true := decide_eq_true (by have := hd.1; omega)
     rw [hlt2, Bool.true_and] at hrc
     have HQ := Aside0.mk hrc
     have g1 : (k : Int) ≤ 0 := by omega
     clear hrc hq hd hlt2 hp0 hp h0
     go_wp2_with fail
     refine (there_any _ _).mono ?_
     rintro e w1 ⟨rfl, ⟨m2, rfl⟩⟩
     go_wp2_with fail
     go_roundg (l.length + 1 - (k + 1))
     case measure => have := hg.out; omega
     case rel => exact ⟨k + 1, rd l (k : Int), by omega, by simp, ⟨rfl⟩, ⟨Or.inr ⟨by omega, by congr 1; omega⟩⟩, HQ, ⟨_, rfl⟩⟩
    ·have hx1 := HX.out (k - 1) (by omega)
     have hp1 : p = rd l (((k - 1 : Nat) : Int)) := by
      rcases hp.out with h | h
      ·omega
      ·rw [h.2]; congr 1; omega
     have g1 : (0 : Int) ≤ (k : Int) - 1 := by omega
     by_cases hlt2 : p < rd l (k : Int)
     ·rw [decide_eq_true hlt2, Bool.true_and] at hrc
      have HQ := Aside0.mk hrc
      have hle2 : decide (rd l (k : Int) ≤ rd l (((k - 1 : Nat) : Int))) = false := decide_eq_false (by omega)
      clear hrc hq hd hlt2 hp1 hp
      go_wp2_with fail
      refine (there_any _ _).mono ?_
      rintro e w1 ⟨rfl, ⟨m2, rfl⟩⟩
      go_wp2_with fail
      go_roundg (l.length + 1 - (k + 1))
      case measure => have := hg.out; omega
      case rel => exact ⟨k + 1, rd l (k : Int), by omega, by simp, ⟨rfl⟩, ⟨Or.inr ⟨by omega, by congr 1; omega⟩⟩, HQ, ⟨_, rfl⟩⟩
     ·rw [decide_eq_false hlt2, Bool.false_and] at hrc
      subst hrc
      have hle2 : decide (rd l (k : Int) ≤ rd l (((k - 1 : Nat) : Int))) = true := decide_eq_true (by omega)
      clear hq hd hlt2 hp1 hp
      go_wp2_with fail
      refine (there_any _ _).mono ?_
      rintro e w1 ⟨rfl, ⟨m2, rfl⟩⟩
      go_wp2_with fail
      go_ret2
      exact ⟨pw_below_drewN (Below.refl _ _) _, fun _ => rfl, fun h => by cases h⟩
   ·have d1 := decide_eq_false hd
    rw [d1, Bool.false_and] at hrc
    subst hrc
    clear hd hq
    go_wp2_with fail
    refine (there_any _ _).mono ?_
    rintro e w1 ⟨rfl, ⟨m2, rfl⟩⟩
    go_wp2_with fail
    go_ret2
    exact ⟨pw_below_drewN (Below.refl _ _) _, fun _ => rfl, fun h => by cases h⟩
  ·have hk2 : k = l.length := by omega
   subst hk2
   have hrc := hq.out
   rw [List.drop_length] at hrc
   obtain rfl : b = true := by rw [← hrc]; rfl
   clear hq
   go_wp2_with fail
   refine (clone_any A0 c0 l _ (Kd.C_drewN HR0.out _) hc0 HN.out (by omega)).mono ?_
   rintro e w1 ⟨A, c, rfl, hc1, hle, hbl, hbs⟩
   have HBS := Aside0.mk hbs
   clear hbs
   have HC1 := Aside0.mk hc1
   have HBL := Aside0.mk hbl
   clear hc1 hbl
   have hBsz := HBL.out.size
   have hgb : (w1.alloc (.cells #[.slice A l.length c] 110)).cell? ⟨w1.heap.size, 0, none⟩ = some (.slice A l.length c) := by simp [go_sem]
   have HCA := Aside0.mk (show CalIn w.heap.size (w1.alloc (.cells #[.slice A l.length c] 110)) w1.heap.size l from ⟨A, c, hgb, Kd.C_below HC1.out ((Below.refl _ _).alloc (Nat.le_refl _) _), hle, hm, rises_pair l _ HB.out, by simp, by have := HBS.out; simpa using this⟩)
   have HBB := Aside0.mk ((pw_below_drewN (Below.refl w.heap.size w) (m1)).trans (HBL.out.mono (by simp)))
   clear hgb
   go_wp2_with fail
   go_ret2
   exact ⟨HBB.out.alloc HBB.out.size _, (fun h => by cases h), fun _ => ⟨w1.heap.size, HBB.out.size, rfl, HCA.out⟩⟩
end Go.Proofs.Ytbbbjjfecblhpaa.H
/- Plain law: which day is found, a step at a time. -/
namespace Go.Proofs.Ytbbbjjfecblhpaa.H
open Go.RowKit Go.Proofs.YtbbbjjfecblhpaaW.PrintWords Go.Proofs.YtbbbjjfecblhpaaW.PrintLast Go.Proofs.YtbbbjjfecblhpaaW.PrintMore Go.Proofs.Ytbbbjjfecblhpaa.HW
open Go.Proofs.Ytbbbjjfecblhpaa.Math
set_option linter.unusedVariables false
set_option linter.unusedSimpArgs false
theorem seekS_succ (l : List Int) (step : Int) (k : Nat) (day : Int) : seekS l step (k + 1) day = if isDay day then (if openB l day = true then (day, 0) else seekS l step k (day + step)) else (0, 5) := rfl
/-! ### Some days, that rise -/
def Some (lo hi : Int) (s : List Int) : Prop := s.Pairwise (· < ·) ∧ ∀ x ∈ s, lo ≤ x ∧ x ≤ hi
theorem Some.nil (lo hi : Int) : Some lo hi [] := ⟨List.Pairwise.nil, by simp⟩
theorem Some.snoc {lo hi x : Int} {s : List Int} (h : Some lo hi s) (h1 : lo ≤ x) (h2 : x ≤ hi) (h3 : s = [] ∨ rd s ((s.length : Int) - 1) < x) : Some lo hi (s ++ [x]) := by
 obtain ⟨p, a⟩ := h
 refine ⟨List.pairwise_append.2 ⟨p, List.pairwise_singleton _ _, fun y hy z hz => ?_⟩, fun y hy => ?_⟩
 ·obtain rfl : z = x := by simpa using hz
  rcases h3 with rfl | h3
  ·simp at hy
  ·obtain ⟨j, hj, e⟩ := List.getElem_of_mem hy
   rw [← rd_nat s j hj] at e
   have hl : ((s.length : Int) - 1) = ((s.length - 1 : Nat) : Int) := by omega
   rw [hl] at h3
   rcases (by omega : j < s.length - 1 ∨ j = s.length - 1) with h | h
   ·have := rises_lt p h (by omega)
    omega
   ·rw [h] at e; omega
 ·rcases List.mem_append.1 hy with h | h
  ·exact a y h
  ·obtain rfl : y = x := by simpa using h
   exact ⟨h1, h2⟩
theorem Some.right {lo hi : Int} {s : List Int} (h : Some lo hi s) (h1 : isDay lo) (h2 : isDay hi) (hl : s.length ≤ 200) : rightB s = true := by
 unfold rightB
 rw [decide_eq_true hl, Bool.and_true]
 exact rises_of _ (fun x hx => by obtain ⟨a, b⟩ := h.2 x hx; have := h1.1; have := h2.2; exact ⟨⟨by omega, by omega⟩, by omega⟩) h.1
end Go.Proofs.Ytbbbjjfecblhpaa.H
namespace Go.Proofs.Ytbbbjjfecblhpaa.PBU
open Go.RowKit Go.Proofs.YtbbbjjfecblhpaaW.PrintWords Go.Proofs.YtbbbjjfecblhpaaW.PrintLast Go.Proofs.YtbbbjjfecblhpaaW.PrintMore Go.Proofs.Ytbbbjjfecblhpaa.HW
attribute [local go_sem] run_makeFunc_ max2_int min2_int max_two min_two max_three min_three max_four min_four   -- for this text's walks alone
set_option linter.unusedVariables false
set_option linter.unusedSimpArgs false
def errW : Option Int → Value
 | none => .nilIface
 | some c => .iface 0 (.int .i64 c)
theorem errW_none : errW none = .nilIface := rfl
theorem errW_some (c : Int) : errW (some c) = .iface 0 (.int .i64 c) := rfl
end Go.Proofs.Ytbbbjjfecblhpaa.PBU
namespace Go.Proofs.Ytbbbjjfecblhpaa.PBU
open Go.RowKit Go.Proofs.YtbbbjjfecblhpaaW.PrintWords Go.Proofs.YtbbbjjfecblhpaaW.PrintLast Go.Proofs.YtbbbjjfecblhpaaW.PrintMore Go.Proofs.Ytbbbjjfecblhpaa.HW
attribute [local go_sem] run_makeFunc_ max2_int min2_int max_two min_two max_three min_three max_four min_four   -- for this text's walks alone
set_option linter.unusedVariables false
set_option linter.unusedSimpArgs false
/-! ### quittanceref05_Open: function 69 -/
def quittanceref05_Open.f (l0 : List Int) (a1 : Int) : Option (Bool) := (Go.Proofs.Ytbbbjjfecblhpaa.H.quittanceref03_Is.f a1).bind fun t101 => (if t101 = true then ((Go.Proofs.Ytbbbjjfecblhpaa.H.quittanceref03_Weekday.f a1).bind fun t102 => (if t102 < 5 then ((Go.Proofs.Ytbbbjjfecblhpaa.H.help_In_int.f l0 a1).bind fun t103 => (some (!t103))) else (some false))) else (some false))
set_option maxHeartbeats 8000000 in
set_option maxRecDepth 100000 in
theorem quittanceref05_Open.calls (A0 : Option Addr) (c0 : Nat) (l0 : List Int) (a1 : Int) (r : Bool) (w : World) (hr0 : Kd.C (Kd.int .i64) w A0 l0.length l0) (hc0 : l0.length ≤ c0) (h : quittanceref05_Open.f l0 a1 = some r) :
  Calls Try.prog 69 #[.slice A0 l0.length c0, .int .i64 a1] w fun e w' => e = .returned (.bool r) ∧ Drawn0 w w' := by
 have HR0 := Aside0.mk hr0
 have HC0 := Aside0.mk hc0
 clear hr0 hc0
 have H : ((Go.Proofs.Ytbbbjjfecblhpaa.H.quittanceref03_Is.f a1).bind fun t101 => (if t101 = true then ((Go.Proofs.Ytbbbjjfecblhpaa.H.quittanceref03_Weekday.f a1).bind fun t102 => (if t102 < 5 then ((Go.Proofs.Ytbbbjjfecblhpaa.H.help_In_int.f l0 a1).bind fun t103 => (some (!t103))) else (some false))) else (some false))) = some r := h
 clear h
 replace H := Option.bind_eq_some_iff.mp H
 obtain ⟨t101, A30, H⟩ := H
 replace H : (if t101 = true then ((Go.Proofs.Ytbbbjjfecblhpaa.H.quittanceref03_Weekday.f a1).bind fun t102 => (if t102 < 5 then ((Go.Proofs.Ytbbbjjfecblhpaa.H.help_In_int.f l0 a1).bind fun t103 => (some (!t103))) else (some false))) else (some false)) = some r := H
 have A3 := Aside0.mk A30
 clear A30
 by_cases c4 : t101 = true
 ·subst c4
  have H1 : ((Go.Proofs.Ytbbbjjfecblhpaa.H.quittanceref03_Weekday.f a1).bind fun t102 => (if t102 < 5 then ((Go.Proofs.Ytbbbjjfecblhpaa.H.help_In_int.f l0 a1).bind fun t103 => (some (!t103))) else (some false))) = some r := by rw [if_pos rfl] at H; exact H
  clear H
  have H := H1
  clear H1
  replace H := Option.bind_eq_some_iff.mp H
  obtain ⟨t102, A50, H⟩ := H
  replace H : (if t102 < 5 then ((Go.Proofs.Ytbbbjjfecblhpaa.H.help_In_int.f l0 a1).bind fun t103 => (some (!t103))) else (some false)) = some r := H
  have A5 := Aside0.mk A50
  clear A50
  by_cases c6 : t102 < 5
  ·rw [if_pos c6] at H
   have c6b0 : decide (t102 < 5) = true := decide_eq_true c6
   clear c6
   replace H := Option.bind_eq_some_iff.mp H
   obtain ⟨t103, A70, H⟩ := H
   replace H : (some (!t103)) = some r := H
   have A7 := Aside0.mk A70
   clear A70
   obtain rfl := Option.some.inj H
   go_enter Try.func69, Try.ntmps69
   go_wp2_with (first | ((with_reducible refine gate_callee (f := 37) rfl ?_); refine goesL_ (some 6) rfl rfl Try.func37 (by kernel_rfl) rfl #[.int .i64 a1] rfl (by (try simp only [List.map_toArray, List.map_cons, List.map_nil]); first | done | rfl | (simp only [List.length_drop, List.length_take]; rfl)) ?_; (with_reducible refine (Go.Proofs.Ytbbbjjfecblhpaa.H.quittanceref03_Is.calls a1 true _ A3.out).mono ?_); rintro e w' ⟨rfl, ⟨nd, rfl⟩⟩; refine ⟨_, rfl, ?_⟩) | (go_at_call 94; (with_reducible refine (Go.Proofs.Ytbbbjjfecblhpaa.H.quittanceref03_Weekday.calls a1 t102 _ A5.out).mono ?_); rintro e w' ⟨rfl, ⟨nd, rfl⟩⟩) | (go_at_call 50; (with_reducible refine (Go.Proofs.Ytbbbjjfecblhpaa.H.help_In_int.calls _ _ l0 a1 t103 _ ?side1 ?side2 A7.out).mono ?_); (case side1 => repeat (first | exact HR0.out | (with_reducible refine Kd.C_alloc ?_ _) | (with_reducible refine Kd.C_drewN ?_ _) | (with_reducible refine Kd.C_drew ?_))); (case side2 => exact HC0.out); rintro e w' ⟨rfl, ⟨nd, rfl⟩⟩))
   go_ret
   exact ⟨by first | rfl | (simp; done) | (simp [*]; done), by repeat (first | exact Drawn0.refl _ | apply Drawn0.step)⟩
  ·rw [if_neg c6] at H
   have c6b0 : decide (t102 < 5) = false := decide_eq_false c6
   clear c6
   obtain rfl := Option.some.inj H
   go_enter Try.func69, Try.ntmps69
   go_wp2_with (first | ((with_reducible refine gate_callee (f := 37) rfl ?_); refine goesL_ (some 6) rfl rfl Try.func37 (by kernel_rfl) rfl #[.int .i64 a1] rfl (by (try simp only [List.map_toArray, List.map_cons, List.map_nil]); first | done | rfl | (simp only [List.length_drop, List.length_take]; rfl)) ?_; (with_reducible refine (Go.Proofs.Ytbbbjjfecblhpaa.H.quittanceref03_Is.calls a1 true _ A3.out).mono ?_); rintro e w' ⟨rfl, ⟨nd, rfl⟩⟩; refine ⟨_, rfl, ?_⟩) | (go_at_call 94; (with_reducible refine (Go.Proofs.Ytbbbjjfecblhpaa.H.quittanceref03_Weekday.calls a1 t102 _ A5.out).mono ?_); rintro e w' ⟨rfl, ⟨nd, rfl⟩⟩))
   go_ret
   exact ⟨by first | rfl | (simp; done) | (simp [*]; done), by repeat (first | exact Drawn0.refl _ | apply Drawn0.step)⟩
 ·replace c4 := Bool.eq_false_iff.mpr c4
  subst c4
  have H1 : (some false) = some r := by rw [if_neg (show ¬ (false = true) by decide)] at H; exact H
  clear H
  have H := H1
  clear H1
  obtain rfl := Option.some.inj H
  go_enter Try.func69, Try.ntmps69
  go_wp2_with (first | ((with_reducible refine gate_callee (f := 37) rfl ?_); refine goesL_ (some 6) rfl rfl Try.func37 (by kernel_rfl) rfl #[.int .i64 a1] rfl (by (try simp only [List.map_toArray, List.map_cons, List.map_nil]); first | done | rfl | (simp only [List.length_drop, List.length_take]; rfl)) ?_; (with_reducible refine (Go.Proofs.Ytbbbjjfecblhpaa.H.quittanceref03_Is.calls a1 false _ A3.out).mono ?_); rintro e w' ⟨rfl, ⟨nd, rfl⟩⟩; refine ⟨_, rfl, ?_⟩))
  go_ret
  exact ⟨by first | rfl | (simp; done) | (simp [*]; done), by repeat (first | exact Drawn0.refl _ | apply Drawn0.step)⟩
/-! ### quittanceref05_seek: function 70 -/
def quittanceref05_seek.l0 : Nat → List Int → Int → Int → Option (Int × Bool)
 | 0, _, _, _ => none
 | k + 1, x0, x2, x8 => (Go.Proofs.Ytbbbjjfecblhpaa.H.quittanceref03_Is.f x8).bind fun t104 => (if t104 = true then ((quittanceref05_Open.f x0 x8).bind fun t105 => (if t105 = true then (some (x8, true)) else (quittanceref05_seek.l0 k x0 x2 (wrap64 (x8 + x2))))) else (some (0, false)))
def quittanceref05_seek.f (k : Nat) (l0 : List Int) (a1 : Int) (a2 : Int) : Option (Int × Bool) := quittanceref05_seek.l0 k l0 a2 a1
theorem quittanceref05_seek.mono_l : ∀ k, (∀ y0 y1 y2, LeO (quittanceref05_seek.l0 k y0 y1 y2) (quittanceref05_seek.l0 (k + 1) y0 y1 y2))
 | 0 => fun _ _ _ r h => by simp [quittanceref05_seek.l0] at h
 | k + 1 => by
  have ih0 := quittanceref05_seek.mono_l k
  ·intro y0 y1 y2
   unfold quittanceref05_seek.l0
   repeat' first
   | (with_reducible exact ih0 _ _ _)
   | (with_reducible exact LeO.refl _)
   | (with_reducible exact LeO.none _)
   | (with_reducible refine LeO.ite ?_ ?_)
   | (with_reducible refine LeO.bind ?_ (fun _ => ?_))
   | exact ih0 _ _ _
   | exact LeO.none _
   | refine LeO.ite ?_ ?_
   | refine LeO.bind ?_ (fun _ => ?_)
theorem quittanceref05_seek.mono : ∀ a0 a1 a2 k, LeO (quittanceref05_seek.f k a0 a1 a2) (quittanceref05_seek.f (k + 1) a0 a1 a2) := by
 intro a0 a1 a2 k
 have ih0 := quittanceref05_seek.mono_l k
 unfold quittanceref05_seek.f
 repeat' first
   | (with_reducible exact ih0 _ _ _)
   | (with_reducible exact LeO.refl _)
   | (with_reducible exact LeO.none _)
   | (with_reducible refine LeO.ite ?_ ?_)
   | (with_reducible refine LeO.bind ?_ (fun _ => ?_))
   | exact ih0 _ _ _
   | exact LeO.none _
   | refine LeO.ite ?_ ?_
   | refine LeO.bind ?_ (fun _ => ?_)
set_option maxHeartbeats 8000000 in
set_option maxRecDepth 100000 in
theorem quittanceref05_seek.calls (k : Nat) (A0 : Option Addr) (c0 : Nat) (l0 : List Int) (a1 : Int) (a2 : Int) (r1 : Int) (r2 : Bool) (w : World) (hr0 : Kd.C (Kd.int .i64) w A0 l0.length l0) (hc0 : l0.length ≤ c0) (h : quittanceref05_seek.f k l0 a1 a2 = some (r1, r2)) :
  Calls Try.prog 70 #[.slice A0 l0.length c0, .int .i64 a1, .int .i64 a2] w fun e w' => e = .returned (.tuple #[.int .i64 r1, .bool r2]) ∧ Drawn0 w w' := by
 have HR0 := Aside0.mk hr0
 have HC0 := Aside0.mk hc0
 clear hr0 hc0
 have H : (quittanceref05_seek.l0 k l0 a2 a1) = some (r1, r2) := h
 clear h
 have H' := Aside0.mk H
 clear H
 go_enter Try.func70, Try.ntmps70
 go_wp2
 go_loopg [8] k (fun kq v8 w' => ∃ (x8_1 : Int), v8 = .int .i64 x8_1 ∧ Aside0 (quittanceref05_seek.l0 kq l0 a2 x8_1 = some (r1, r2)) ∧ Aside0 (kq ≤ k) ∧ Drawn0 w w')
 case atStart => exact ⟨(a1), (by first | rfl | (simp; done) | (simp [*]; done)), H', ⟨Nat.le_refl _⟩, by repeat (first | exact Drawn0.refl _ | apply Drawn0.step)⟩
 case round =>
  clear H'
  try clear p2
  obtain ⟨x8_1, rfl, HA, HK1, ⟨m1, rfl⟩⟩ := hrel
  cases gk with
  | zero => exact absurd HA.out (by simp [quittanceref05_seek.l0])
  | succ k1 =>
   have H := HA.out
   clear HA
   simp only [quittanceref05_seek.l0] at H
   replace H := Option.bind_eq_some_iff.mp H
   obtain ⟨t104, A40, H⟩ := H
   replace H : (if t104 = true then ((quittanceref05_Open.f l0 x8_1).bind fun t105 => (if t105 = true then (some (x8_1, true)) else (quittanceref05_seek.l0 k1 l0 a2 (wrap64 (x8_1 + a2))))) else (some (0, false))) = some (r1, r2) := H
   have A4 := Aside0.mk A40
   clear A40
   by_cases c5 : t104 = true
   ·subst c5
    have H1 : ((quittanceref05_Open.f l0 x8_1).bind fun t105 => (if t105 = true then (some (x8_1, true)) else (quittanceref05_seek.l0 k1 l0 a2 (wrap64 (x8_1 + a2))))) = some (r1, r2) := by rw [if_pos rfl] at H; exact H
    clear H
    have H := H1
    clear H1
    replace H := Option.bind_eq_some_iff.mp H
    obtain ⟨t105, A60, H⟩ := H
    replace H : (if t105 = true then (some (x8_1, true)) else (quittanceref05_seek.l0 k1 l0 a2 (wrap64 (x8_1 + a2)))) = some (r1, r2) := H
    have A6 := Aside0.mk A60
    clear A60
    by_cases c7 : t105 = true
    ·subst c7
     have H1 : (some (x8_1, true)) = some (r1, r2) := by rw [if_pos rfl] at H; exact H
     clear H
     have H := H1
     clear H1
     simp only [Option.some.injEq, Prod.mk.injEq] at H
     obtain ⟨rfl, rfl⟩ := H
     go_wp2_with (first | ((with_reducible refine gate_callee (f := 37) rfl ?_); refine goesL_ (some 11) rfl rfl Try.func37 (by kernel_rfl) rfl #[.int .i64 x8_1] rfl (by (try simp only [List.map_toArray, List.map_cons, List.map_nil]); first | done | rfl | (simp only [List.length_drop, List.length_take]; rfl)) ?_; (with_reducible refine (Go.Proofs.Ytbbbjjfecblhpaa.H.quittanceref03_Is.calls x8_1 true _ A4.out).mono ?_); rintro e w' ⟨rfl, ⟨nd, rfl⟩⟩; refine ⟨_, rfl, ?_⟩) | ((with_reducible refine gate_callee (f := 69) rfl ?_); refine goesL_ (some 17) rfl rfl Try.func69 (by kernel_rfl) rfl #[.slice A0 l0.length c0, .int .i64 x8_1] rfl (by (try simp only [List.map_toArray, List.map_cons, List.map_nil]); first | done | rfl | (simp only [List.length_drop, List.length_take]; rfl)) ?_; (with_reducible refine (quittanceref05_Open.calls _ _ l0 x8_1 true _ ?side1 ?side2 A6.out).mono ?_); (case side1 => repeat (first | exact HR0.out | (with_reducible refine Kd.C_alloc ?_ _) | (with_reducible refine Kd.C_drewN ?_ _) | (with_reducible refine Kd.C_drew ?_))); (case side2 => exact HC0.out); rintro e w' ⟨rfl, ⟨nd, rfl⟩⟩; refine ⟨_, rfl, ?_⟩))
     go_ret2
     exact ⟨by first | rfl | (simp; done) | (simp [*]; done), by repeat (first | exact Drawn0.refl _ | apply Drawn0.step)⟩
    ·replace c7 := Bool.eq_false_iff.mpr c7
     subst c7
     have H1 : (quittanceref05_seek.l0 k1 l0 a2 (wrap64 (x8_1 + a2))) = some (r1, r2) := by rw [if_neg (show ¬ (false = true) by decide)] at H; exact H
     clear H
     have H := H1
     clear H1
     have H' := Aside0.mk H
     clear H
     go_wp2_with (first | ((with_reducible refine gate_callee (f := 37) rfl ?_); refine goesL_ (some 11) rfl rfl Try.func37 (by kernel_rfl) rfl #[.int .i64 x8_1] rfl (by (try simp only [List.map_toArray, List.map_cons, List.map_nil]); first | done | rfl | (simp only [List.length_drop, List.length_take]; rfl)) ?_; (with_reducible refine (Go.Proofs.Ytbbbjjfecblhpaa.H.quittanceref03_Is.calls x8_1 true _ A4.out).mono ?_); rintro e w' ⟨rfl, ⟨nd, rfl⟩⟩; refine ⟨_, rfl, ?_⟩) | ((with_reducible refine gate_callee (f := 69) rfl ?_); refine goesL_ (some 17) rfl rfl Try.func69 (by kernel_rfl) rfl #[.slice A0 l0.length c0, .int .i64 x8_1] rfl (by (try simp only [List.map_toArray, List.map_cons, List.map_nil]); first | done | rfl | (simp only [List.length_drop, List.length_take]; rfl)) ?_; (with_reducible refine (quittanceref05_Open.calls _ _ l0 x8_1 false _ ?side1 ?side2 A6.out).mono ?_); (case side1 => repeat (first | exact HR0.out | (with_reducible refine Kd.C_alloc ?_ _) | (with_reducible refine Kd.C_drewN ?_ _) | (with_reducible refine Kd.C_drew ?_))); (case side2 => exact HC0.out); rintro e w' ⟨rfl, ⟨nd, rfl⟩⟩; refine ⟨_, rfl, ?_⟩))
     go_roundg k1
     case measure => have := HK1.out; omega
     case rel => exact ⟨(wrap64 (x8_1 + a2)), (by first | rfl | (simp; done) | (simp [*]; done)), H', ⟨by have := HK1.out; omega⟩, by repeat (first | exact Drawn0.refl _ | apply Drawn0.step)⟩
   ·replace c5 := Bool.eq_false_iff.mpr c5
    subst c5
    have H1 : (some (0, false)) = some (r1, r2) := by rw [if_neg (show ¬ (false = true) by decide)] at H; exact H
    clear H
    have H := H1
    clear H1
    simp only [Option.some.injEq, Prod.mk.injEq] at H
    obtain ⟨rfl, rfl⟩ := H
    go_wp2_with (first | ((with_reducible refine gate_callee (f := 37) rfl ?_); refine goesL_ (some 11) rfl rfl Try.func37 (by kernel_rfl) rfl #[.int .i64 x8_1] rfl (by (try simp only [List.map_toArray, List.map_cons, List.map_nil]); first | done | rfl | (simp only [List.length_drop, List.length_take]; rfl)) ?_; (with_reducible refine (Go.Proofs.Ytbbbjjfecblhpaa.H.quittanceref03_Is.calls x8_1 false _ A4.out).mono ?_); rintro e w' ⟨rfl, ⟨nd, rfl⟩⟩; refine ⟨_, rfl, ?_⟩))
    go_ret2
    exact ⟨by first | rfl | (simp; done) | (simp [*]; done), by repeat (first | exact Drawn0.refl _ | apply Drawn0.step)⟩
end Go.Proofs.Ytbbbjjfecblhpaa.PBU
/- Words: all blocks but one are as1 they were; a row of numbers of one's own. -/
namespace Go.Proofs.Ytbbbjjfecblhpaa.H
open Go.RowKit Go.Proofs.YtbbbjjfecblhpaaW.PrintWords Go.Proofs.YtbbbjjfecblhpaaW.PrintLast Go.Proofs.YtbbbjjfecblhpaaW.PrintMore
set_option linter.unusedVariables false
set_option linter.unusedSimpArgs false
structure But (gb : Nat) (w w' : World) : Prop where
 os : w'.os = w.os
 tape : w'.tape = w.tape
 output : w'.output = w.output
 size : w.heap.size ≤ w'.heap.size
 block : ∀ k, k < w.heap.size → k ≠ gb → w'.heap[k]? = w.heap[k]?
theorem But.of {gb : Nat} {w w' : World} (h : Below w.heap.size w w') : But gb w w' := ⟨h.os, h.tape, h.output, h.size, fun k hk _ => h.block k hk⟩
theorem But.below {B gb : Nat} {a w w' : World} (h : Below B a w) (hw : B ≤ w.heap.size) (hg : B ≤ gb) (hb : But gb w w') : Below B a w' :=
 h.trans ⟨hb.os, hb.tape, hb.output, hb.size, fun k hk => hb.block k (by omega) (by omega)⟩
theorem But.setCell {gb : Nat} {a w : World} (h : But gb a w) {p : Addr} (hp : p.block = gb ∨ a.heap.size ≤ p.block) (u : Value) : But gb a (w.setCell p u) :=
 ⟨h.os, h.tape, h.output, by have := h.size; simp [World.setCell]; omega, fun k hk hn => by rw [Below.heap_setCell _ _ _ _ (by omega)]; exact h.block k hk hn⟩
theorem But.cell {gb : Nat} {w w' : World} (h : But gb w w') {p : Addr} (hp : p.block < w.heap.size) (hn : p.block ≠ gb) : w'.cell? p = w.cell? p := World.cell?_of_block (w := w) (h.block p.block hp hn)
theorem But.frozen {gb : Nat} {w w' : World} (h : But gb w w') {p : Addr} (hp : p.block < w.heap.size) (hn : p.block ≠ gb) : w'.frozen? p = w.frozen? p := World.frozen?_of_block (w := w) (h.block p.block hp hn)
def Blk (w : World) (g : Nat) (e : TypeId) (vs : List Value) : Prop := w.heap[g]? = some (.cells vs.toArray e (0, 0))
theorem Blk.lt {w : World} {g : Nat} {e : TypeId} {vs : List Value} (h : Blk w g e vs) : g < w.heap.size := by
 rcases Nat.lt_or_ge g w.heap.size with h1 | h1
 ·exact h1
 ·unfold Blk at h; rw [Array.getElem?_eq_none h1] at h; cases h
theorem Blk.same {w w1 : World} {g : Nat} {e : TypeId} {vs : List Value} (h : Blk w g e vs) (hb : w1.heap[g]? = w.heap[g]?) : Blk w1 g e vs := hb.trans h
theorem Blk.below {w w1 : World} {g : Nat} {e : TypeId} {vs : List Value} (h : Blk w g e vs) (hb : Below w.heap.size w w1) : Blk w1 g e vs := h.same (hb.block g h.lt)
theorem Blk.but {w w1 : World} {g g2 : Nat} {e : TypeId} {vs : List Value} (h : Blk w g e vs) (hb : But g2 w w1) (hn : g ≠ g2) : Blk w1 g e vs := h.same (hb.block g h.lt hn)
theorem Blk.cell {w : World} {g : Nat} {e : TypeId} {vs : List Value} (h : Blk w g e vs) (j : Nat) : w.cell? ⟨g, j, none⟩ = vs[j]? := by
 rw [cell_of_row w g j _ e (0, 0) h]; simp
theorem Blk.frozen {w : World} {g : Nat} {e : TypeId} {vs : List Value} (h : Blk w g e vs) (j : Nat) : w.frozen? ⟨g, j, none⟩ = false := frozen_of_row w g j _ e h
theorem Blk.put {w : World} {g : Nat} {e : TypeId} {vs : List Value} (h : Blk w g e vs) (j : Nat) (u : Value) : Blk (w.setCell ⟨g, j, none⟩ u) g e (vs.set j u) := by
 have h1 := heap_setCell_same w g j _ e u h
 unfold Blk
 rw [h1]
 congr 2
 apply Array.ext'
 simp
theorem Blk.made (w : World) (e : TypeId) (vs : List Value) : Blk (w.alloc (.cells vs.toArray e)) w.heap.size e vs := heap_alloc_new w _
theorem Blk.ofOwn {w : World} {base B n cap : Nat} {e : TypeId} {size : Nat} {xs : List Value} (h : w.ownsRow base e size (.slice (some ⟨B, 0, none⟩) n cap) n xs) : ∃ t : List Value, t.length = (cap - n) * size ∧ Blk w B e (xs ++ t) ∧ n ≤ cap := by
 rcases h.2 with ⟨h, _⟩ | ⟨g', cap', cur, e', _, hh, h1, h2, h3, h4⟩
 ·cases h
 ·injection e' with e1 e2 e3
  injection e1 with e1
  injection e1 with e4
  subst e4
  subst e3
  have ee : cur.toList = xs ++ cur.toList.drop (n * size) := by rw [← h4, List.take_append_drop]
  refine ⟨cur.toList.drop (n * size), by rw [List.length_drop, Array.length_toList, h3, Nat.sub_mul], ?_, h1⟩
  unfold Blk
  rw [← ee, hh]
theorem Blk.reads {w : World} {g : Nat} {e : TypeId} {k : IntKind} {l : List Int} {t : List Value} (h : Blk w g e (nums k l ++ t)) (hm : l.length ≤ 9223372036854775807) : Kd.C (Kd.int k) w (some ⟨g, 0, none⟩) l.length l := by
 refine Kd.C_of_reads (d := (0 : Int)) ⟨rfl, hm, fun _ => ⟨_, rfl, fun j hj => ?_⟩⟩
 have e' : (⟨g, 0, none⟩ : Addr).add j = ⟨g, j, none⟩ := by simp [Addr.add]; try exact fun h => h.symm
 rw [e', h.cell j, List.getElem?_append_left (by rw [nums_length]; exact hj)]
 simp [nums, hj]
end Go.Proofs.Ytbbbjjfecblhpaa.H
/- Plain: days rolled, rising; a list of one's own as1 a block of numbers. -/
namespace Go.Proofs.Ytbbbjjfecblhpaa.Du
open Go.RowKit Go.Proofs.YtbbbjjfecblhpaaW.PrintWords Go.Proofs.YtbbbjjfecblhpaaW.PrintLast Go.Proofs.YtbbbjjfecblhpaaW.PrintMore
open Go.Proofs.Ytbbbjjfecblhpaa.Math Go.Proofs.Ytbbbjjfecblhpaa.H
set_option linter.unusedVariables false
set_option linter.unusedSimpArgs false
theorem rises_pm (l : List Int) : ∀ p, rises p l = Pm.holsOk p l := by
 induction l with
 | nil => intro p; rfl
 | cons a l ih =>
  intro p
  simp only [rises, Pm.holsOk, ih]
  rw [Bool.eq_iff_iff]
  simp only [Bool.and_eq_true, decide_eq_true_eq]
  constructor
  ·rintro ⟨⟨h1, h2⟩, h3, h4⟩; exact ⟨⟨h1, h2, h3⟩, h4⟩
  ·rintro ⟨⟨h1, h2, h3⟩, h4⟩; exact ⟨⟨h1, h2⟩, h3, h4⟩
def after (pre : List Int) (r : List Int × Int) : List Int × Int := if r.2 = 0 then (pre ++ r.1, 0) else ([], r.2)
theorem after_nil {r : List Int × Int} (h : r.2 ≠ 0 → r.1 = []) : after [] r = r := by
 unfold after
 obtain ⟨a, b⟩ := r
 by_cases e : b = 0
 ·subst e; simp
 ·simp only [] at h; simp [e, h e]
theorem after_after (pre : List Int) (x : Int) (r : List Int × Int) : after pre (after [x] r) = after (pre ++ [x]) r := by
 unfold after
 by_cases e : r.2 = 0
 ·simp [e]
 ·simp [e]
theorem after_err (pre : List Int) {e : Int} (h : e ≠ 0) : after pre ([], e) = ([], e) := by unfold after; simp [h]
def rollAll (hol : List Int) (how : Int) : List Int → List Int × Int
 | [] => ([], 0)
 | d :: r => if (rollS hol d how).2 = 0 then after [(rollS hol d how).1] (rollAll hol how r) else ([], (rollS hol d how).2)
theorem rollAll_err (hol : List Int) (how : Int) (l : List Int) : (rollAll hol how l).2 ≠ 0 → (rollAll hol how l).1 = [] := by
 cases l with
 | nil => intro h; exact absurd rfl h
 | cons d r =>
  rw [rollAll]
  split
  ·unfold after
   split
   ·intro h; exact absurd rfl h
   ·intro; rfl
  ·intro; rfl
theorem rollAll_len (hol : List Int) (how : Int) (l : List Int) : (rollAll hol how l).2 = 0 → (rollAll hol how l).1.length = l.length := by
 induction l with
 | nil => intro; rfl
 | cons d r ih =>
  rw [rollAll]
  split
  ·unfold after
   split
   ·rename_i h; intro; simp [ih h]
   ·rename_i h; intro e; exact absurd e h
  ·rename_i h; intro e; exact absurd e h
def rise : Int → List Int → Bool
 | _, [] => true
 | p, d :: r => decide (p < d) && rise d r
def daysP (p : Pm.Prod) (start : Int) : List Int × Int :=
 if Pm.ok p = true then
  if (datesP start p.every p.times).2 = 0 then
   if (rollAll p.hol p.roll (datesP start p.every p.times).1).2 = 0 then
    if rise start (rollAll p.hol p.roll (datesP start p.every p.times).1).1 = true then ((rollAll p.hol p.roll (datesP start p.every p.times).1).1, 0) else ([], 11)
   else ([], (rollAll p.hol p.roll (datesP start p.every p.times).1).2)
  else ([], (datesP start p.every p.times).2)
 else ([], 9)
def RowI (w : World) (B : Nat) (v : Value) (l : List Int) : Prop :=
 (v = .slice none 0 0 ∧ l = []) ∨ ∃ g c t, v = .slice (some ⟨g, 0, none⟩) l.length c ∧ B ≤ g ∧ l.length ≤ c ∧ H.Blk w g 3 (nums .i64 l ++ t)
theorem reps_nums (k : IntKind) (l : List Int) (inner : List Value) (h : Reps (fun x cs => cs = [Value.int k x]) 1 l inner) : inner = nums k l := by
 obtain ⟨h1, h2⟩ := h
 apply List.ext_getElem?
 intro j
 by_cases hj : j < l.length
 ·have e := h2 j l[j] (List.getElem?_eq_getElem hj)
  have e2 := congrArg (fun x => x[0]?) e
  simp only [Nat.mul_one, List.getElem?_take, List.getElem?_drop, Nat.add_zero] at e2
  simp only [Nat.zero_lt_one, if_true, List.getElem?_cons_zero] at e2
  rw [e2]
  simp [nums, hj]
 ·rw [List.getElem?_eq_none (by omega), List.getElem?_eq_none (by simp [nums]; omega)]
theorem row_of_R {w : World} {B : Nat} {ok : Nat → Prop} {v : Value} {l : List Int} (h : Kd.R (Kd.int .i64) 3 w B ok v l) : RowI w B v l := by
 obtain ⟨-, inner, ho, hr⟩ := h
 obtain rfl := reps_nums .i64 l inner hr
 have ho2 := ho.2
 rcases ho2 with ⟨hv, hn⟩ | ⟨g, cap, cur, hv, hg, hh, r⟩
 ·refine Or.inl ⟨hv, ?_⟩
  cases l with
  | nil => rfl
  | cons a r => simp at hn
 ·subst hv
  obtain ⟨t, -, hb, hc⟩ := H.Blk.ofOwn ho
  exact Or.inr ⟨g, cap, t, rfl, hg, hc, hb⟩
end Go.Proofs.Ytbbbjjfecblhpaa.Du
/-
 DERIVED: THE SHELF's CONTRACTS AT THIS DUMP, IN PLAIN WORDS (tools/lay-plain.mjs out of 'TryShelf.lean', which tools/lay-shelf.mjs wrote): THE SAME DECLARATIONS UNDER THE SAME NAMES: 'import', 'namespace', 'open', 'def', 'theorem' AND NOTHING ELSE: no command of the shelf's: FOR A HAND-IN. Each laying: the table of numbers ('.._ren') and one theorem, a field a fact of the dump's own or the kernel's comparison; each contract: ONE APPLICATION.
-/
namespace Go.Proofs
open Go.Shelf
def Try.lays134_ren : Go.Shelf.Ren := ⟨fun | 134 => 116 | 129 => 119 | n => n, fun | 53 => 49 | 3 => 3 | 4 => 4 | 46 => 37 | 5 => 5 | 9 => 9 | n => n, fun | n => n⟩
theorem Try.lays134 : Go.Proofs.Lays.n134 Try.prog Try.lays134_ren := {
 mixed := by kernel_rfl
 f129 := Try.func119.trans (congrArg some (by kernel_rfl))
 f134 := Try.func116.trans (congrArg some (by kernel_rfl))
 t3 := Try.underlying3
 a3 := Try.isAgg3
 z3 := Try.sizeOf3
 v3 := Try.zeroValue3
 t4 := Try.underlying4
 a4 := Try.isAgg4
 z4 := Try.sizeOf4
 v4 := Try.zeroValue4
 t5 := Try.underlying5
 a5 := Try.isAgg5
 z5 := Try.sizeOf5
 v5 := Try.zeroValue5
 t9 := Try.underlying9
 a9 := Try.isAgg9
 z9 := Try.sizeOf9
 v9 := Try.zeroValue9
 t46 := Try.underlying37
 a46 := Try.isAgg37
 z46 := Try.sizeOf37
 v46 := Try.zeroValue37
 t53 := Try.underlying49
 a53 := Try.isAgg49
 z53 := Try.sizeOf49
 v53 := Try.zeroValue49 }
theorem Try.bits_LeadingZeros64 (x : Int) (w : World) (h0 : 0 ≤ x) (h1 : x ≤ 18446744073709551615) :
  Calls Try.prog 116 #[.int .u64 x] w fun e w' => e = .returned (.int .i64 (64 - (Lib.bitLen x.toNat : Int))) ∧ w' = w := Any.bits_LeadingZeros64 Try.lays134 x w h0 h1
def Try.lays215_ren : Go.Shelf.Ren := ⟨fun | 215 => 118 | n => n, fun | 3 => 3 | 4 => 4 | n => n, fun | n => n⟩
theorem Try.lays215 : Go.Proofs.Lays.n215 Try.prog Try.lays215_ren := {
 mixed := by kernel_rfl
 f215 := Try.func118.trans (congrArg some (by kernel_rfl))
 t3 := Try.underlying3
 a3 := Try.isAgg3
 z3 := Try.sizeOf3
 v3 := Try.zeroValue3
 t4 := Try.underlying4
 a4 := Try.isAgg4
 z4 := Try.sizeOf4
 v4 := Try.zeroValue4 }
open Go.RowKit in
theorem Try.cmp_isNaN_int (x : Int) (w : World) :
  Calls Try.prog 118 #[.int .i64 x] w fun e w' => e = .returned (.bool false) ∧ w' = w := Any.cmp_isNaN_int Try.lays215 x w
def Try.lays144_ren : Go.Shelf.Ren := ⟨fun | 144 => 105 | 143 => 113 | 219 => 117 | 217 => 120 | 225 => 121 | 224 => 122 | 267 => 123 | 266 => 124 | 314 => 125 | n => n, fun | 9 => 9 | 4 => 4 | 3 => 3 | 5 => 5 | 46 => 37 | 146 => 166 | 51 => 165 | n => n, fun | 1 => 2 | n => n⟩
theorem Try.lays144 : Go.Proofs.Lays.n144 Try.prog Try.lays144_ren := {
 mixed := by kernel_rfl
 f143 := Try.func113.trans (congrArg some (by kernel_rfl))
 f144 := Try.func105.trans (congrArg some (by kernel_rfl))
 f217 := Try.func120.trans (congrArg some (by kernel_rfl))
 f219 := Try.func117.trans (congrArg some (by kernel_rfl))
 f224 := Try.func122.trans (congrArg some (by kernel_rfl))
 f225 := Try.func121.trans (congrArg some (by kernel_rfl))
 f266 := Try.func124.trans (congrArg some (by kernel_rfl))
 f267 := Try.func123.trans (congrArg some (by kernel_rfl))
 f314 := Try.func125.trans (congrArg some (by kernel_rfl))
 t3 := Try.underlying3
 a3 := Try.isAgg3
 z3 := Try.sizeOf3
 v3 := Try.zeroValue3
 t4 := Try.underlying4
 a4 := Try.isAgg4
 z4 := Try.sizeOf4
 v4 := Try.zeroValue4
 t5 := Try.underlying5
 a5 := Try.isAgg5
 z5 := Try.sizeOf5
 v5 := Try.zeroValue5
 t9 := Try.underlying9
 a9 := Try.isAgg9
 z9 := Try.sizeOf9
 v9 := Try.zeroValue9
 t46 := Try.underlying37
 a46 := Try.isAgg37
 z46 := Try.sizeOf37
 v46 := Try.zeroValue37
 t51 := Try.underlying165
 a51 := Try.isAgg165
 z51 := Try.sizeOf165
 v51 := Try.zeroValue165
 t146 := Try.underlying166
 a146 := Try.isAgg166
 z146 := Try.sizeOf166
 v146 := Try.zeroValue166
 g1 := by kernel_rfl }
open Go.RowKit Go.Lib in
theorem Try.strings_Contains (s sub : ByteArray) (m : Int) (w : World) (hs : s.size < 4294967281) (hm : w.cell? ⟨2, 0, none⟩ = some (.int .i64 m)) :
  Calls Try.prog 105 #[.string s, .string sub] w fun e w' => e = .returned (.bool (Lib.contains s.data.toList sub.data.toList)) ∧ w' = w := Any.strings_Contains Try.lays144 s sub m w hs hm
def Try.lays264_ren : Go.Shelf.Ren := ⟨fun | 264 => 110 | n => n, fun | 53 => 49 | 46 => 37 | n => n, fun | n => n⟩
theorem Try.lays264 : Go.Proofs.Lays.n264 Try.prog Try.lays264_ren := {
 mixed := by kernel_rfl
 f264 := Try.func110.trans (congrArg some (by kernel_rfl))
 t46 := Try.underlying37
 a46 := Try.isAgg37
 z46 := Try.sizeOf37
 v46 := Try.zeroValue37
 t53 := Try.underlying49
 a53 := Try.isAgg49
 z53 := Try.sizeOf49
 v53 := Try.zeroValue49 }
open Go.RowKit Go.Lib in
theorem Try.bits_Mul64 (x y : Nat) (hx : x < 18446744073709551616) (hy : y < 18446744073709551616) (w : World) :
  Calls Try.prog 110 #[.int .u64 x, .int .u64 y] w fun e w' => e = .returned (.tuple #[.int .u64 ((x * y / 18446744073709551616 : Nat) : Int), .int .u64 ((x * y % 18446744073709551616 : Nat) : Int)]) ∧ w' = w := Any.bits_Mul64 Try.lays264 x y hx hy w
end Go.Proofs
/- Contracts by hand: a name. -/
namespace Go.Proofs.Ytbbbjjfecblhpaa.Pd
open Go.RowKit Go.Proofs.YtbbbjjfecblhpaaW.PrintWords Go.Proofs.YtbbbjjfecblhpaaW.PrintLast Go.Proofs.YtbbbjjfecblhpaaW.PrintMore Go.Proofs.Ytbbbjjfecblhpaa.HW
open Pm
set_option linter.unusedVariables false
set_option linter.unusedSimpArgs false
def GV (w : World) : Prop := ∃ m, w.cell? ⟨2, 0, none⟩ = some (.int .i64 m)
theorem GV.lt {w : World} (h : GV w) : 2 < w.heap.size := by
 obtain ⟨m, h⟩ := h
 rcases Nat.lt_or_ge 2 w.heap.size with h1 | h1
 ·exact h1
 ·exfalso
  have e : w.heap[2]? = none := Array.getElem?_eq_none h1
  simp [World.cell?, e] at h
theorem GV.below {w w1 : World} (h : GV w) (hb : Below w.heap.size w w1) : GV w1 := by
 have hl := h.lt
 obtain ⟨m, h⟩ := h
 exact ⟨m, by rw [hb.cell hl]; exact h⟩
theorem bytes_belowP (w : World) (t : ByteArray) : Below w.heap.size w (Lib.bytesWorld w 5 t) := by
 refine ⟨rfl, rfl, rfl, ?_, fun k hk => ?_⟩
 ·rw [Lib.bytesWorld_size]; omega
 ·exact Lib.bytesWorld_at_old _ _ _ k hk
set_option maxRecDepth 100000 in
theorem name_empty (s : ByteArray) (w : World) (h : s.size = 0) : Calls Try.prog 85 #[.string s] w fun e w' => e = .returned (.bool false) ∧ w = w' := by
 have h1 : s.size < 1 := by omega
 clear h
 go_enter Try.func85, Try.ntmps85
 go_wp2_with fail
 go_ret
 exact ⟨rfl, rfl⟩
set_option maxRecDepth 100000 in
theorem name_long (s : ByteArray) (w : World) (h : 20 < s.size) : Calls Try.prog 85 #[.string s] w fun e w' => e = .returned (.bool false) ∧ w = w' := by
 go_enter Try.func85, Try.ntmps85
 go_wp2_with fail
 go_ret
 exact ⟨rfl, rfl⟩
set_option maxRecDepth 100000 in
theorem name_head (s : ByteArray) (w : World) (h0 : 0 < s.size) (h20 : s.size ≤ 20) (hc : (s[0].toNat : Int) < 97 ∨ 122 < (s[0].toNat : Int)) : Calls Try.prog 85 #[.string s] w fun e w' => e = .returned (.bool false) ∧ w = w' := by
 have h1 : 1 ≤ s.size := h0
 rcases hc with hc | hc
 ·go_enter Try.func85, Try.ntmps85
  go_wp2_with fail
  go_ret
  exact ⟨rfl, rfl⟩
 ·have hc2 : 97 ≤ (s[0].toNat : Int) := by omega
  go_enter Try.func85, Try.ntmps85
  go_wp2_with fail
  go_ret
  exact ⟨rfl, rfl⟩
theorem getD_dropP (l : List UInt8) (k : Nat) (h : k < l.length) : l.drop k = l.getD k 0 :: l.drop (k + 1) := by
 rw [List.drop_eq_getElem_cons h, List.getD_eq_getElem?_getD, List.getElem?_eq_getElem h]; rfl
theorem letter_yes {c : UInt8} (h : letter c = true) : (97 ≤ (c.toNat : Int) ∧ (c.toNat : Int) ≤ 122) ∨ (48 ≤ (c.toNat : Int) ∧ (c.toNat : Int) ≤ 57) ∨ (c.toNat : Int) = 45 := by
 simpa [letter, small, other, Bool.or_eq_true, Bool.and_eq_true] using h
theorem letter_not {c : UInt8} (h : letter c = false) : ¬ ((97 ≤ (c.toNat : Int) ∧ (c.toNat : Int) ≤ 122) ∨ (48 ≤ (c.toNat : Int) ∧ (c.toNat : Int) ≤ 57) ∨ (c.toNat : Int) = 45) := by
 intro h2
 have : letter c = true := by simpa [letter, small, other, Bool.or_eq_true, Bool.and_eq_true] using h2
 rw [h] at this; cases this
theorem all_no {l : List UInt8} (h : l.all letter = true) : (32 : UInt8) ∉ l := by
 intro hm
 exact letter_no _ (List.all_eq_true.1 h _ hm) rfl
theorem words_is (s : ByteArray) (h : s.data.toList.all letter = true) : Lib.contains (joined wordsL) ((⟨#[32]⟩ : ByteArray) ++ s ++ (⟨#[32]⟩ : ByteArray)).data.toList = isWord s.data.toList := by
 have e : ((⟨#[32]⟩ : ByteArray) ++ s ++ (⟨#[32]⟩ : ByteArray)).data.toList = 32 :: (s.data.toList ++ [32]) := by simp
 rw [e]
 exact contains_word _ (all_no h)
theorem contains_is (ws s : ByteArray) {w : World} (hw : ws.data.toList = joined wordsL) (h : s.data.toList.all letter = true) (hg : GV w) :
  Calls Try.prog 105 #[.string ws, .string ((⟨#[32]⟩ : ByteArray) ++ s ++ (⟨#[32]⟩ : ByteArray))] w fun e w' => e = .returned (.bool (isWord s.data.toList)) ∧ w = w' := by
 obtain ⟨m, hm⟩ := hg
 have hsz : ws.size < 4294967281 := by
  have : ws.size = ws.data.toList.length := rfl
  rw [this, hw]; decide +kernel
 refine (Try.strings_Contains ws _ m w hsz hm).mono ?_
 rintro e w1 ⟨rfl, rfl⟩
 rw [hw, words_is s h]
 exact ⟨rfl, rfl⟩
set_option maxRecDepth 100000 in
set_option maxHeartbeats 1000000 in
theorem name_tail (s : ByteArray) (w : World) (hg : GV w) (h0 : 0 < s.size) (h20 : s.size ≤ 20) (hc0 : 97 ≤ (s[0].toNat : Int)) (hc1 : (s[0].toNat : Int) ≤ 122) : Calls Try.prog 85 #[.string s] w fun e w' => e = .returned (.bool (s.data.toList.all letter && !isWord s.data.toList)) ∧ Below w.heap.size w w' := by
 have h1 : 1 ≤ s.size := h0
 have HG := Aside0.mk hg
 have hcv := fun (W : World) (t : ByteArray) => Lib.run_convert_string_bytes (P := Try.prog) W 9 153 5 t Try.underlying9 Try.underlying153 Try.underlying5
 have hbel := Aside0.mk (bytes_belowP w s)
 have HC := Aside0.mk (fun j hj => Lib.bytesWorld_cell w 5 s j hj)
 obtain ⟨l, hl⟩ : ∃ l, s.data.toList = l := ⟨_, rfl⟩
 have hlen : l.length = s.size := by rw [← hl]; rfl
 have HL := Aside0.mk hlen
 have HLS := Aside0.mk hl
 obtain ⟨bb, hbb⟩ : ∃ bb, l.all letter = bb := ⟨_, rfl⟩
 have HBB := Aside0.mk hbb
 have hgoal : Aside0 ((s.data.toList.all letter && !isWord s.data.toList) = (bb && !isWord l)) := ⟨by rw [hl, hbb]⟩
 rw [hgoal.out]
 clear hlen hl hbb hg
 go_enter Try.func85, Try.ntmps85
 go_wp2_with fail
 clear hcv
 generalize hW : Lib.bytesWorld w 5 s = W at *
 clear hW
 go_loop [26] (fun i => ∃ (k : Nat), k ≤ s.size ∧ i = .int .i64 k ∧ Aside0 ((l.drop k).all letter = bb)) (fun i => s.size - (intOf i).toNat)
 case atStart => exact ⟨0, Nat.zero_le _, rfl, ⟨by simpa using HBB.out⟩⟩
 case round =>
  obtain ⟨k, hk, rfl, hd⟩ := hrel
  by_cases hlt : k < s.size
  ·have hc := HC.out k hlt
   rw [HLS.out, List.getD_eq_getElem?_getD] at hc
   have hdr := getD_dropP l k (by rw [HL.out]; exact hlt)
   rw [List.getD_eq_getElem?_getD] at hdr
   have hd2 := hd.out
   rw [hdr, List.all_cons] at hd2
   generalize l[k]?.getD 0 = c at *
   clear hdr hd
   have hb0 : 0 ≤ (c.toNat : Int) := by omega
   have hb1 : (c.toNat : Int) ≤ 255 := by have := c.toNat_lt; omega
   cases hcl : letter c with
   | true =>
    rw [hcl, Bool.true_and] at hd2
    have HD := Aside0.mk hd2
    clear hd2
    rcases letter_yes hcl with ⟨q1, q2⟩ | ⟨q1, q2⟩ | q1
    ·clear hcl
     go_wp2_with fail
     go_round
     case rel => exact ⟨k + 1, by omega, by go_num, HD⟩
     case measure => simp [intOf]; omega
    ·have q3 : (c.toNat : Int) < 97 := by omega
     clear hcl
     go_wp2_with fail
     go_round
     case rel => exact ⟨k + 1, by omega, by go_num, HD⟩
     case measure => simp [intOf]; omega
    ·have q3 : (c.toNat : Int) < 97 := by omega
     have q4 : (c.toNat : Int) < 48 := by omega
     have q5 : ((c.toNat : Int) != 45) = false := by rw [q1]; rfl
     have q6 : ((c.toNat : Int) == 45) = true := by rw [q1]; rfl
     clear hcl q1
     go_wp2_with fail
     go_round
     case rel => exact ⟨k + 1, by omega, by go_num, HD⟩
     case measure => simp [intOf]; omega
   | false =>
    rw [hcl, Bool.false_and] at hd2
    subst hd2
    have hno := letter_not hcl
    have q5 : ((c.toNat : Int) != 45) = true := by simp; omega
    have q6 : ((c.toNat : Int) == 45) = false := by simp; omega
    clear hcl
    rcases (by omega : (c.toNat : Int) < 48 ∨ (57 < (c.toNat : Int) ∧ (c.toNat : Int) < 97) ∨ (57 < (c.toNat : Int) ∧ 97 ≤ (c.toNat : Int) ∧ 122 < (c.toNat : Int))) with r | ⟨r, r2⟩ | ⟨r, r2, r3⟩
    ·have r4 : (c.toNat : Int) < 97 := by omega
     clear hno
     go_wp2_with fail
     go_ret
     exact ⟨rfl, hbel.out⟩
    ·have r4 : 48 ≤ (c.toNat : Int) := by omega
     clear hno
     go_wp2_with fail
     go_ret
     exact ⟨rfl, hbel.out⟩
    ·have r4 : 48 ≤ (c.toNat : Int) := by omega
     clear hno
     go_wp2_with fail
     go_ret
     exact ⟨rfl, hbel.out⟩
  ·have hk2 : k = s.size := by omega
   have hd2 := hd.out
   rw [List.drop_of_length_le (by rw [HL.out]; omega)] at hd2
   obtain rfl : true = bb := hd2
   clear hd
   have HBL := Aside0.mk hbel.out
   have HG2 := Aside0.mk (HG.out.below hbel.out)
   have HAL := Aside0.mk (show s.data.toList.all letter = true by rw [HLS.out]; exact HBB.out)
   have HLS2 := HLS
   go_wp2_with fail
   refine (contains_is _ s rfl HAL.out HG2.out).mono ?_
   rintro e w1 ⟨rfl, rfl⟩
   go_wp2_with fail
   go_ret
   exact ⟨by rw [HLS2.out]; simp, HBL.out⟩
theorem toList_head (s : ByteArray) (h0 : 0 < s.size) : ∃ l, s.data.toList = s[0] :: l := by
 obtain ⟨⟨l⟩⟩ := s
 match l, h0 with
 | c :: l, _ => exact ⟨l, rfl⟩
theorem small_letter {c : UInt8} (h : small c = true) : letter c = true := by unfold letter; rw [h]; rfl
theorem name_any (s : ByteArray) (w : World) (hg : GV w) : Calls Try.prog 85 #[.string s] w fun e w' => e = .returned (.bool (nameOk s.data.toList)) ∧ Below w.heap.size w w' := by
 have hsz : s.data.toList.length = s.size := rfl
 by_cases h0 : s.size = 0
 ·refine (name_empty s w h0).mono ?_
  rintro e w1 ⟨rfl, rfl⟩
  refine ⟨?_, Below.refl _ _⟩
  rw [show nameOk s.data.toList = false by unfold nameOk; rw [hsz, h0]; simp]
 ·by_cases h20 : 20 < s.size
  ·refine (name_long s w h20).mono ?_
   rintro e w1 ⟨rfl, rfl⟩
   refine ⟨?_, Below.refl _ _⟩
   rw [show nameOk s.data.toList = false by unfold nameOk; rw [hsz, decide_eq_false (show ¬ s.size ≤ 20 by omega)]; simp]
  ·have hp : 0 < s.size := by omega
   obtain ⟨l, hl⟩ := toList_head s hp
   have e1 : decide (1 ≤ s.data.toList.length) = true := decide_eq_true (by omega)
   have e2 : decide (s.data.toList.length ≤ 20) = true := decide_eq_true (by omega)
   cases hc : small s[0] with
   | true =>
    have hb : 97 ≤ (s[0].toNat : Int) ∧ (s[0].toNat : Int) ≤ 122 := by simpa [small] using hc
    refine (name_tail s w hg hp (by omega) hb.1 hb.2).mono ?_
    rintro e w1 ⟨rfl, hbl⟩
    refine ⟨?_, hbl⟩
    have : nameOk s.data.toList = (s.data.toList.all letter && !isWord s.data.toList) := by
     unfold nameOk
     rw [e1, e2, Bool.and_true, Bool.and_true]
     congr 1
     rw [hl]
     simp only [chars, List.all_cons, hc, small_letter hc]
    rw [this]
   | false =>
    have hb : (s[0].toNat : Int) < 97 ∨ 122 < (s[0].toNat : Int) := by
     have : ¬ (97 ≤ (s[0].toNat : Int) ∧ (s[0].toNat : Int) ≤ 122) := by
      intro h
      have : small s[0] = true := by simpa [small] using h
      rw [hc] at this; cases this
     omega
    refine (name_head s w hp (by omega) hb).mono ?_
    rintro e w1 ⟨rfl, rfl⟩
    refine ⟨?_, Below.refl _ _⟩
    rw [show nameOk s.data.toList = false by unfold nameOk; rw [show chars s.data.toList = false by rw [hl]; simp [chars, hc]]; simp]
end Go.Proofs.Ytbbbjjfecblhpaa.Pd
/- Contracts by hand: a product's shape is looked at. -/
namespace Go.Proofs.Ytbbbjjfecblhpaa.Pd
open Go.RowKit Go.Proofs.YtbbbjjfecblhpaaW.PrintWords Go.Proofs.YtbbbjjfecblhpaaW.PrintLast Go.Proofs.YtbbbjjfecblhpaaW.PrintMore Go.Proofs.Ytbbbjjfecblhpaa.HW
open Pm
set_option linter.unusedVariables false
set_option linter.unusedSimpArgs false
set_option maxRecDepth 100000 in
set_option maxHeartbeats 1000000 in
theorem shape_0 (p : Prod) (A1 : Option Addr) (c1 : Nat) (A2 : Option Addr) (c2 : Nat) (A3 : Option Addr) (c3 : Nat) (w : World) (hg : GV w) (hn : nameOk p.name.data.toList = false) :
  Calls Try.prog 59 #[pv p A1 c1 A2 c2 A3 c3] w fun e w' => e = refusedE ∧ Below w.heap.size w w' := by
 have HG := Aside0.mk hg
 have HN := Aside0.mk hn
 clear hg hn
 go_enter Try.func59, Try.ntmps59
 go_wp2_with (first
  | ((with_reducible refine gate_dst (N := 1) rfl ?_); refine box_event ?hg (N := 1) ?hd (cs := pcs p A1 c1 A2 c2 A3 c3) (t := 104) ?hr ?_; (case hd => rfl); (case hg => rfl); (case hr => first | (go_simp; done) | (go_simp; rfl)); intro g1 hg w1 hb1 hbl1; clear hg)
  | ((with_reducible refine gate_dst (N := 4) rfl ?_); refine wpList_load_row rfl 27 (.tmp 3) rfl g1 rfl 104 _ (0, 0) _ hb1 Try.underlying27 rfl info_prod ?_)
  | ((with_reducible refine gate_dst (N := 2) rfl ?_); refine copy_event rfl (N := 2) rfl rfl rfl (t := 27) (v := .tmp 4) rfl (cs := pcs p A1 c1 A2 c2 A3 c3) (zs := pzs) ?hr rfl rfl info_prod ?hz (pcs_one _ _ _ _ _ _ _) ?_; (case hr => first | (go_simp; done) | (go_simp; rfl)); (case hz => rfl); intro g2 hg w2 hb2 hbl2; clear hg; have HB2 := Aside0.mk hb2; have BL2 := Aside0.mk (below_step hbl1 hbl2); clear hb1 hbl1 hbl2; have q0 := (pc_cells hb2).1; clear hb2))
 refine (name_any p.name _ (HG.out.below BL2.out)).mono ?_
 rw [HN.out]
 rintro e w3 ⟨rfl, hb⟩
 have BL := Aside0.mk (below_step BL2.out hb)
 obtain ⟨_, q1, q2, q3, q4, q5, q6, _⟩ := pc_cells (blk_below HB2.out hb)
 clear hb HB2 BL2 q0 HG
 go_wp2_with fail
 refine (must_no _).mono ?_
 rintro e w' ⟨rfl, rfl⟩
 exact ⟨rfl, rfl, BL.out⟩
set_option maxRecDepth 100000 in
set_option maxHeartbeats 1000000 in
theorem shape_1 (p : Prod) (A1 : Option Addr) (c1 : Nat) (A2 : Option Addr) (c2 : Nat) (A3 : Option Addr) (c3 : Nat) (w : World) (hg : GV w) (hn : nameOk p.name.data.toList = true) (ha : decide (1 ≤ p.count ∧ p.count ≤ 3) = false) :
  Calls Try.prog 59 #[pv p A1 c1 A2 c2 A3 c3] w fun e w' => e = refusedE ∧ Below w.heap.size w w' := by
 have HG := Aside0.mk hg
 have HN := Aside0.mk hn
 have HA := Aside0.mk ha
 clear hg hn ha
 go_enter Try.func59, Try.ntmps59
 go_wp2_with (first
  | ((with_reducible refine gate_dst (N := 1) rfl ?_); refine box_event ?hg (N := 1) ?hd (cs := pcs p A1 c1 A2 c2 A3 c3) (t := 104) ?hr ?_; (case hd => rfl); (case hg => rfl); (case hr => first | (go_simp; done) | (go_simp; rfl)); intro g1 hg w1 hb1 hbl1; clear hg)
  | ((with_reducible refine gate_dst (N := 4) rfl ?_); refine wpList_load_row rfl 27 (.tmp 3) rfl g1 rfl 104 _ (0, 0) _ hb1 Try.underlying27 rfl info_prod ?_)
  | ((with_reducible refine gate_dst (N := 2) rfl ?_); refine copy_event rfl (N := 2) rfl rfl rfl (t := 27) (v := .tmp 4) rfl (cs := pcs p A1 c1 A2 c2 A3 c3) (zs := pzs) ?hr rfl rfl info_prod ?hz (pcs_one _ _ _ _ _ _ _) ?_; (case hr => first | (go_simp; done) | (go_simp; rfl)); (case hz => rfl); intro g2 hg w2 hb2 hbl2; clear hg; have HB2 := Aside0.mk hb2; have BL2 := Aside0.mk (below_step hbl1 hbl2); clear hb1 hbl1 hbl2; have q0 := (pc_cells hb2).1; clear hb2))
 refine (name_any p.name _ (HG.out.below BL2.out)).mono ?_
 rw [HN.out]
 rintro e w3 ⟨rfl, hb⟩
 have BL := Aside0.mk (below_step BL2.out hb)
 obtain ⟨_, q1, q2, q3, q4, q5, q6, _⟩ := pc_cells (blk_below HB2.out hb)
 clear hb HB2 BL2 q0 HG
 go_wp2_with fail
 refine (within_i_is HA.out _).mono ?_
 rintro e w' ⟨rfl, rfl⟩
 go_wp2_with fail
 refine (must_no _).mono ?_
 rintro e w' ⟨rfl, rfl⟩
 exact ⟨rfl, rfl, BL.out⟩
set_option maxRecDepth 100000 in
set_option maxHeartbeats 1000000 in
theorem shape_2 (p : Prod) (A1 : Option Addr) (c1 : Nat) (A2 : Option Addr) (c2 : Nat) (A3 : Option Addr) (c3 : Nat) (w : World) (hg : GV w) (hn : nameOk p.name.data.toList = true) (ha : decide (1 ≤ p.count ∧ p.count ≤ 3) = true) (r1 : (p.round == 1) = false) (r3 : (p.round == 3) = false) :
  Calls Try.prog 59 #[pv p A1 c1 A2 c2 A3 c3] w fun e w' => e = refusedE ∧ Below w.heap.size w w' := by
 have HG := Aside0.mk hg
 have HN := Aside0.mk hn
 have HA := Aside0.mk ha
 clear hg hn ha
 go_enter Try.func59, Try.ntmps59
 go_wp2_with (first
  | ((with_reducible refine gate_dst (N := 1) rfl ?_); refine box_event ?hg (N := 1) ?hd (cs := pcs p A1 c1 A2 c2 A3 c3) (t := 104) ?hr ?_; (case hd => rfl); (case hg => rfl); (case hr => first | (go_simp; done) | (go_simp; rfl)); intro g1 hg w1 hb1 hbl1; clear hg)
  | ((with_reducible refine gate_dst (N := 4) rfl ?_); refine wpList_load_row rfl 27 (.tmp 3) rfl g1 rfl 104 _ (0, 0) _ hb1 Try.underlying27 rfl info_prod ?_)
  | ((with_reducible refine gate_dst (N := 2) rfl ?_); refine copy_event rfl (N := 2) rfl rfl rfl (t := 27) (v := .tmp 4) rfl (cs := pcs p A1 c1 A2 c2 A3 c3) (zs := pzs) ?hr rfl rfl info_prod ?hz (pcs_one _ _ _ _ _ _ _) ?_; (case hr => first | (go_simp; done) | (go_simp; rfl)); (case hz => rfl); intro g2 hg w2 hb2 hbl2; clear hg; have HB2 := Aside0.mk hb2; have BL2 := Aside0.mk (below_step hbl1 hbl2); clear hb1 hbl1 hbl2; have q0 := (pc_cells hb2).1; clear hb2))
 refine (name_any p.name _ (HG.out.below BL2.out)).mono ?_
 rw [HN.out]
 rintro e w3 ⟨rfl, hb⟩
 have BL := Aside0.mk (below_step BL2.out hb)
 obtain ⟨_, q1, q2, q3, q4, q5, q6, _⟩ := pc_cells (blk_below HB2.out hb)
 clear hb HB2 BL2 q0 HG
 go_wp2_with fail
 refine (within_i_is HA.out _).mono ?_
 rintro e w' ⟨rfl, rfl⟩
 go_wp2_with fail
 refine (must_no _).mono ?_
 rintro e w' ⟨rfl, rfl⟩
 exact ⟨rfl, rfl, BL.out⟩
set_option maxRecDepth 100000 in
set_option maxHeartbeats 1000000 in
theorem shape_3 (p : Prod) (A1 : Option Addr) (c1 : Nat) (A2 : Option Addr) (c2 : Nat) (A3 : Option Addr) (c3 : Nat) (w : World) (hg : GV w) (hn : nameOk p.name.data.toList = true) (ha : decide (1 ≤ p.count ∧ p.count ≤ 3) = true) (hr : ((p.round == 1) = true) ∨ ((p.round == 1) = false ∧ (p.round == 3) = true)) (hb : decide (1 ≤ p.kind ∧ p.kind ≤ 3) = false) :
  Calls Try.prog 59 #[pv p A1 c1 A2 c2 A3 c3] w fun e w' => e = refusedE ∧ Below w.heap.size w w' := by
 have HG := Aside0.mk hg
 have HN := Aside0.mk hn
 have HA := Aside0.mk ha
 have HB := Aside0.mk hb
 clear hg hn ha hb
 go_enter Try.func59, Try.ntmps59
 go_wp2_with (first
  | ((with_reducible refine gate_dst (N := 1) rfl ?_); refine box_event ?hg (N := 1) ?hd (cs := pcs p A1 c1 A2 c2 A3 c3) (t := 104) ?hr ?_; (case hd => rfl); (case hg => rfl); (case hr => first | (go_simp; done) | (go_simp; rfl)); intro g1 hg w1 hb1 hbl1; clear hg)
  | ((with_reducible refine gate_dst (N := 4) rfl ?_); refine wpList_load_row rfl 27 (.tmp 3) rfl g1 rfl 104 _ (0, 0) _ hb1 Try.underlying27 rfl info_prod ?_)
  | ((with_reducible refine gate_dst (N := 2) rfl ?_); refine copy_event rfl (N := 2) rfl rfl rfl (t := 27) (v := .tmp 4) rfl (cs := pcs p A1 c1 A2 c2 A3 c3) (zs := pzs) ?hr rfl rfl info_prod ?hz (pcs_one _ _ _ _ _ _ _) ?_; (case hr => first | (go_simp; done) | (go_simp; rfl)); (case hz => rfl); intro g2 hg w2 hb2 hbl2; clear hg; have HB2 := Aside0.mk hb2; have BL2 := Aside0.mk (below_step hbl1 hbl2); clear hb1 hbl1 hbl2; have q0 := (pc_cells hb2).1; clear hb2))
 refine (name_any p.name _ (HG.out.below BL2.out)).mono ?_
 rw [HN.out]
 rintro e w3 ⟨rfl, hb⟩
 have BL := Aside0.mk (below_step BL2.out hb)
 obtain ⟨_, q1, q2, q3, q4, q5, q6, _⟩ := pc_cells (blk_below HB2.out hb)
 clear hb HB2 BL2 q0 HG
 go_wp2_with fail
 refine (within_i_is HA.out _).mono ?_
 rintro e w' ⟨rfl, rfl⟩
 rcases hr with r1 | ⟨r1, r3⟩
 all_goals
  go_wp2_with fail
  refine (within_i_is HB.out _).mono ?_
  rintro e w' ⟨rfl, rfl⟩
  go_wp2_with fail
  refine (must_no _).mono ?_
  rintro e w' ⟨rfl, rfl⟩
  exact ⟨rfl, rfl, BL.out⟩
set_option maxRecDepth 100000 in
set_option maxHeartbeats 1000000 in
theorem shape_4 (p : Prod) (A1 : Option Addr) (c1 : Nat) (A2 : Option Addr) (c2 : Nat) (A3 : Option Addr) (c3 : Nat) (w : World) (hg : GV w) (hn : nameOk p.name.data.toList = true) (ha : decide (1 ≤ p.count ∧ p.count ≤ 3) = true) (hr : ((p.round == 1) = true) ∨ ((p.round == 1) = false ∧ (p.round == 3) = true)) (hb : decide (1 ≤ p.kind ∧ p.kind ≤ 3) = true) (e1 : (p.every == 1) = false) (e2 : (p.every == 2) = false) (e3 : (p.every == 3) = false) (e4 : (p.every == 4) = false) (e6 : (p.every == 6) = false) (e12 : (p.every == 12) = false) :
  Calls Try.prog 59 #[pv p A1 c1 A2 c2 A3 c3] w fun e w' => e = refusedE ∧ Below w.heap.size w w' := by
 have HG := Aside0.mk hg
 have HN := Aside0.mk hn
 have HA := Aside0.mk ha
 have HB := Aside0.mk hb
 clear hg hn ha hb
 go_enter Try.func59, Try.ntmps59
 go_wp2_with (first
  | ((with_reducible refine gate_dst (N := 1) rfl ?_); refine box_event ?hg (N := 1) ?hd (cs := pcs p A1 c1 A2 c2 A3 c3) (t := 104) ?hr ?_; (case hd => rfl); (case hg => rfl); (case hr => first | (go_simp; done) | (go_simp; rfl)); intro g1 hg w1 hb1 hbl1; clear hg)
  | ((with_reducible refine gate_dst (N := 4) rfl ?_); refine wpList_load_row rfl 27 (.tmp 3) rfl g1 rfl 104 _ (0, 0) _ hb1 Try.underlying27 rfl info_prod ?_)
  | ((with_reducible refine gate_dst (N := 2) rfl ?_); refine copy_event rfl (N := 2) rfl rfl rfl (t := 27) (v := .tmp 4) rfl (cs := pcs p A1 c1 A2 c2 A3 c3) (zs := pzs) ?hr rfl rfl info_prod ?hz (pcs_one _ _ _ _ _ _ _) ?_; (case hr => first | (go_simp; done) | (go_simp; rfl)); (case hz => rfl); intro g2 hg w2 hb2 hbl2; clear hg; have HB2 := Aside0.mk hb2; have BL2 := Aside0.mk (below_step hbl1 hbl2); clear hb1 hbl1 hbl2; have q0 := (pc_cells hb2).1; clear hb2))
 refine (name_any p.name _ (HG.out.below BL2.out)).mono ?_
 rw [HN.out]
 rintro e w3 ⟨rfl, hb⟩
 have BL := Aside0.mk (below_step BL2.out hb)
 obtain ⟨_, q1, q2, q3, q4, q5, q6, _⟩ := pc_cells (blk_below HB2.out hb)
 clear hb HB2 BL2 q0 HG
 go_wp2_with fail
 refine (within_i_is HA.out _).mono ?_
 rintro e w' ⟨rfl, rfl⟩
 rcases hr with r1 | ⟨r1, r3⟩
 all_goals
  go_wp2_with fail
  refine (within_i_is HB.out _).mono ?_
  rintro e w' ⟨rfl, rfl⟩
  go_wp2_with fail
  refine (must_yes _).mono ?_
  rintro e w' ⟨rfl, rfl⟩
  go_wp2_with fail
  refine (must_no _).mono ?_
  rintro e w' ⟨rfl, rfl⟩
  exact ⟨rfl, rfl, BL.out⟩
def Ev (x : Int) : Prop := (x == 1) = true ∨ ((x == 1) = false ∧ (x == 2) = true) ∨ ((x == 1) = false ∧ (x == 2) = false ∧ (x == 3) = true) ∨ ((x == 1) = false ∧ (x == 2) = false ∧ (x == 3) = false ∧ (x == 4) = true) ∨ ((x == 1) = false ∧ (x == 2) = false ∧ (x == 3) = false ∧ (x == 4) = false ∧ (x == 6) = true) ∨ ((x == 1) = false ∧ (x == 2) = false ∧ (x == 3) = false ∧ (x == 4) = false ∧ (x == 6) = false ∧ (x == 12) = true)
theorem ev_of {x : Int} (h : x = 1 ∨ x = 2 ∨ x = 3 ∨ x = 4 ∨ x = 6 ∨ x = 12) : Ev x := by
 unfold Ev
 rcases h with rfl | rfl | rfl | rfl | rfl | rfl <;> decide
set_option maxRecDepth 100000 in
set_option maxHeartbeats 1000000 in
theorem shape_5 (p : Prod) (A1 : Option Addr) (c1 : Nat) (A2 : Option Addr) (c2 : Nat) (A3 : Option Addr) (c3 : Nat) (w : World) (hg : GV w) (hn : nameOk p.name.data.toList = true) (ha : decide (1 ≤ p.count ∧ p.count ≤ 3) = true) (hr : ((p.round == 1) = true) ∨ ((p.round == 1) = false ∧ (p.round == 3) = true)) (hb : decide (1 ≤ p.kind ∧ p.kind ≤ 3) = true) (he : Ev p.every) (hc : decide (1 ≤ p.times ∧ p.times ≤ 600) = false) :
  Calls Try.prog 59 #[pv p A1 c1 A2 c2 A3 c3] w fun e w' => e = refusedE ∧ Below w.heap.size w w' := by
 have HG := Aside0.mk hg
 have HN := Aside0.mk hn
 have HA := Aside0.mk ha
 have HB := Aside0.mk hb
 have HC := Aside0.mk hc
 clear hg hn ha hb hc
 go_enter Try.func59, Try.ntmps59
 go_wp2_with (first
  | ((with_reducible refine gate_dst (N := 1) rfl ?_); refine box_event ?hg (N := 1) ?hd (cs := pcs p A1 c1 A2 c2 A3 c3) (t := 104) ?hr ?_; (case hd => rfl); (case hg => rfl); (case hr => first | (go_simp; done) | (go_simp; rfl)); intro g1 hg w1 hb1 hbl1; clear hg)
  | ((with_reducible refine gate_dst (N := 4) rfl ?_); refine wpList_load_row rfl 27 (.tmp 3) rfl g1 rfl 104 _ (0, 0) _ hb1 Try.underlying27 rfl info_prod ?_)
  | ((with_reducible refine gate_dst (N := 2) rfl ?_); refine copy_event rfl (N := 2) rfl rfl rfl (t := 27) (v := .tmp 4) rfl (cs := pcs p A1 c1 A2 c2 A3 c3) (zs := pzs) ?hr rfl rfl info_prod ?hz (pcs_one _ _ _ _ _ _ _) ?_; (case hr => first | (go_simp; done) | (go_simp; rfl)); (case hz => rfl); intro g2 hg w2 hb2 hbl2; clear hg; have HB2 := Aside0.mk hb2; have BL2 := Aside0.mk (below_step hbl1 hbl2); clear hb1 hbl1 hbl2; have q0 := (pc_cells hb2).1; clear hb2))
 refine (name_any p.name _ (HG.out.below BL2.out)).mono ?_
 rw [HN.out]
 rintro e w3 ⟨rfl, hb⟩
 have BL := Aside0.mk (below_step BL2.out hb)
 obtain ⟨_, q1, q2, q3, q4, q5, q6, _⟩ := pc_cells (blk_below HB2.out hb)
 clear hb HB2 BL2 q0 HG
 go_wp2_with fail
 refine (within_i_is HA.out _).mono ?_
 rintro e w' ⟨rfl, rfl⟩
 rcases hr with r1 | ⟨r1, r3⟩
 all_goals
  go_wp2_with fail
  refine (within_i_is HB.out _).mono ?_
  rintro e w' ⟨rfl, rfl⟩
  go_wp2_with fail
  refine (must_yes _).mono ?_
  rintro e w' ⟨rfl, rfl⟩
  rcases he with e1 | ⟨e1, e2⟩ | ⟨e1, e2, e3⟩ | ⟨e1, e2, e3, e4⟩ | ⟨e1, e2, e3, e4, e6⟩ | ⟨e1, e2, e3, e4, e6, e12⟩
  all_goals
   go_wp2_with fail
   refine (must_yes _).mono ?_
   rintro e w' ⟨rfl, rfl⟩
   go_wp2_with fail
   refine (within_i_is HC.out _).mono ?_
   rintro e w' ⟨rfl, rfl⟩
   go_wp2_with fail
   refine (must_no _).mono ?_
   rintro e w' ⟨rfl, rfl⟩
   exact ⟨rfl, rfl, BL.out⟩
set_option maxRecDepth 100000 in
set_option maxHeartbeats 1000000 in
theorem shape_6 (p : Prod) (A1 : Option Addr) (c1 : Nat) (A2 : Option Addr) (c2 : Nat) (A3 : Option Addr) (c3 : Nat) (w : World) (hg : GV w) (hn : nameOk p.name.data.toList = true) (ha : decide (1 ≤ p.count ∧ p.count ≤ 3) = true) (hr : ((p.round == 1) = true) ∨ ((p.round == 1) = false ∧ (p.round == 3) = true)) (hb : decide (1 ≤ p.kind ∧ p.kind ≤ 3) = true) (he : Ev p.every) (hc : decide (1 ≤ p.times ∧ p.times ≤ 600) = true) (t1 : 1 ≤ p.times) (t2 : p.times ≤ 600) (hd : decide (0 ≤ p.grace ∧ p.grace ≤ p.times - 1) = false) :
  Calls Try.prog 59 #[pv p A1 c1 A2 c2 A3 c3] w fun e w' => e = refusedE ∧ Below w.heap.size w w' := by
 have HG := Aside0.mk hg
 have HN := Aside0.mk hn
 have HA := Aside0.mk ha
 have HB := Aside0.mk hb
 have HC := Aside0.mk hc
 have HD := Aside0.mk hd
 clear hg hn ha hb hc hd
 go_enter Try.func59, Try.ntmps59
 go_wp2_with (first
  | ((with_reducible refine gate_dst (N := 1) rfl ?_); refine box_event ?hg (N := 1) ?hd (cs := pcs p A1 c1 A2 c2 A3 c3) (t := 104) ?hr ?_; (case hd => rfl); (case hg => rfl); (case hr => first | (go_simp; done) | (go_simp; rfl)); intro g1 hg w1 hb1 hbl1; clear hg)
  | ((with_reducible refine gate_dst (N := 4) rfl ?_); refine wpList_load_row rfl 27 (.tmp 3) rfl g1 rfl 104 _ (0, 0) _ hb1 Try.underlying27 rfl info_prod ?_)
  | ((with_reducible refine gate_dst (N := 2) rfl ?_); refine copy_event rfl (N := 2) rfl rfl rfl (t := 27) (v := .tmp 4) rfl (cs := pcs p A1 c1 A2 c2 A3 c3) (zs := pzs) ?hr rfl rfl info_prod ?hz (pcs_one _ _ _ _ _ _ _) ?_; (case hr => first | (go_simp; done) | (go_simp; rfl)); (case hz => rfl); intro g2 hg w2 hb2 hbl2; clear hg; have HB2 := Aside0.mk hb2; have BL2 := Aside0.mk (below_step hbl1 hbl2); clear hb1 hbl1 hbl2; have q0 := (pc_cells hb2).1; clear hb2))
 refine (name_any p.name _ (HG.out.below BL2.out)).mono ?_
 rw [HN.out]
 rintro e w3 ⟨rfl, hb⟩
 have BL := Aside0.mk (below_step BL2.out hb)
 obtain ⟨_, q1, q2, q3, q4, q5, q6, _⟩ := pc_cells (blk_below HB2.out hb)
 clear hb HB2 BL2 q0 HG
 go_wp2_with fail
 refine (within_i_is HA.out _).mono ?_
 rintro e w' ⟨rfl, rfl⟩
 rcases hr with r1 | ⟨r1, r3⟩
 all_goals
  go_wp2_with fail
  refine (within_i_is HB.out _).mono ?_
  rintro e w' ⟨rfl, rfl⟩
  go_wp2_with fail
  refine (must_yes _).mono ?_
  rintro e w' ⟨rfl, rfl⟩
  rcases he with e1 | ⟨e1, e2⟩ | ⟨e1, e2, e3⟩ | ⟨e1, e2, e3, e4⟩ | ⟨e1, e2, e3, e4, e6⟩ | ⟨e1, e2, e3, e4, e6, e12⟩
  all_goals
   go_wp2_with fail
   refine (must_yes _).mono ?_
   rintro e w' ⟨rfl, rfl⟩
   go_wp2_with fail
   refine (within_i_is HC.out _).mono ?_
   rintro e w' ⟨rfl, rfl⟩
   go_wp2_with fail
   refine (within_i_is HD.out _).mono ?_
   rintro e w' ⟨rfl, rfl⟩
   go_wp2_with fail
   refine (must_no _).mono ?_
   rintro e w' ⟨rfl, rfl⟩
   exact ⟨rfl, rfl, BL.out⟩
set_option maxRecDepth 100000 in
set_option maxHeartbeats 1000000 in
theorem shape_7 (p : Prod) (A1 : Option Addr) (c1 : Nat) (A2 : Option Addr) (c2 : Nat) (A3 : Option Addr) (c3 : Nat) (w : World) (hg : GV w) (hn : nameOk p.name.data.toList = true) (ha : decide (1 ≤ p.count ∧ p.count ≤ 3) = true) (hr : ((p.round == 1) = true) ∨ ((p.round == 1) = false ∧ (p.round == 3) = true)) (hb : decide (1 ≤ p.kind ∧ p.kind ≤ 3) = true) (he : Ev p.every) (hc : decide (1 ≤ p.times ∧ p.times ≤ 600) = true) (t1 : 1 ≤ p.times) (t2 : p.times ≤ 600) (hd : decide (0 ≤ p.grace ∧ p.grace ≤ p.times - 1) = true) (k1 : (p.kind != 3) = false) (g0 : (p.grace == 0) = false) :
  Calls Try.prog 59 #[pv p A1 c1 A2 c2 A3 c3] w fun e w' => e = refusedE ∧ Below w.heap.size w w' := by
 have HG := Aside0.mk hg
 have HN := Aside0.mk hn
 have HA := Aside0.mk ha
 have HB := Aside0.mk hb
 have HC := Aside0.mk hc
 have HD := Aside0.mk hd
 clear hg hn ha hb hc hd
 go_enter Try.func59, Try.ntmps59
 go_wp2_with (first
  | ((with_reducible refine gate_dst (N := 1) rfl ?_); refine box_event ?hg (N := 1) ?hd (cs := pcs p A1 c1 A2 c2 A3 c3) (t := 104) ?hr ?_; (case hd => rfl); (case hg => rfl); (case hr => first | (go_simp; done) | (go_simp; rfl)); intro g1 hg w1 hb1 hbl1; clear hg)
  | ((with_reducible refine gate_dst (N := 4) rfl ?_); refine wpList_load_row rfl 27 (.tmp 3) rfl g1 rfl 104 _ (0, 0) _ hb1 Try.underlying27 rfl info_prod ?_)
  | ((with_reducible refine gate_dst (N := 2) rfl ?_); refine copy_event rfl (N := 2) rfl rfl rfl (t := 27) (v := .tmp 4) rfl (cs := pcs p A1 c1 A2 c2 A3 c3) (zs := pzs) ?hr rfl rfl info_prod ?hz (pcs_one _ _ _ _ _ _ _) ?_; (case hr => first | (go_simp; done) | (go_simp; rfl)); (case hz => rfl); intro g2 hg w2 hb2 hbl2; clear hg; have HB2 := Aside0.mk hb2; have BL2 := Aside0.mk (below_step hbl1 hbl2); clear hb1 hbl1 hbl2; have q0 := (pc_cells hb2).1; clear hb2))
 refine (name_any p.name _ (HG.out.below BL2.out)).mono ?_
 rw [HN.out]
 rintro e w3 ⟨rfl, hb⟩
 have BL := Aside0.mk (below_step BL2.out hb)
 obtain ⟨_, q1, q2, q3, q4, q5, q6, _⟩ := pc_cells (blk_below HB2.out hb)
 clear hb HB2 BL2 q0 HG
 go_wp2_with fail
 refine (within_i_is HA.out _).mono ?_
 rintro e w' ⟨rfl, rfl⟩
 rcases hr with r1 | ⟨r1, r3⟩
 all_goals
  go_wp2_with fail
  refine (within_i_is HB.out _).mono ?_
  rintro e w' ⟨rfl, rfl⟩
  go_wp2_with fail
  refine (must_yes _).mono ?_
  rintro e w' ⟨rfl, rfl⟩
  rcases he with e1 | ⟨e1, e2⟩ | ⟨e1, e2, e3⟩ | ⟨e1, e2, e3, e4⟩ | ⟨e1, e2, e3, e4, e6⟩ | ⟨e1, e2, e3, e4, e6, e12⟩
  all_goals
   go_wp2_with fail
   refine (must_yes _).mono ?_
   rintro e w' ⟨rfl, rfl⟩
   go_wp2_with fail
   refine (within_i_is HC.out _).mono ?_
   rintro e w' ⟨rfl, rfl⟩
   go_wp2_with fail
   refine (within_i_is HD.out _).mono ?_
   rintro e w' ⟨rfl, rfl⟩
   go_wp2_with fail
   refine (must_no _).mono ?_
   rintro e w' ⟨rfl, rfl⟩
   exact ⟨rfl, rfl, BL.out⟩
set_option maxRecDepth 100000 in
set_option maxHeartbeats 1000000 in
theorem shape_8 (p : Prod) (A1 : Option Addr) (c1 : Nat) (A2 : Option Addr) (c2 : Nat) (A3 : Option Addr) (c3 : Nat) (w : World) (hg : GV w) (hn : nameOk p.name.data.toList = true) (ha : decide (1 ≤ p.count ∧ p.count ≤ 3) = true) (hr : ((p.round == 1) = true) ∨ ((p.round == 1) = false ∧ (p.round == 3) = true)) (hb : decide (1 ≤ p.kind ∧ p.kind ≤ 3) = true) (he : Ev p.every) (hc : decide (1 ≤ p.times ∧ p.times ≤ 600) = true) (t1 : 1 ≤ p.times) (t2 : p.times ≤ 600) (hd : decide (0 ≤ p.grace ∧ p.grace ≤ p.times - 1) = true) (hk : (p.kind != 3) = true ∨ ((p.kind != 3) = false ∧ (p.grace == 0) = true)) :
  Calls Try.prog 59 #[pv p A1 c1 A2 c2 A3 c3] w fun e w' => e = .returned (.tuple #[]) ∧ Below w.heap.size w w' := by
 have HG := Aside0.mk hg
 have HN := Aside0.mk hn
 have HA := Aside0.mk ha
 have HB := Aside0.mk hb
 have HC := Aside0.mk hc
 have HD := Aside0.mk hd
 clear hg hn ha hb hc hd
 go_enter Try.func59, Try.ntmps59
 go_wp2_with (first
  | ((with_reducible refine gate_dst (N := 1) rfl ?_); refine box_event ?hg (N := 1) ?hd (cs := pcs p A1 c1 A2 c2 A3 c3) (t := 104) ?hr ?_; (case hd => rfl); (case hg => rfl); (case hr => first | (go_simp; done) | (go_simp; rfl)); intro g1 hg w1 hb1 hbl1; clear hg)
  | ((with_reducible refine gate_dst (N := 4) rfl ?_); refine wpList_load_row rfl 27 (.tmp 3) rfl g1 rfl 104 _ (0, 0) _ hb1 Try.underlying27 rfl info_prod ?_)
  | ((with_reducible refine gate_dst (N := 2) rfl ?_); refine copy_event rfl (N := 2) rfl rfl rfl (t := 27) (v := .tmp 4) rfl (cs := pcs p A1 c1 A2 c2 A3 c3) (zs := pzs) ?hr rfl rfl info_prod ?hz (pcs_one _ _ _ _ _ _ _) ?_; (case hr => first | (go_simp; done) | (go_simp; rfl)); (case hz => rfl); intro g2 hg w2 hb2 hbl2; clear hg; have HB2 := Aside0.mk hb2; have BL2 := Aside0.mk (below_step hbl1 hbl2); clear hb1 hbl1 hbl2; have q0 := (pc_cells hb2).1; clear hb2))
 refine (name_any p.name _ (HG.out.below BL2.out)).mono ?_
 rw [HN.out]
 rintro e w3 ⟨rfl, hb⟩
 have BL := Aside0.mk (below_step BL2.out hb)
 obtain ⟨_, q1, q2, q3, q4, q5, q6, _⟩ := pc_cells (blk_below HB2.out hb)
 clear hb HB2 BL2 q0 HG
 go_wp2_with fail
 refine (within_i_is HA.out _).mono ?_
 rintro e w' ⟨rfl, rfl⟩
 rcases hr with r1 | ⟨r1, r3⟩
 all_goals
  go_wp2_with fail
  refine (within_i_is HB.out _).mono ?_
  rintro e w' ⟨rfl, rfl⟩
  go_wp2_with fail
  refine (must_yes _).mono ?_
  rintro e w' ⟨rfl, rfl⟩
  rcases he with e1 | ⟨e1, e2⟩ | ⟨e1, e2, e3⟩ | ⟨e1, e2, e3, e4⟩ | ⟨e1, e2, e3, e4, e6⟩ | ⟨e1, e2, e3, e4, e6, e12⟩
  all_goals
   go_wp2_with fail
   refine (must_yes _).mono ?_
   rintro e w' ⟨rfl, rfl⟩
   go_wp2_with fail
   refine (within_i_is HC.out _).mono ?_
   rintro e w' ⟨rfl, rfl⟩
   go_wp2_with fail
   refine (within_i_is HD.out _).mono ?_
   rintro e w' ⟨rfl, rfl⟩
   rcases hk with k1 | ⟨k1, g0⟩
   all_goals
    go_wp2_with fail
    refine (must_yes _).mono ?_
    rintro e w' ⟨rfl, rfl⟩
    go_wp2_with fail
    go_end0
    exact ⟨rfl, BL.out⟩
def LookE (b : Bool) (w : World) (e : Ending) (w' : World) : Prop := (b = true → e = .returned (.tuple #[])) ∧ (b = false → e = refusedE) ∧ Below w.heap.size w w'
theorem LookE.no {w : World} {e : Ending} {w' : World} (h : e = refusedE ∧ Below w.heap.size w w') : LookE false w e w' := ⟨fun h => by (cases h), fun _ => h.1, h.2⟩
theorem LookE.yes {w : World} {e : Ending} {w' : World} (h : e = .returned (.tuple #[]) ∧ Below w.heap.size w w') : LookE true w e w' := ⟨fun _ => h.1, fun h => by (cases h), h.2⟩
theorem beqf {x y : Int} (h : ¬ x = y) : (x == y) = false := by rw [beq_eq_false_iff_ne]; exact h
theorem beqt {x y : Int} (h : x = y) : (x == y) = true := by rw [beq_iff_eq]; exact h
theorem shape_any (p : Prod) (A1 : Option Addr) (c1 : Nat) (A2 : Option Addr) (c2 : Nat) (A3 : Option Addr) (c3 : Nat) (w : World) (hg : GV w) : Calls Try.prog 59 #[pv p A1 c1 A2 c2 A3 c3] w (LookE (shapeOk p) w) := by
 cases hn : nameOk p.name.data.toList with
 | false =>
  rw [show shapeOk p = false by unfold shapeOk; rw [hn]; rfl]
  exact (shape_0 p A1 c1 A2 c2 A3 c3 w hg hn).mono fun e w' h => LookE.no h
 | true =>
  unfold shapeOk
  rw [hn, Bool.true_and]
  by_cases ha : 1 ≤ p.count ∧ p.count ≤ 3
  case neg =>
   rw [decide_eq_false (fun h => ha h.1)]
   exact (shape_1 p A1 c1 A2 c2 A3 c3 w hg hn (decide_eq_false ha)).mono fun e w' h => LookE.no h
  by_cases hr : p.round = 1 ∨ p.round = 3
  case neg =>
   rw [decide_eq_false (fun h => hr h.2.1)]
   exact (shape_2 p A1 c1 A2 c2 A3 c3 w hg hn (decide_eq_true ha) (beqf (fun h => hr (Or.inl h))) (beqf (fun h => hr (Or.inr h)))).mono fun e w' h => LookE.no h
  have hr' : ((p.round == 1) = true) ∨ ((p.round == 1) = false ∧ (p.round == 3) = true) := by
   rcases hr with h | h
   ·exact Or.inl (beqt h)
   ·exact Or.inr ⟨beqf (by omega), beqt h⟩
  by_cases hb : 1 ≤ p.kind ∧ p.kind ≤ 3
  case neg =>
   rw [decide_eq_false (fun h => hb h.2.2.1)]
   exact (shape_3 p A1 c1 A2 c2 A3 c3 w hg hn (decide_eq_true ha) hr' (decide_eq_false hb)).mono fun e w' h => LookE.no h
  by_cases he : p.every = 1 ∨ p.every = 2 ∨ p.every = 3 ∨ p.every = 4 ∨ p.every = 6 ∨ p.every = 12
  case neg =>
   rw [decide_eq_false (fun h => he h.2.2.2.1)]
   exact (shape_4 p A1 c1 A2 c2 A3 c3 w hg hn (decide_eq_true ha) hr' (decide_eq_true hb) (beqf (by omega)) (beqf (by omega)) (beqf (by omega)) (beqf (by omega)) (beqf (by omega)) (beqf (by omega))).mono fun e w' h => LookE.no h
  by_cases hc : 1 ≤ p.times ∧ p.times ≤ 600
  case neg =>
   rw [decide_eq_false (fun h => hc h.2.2.2.2.1)]
   exact (shape_5 p A1 c1 A2 c2 A3 c3 w hg hn (decide_eq_true ha) hr' (decide_eq_true hb) (ev_of he) (decide_eq_false hc)).mono fun e w' h => LookE.no h
  by_cases hd : 0 ≤ p.grace ∧ p.grace ≤ p.times - 1
  case neg =>
   rw [decide_eq_false (fun h => hd h.2.2.2.2.2.1)]
   exact (shape_6 p A1 c1 A2 c2 A3 c3 w hg hn (decide_eq_true ha) hr' (decide_eq_true hb) (ev_of he) (decide_eq_true hc) hc.1 hc.2 (decide_eq_false hd)).mono fun e w' h => LookE.no h
  by_cases hk : p.kind = 3 → p.grace = 0
  case neg =>
   rw [decide_eq_false (fun h => hk h.2.2.2.2.2.2)]
   exact (shape_7 p A1 c1 A2 c2 A3 c3 w hg hn (decide_eq_true ha) hr' (decide_eq_true hb) (ev_of he) (decide_eq_true hc) hc.1 hc.2 (decide_eq_true hd) (by simp; omega) (beqf (by omega))).mono fun e w' h => LookE.no h
  rw [decide_eq_true (show _ from ⟨ha, hr, hb, he, hc, hd, hk⟩)]
  refine (shape_8 p A1 c1 A2 c2 A3 c3 w hg hn (decide_eq_true ha) hr' (decide_eq_true hb) (ev_of he) (decide_eq_true hc) hc.1 hc.2 (decide_eq_true hd) ?_).mono fun e w' h => LookE.yes h
  by_cases h3 : p.kind = 3
  ·exact Or.inr ⟨by simp [h3], beqt (hk h3)⟩
  ·exact Or.inl (by simpa using h3)
end Go.Proofs.Ytbbbjjfecblhpaa.Pd
/- Words by hand: rows of two numbers; a new variable for each round. -/
namespace Go.Proofs.Ytbbbjjfecblhpaa.Pd
open Go.RowKit Go.Proofs.YtbbbjjfecblhpaaW.PrintWords Go.Proofs.YtbbbjjfecblhpaaW.PrintLast Go.Proofs.YtbbbjjfecblhpaaW.PrintMore Go.Proofs.Ytbbbjjfecblhpaa.HW
open Pm
set_option linter.unusedVariables false
set_option linter.unusedSimpArgs false
theorem cell_ltR {w : World} {ad : Addr} {v : Value} (h : w.cell? ad = some v) : ad.block < w.heap.size := by
 rcases Nat.lt_or_ge ad.block w.heap.size with h1 | h1
 ·exact h1
 ·exfalso
  have e : w.heap[ad.block]? = none := Array.getElem?_eq_none h1
  simp [World.cell?, e] at h
theorem add_fieldR (ad : Addr) (n j : Nat) (hj : 0 < j) : ad.add (n + j) = ⟨(ad.add n).block, (ad.add n).off + j, none⟩ := by
 simp only [Addr.add]
 rw [if_neg (by omega)]
 split
 ·rename_i h; subst h; simp
 ·simp; omega
theorem two_at {w : World} {A : Option Addr} {rows : List (List Int)} (h : Op.IntRows w A 2 rows) (k : Nat) (hk : k < rows.length) : ∃ ad x y, A = some ad ∧ rows[k]? = some [x, y] ∧ w.cell? (ad.add (k * 2)) = some (.int .i64 x) ∧ w.cell? ⟨(ad.add (k * 2)).block, (ad.add (k * 2)).off + 1, none⟩ = some (.int .i64 y) ∧ (Lit.int .i64 x).wf = true ∧ (Lit.int .i64 y).wf = true := by
 obtain ⟨h1, h2⟩ := h.1 _ (List.getElem_mem hk)
 obtain ⟨ad, e, hc⟩ := h.2 k _ (List.getElem?_eq_getElem hk)
 rw [List.getElem?_eq_getElem hk]
 generalize rows[k] = r at *
 match r, h1 with
 | [x, y], _ => exact ⟨ad, x, y, e, rfl, hc 0 x rfl, by rw [← add_fieldR _ _ _ (by decide)]; exact hc 1 y rfl, h2 x (by simp), h2 y (by simp)⟩
theorem drop_row {rows : List (List Int)} {k : Nat} {r : List Int} (h : rows[k]? = some r) : rows.drop k = r :: rows.drop (k + 1) := by
 obtain ⟨hk, rfl⟩ := List.getElem?_eq_some_iff.1 h
 exact List.drop_eq_getElem_cons hk
section
variable {P : Program} {ops : Array Oper} {rest : List Oper} {a : Act} {Q : Exit → Act → World → Prop}
theorem copy_event3 {W : World} {o1 om o2 : Oper} (hg1 : o1.guard = none) {N : Tmp} (hd1 : o1.dst = some N) (hgm : om.guard = none) (hg2 : o2.guard = none) (hd2 : o2.dst = none) {t : TypeId} {v : Operand} (ho2 : o2.op = .store t (.tmp N) v) {cs zs : Array Value} {vm : Value}
  (hrun : (execOp a.eval o1).run P W = .ok (.value (.pointer (some ⟨W.heap.size, 0, none⟩))) (W.alloc (.cells zs t (0, 0))))
  (hrm : ∀ W', (execOp (a.put o1.dst (.pointer (some ⟨W.heap.size, 0, none⟩))).eval om).run P W' = .ok (.value vm) W')
  (hp : ((a.put o1.dst (.pointer (some ⟨W.heap.size, 0, none⟩))).put om.dst vm).eval (.tmp N) = .pointer (some ⟨W.heap.size, 0, none⟩))
  (hv : ((a.put o1.dst (.pointer (some ⟨W.heap.size, 0, none⟩))).put om.dst vm).eval v = .agg cs)
  (hi : (P.info? t).map (·.size) = some cs.size) (hz : zs.size = cs.size) (h1 : cs.all (·.oneCell') = true)
  (h : ∀ g, g = W.heap.size → ∀ w1, w1.heap[g]? = some (.cells cs t (0, 0)) → Below W.heap.size W w1 → wpList P ops Q rest ((a.put o1.dst (.pointer (some ⟨g, 0, none⟩))).put om.dst vm) w1) : wpList P ops Q (o1 :: om :: o2 :: rest) a W := by
 refine Kd.event_run hg1 hrun ?_
 refine Kd.event_run hgm (hrm _) ?_
 refine wpList_store_row hg2 t (.tmp N) v ho2 W.heap.size cs hp hv t zs (heap_alloc_new W _) hi hz h1 ?_
 rw [hd2, World.setRow_alloc_new]
 exact h _ rfl _ (blk_new W _) (below_alloc (Below.refl _ _) _)
end
theorem within_i0 {v a b : Int} {r : Bool} (h : decide (a ≤ v ∧ v ≤ b) = r) (w : World) : Calls Try.prog 86 #[.int .i64 v, .int .i64 a, .int .i64 b] w fun e w' => e = .returned (.bool r) ∧ w' = w := (within_i_is h w).mono fun _ _ h => ⟨h.1, h.2.symm⟩
theorem within_l0 {v a b : Int} {r : Bool} (h : decide (a ≤ v ∧ v ≤ b) = r) (w : World) : Calls Try.prog 87 #[.int .i64 v, .int .i64 a, .int .i64 b] w fun e w' => e = .returned (.bool r) ∧ w' = w := (within_l_is h w).mono fun _ _ h => ⟨h.1, h.2.symm⟩
theorem info_reset : (Try.prog.info? 126).map (·.size) = some 2 := by kernel_rfl
theorem info_tier : (Try.prog.info? 128).map (·.size) = some 2 := by kernel_rfl
theorem two_one (x y : Int) : (#[Value.int .i64 x, Value.int .i64 y]).all (·.oneCell') = true := by simp [Value.oneCell']
theorem wf_bd {x : Int} (h : (Lit.int .i64 x).wf = true) : -9223372036854775808 ≤ x ∧ x ≤ 9223372036854775807 := by
 have h := (Bool.and_eq_true _ _).mp h
 exact ⟨of_decide_eq_true h.1, of_decide_eq_true h.2⟩
def prevOf (d : Int) (j : Nat) (rows : List (List Int)) (k : Nat) : Int := if k = 0 then d else (rows.getD (k - 1) []).getD j 0
theorem prevOf_succ {d : Int} {j : Nat} {rows : List (List Int)} {k : Nat} {r : List Int} (h : rows[k]? = some r) : prevOf d j rows (k + 1) = r.getD j 0 := by
 unfold prevOf
 rw [if_neg (by omega)]
 have e : rows.getD k [] = r := by rw [List.getD_eq_getElem?_getD, h]; rfl
 show (rows.getD k []).getD j 0 = _
 rw [e]
theorem prevOf_pos {d : Int} {j : Nat} {rows : List (List Int)} {k : Nat} (h0 : 0 < k) {r : List Int} (h : rows[k - 1]? = some r) : prevOf d j rows k = r.getD j 0 := by
 unfold prevOf
 have e : rows.getD (k - 1) [] = r := by rw [List.getD_eq_getElem?_getD, h]; rfl
 rw [if_neg (by omega), e]
end Go.Proofs.Ytbbbjjfecblhpaa.Pd
/- Contracts by hand: a product's rates are looked at. -/
namespace Go.Proofs.Ytbbbjjfecblhpaa.Pd
open Go.RowKit Go.Proofs.YtbbbjjfecblhpaaW.PrintWords Go.Proofs.YtbbbjjfecblhpaaW.PrintLast Go.Proofs.YtbbbjjfecblhpaaW.PrintMore Go.Proofs.Ytbbbjjfecblhpaa.HW
open Pm
set_option linter.unusedVariables false
set_option linter.unusedSimpArgs false
set_option maxRecDepth 100000 in
set_option maxHeartbeats 2000000 in
theorem rates_1 (p : Prod) (A1 : Option Addr) (c1 : Nat) (A2 : Option Addr) (c2 : Nat) (A3 : Option Addr) (c3 : Nat) (w : World) (ha : decide (0 ≤ p.rate ∧ p.rate ≤ 1000000000) = false) :
  Calls Try.prog 60 #[pv p A1 c1 A2 c2 A3 c3] w (fun e w' => e = refusedE ∧ Below w.heap.size w w') := by
 have HA := Aside0.mk ha
 clear ha
 go_enter Try.func60, Try.ntmps60
 go_wp2_with (first
  | ((with_reducible refine gate_dst (N := 1) rfl ?_); refine box_event ?hg (N := 1) ?hd (cs := pcs p A1 c1 A2 c2 A3 c3) (t := 104) ?hr ?_; (case hd => rfl); (case hg => rfl); (case hr => first | (go_simp; done) | (go_simp; rfl)); intro g1 hg w1 hb1 hbl1; clear hg)
  | ((with_reducible refine gate_dst (N := 6) rfl ?_); refine wpList_load_row rfl 27 (.tmp 5) rfl g1 rfl 104 _ (0, 0) _ hb1 Try.underlying27 rfl info_prod ?_)
  | ((with_reducible refine gate_dst (N := 2) rfl ?_); refine copy_event rfl (N := 2) rfl rfl rfl (t := 27) (v := .tmp 6) rfl (cs := pcs p A1 c1 A2 c2 A3 c3) (zs := pzs) ?hr rfl rfl info_prod ?hz (pcs_one _ _ _ _ _ _ _) ?_; (case hr => first | (go_simp; done) | (go_simp; rfl)); (case hz => rfl); intro g2 hg w2 hb2 hbl2; have g2lt := blk_lt hb2; have g2ge := (show w.heap.size ≤ g2 by rw [hg]; exact hbl1.size); clear hg; have HB2 := Aside0.mk hb2; have BL2 := Aside0.mk (below_step hbl1 hbl2); clear hb1 hbl1 hbl2; have QQ := Aside0.mk (pc_cells hb2); clear hb2; obtain ⟨-, -, -, -, -, q5, -, q7, q8, q9, -⟩ := QQ.out))
 go_wp2_with fail
 refine (within_l_is HA.out _).mono ?_
 rintro e w' ⟨rfl, rfl⟩
 go_wp2_with fail
 refine (must_no _).mono ?_
 rintro e w' ⟨rfl, rfl⟩
 exact ⟨rfl, rfl, BL2.out⟩
set_option maxRecDepth 100000 in
set_option maxHeartbeats 2000000 in
theorem rates_2 (p : Prod) (A1 : Option Addr) (c1 : Nat) (A2 : Option Addr) (c2 : Nat) (A3 : Option Addr) (c3 : Nat) (w : World) (ha : decide (0 ≤ p.rate ∧ p.rate ≤ 1000000000) = true) (hb : decide (0 ≤ p.penalty ∧ p.penalty ≤ 1000000000) = false) :
  Calls Try.prog 60 #[pv p A1 c1 A2 c2 A3 c3] w (fun e w' => e = refusedE ∧ Below w.heap.size w w') := by
 have HA := Aside0.mk ha
 have HB := Aside0.mk hb
 clear ha hb
 go_enter Try.func60, Try.ntmps60
 go_wp2_with (first
  | ((with_reducible refine gate_dst (N := 1) rfl ?_); refine box_event ?hg (N := 1) ?hd (cs := pcs p A1 c1 A2 c2 A3 c3) (t := 104) ?hr ?_; (case hd => rfl); (case hg => rfl); (case hr => first | (go_simp; done) | (go_simp; rfl)); intro g1 hg w1 hb1 hbl1; clear hg)
  | ((with_reducible refine gate_dst (N := 6) rfl ?_); refine wpList_load_row rfl 27 (.tmp 5) rfl g1 rfl 104 _ (0, 0) _ hb1 Try.underlying27 rfl info_prod ?_)
  | ((with_reducible refine gate_dst (N := 2) rfl ?_); refine copy_event rfl (N := 2) rfl rfl rfl (t := 27) (v := .tmp 6) rfl (cs := pcs p A1 c1 A2 c2 A3 c3) (zs := pzs) ?hr rfl rfl info_prod ?hz (pcs_one _ _ _ _ _ _ _) ?_; (case hr => first | (go_simp; done) | (go_simp; rfl)); (case hz => rfl); intro g2 hg w2 hb2 hbl2; have g2lt := blk_lt hb2; have g2ge := (show w.heap.size ≤ g2 by rw [hg]; exact hbl1.size); clear hg; have HB2 := Aside0.mk hb2; have BL2 := Aside0.mk (below_step hbl1 hbl2); clear hb1 hbl1 hbl2; have QQ := Aside0.mk (pc_cells hb2); clear hb2; obtain ⟨-, -, -, -, -, q5, -, q7, q8, q9, -⟩ := QQ.out))
 go_wp2_with fail
 refine (within_l_is HA.out _).mono ?_
 rintro e w' ⟨rfl, rfl⟩
 go_wp2_with fail
 refine (within_l_is HB.out _).mono ?_
 rintro e w' ⟨rfl, rfl⟩
 go_wp2_with fail
 refine (must_no _).mono ?_
 rintro e w' ⟨rfl, rfl⟩
 exact ⟨rfl, rfl, BL2.out⟩
set_option maxRecDepth 100000 in
set_option maxHeartbeats 2000000 in
theorem rates_3 (p : Prod) (A1 : Option Addr) (c1 : Nat) (A2 : Option Addr) (c2 : Nat) (A3 : Option Addr) (c3 : Nat) (w : World) (ha : decide (0 ≤ p.rate ∧ p.rate ≤ 1000000000) = true) (hb : decide (0 ≤ p.penalty ∧ p.penalty ≤ 1000000000) = true) (hn : 20 < p.resets.length) (hm : p.resets.length ≤ 1000000) :
  Calls Try.prog 60 #[pv p A1 c1 A2 c2 A3 c3] w (fun e w' => e = refusedE ∧ Below w.heap.size w w') := by
 have HA := Aside0.mk ha
 have HB := Aside0.mk hb
 clear ha hb
 go_enter Try.func60, Try.ntmps60
 go_wp2_with (first
  | ((with_reducible refine gate_dst (N := 1) rfl ?_); refine box_event ?hg (N := 1) ?hd (cs := pcs p A1 c1 A2 c2 A3 c3) (t := 104) ?hr ?_; (case hd => rfl); (case hg => rfl); (case hr => first | (go_simp; done) | (go_simp; rfl)); intro g1 hg w1 hb1 hbl1; clear hg)
  | ((with_reducible refine gate_dst (N := 6) rfl ?_); refine wpList_load_row rfl 27 (.tmp 5) rfl g1 rfl 104 _ (0, 0) _ hb1 Try.underlying27 rfl info_prod ?_)
  | ((with_reducible refine gate_dst (N := 2) rfl ?_); refine copy_event rfl (N := 2) rfl rfl rfl (t := 27) (v := .tmp 6) rfl (cs := pcs p A1 c1 A2 c2 A3 c3) (zs := pzs) ?hr rfl rfl info_prod ?hz (pcs_one _ _ _ _ _ _ _) ?_; (case hr => first | (go_simp; done) | (go_simp; rfl)); (case hz => rfl); intro g2 hg w2 hb2 hbl2; have g2lt := blk_lt hb2; have g2ge := (show w.heap.size ≤ g2 by rw [hg]; exact hbl1.size); clear hg; have HB2 := Aside0.mk hb2; have BL2 := Aside0.mk (below_step hbl1 hbl2); clear hb1 hbl1 hbl2; have QQ := Aside0.mk (pc_cells hb2); clear hb2; obtain ⟨-, -, -, -, -, q5, -, q7, q8, q9, -⟩ := QQ.out))
 go_wp2_with fail
 refine (within_l_is HA.out _).mono ?_
 rintro e w' ⟨rfl, rfl⟩
 go_wp2_with fail
 refine (within_l_is HB.out _).mono ?_
 rintro e w' ⟨rfl, rfl⟩
 go_wp2_with fail
 refine (must_no_of (decide_eq_false (by omega)) _).mono ?_
 rintro e w' ⟨rfl, rfl⟩
 exact ⟨rfl, rfl, BL2.out⟩
set_option maxRecDepth 100000 in
set_option maxHeartbeats 2000000 in
theorem rates_4 (p : Prod) (A1 : Option Addr) (c1 : Nat) (A2 : Option Addr) (c2 : Nat) (A3 : Option Addr) (c3 : Nat) (w : World) (ha : decide (0 ≤ p.rate ∧ p.rate ≤ 1000000000) = true) (hb : decide (0 ≤ p.penalty ∧ p.penalty ≤ 1000000000) = true) (hn : p.resets.length ≤ 20) (t1 : 1 ≤ p.times) (t2 : p.times ≤ 600) (hr : Op.IntRows w A1 2 p.resets) (bb : Bool) (hbb : resetsOk p.times 0 p.resets = bb) :
  Calls Try.prog 60 #[pv p A1 c1 A2 c2 A3 c3] w (LookE bb w) := by
 have HA := Aside0.mk ha
 have HB := Aside0.mk hb
 have HR := Aside0.mk hr
 have HBB := Aside0.mk hbb
 clear ha hb hr hbb
 go_enter Try.func60, Try.ntmps60
 go_wp2_with (first
  | ((with_reducible refine gate_dst (N := 1) rfl ?_); refine box_event ?hg (N := 1) ?hd (cs := pcs p A1 c1 A2 c2 A3 c3) (t := 104) ?hr ?_; (case hd => rfl); (case hg => rfl); (case hr => first | (go_simp; done) | (go_simp; rfl)); intro g1 hg w1 hb1 hbl1; clear hg)
  | ((with_reducible refine gate_dst (N := 6) rfl ?_); refine wpList_load_row rfl 27 (.tmp 5) rfl g1 rfl 104 _ (0, 0) _ hb1 Try.underlying27 rfl info_prod ?_)
  | ((with_reducible refine gate_dst (N := 2) rfl ?_); refine copy_event rfl (N := 2) rfl rfl rfl (t := 27) (v := .tmp 6) rfl (cs := pcs p A1 c1 A2 c2 A3 c3) (zs := pzs) ?hr rfl rfl info_prod ?hz (pcs_one _ _ _ _ _ _ _) ?_; (case hr => first | (go_simp; done) | (go_simp; rfl)); (case hz => rfl); intro g2 hg w2 hb2 hbl2; have g2lt := blk_lt hb2; have g2ge := (show w.heap.size ≤ g2 by rw [hg]; exact hbl1.size); clear hg; have HB2 := Aside0.mk hb2; have BL2 := Aside0.mk (below_step hbl1 hbl2); clear hb1 hbl1 hbl2; have QQ := Aside0.mk (pc_cells hb2); clear hb2; obtain ⟨-, -, -, -, -, q5, -, q7, q8, q9, -⟩ := QQ.out))
 go_wp2_with fail
 refine (within_l_is HA.out _).mono ?_
 rintro e w' ⟨rfl, rfl⟩
 go_wp2_with fail
 refine (within_l_is HB.out _).mono ?_
 rintro e w' ⟨rfl, rfl⟩
 go_wp2_with fail
 refine (must_yes_of (decide_eq_true (by omega)) _).mono ?_
 rintro e w' ⟨rfl, rfl⟩
 go_wp2_with fail
 go_loopg [25] (p.resets.length + 1) (fun gq i w' => ∃ (k : Nat), k ≤ p.resets.length ∧ i = .int .i64 k ∧ Aside0 (gq = p.resets.length + 1 - k) ∧ Aside0 (resetsOk p.times (prevOf 0 0 p.resets k) (p.resets.drop k) = bb) ∧ Aside0 (Below w.heap.size w w' ∧ Below w2.heap.size w2 w'))
 case atStart => exact ⟨0, Nat.zero_le _, rfl, ⟨rfl⟩, ⟨by rw [← HBB.out]; rfl⟩, ⟨BL2.out, Below.refl _ _⟩⟩
 case round =>
  obtain ⟨k, hk, rfl, hgq, hq, hbl⟩ := hrel
  by_cases hlt : k < p.resets.length
  ·obtain ⟨ad, x, y, e0, hrow, q0', q1', wx, wy⟩ := two_at (HR.out.below hbl.out.1) k hlt
   subst e0
   have hcs := hq.out
   rw [drop_row hrow] at hcs
   simp only [resetsOk] at hcs
   simp only [List.getD_cons_zero, List.getD_cons_succ] at hcs
   have hprev := prevOf_succ (d := 0) (j := 0) hrow
   simp only [List.getD_cons_zero] at hprev
   have HPREV := Aside0.mk hprev
   have adlt := cell_ltR q0'
   obtain ⟨bx0, bx1⟩ := wf_bd wx
   obtain ⟨by0, by1⟩ := wf_bd wy
   have HB3 := Aside0.mk (blk_below HB2.out hbl.out.2)
   have g2l := blk_lt HB3.out
   have kk0 : (0 : Int) ≤ (k : Int) := by omega
   have kk1 : (k : Int) < (p.resets.length : Int) := by omega
   have QP : Aside0 (0 < k → ∃ x' y', p.resets[k - 1]? = some [x', y'] ∧ wr.cell? (ad.add ((k - 1) * 2)) = some (.int .i64 x')) := ⟨fun h0 => by
    obtain ⟨ad', x', y', e', hrow', c', _⟩ := two_at (HR.out.below hbl.out.1) (k - 1) (by omega)
    obtain rfl : ad = ad' := Option.some.inj e'
    exact ⟨x', y', hrow', c'⟩⟩
   clear hq hrow hprev wx wy q5 q7 q8 q9
   go_wp2_with ((with_reducible refine gate_dst (N := 4) rfl ?_); refine copy_event3 rfl (N := 4) rfl rfl rfl rfl (t := 126) (v := .tmp 29) rfl (cs := #[.int .i64 x, .int .i64 y]) (zs := #[.int .i64 0, .int .i64 0]) (vm := .int .i64 k) ?hr ?hrm rfl rfl info_reset ?hz (two_one _ _) ?_; (case hr => first | (go_simp; done) | (go_simp; rfl)); (case hrm => intro W'; first | (go_simp; done) | (go_simp; rfl)); (case hz => rfl); intro g4 hg w4 hb4 hbl4; have g4lt := blk_lt hb4; clear hg)
   go_frame
   have z0 : w4.cell? ⟨g4, 0, none⟩ = some (.int .i64 x) := (blk_cell hb4 0).trans rfl
   have z1 : w4.cell? ⟨g4, 1, none⟩ = some (.int .i64 y) := (blk_cell hb4 1).trans rfl
   have HB5 := Aside0.mk (blk_below HB3.out hbl4)
   obtain ⟨-, -, -, -, -, q5, -, -, q8, -⟩ := pc_cells HB5.out
   have QP4 : Aside0 (0 < k → ∃ x' y', p.resets[k - 1]? = some [x', y'] ∧ w4.cell? (ad.add ((k - 1) * 2)) = some (.int .i64 x')) := ⟨fun h0 => by
    obtain ⟨x', y', h1, h2⟩ := QP.out h0
    exact ⟨x', y', h1, by rw [hbl4.cell (cell_ltR h2)]; exact h2⟩⟩
   have BL4 := Aside0.mk (And.intro (below_step hbl.out.1 hbl4) (below_step hbl.out.2 hbl4))
   clear hb4 hbl4 hbl HB3 QP q0' q1'
   have ew1 : IntKind.i64.wrap (p.times - 1) = p.times - 1 := IntWalk.i64_in _ (by omega)
   by_cases h1 : 1 ≤ x ∧ x ≤ p.times - 1
   ·have H1 := Aside0.mk (decide_eq_true h1)
    by_cases h2 : 0 ≤ y ∧ y ≤ 1000000000
    ·have H2 := Aside0.mk (decide_eq_true h2)
     by_cases h0 : k = 0
     ·have hb2 : resetsOk p.times x (p.resets.drop (k + 1)) = bb := by
       rw [← hcs, decide_eq_true (show 1 ≤ x ∧ x ≤ p.times - 1 ∧ 0 ≤ y ∧ y ≤ 1000000000 ∧ prevOf 0 0 p.resets k < x from ⟨h1.1, h1.2, h2.1, h2.2, by have := h1.1; unfold prevOf; rw [if_pos h0]; omega⟩), Bool.true_and]
      have HB2' := Aside0.mk hb2
      have kz : ((k : Int) == 0) = true := by rw [h0]; rfl
      clear hcs hb2 h1 h2 h0
      go_quiet ((first
       | (go_at_call 86; refine (within_i_is H1.out _).mono ?_; rintro e w' ⟨rfl, rfl⟩; exact ⟨rfl, _, rfl⟩)
       | (go_at_call 87; refine (within_l_is H2.out _).mono ?_; rintro e w' ⟨rfl, rfl⟩; exact ⟨rfl, _, rfl⟩)
       | (go_at_call 84; refine (must_yes _).mono ?_; rintro e w' ⟨rfl, rfl⟩; exact ⟨rfl, _, rfl⟩)))
      go_wp2_with fail
      go_roundg (p.resets.length + 1 - (k + 1))
      case measure => have := hgq.out; omega
      case rel => exact ⟨k + 1, by omega, by simp, ⟨rfl⟩, ⟨by rw [HPREV.out]; exact HB2'.out⟩, ⟨pw_below_drewN BL4.out.1 _, pw_below_drewN BL4.out.2 _⟩⟩
     ·obtain ⟨x', y', hrow', c'⟩ := QP4.out (by omega)
      have hpv := prevOf_pos (d := 0) (j := 0) (Nat.pos_of_ne_zero h0) hrow'
      simp only [List.getD_cons_zero] at hpv
      have kz : ((k : Int) == 0) = false := by rw [beq_eq_false_iff_ne]; omega
      have ew2 : IntKind.i64.wrap ((k : Int) - 1) = (k : Int) - 1 := IntWalk.i64_in _ (by omega)
      have kk2 : (0 : Int) ≤ (k : Int) - 1 := by omega
      have kk3 : (k : Int) - 1 < (p.resets.length : Int) := by omega
      have kk4 : (1 : Int) ≤ (k : Int) := by omega
      have ek : ((k : Int) - 1).toNat = k - 1 := by omega
      by_cases h3 : x' < x
      ·have hb2 : resetsOk p.times x (p.resets.drop (k + 1)) = bb := by
        rw [← hcs, decide_eq_true (show 1 ≤ x ∧ x ≤ p.times - 1 ∧ 0 ≤ y ∧ y ≤ 1000000000 ∧ prevOf 0 0 p.resets k < x from ⟨h1.1, h1.2, h2.1, h2.2, by rw [hpv]; exact h3⟩), Bool.true_and]
       have HB2' := Aside0.mk hb2
       clear hcs hb2 h1 h2 h0 hpv hrow'
       go_quiet ((first
        | (go_at_call 86; refine (within_i_is H1.out _).mono ?_; rintro e w' ⟨rfl, rfl⟩; exact ⟨rfl, _, rfl⟩)
        | (go_at_call 87; refine (within_l_is H2.out _).mono ?_; rintro e w' ⟨rfl, rfl⟩; exact ⟨rfl, _, rfl⟩)
        | (go_at_call 84; refine (must_yes _).mono ?_; rintro e w' ⟨rfl, rfl⟩; exact ⟨rfl, _, rfl⟩)))
       clear ew1 ew2 ek
       go_wp2_with fail
       go_roundg (p.resets.length + 1 - (k + 1))
       case measure => have := hgq.out; omega
       case rel => exact ⟨k + 1, by omega, by simp, ⟨rfl⟩, ⟨by rw [HPREV.out]; exact HB2'.out⟩, ⟨pw_below_drewN BL4.out.1 _, pw_below_drewN BL4.out.2 _⟩⟩
      ·have hbf : bb = false := by
        rw [← hcs, decide_eq_false (fun h => h3 (by have := h.2.2.2.2; rw [hpv] at this; exact this)), Bool.false_and]
       subst hbf
       have h4 : x ≤ x' := by omega
       have h5 : decide (x' < x) = false := decide_eq_false h3
       clear hcs h1 h2 h0 hpv hrow' h3
       refine wp_region_still_tail 27 (by kernel_rfl) (by kernel_rfl) ?_
       simp only [List.take_succ_cons, List.take_zero, List.drop_succ_cons, List.drop_zero]
       iterate 5 ((with_reducible refine wpStill_step (fun K hK => ?_)); go_simp; (try simp only [undef, reduceCtorEq, if_false]); (with_reducible refine hK _ ?_); clear hK K)
       still_call (within_i0 H1.out _)
       iterate 3 ((with_reducible refine wpStill_step (fun K hK => ?_)); go_simp; (try simp only [undef, reduceCtorEq, if_false]); (with_reducible refine hK _ ?_); clear hK K)
       still_call (within_l0 H2.out _)
       iterate 17 ((with_reducible refine wpStill_step (fun K hK => ?_)); go_simp; (try simp only [undef, reduceCtorEq, if_false]); (with_reducible refine hK _ ?_); clear hK K)
       (with_reducible refine wpStill_nil ?_)
       go_wp2_with ((go_at_call 84; refine (must_no _).mono ?_; rintro e w' ⟨rfl, rfl⟩))
       exact ⟨rfl, LookE.no ⟨rfl, BL4.out.1.drew⟩⟩
    ·have hbf : bb = false := by
      rw [← hcs, decide_eq_false (fun h => h2 ⟨h.2.2.1, h.2.2.2.1⟩), Bool.false_and]
     subst hbf
     have H2 := Aside0.mk (decide_eq_false h2)
     clear hcs h1 h2
     refine wp_region_still_tail 27 (by kernel_rfl) (by kernel_rfl) ?_
     simp only [List.take_succ_cons, List.take_zero, List.drop_succ_cons, List.drop_zero]
     iterate 5 ((with_reducible refine wpStill_step (fun K hK => ?_)); go_simp; (try simp only [undef, reduceCtorEq, if_false]); (with_reducible refine hK _ ?_); clear hK K)
     still_call (within_i0 H1.out _)
     iterate 3 ((with_reducible refine wpStill_step (fun K hK => ?_)); go_simp; (try simp only [undef, reduceCtorEq, if_false]); (with_reducible refine hK _ ?_); clear hK K)
     still_call (within_l0 H2.out _)
     iterate 17 ((with_reducible refine wpStill_step (fun K hK => ?_)); go_simp; (try simp only [undef, reduceCtorEq, if_false]); (with_reducible refine hK _ ?_); clear hK K)
     (with_reducible refine wpStill_nil ?_)
     go_wp2_with ((go_at_call 84; refine (must_no _).mono ?_; rintro e w' ⟨rfl, rfl⟩))
     exact ⟨rfl, LookE.no ⟨rfl, BL4.out.1.drew⟩⟩
   ·have hbf : bb = false := by
     rw [← hcs, decide_eq_false (fun h => h1 ⟨h.1, h.2.1⟩), Bool.false_and]
    subst hbf
    have H1 := Aside0.mk (decide_eq_false h1)
    clear hcs h1
    refine wp_region_still_tail 27 (by kernel_rfl) (by kernel_rfl) ?_
    simp only [List.take_succ_cons, List.take_zero, List.drop_succ_cons, List.drop_zero]
    iterate 5 ((with_reducible refine wpStill_step (fun K hK => ?_)); go_simp; (try simp only [undef, reduceCtorEq, if_false]); (with_reducible refine hK _ ?_); clear hK K)
    still_call (within_i0 H1.out _)
    iterate 21 ((with_reducible refine wpStill_step (fun K hK => ?_)); go_simp; (try simp only [undef, reduceCtorEq, if_false]); (with_reducible refine hK _ ?_); clear hK K)
    (with_reducible refine wpStill_nil ?_)
    go_wp2_with ((go_at_call 84; refine (must_no _).mono ?_; rintro e w' ⟨rfl, rfl⟩))
    exact ⟨rfl, LookE.no ⟨rfl, BL4.out.1.drew⟩⟩
  ·have hk2 : k = p.resets.length := by omega
   subst hk2
   have hcs := hq.out
   rw [List.drop_length] at hcs
   obtain rfl : true = bb := hcs
   clear hq
   go_wp2_with fail
   go_end0
   exact LookE.yes ⟨rfl, hbl.out.1⟩
theorem rates_any (p : Prod) (A1 : Option Addr) (c1 : Nat) (A2 : Option Addr) (c2 : Nat) (A3 : Option Addr) (c3 : Nat) (w : World) (t1 : 1 ≤ p.times) (t2 : p.times ≤ 600) (hr : Op.IntRows w A1 2 p.resets) (hm : p.resets.length ≤ 1000000) :
  Calls Try.prog 60 #[pv p A1 c1 A2 c2 A3 c3] w (LookE (ratesOk p) w) := by
 unfold ratesOk
 by_cases ha : 0 ≤ p.rate ∧ p.rate ≤ 1000000000
 case neg =>
  rw [decide_eq_false (fun h => ha h.1), Bool.false_and]
  exact (rates_1 p A1 c1 A2 c2 A3 c3 w (decide_eq_false ha)).mono fun e w' h => LookE.no h
 by_cases hb : 0 ≤ p.penalty ∧ p.penalty ≤ 1000000000
 case neg =>
  rw [decide_eq_false (fun h => hb h.2.1), Bool.false_and]
  exact (rates_2 p A1 c1 A2 c2 A3 c3 w (decide_eq_true ha) (decide_eq_false hb)).mono fun e w' h => LookE.no h
 by_cases hn : p.resets.length ≤ 20
 case neg =>
  rw [decide_eq_false (fun h => hn h.2.2), Bool.false_and]
  exact (rates_3 p A1 c1 A2 c2 A3 c3 w (decide_eq_true ha) (decide_eq_true hb) (by omega) hm).mono fun e w' h => LookE.no h
 rw [decide_eq_true (show _ from ⟨ha, hb, hn⟩), Bool.true_and]
 exact rates_4 p A1 c1 A2 c2 A3 c3 w (decide_eq_true ha) (decide_eq_true hb) hn t1 t2 hr _ rfl
end Go.Proofs.Ytbbbjjfecblhpaa.Pd
