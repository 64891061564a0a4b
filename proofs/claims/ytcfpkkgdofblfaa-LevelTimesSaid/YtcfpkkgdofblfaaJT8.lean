/- Texts of this claim, joined in build order. -/
import Derived.RowKit
import Derived.Below
import Derived.Deep.Draws
import Derived.Deep.AppendLies
import Derived.Maps.AppendAt
import Derived.OwnWalk
import Derived.Laws.BytesArg
import Derived.Laws.MakeOwn
import Derived.Laws.OwnMore
import Derived.Tactics
import Derived.Lib.ConvBytes
import Derived.Laws.Slices
import Derived.WalkKit
import Derived.KernelRfl
import Derived.RowKit3
import Derived.Deep.LoopGhost
import Derived.Deep.QuietTactic
import Derived.BigQuiet
import Derived.WideLaws
import Derived.Deep.DeepCutAuto
import Derived.Deep.CutBlock
import Derived.Deep.RegionHeld3
import Derived.Lib.AppendStr
import Derived.ArgAppend
import Derived.Laws.IdiomCopy
import Derived.OrdersHeld
import Derived.Laws.BitsLemmas
import Derived.Test.YtcfpkkgdofblfaaProg
import Derived.WalkLawsBesides
import Derived.WalkSpells
import Derived.Lib.IndexMore
import Derived.Deep.Slices
import Derived.Deep.Fields
import Derived.ChangeSame
import Derived.Lib.SmallJoins
import Derived.ProofKit
import Derived.Defers
import Derived.Laws.Tables
import Derived.Deep.WholeRow
import Derived.Recover
import Derived.StillTailTactics
import Derived.Shelf.Small.Bits
import Derived.Shelf.Strconv.Itoa0
import Derived.Shelf.Strings.Search1
import Derived.Shelf.Strings.Search2
import Derived.Shelf.Strings.Search3
import Derived.Shelf.LaysM
import Derived.Shelf.Strings.Shaped
import Derived.Shelf.Bits.Mul64
import Derived.Lib.SlBytesConst
import Derived.Deep.RegionWith
import Derived.IntWalk
import Derived.Lib.Hide
import Derived.BigFrame
import Derived.Laws.StructEq
import Derived.Lib.BitFns
import Derived.Laws.BitsAllLaws
import Derived.Laws.Externs
import Derived.RegionTactic
import Derived.Deep.MidRow
import Derived.OpenShut
import Derived.ShutString
import Derived.ChangeOld
import Derived.Laws.IdiomArrays
import Derived.SizedLaws
import Derived.HandedShaped
import Derived.Shelf.Vars
import Derived.Test.YtcfpkkgdofblfaaJT1
import Derived.Test.YtcfpkkgdofblfaaJT2
import Derived.Test.YtcfpkkgdofblfaaJT3
import Derived.Test.YtcfpkkgdofblfaaJT4
import Derived.Test.YtcfpkkgdofblfaaJT5
import Derived.Test.YtcfpkkgdofblfaaJT6
import Derived.Test.YtcfpkkgdofblfaaJT7
set_option linter.unusedVariables false
set_option linter.unusedSimpArgs false
/- What a law of days asks of lists that calls hand back. -/
namespace Go.Proofs.Ytcfpkkgdofblfaa.Du
open Go.RowKit Go.Proofs.YtcfpkkgdofblfaaW.PrintWords Go.Proofs.YtcfpkkgdofblfaaW.PrintLast Go.Proofs.YtcfpkkgdofblfaaW.PrintMore Go.Proofs.Ytcfpkkgdofblfaa.HW
open Go.Proofs.Ytcfpkkgdofblfaa.Math Go.Proofs.Ytcfpkkgdofblfaa.H Go.Proofs.Ytcfpkkgdofblfaa.Pd Pm
set_option linter.unusedVariables false
set_option linter.unusedSimpArgs false
theorem near_any (p : Prod) (A1 : Option Addr) (c1 : Nat) (A2 : Option Addr) (c2 : Nat) (A3 : Option Addr) (c3 : Nat) (n : Int) (w : World) (hp : ProdAt w p A1 c1 A2 c2 A3 c3) (hs : Held p) (n1 : 1 ≤ n) (n2 : n ≤ 1000) :
  Calls Try.prog 12 #[pv p A1 c1 A2 c2 A3 c3, .int .i64 n] w (NearE p A1 c1 A2 c2 A3 c3 (nearP p n) w) := by
 cases ho : ok p with
 | false => exact near_not p A1 c1 A2 c2 A3 c3 n w hp hs ho n1 n2
 | true => exact near_ok p A1 c1 A2 c2 A3 c3 n w hp hs ho
theorem C_nil (w : World) : Kd.C (Kd.int .i64) w none 0 [] := Kd.C_of_reads (d := (0 : Int)) ⟨rfl, by omega, fun h => absurd h (by omega)⟩
theorem reads_l {w : World} {g : Nat} {l : List Int} {t : List Value} (h : H.Blk w g 2 (nums .i64 l ++ t)) (hm : l.length ≤ 1000000) : Kd.C (Kd.int .i64) w (some ⟨g, 0, none⟩) l.length l := by
 refine Kd.C_of_reads (d := (0 : Int)) ⟨rfl, by omega, fun _ => ⟨_, rfl, fun j hj => ?_⟩⟩
 show w.cell? ((⟨g, 0, none⟩ : Addr).add j) = _
 rw [Addr.add_mid, Nat.zero_add, h.cell, List.getElem?_append_left (by simp [nums]; omega)]
 simp [nums, List.getD_eq_getElem?_getD, hj]
theorem rparts_len (c : Int) : ∀ (l : List Int) (s : Int), (rpartsL c s l).length = l.length
 | [], s => rfl
 | d :: r, s => by rw [rpartsL, List.length_cons, rparts_len c r d]; rfl
end Go.Proofs.Ytcfpkkgdofblfaa.Du
/- Plain law of level at no rate; the law's awake. -/
namespace Go.Proofs.Ytcfpkkgdofblfaa.Lv
open Go.RowKit Go.Proofs.YtcfpkkgdofblfaaW.PrintWords Go.Proofs.YtcfpkkgdofblfaaW.PrintLast Go.Proofs.YtcfpkkgdofblfaaW.PrintMore Go.Proofs.Ytcfpkkgdofblfaa.HW
open Pm Pd
set_option linter.unusedVariables false
set_option linter.unusedSimpArgs false
open Go.Proofs.Ytcfpkkgdofblfaa.H Go.Proofs.Ytcfpkkgdofblfaa.Du
theorem div_uniq {n v a : Int} (hn : 0 < n) (h1 : a ≤ n * v) (h2 : n * (v - 1) < a) : v = (a + n - 1) / n := by
 have e : n * (v - 1) = n * v - n := by rw [Int.mul_sub, Int.mul_one]
 rw [e] at h2
 have h3 : (a + n - 1) / n < v + 1 := Int.ediv_lt_of_lt_mul hn (by rw [Int.mul_comm, Int.mul_add, Int.mul_one]; omega)
 have h4 : v ≤ (a + n - 1) / n := (Int.le_ediv_iff_mul_le hn).2 (by rw [Int.mul_comm]; omega)
 omega
theorem of_rate {p : Prod} {l : List Int} {m : Int} (h : askE p l m = 0) (hr : p.rate = 0) (hg : p.grace < l.length) : ofE p l m = ((m + (l.length - p.grace) - 1) / (l.length - p.grace), 0) := by
 obtain ⟨k1, k2, k3, k4, m0, m1⟩ := ask_known h
 have hf : fine l = true := by
  unfold askE at h
  split at h
  ·simp at h
  ·split at h
   ·rename_i h2; exact h2.2.2.2
   ·simp at h
 have G := good_new p.count p.round
 have gw := G.w0
 have g0 := G.h0
 have g1 := G.h1
 have hl : ∀ n ∈ l, 0 ≤ n ∧ n ≤ 53436000 := by
  intro n hn
  unfold fine at hf
  have := of_decide_eq_true (List.all_eq_true.1 hf n hn)
  omega
 obtain ⟨N, hN⟩ : ∃ N, (l.length : Int) - p.grace = N := ⟨_, rfl⟩
 have key : ∀ x, 0 ≤ x → (lf p l m x ≤ 0 ↔ m ≤ N * x) := by
  intro x x0
  unfold lf
  rw [hr, wk_grace (by omega) g0 (by omega) l 0 m (by omega) (by omega) k4.1 (by omega) (by omega) hl, wk_rate (by omega) g0 (by omega) x0 _ _ _ (Int.le_refl _) (by omega) (by omega) (fun n hn => hl n (List.mem_of_mem_drop hn))]
  rw [List.length_drop, show (((l.length - (p.grace - 0).toNat : Nat) : Int)) = N by omega]
 rw [hN]
 have hN0 : 0 < N := by omega
 have big : lf p l m 1000000000000000 ≤ 0 := (key _ (by decide)).2 (by omega)
 obtain ⟨hm, hz⟩ := lf_mono h
 have L := srch_least (lf p l m) 50 0 1000000000000000 (by decide) (by decide) (by decide) (by decide) hz big
 have hn : ¬ askE p l m ≠ 0 := by rw [h]; decide
 unfold ofE
 rw [if_neg hn, if_neg (by omega)]
 obtain ⟨a1, a2, a3, a4⟩ := L
 generalize srch (lf p l m) 50 0 1000000000000000 = v at *
 have b1 := (key v (by omega)).1 a1
 have b2 : N * (v - 1) < m := by
  have : ¬ m ≤ N * (v - 1) := fun h => by have := (key (v - 1) (by omega)).2 h; omega
  omega
 rw [div_uniq hN0 b1 b2]
theorem small_q {p : Prod} (h1 : p.name = plainP.name) (h2 : p.resets = []) (h3 : p.late = []) (h4 : p.hol = []) : Small p := ⟨by rw [h1]; decide, by rw [h2]; decide, by rw [h3]; decide, by rw [h4]; decide⟩
abbrev awP : Prod := { plainP with rate := 0, times := 3 }
theorem aw_ask : askE awP [31, 28, 31] 100 = 0 := by decide +kernel
theorem aw_of : ofE awP [31, 28, 31] 100 = (34, 0) := by rw [of_rate aw_ask rfl (by decide)]; decide
set_option maxRecDepth 100000 in
set_option maxHeartbeats 2000000 in
theorem level_awake (w : World) (hg : GV w) : Calls Try.prog 24 #[] w fun e w' => e = .returned (.bool true) ∧ Below w.heap.size w w' := by
 have OF := Aside0.mk (fun (A : Option Addr) (c : Nat) (W : World) (hb : Below w.heap.size w W) (hc : Kd.C (Kd.int .i64) W A [31, 28, 31].length [31, 28, 31]) => show Calls Try.prog 23 #[pv awP none 0 none 0 none 0, .slice A 3 c, .int .i64 100] W (Two (34, 0) W) from by have := Of_any awP none 0 none 0 none 0 A [31, 28, 31] c 100 W (hg.below hb) (nilAt rfl rfl rfl) (small_q rfl rfl rfl rfl) hc (by decide); rw [aw_of] at this; exact this)
 clear hg
 go_enter Try.func24, Try.ntmps24
 go_wp2_with (first
  | (go_at_call 22; (with_reducible refine (plain_any _).mono ?_); rintro e w0 ⟨rfl, hb⟩; have HB := Aside0.mk hb; clear hb)
  | ((with_reducible refine gate_dst (N := 1) rfl ?_); refine copy_event rfl (N := 1) rfl rfl rfl (t := 27) (v := .tmp 4) rfl (cs := pcs plainP none 0 none 0 none 0) (zs := pzs) ?hr rfl rfl info_prod ?hz (pcs_one _ _ _ _ _ _ _) ?_; (case hr => first | (go_simp; done) | (go_simp; rfl)); (case hz => rfl); intro g hg w1 hb1 hbl1; have gge := (show w.heap.size ≤ g by rw [hg]; exact HB.out.size); have HB := Aside0.mk (below_step HB.out hbl1); have GG := Aside0.mk hb1; clear hg hb1 hbl1; have u7 : w1.cell? ⟨g, 7, none⟩ = some (.int .i64 _) := (blk_cell GG.out 7).trans rfl; have f7 := frozen_of_row w1 g 7 _ _ GG.out)
  | ((with_reducible refine gate_store (t := 2) (p := 5) rfl ?_); refine put_event rfl (t := 2) (p := 5) (v := (.const (.int .i64 0))) rfl rfl (g := g) (i := 7) (cs := pcs plainP none 0 none 0 none 0) (cs' := pcs { plainP with rate := 0 } none 0 none 0 none 0) (x := .int .i64 0) ?hr GG.out ?hc ?_; (case hc => rfl); (case hr => go_simp); intro w2 hb8 hbut; have GG := Aside0.mk hb8; have HB := Aside0.mk (But.below HB.out HB.out.size gge hbut); clear hbut; clear hb8; have u5 : w2.cell? ⟨g, 5, none⟩ = some (.int .i64 _) := (blk_cell GG.out 5).trans rfl; have f5 := frozen_of_row w2 g 5 _ _ GG.out)
  | ((with_reducible refine gate_store (t := 3) (p := 6) rfl ?_); refine put_event rfl (t := 3) (p := 6) (v := (.const (.int .i64 3))) rfl rfl (g := g) (i := 5) (cs := pcs { plainP with rate := 0 } none 0 none 0 none 0) (cs' := pcs { plainP with rate := 0, times := 3 } none 0 none 0 none 0) (x := .int .i64 3) ?hr GG.out ?hc ?_; (case hc => rfl); (case hr => go_simp); intro w3 hb8 hbut; have GG := Aside0.mk hb8; have HB := Aside0.mk (But.below HB.out HB.out.size gge hbut); clear hbut; clear hb8; skip)
  | ((with_reducible refine gate_dst (N := 8) rfl ?_); refine wpList_load_row rfl 27 (.tmp 1) rfl g rfl 27 _ (0, 0) _ GG.out Try.underlying27 rfl info_prod ?_)
  | ((with_reducible refine gate_dst (N := 9) rfl ?_); refine lit_event rfl (N := 9) rfl (cs := #[.int .i64 31, .int .i64 28, .int .i64 31]) (t := 2) (n := 3) ?hr ?_; (case hr => first | (go_simp; done) | (go_simp; rfl)); intro gl hgl w4 hbl hb; have HB := Aside0.mk (below_step HB.out hb); have RD := Aside0.mk (Blk.reads (w := w4) (g := gl) (k := .i64) (l := [31, 28, 31]) (t := []) (e := 2) hbl (by decide)); clear hgl hbl hb)
  | (go_at_call 23; (with_reducible refine (OF.out _ _ _ HB.out RD.out).mono ?_); rintro e w5 ⟨rfl, hb⟩; have HB := Aside0.mk (below_step HB.out hb); clear hb))
 go_ret
 exact ⟨rfl, HB.out⟩
end Go.Proofs.Ytcfpkkgdofblfaa.Lv
/- Plain: a product near another one may be, whatever its way of rolling, without holidays. -/
namespace Go.Proofs.Ytcfpkkgdofblfaa.Du
open Go.RowKit Go.Proofs.YtcfpkkgdofblfaaW.PrintWords Go.Proofs.YtcfpkkgdofblfaaW.PrintLast Go.Proofs.YtcfpkkgdofblfaaW.PrintMore Go.Proofs.Ytcfpkkgdofblfaa.HW
open Go.Proofs.Ytcfpkkgdofblfaa.Math Go.Proofs.Ytcfpkkgdofblfaa.H Go.Proofs.Ytcfpkkgdofblfaa.Pd Pm
set_option linter.unusedVariables false
set_option linter.unusedSimpArgs false
theorem ok_iff (p : Prod) : ok p = true ↔ ((((nameOk p.name.data.toList = true ∧ (1 ≤ p.count ∧ p.count ≤ 3) ∧ (p.round = 1 ∨ p.round = 3) ∧ (1 ≤ p.kind ∧ p.kind ≤ 3) ∧ (p.every = 1 ∨ p.every = 2 ∨ p.every = 3 ∨ p.every = 4 ∨ p.every = 6 ∨ p.every = 12) ∧ (1 ≤ p.times ∧ p.times ≤ 600) ∧ (0 ≤ p.grace ∧ p.grace ≤ p.times - 1) ∧ (p.kind = 3 → p.grace = 0)) ∧
  ((0 ≤ p.rate ∧ p.rate ≤ 1000000000) ∧ (0 ≤ p.penalty ∧ p.penalty ≤ 1000000000) ∧ p.resets.length ≤ 20) ∧ resetsOk p.times 0 p.resets = true) ∧ orderOk p.o1 p.o2 p.o3 p.o4 = true ∧ 1 ≤ p.over ∧ p.over ≤ 3) ∧
  (p.late.length ≤ 8 ∧ (0 ≤ p.cap ∧ p.cap ≤ 10000000000000) ∧ (p.late = [] → p.cap = 0)) ∧ tiersOk 0 0 p.late = true) ∧ (p.hol.length ≤ 200 ∧ (1 ≤ p.roll ∧ p.roll ≤ 4) ∧ (p.roll = 1 → p.hol = [])) ∧ holsOk (-25568) p.hol = true := by
 simp only [ok, shapeOk, ratesOk, ordOk, lateOk, daysOk, Bool.and_eq_true, decide_eq_true_eq]
theorem ok_graced {q : Prod} (h : (ok { q with grace := 0 } = true)) (hg : ¬ (q.times ≤ q.grace ∨ q.kind = 3)) (g0 : 0 ≤ q.grace) : ok q = true := by
 have h' := (ok_iff _).1 h
 obtain ⟨⟨⟨⟨⟨a1, a2, a3, a4, a5, a6, a7, a8⟩, b⟩, c⟩, d⟩, e⟩ := h'
 exact (ok_iff _).2 ⟨⟨⟨⟨⟨a1, a2, a3, a4, a5, a6, ⟨g0, by omega⟩, fun h => absurd (Or.inr h) hg⟩, b⟩, c⟩, d⟩, e⟩
theorem ok_nearD {q : Prod} (h : (ok { q with grace := 0 } = true)) (g0 : 0 ≤ q.grace) : ok (nearD q) = true := by
 unfold nearD
 split
 ·exact h
 ·rename_i hg; exact ok_graced h hg g0
theorem nearD_times (q : Prod) : (nearD q).times = q.times ∧ (nearD q).count = q.count ∧ (nearD q).every = q.every := by
 unfold nearD
 split <;> exact ⟨rfl, rfl, rfl⟩
theorem plain_good : ok plainP = true := by decide +kernel
theorem near_valid (p : Prod) {n : Int} (n1 : 1 ≤ n) (n2 : n ≤ 600) : ok (nearP p n) = true ∧ (nearP p n).times ≤ n := by
 unfold nearP
 split
 ·rename_i h
  obtain ⟨⟨⟨⟨⟨a1, a2, a3, a4, a5, a6, a7, a8⟩, ⟨b1, b2, b3⟩, b4⟩, c⟩, d⟩, e⟩ := (ok_iff _).1 h
  split
  ·rename_i hn
   refine ⟨ok_nearD ((ok_iff _).2 ⟨⟨⟨⟨⟨a1, a2, a3, a4, a5, ⟨n1, n2⟩, ⟨by show (0 : Int) ≤ 0; omega, by show (0 : Int) ≤ n - 1; omega⟩, fun _ => rfl⟩, ⟨b1, b2, by show (0 : Nat) ≤ 20; omega⟩, rfl⟩, c⟩, d⟩, e⟩) a7.1, ?_⟩
   rw [(nearD_times _).1]
   exact Int.le_refl n
  ·rename_i hn
   refine ⟨ok_nearD ((ok_iff _).2 ⟨⟨⟨⟨⟨a1, a2, a3, a4, a5, a6, ⟨by show (0 : Int) ≤ 0; omega, by show (0 : Int) ≤ p.times - 1; omega⟩, fun _ => rfl⟩, ⟨b1, b2, b3⟩, b4⟩, c⟩, d⟩, e⟩) a7.1, ?_⟩
   rw [(nearD_times _).1]
   omega
 ·have u1 := U_bd p.count (m := 3) (by omega)
  have u2 := U_bd p.kind (m := 3) (by omega)
  have u3 := U_bd p.every (m := 6) (by omega)
  have u4 := U_bd p.times (m := n) (by omega)
  have u5 := U_bd p.rate (m := 300000000) (by omega)
  have u6 := U_bd p.penalty (m := 500000000) (by omega)
  have u7 := U_bd p.over (m := 3) (by omega)
  obtain ⟨⟨⟨⟨⟨a1, a2, a3, a4, a5, a6, a7, a8⟩, ⟨b1, b2, b3⟩, b4⟩, c⟩, d⟩, e⟩ := (ok_iff _).1 plain_good
  refine ⟨ok_nearD ((ok_iff _).2 ⟨⟨⟨⟨⟨a1, ⟨by show 1 ≤ 1 + U p.count 3; omega, by show 1 + U p.count 3 ≤ 3; omega⟩, ?_, ⟨by show 1 ≤ 1 + U p.kind 3; omega, by show 1 + U p.kind 3 ≤ 3; omega⟩, ?_, ⟨by show 1 ≤ 1 + U p.times n; omega, by show 1 + U p.times n ≤ 600; omega⟩, ⟨by show (0 : Int) ≤ 0; omega, by show (0 : Int) ≤ 1 + U p.times n - 1; omega⟩, fun _ => rfl⟩, ⟨⟨by show 0 ≤ U p.rate 300000000; omega, by show U p.rate 300000000 ≤ 1000000000; omega⟩, ⟨by show 0 ≤ U p.penalty 500000000; omega, by show U p.penalty 500000000 ≤ 1000000000; omega⟩, b3⟩, rfl⟩, ⟨c.1, by show 1 ≤ 1 + U p.over 3; omega, by show 1 + U p.over 3 ≤ 3; omega⟩⟩, d⟩, e⟩) (by show (0 : Int) ≤ 0; omega), ?_⟩
  ·show (if U p.round 2 = 0 then (1 : Int) else 3) = 1 ∨ (if U p.round 2 = 0 then (1 : Int) else 3) = 3
   split
   ·exact Or.inl rfl
   ·exact Or.inr rfl
  ·generalize hx : (nearB p n).every = x
   have hx' : (if U p.every 6 = 0 then (1 : Int) else if U p.every 6 = 1 then 2 else if U p.every 6 = 2 then 3 else if U p.every 6 = 3 then 4 else if U p.every 6 = 4 then 6 else 12) = x := hx
   show x = 1 ∨ x = 2 ∨ x = 3 ∨ x = 4 ∨ x = 6 ∨ x = 12
   repeat' split at hx'
   all_goals omega
  ·rw [(nearD_times _).1]
   show 1 + U p.times n ≤ n
   omega
end Go.Proofs.Ytcfpkkgdofblfaa.Du
/- The law LevelNothing, walked. -/
namespace Go.Proofs.Ytcfpkkgdofblfaa.Lv
open Go.RowKit Go.Proofs.YtcfpkkgdofblfaaW.PrintWords Go.Proofs.YtcfpkkgdofblfaaW.PrintLast Go.Proofs.YtcfpkkgdofblfaaW.PrintMore Go.Proofs.Ytcfpkkgdofblfaa.HW
open Pm Pd
set_option linter.unusedVariables false
set_option linter.unusedSimpArgs false
open Go.Proofs.Ytcfpkkgdofblfaa.H Go.Proofs.Ytcfpkkgdofblfaa.Du
theorem U_isB (x : Int) {m : Int} (h : 0 < m) (h2 : m ≤ 9000000000000000000) : IntKind.i64.wrap (Int.tmod (IntKind.u64.wrap x) m) = U x m := by
 have e : IntKind.u64.wrap x = x % 18446744073709551616 := rfl
 have hn := Int.emod_nonneg x (show (18446744073709551616 : Int) ≠ 0 by omega)
 have hb := U_bd x h
 rw [e, Int.tmod_eq_emod_of_nonneg hn]
 show IntKind.i64.wrap (U x m) = U x m
 exact IntWalk.i64_in _ (by omega)
end Go.Proofs.Ytcfpkkgdofblfaa.Lv
/- Plain: the days of a product near another one, from a day of thirty years: they are there, and lie far apart. -/
namespace Go.Proofs.Ytcfpkkgdofblfaa.Du
open Go.RowKit Go.Proofs.YtcfpkkgdofblfaaW.PrintWords Go.Proofs.YtcfpkkgdofblfaaW.PrintLast Go.Proofs.YtcfpkkgdofblfaaW.PrintMore Go.Proofs.Ytcfpkkgdofblfaa.HW
open Go.Proofs.Ytcfpkkgdofblfaa.Math Go.Proofs.Ytcfpkkgdofblfaa.H Go.Proofs.Ytcfpkkgdofblfaa.Pd Pm
set_option linter.unusedVariables false
set_option linter.unusedSimpArgs false
theorem far28 {t t' D : Int} (h : t < t') (D1 : 1 ≤ D) : dayAt t (min D (ml t)) + 28 ≤ dayAt t' (min D (ml t')) := by
 have b0 := ml_bd t
 have b1 := ml_bd (t + 1)
 have b2 := ml_bd t'
 have hn := dayAt_next t
 have a0 := dayAt_mono (t := t) (d := min D (ml t)) (d' := ml t)
 by_cases e : t' = t + 1
 ·subst e
  have a1 := dayAt_mono (t := t + 1) (d := min D (ml (t + 1))) (d' := 1)
  omega
 ·have hl := dayAt_less (t := t + 1) (t' := t') (d := ml (t + 1)) (d' := min D (ml t')) (by omega) (by omega) (Int.le_refl _)
  have a1 := dayAt_mono (t := t + 1) (d := ml (t + 1)) (d' := 1)
  omega
def A (n k : Int) : Int := dayAt (idx n + k) (min (dayOf n) (ml (idx n + k)))
theorem A_zero {n : Int} (h : isDay n) : A n 0 = n := by
 obtain ⟨_, _, d1, d2, e, _⟩ := idx_spec h
 unfold A
 rw [Int.add_zero, show min (dayOf n) (ml (idx n)) = dayOf n by omega]
 exact e.symm
theorem idx_low {n : Int} (h : isDay n) (h2 : n < 20000) : idx n ≤ 25000 := by
 obtain ⟨y1, y2, y3, y4⟩ := yearOf_spec h
 obtain ⟨_, m1, m2, _⟩ := date_ok h
 have ei : idx n = 12 * yearOf n + monthOf n - 1 := rfl
 unfold opens at y3
 omega
theorem A_add {n k : Int} (h : isDay n) (h2 : n < 20000) (k0 : 0 ≤ k) (k1 : k ≤ 480) : add n k = (A n k, 0) := by
 have hi := idx_low h h2
 have hs := (idx_spec h).1
 exact (add_ok h (by omega) (by omega) (by omega) (by omega)).1
theorem A_far {n k k' : Int} (h : isDay n) (hk : k < k') : A n k + 28 ≤ A n k' := far28 (by omega) (idx_spec h).2.2.1
def drow (n e : Int) : Nat → Int → List Int
 | 0, _ => []
 | m + 1, i => A n ((i + 1) * e) :: drow n e m (i + 1)
theorem mul_low {i e : Int} (h1 : 0 ≤ i) (h2 : i ≤ 40) (e1 : 1 ≤ e) (e2 : e ≤ 12) : 0 ≤ i * e ∧ i * e ≤ 480 := by
 have a := Int.mul_le_mul_of_nonneg_right h2 (show 0 ≤ e by omega)
 have b := Int.mul_nonneg h1 (show 0 ≤ e by omega)
 omega
theorem dates_are {n e : Int} (hd : isDay n) (h2 : n < 20000) (e1 : 1 ≤ e) (e2 : e ≤ 12) : ∀ (m : Nat) (i : Int) (l : List Int), 0 ≤ i → i + m ≤ 40 → dates m n e i l = (l ++ drow n e m i, 0)
 | 0, i, l, i0, h => by simp [dates, drow]
 | m + 1, i, l, i0, h => by
  obtain ⟨p1, p2⟩ := mul_low (i := i + 1) (by omega) (by omega) e1 e2
  unfold dates
  rw [A_add hd h2 p1 p2, if_pos rfl, dates_are hd h2 e1 e2 m (i + 1) _ (by omega) (by omega), drow, List.append_assoc]
  rfl
end Go.Proofs.Ytcfpkkgdofblfaa.Du
/- Plain: parts between days far apart are above nothing; their sum is what lies between the first day and the last one. -/
namespace Go.Proofs.Ytcfpkkgdofblfaa.Du
open Go.RowKit Go.Proofs.YtcfpkkgdofblfaaW.PrintWords Go.Proofs.YtcfpkkgdofblfaaW.PrintLast Go.Proofs.YtcfpkkgdofblfaaW.PrintMore Go.Proofs.Ytcfpkkgdofblfaa.HW
open Go.Proofs.Ytcfpkkgdofblfaa.Math Go.Proofs.Ytcfpkkgdofblfaa.H Go.Proofs.Ytcfpkkgdofblfaa.Pd Pm
set_option linter.unusedVariables false
set_option linter.unusedSimpArgs false
theorem actual_up : ∀ (k : Nat) {a : Int}, isDay a → isDay (a + k) → actual a + k ≤ actual (a + k)
 | 0, a, _, _ => by simp
 | k + 1, a, ha, hb => by
  obtain ⟨a1, a2⟩ := id ha
  obtain ⟨b1, b2⟩ := id hb
  have hm : isDay (a + k) := ⟨by omega, by omega⟩
  have hb' : isDay (a + k + 1) := ⟨by omega, by omega⟩
  have ih := actual_up k ha hm
  have hs := actual_succ hm hb'
  have hl := leap_01 (yearOf (a + k))
  rw [show a + ((k + 1 : Nat) : Int) = a + k + 1 by omega]
  omega
def prev (s : Int) (l : List Int) (k : Nat) : Int := if k = 0 then s else l.getD (k - 1) 0
end Go.Proofs.Ytcfpkkgdofblfaa.Du
/- Plain: days rolled lie near; parts between instalments are two years at most. -/
namespace Go.Proofs.Ytcfpkkgdofblfaa.Lv
open Go.RowKit Go.Proofs.YtcfpkkgdofblfaaW.PrintWords Go.Proofs.YtcfpkkgdofblfaaW.PrintLast Go.Proofs.YtcfpkkgdofblfaaW.PrintMore Go.Proofs.Ytcfpkkgdofblfaa.HW
open Go.Proofs.Ytcfpkkgdofblfaa.Math Go.Proofs.Ytcfpkkgdofblfaa.H Go.Proofs.Ytcfpkkgdofblfaa.Pd Go.Proofs.Ytcfpkkgdofblfaa.Du Pm
set_option linter.unusedVariables false
set_option linter.unusedSimpArgs false
def cnt (l : List Int) (lo hi : Int) : Nat := l.countP (fun x => decide (lo ≤ x ∧ x < hi))
theorem cnt_le (l : List Int) (lo hi : Int) : cnt l lo hi ≤ l.length := List.countP_le_length
theorem cnt_add {a b c : Int} (h1 : a ≤ b) (h2 : b ≤ c) : ∀ l : List Int, cnt l a b + cnt l b c = cnt l a c
 | [] => rfl
 | x :: l => by
  have ih := cnt_add h1 h2 l
  unfold cnt at ih ⊢
  simp only [List.countP_cons]
  by_cases p1 : a ≤ x ∧ x < b
  ·rw [decide_eq_true p1, decide_eq_false (show ¬ (b ≤ x ∧ x < c) by omega), decide_eq_true (show a ≤ x ∧ x < c by omega)]
   simp only [if_true, Bool.false_eq_true, if_false]
   omega
  ·by_cases p2 : b ≤ x ∧ x < c
   ·rw [decide_eq_false p1, decide_eq_true p2, decide_eq_true (show a ≤ x ∧ x < c by omega)]
    simp only [if_true, Bool.false_eq_true, if_false]
    omega
   ·rw [decide_eq_false p1, decide_eq_false p2, decide_eq_false (show ¬ (a ≤ x ∧ x < c) by omega)]
    simp only [Bool.false_eq_true, if_false]
    omega
theorem cnt_one {l : List Int} {x : Int} (h : x ∈ l) : 1 ≤ cnt l x (x + 1) := by
 unfold cnt
 exact List.countP_pos_iff.2 ⟨x, h, by simp; omega⟩
def shutD (l : List Int) (y : Int) : Prop := isDay y ∧ openB l y = false
theorem shut_in {l : List Int} {y : Int} (h : shutD l y) (hw : weekday y < 5) : 1 ≤ cnt l y (y + 1) := by
 obtain ⟨h1, h2⟩ := h
 unfold openB at h2
 rw [decide_eq_true h1, decide_eq_true hw] at h2
 simp at h2
 exact cnt_one h2
theorem shut_week {l : List Int} {a : Int} (h : ∀ y, a ≤ y → y < a + 7 → shutD l y) : 5 ≤ cnt l a (a + 7) := by
 have g : ∀ i : Int, 0 ≤ i → i < 7 → weekday (a + i) < 5 → 1 ≤ cnt l (a + i) (a + i + 1) := fun i h0 h1 hw => shut_in (h _ (by omega) (by omega)) hw
 have e1 := cnt_add (a := a) (b := a + 1) (c := a + 7) (by omega) (by omega) l
 have e2 := cnt_add (a := a + 1) (b := a + 2) (c := a + 7) (by omega) (by omega) l
 have e3 := cnt_add (a := a + 2) (b := a + 3) (c := a + 7) (by omega) (by omega) l
 have e4 := cnt_add (a := a + 3) (b := a + 4) (c := a + 7) (by omega) (by omega) l
 have e5 := cnt_add (a := a + 4) (b := a + 5) (c := a + 7) (by omega) (by omega) l
 have e6 := cnt_add (a := a + 5) (b := a + 6) (c := a + 7) (by omega) (by omega) l
 have g0 := g 0 (by omega) (by omega)
 have g1 := g 1 (by omega) (by omega)
 have g2 := g 2 (by omega) (by omega)
 have g3 := g 3 (by omega) (by omega)
 have g4 := g 4 (by omega) (by omega)
 have g5 := g 5 (by omega) (by omega)
 have g6 := g 6 (by omega) (by omega)
 simp only [Int.add_zero, Int.add_assoc, Int.reduceAdd] at g0 g1 g2 g3 g4 g5 g6
 have hw : weekday a = 0 ∨ weekday a = 1 ∨ weekday a = 2 ∨ weekday a = 3 ∨ weekday a = 4 ∨ weekday a = 5 ∨ weekday a = 6 := by unfold weekday; omega
 have w1 : weekday (a + 1) = (weekday a + 1) % 7 := by unfold weekday; omega
 have w2 : weekday (a + 2) = (weekday a + 2) % 7 := by unfold weekday; omega
 have w3 : weekday (a + 3) = (weekday a + 3) % 7 := by unfold weekday; omega
 have w4 : weekday (a + 4) = (weekday a + 4) % 7 := by unfold weekday; omega
 have w5 : weekday (a + 5) = (weekday a + 5) % 7 := by unfold weekday; omega
 have w6 : weekday (a + 6) = (weekday a + 6) % 7 := by unfold weekday; omega
 rw [w1] at g1; rw [w2] at g2; rw [w3] at g3; rw [w4] at g4; rw [w5] at g5; rw [w6] at g6
 clear w1 w2 w3 w4 w5 w6 g h
 rcases hw with e | e | e | e | e | e | e <;> rw [e] at g0 g1 g2 g3 g4 g5 g6 <;> simp only [Int.reduceAdd, Int.reduceMod, Int.reduceLT, forall_const] at g0 g1 g2 g3 g4 g5 g6 <;> omega
theorem shut_weeks {l : List Int} : ∀ (k : Nat) (a : Int), (∀ y, a ≤ y → y < a + 7 * k → shutD l y) → 5 * k ≤ cnt l a (a + 7 * k)
 | 0, a, h => by omega
 | k + 1, a, h => by
  have h1 := shut_week (l := l) (a := a) (fun y y0 y1 => h y y0 (by omega))
  have h2 := shut_weeks k (a + 7) (fun y y0 y1 => h y (by omega) (by omega))
  have e := cnt_add (a := a) (b := a + 7) (c := a + 7 * ((k + 1 : Nat) : Int)) (by omega) (by omega) l
  rw [show a + 7 + 7 * (k : Int) = a + 7 * ((k + 1 : Nat) : Int) by omega] at h2
  omega
theorem shut_run {l : List Int} (hl : l.length ≤ 200) {a b : Int} (h : ∀ y, a ≤ y → y < b → shutD l y) : b ≤ a + 290 := by
 rcases (by omega : b ≤ a + 290 ∨ a + 290 < b) with h1 | h1
 ·exact h1
 ·have := shut_weeks 41 a (fun y y0 y1 => h y y0 (by omega))
  have := cnt_le l a (a + 7 * ((41 : Nat) : Int))
  omega
theorem seek_shut_up (l : List Int) (x : Int) : ∀ (k : Nat) (day : Int), seekS l 1 k day = (x, 0) → day ≤ x ∧ isDay x ∧ ∀ y, day ≤ y → y < x → shutD l y
 | 0, day, h => by simp [seekS] at h
 | k + 1, day, h => by
  rw [seekS_succ] at h
  split at h
  ·rename_i hd
   split at h
   ·obtain ⟨rfl, -⟩ := Prod.mk.inj h
    exact ⟨Int.le_refl _, hd, fun y y0 y1 => by omega⟩
   ·rename_i ho
    obtain ⟨h1, h2, h3⟩ := seek_shut_up l x k (day + 1) h
    refine ⟨by omega, h2, fun y y0 y1 => ?_⟩
    rcases (by omega : y = day ∨ day + 1 ≤ y) with rfl | h4
    ·exact ⟨hd, by simpa using ho⟩
    ·exact h3 y h4 y1
  ·simp at h
theorem seek_shut_down (l : List Int) (x : Int) : ∀ (k : Nat) (day : Int), seekS l (-1) k day = (x, 0) → x ≤ day ∧ isDay x ∧ ∀ y, x < y → y ≤ day → shutD l y
 | 0, day, h => by simp [seekS] at h
 | k + 1, day, h => by
  rw [seekS_succ] at h
  split at h
  ·rename_i hd
   split at h
   ·obtain ⟨rfl, -⟩ := Prod.mk.inj h
    exact ⟨Int.le_refl _, hd, fun y y0 y1 => by omega⟩
   ·rename_i ho
    obtain ⟨h1, h2, h3⟩ := seek_shut_down l x k (day + -1) h
    refine ⟨by omega, h2, fun y y0 y1 => ?_⟩
    rcases (by omega : y = day ∨ y ≤ day + -1) with rfl | h4
    ·exact ⟨hd, by simpa using ho⟩
    ·exact h3 y y0 h4
  ·simp at h
def RB (how day x : Int) : Prop := how = 1 ∧ x = day ∨ how = 2 ∧ day ≤ x ∧ x ≤ day + 290 ∨ how = 4 ∧ day - 290 ≤ x ∧ x ≤ day ∨ how = 3 ∧ day - 290 ≤ x ∧ x ≤ day + 31
theorem up_bd {l : List Int} (hl : l.length ≤ 200) {k : Nat} {day x : Int} (h : seekS l 1 k day = (x, 0)) : day ≤ x ∧ x ≤ day + 290 ∧ isDay x := by
 obtain ⟨h1, h2, h3⟩ := seek_shut_up l x k day h
 exact ⟨h1, shut_run hl h3, h2⟩
theorem down_bd {l : List Int} (hl : l.length ≤ 200) {k : Nat} {day x : Int} (h : seekS l (-1) k day = (x, 0)) : day - 290 ≤ x ∧ x ≤ day := by
 obtain ⟨h1, h2, h3⟩ := seek_shut_down l x k day h
 have := shut_run hl (a := x + 1) (b := day + 1) (fun y y0 y1 => h3 y (by omega) (by omega))
 exact ⟨by omega, h1⟩
theorem same_month {a b : Int} (ha : isDay a) (hb : isDay b) (h : mon a = mon b) : b ≤ a + 31 := by
 obtain ⟨_, _, a1, a2, a3, _⟩ := idx_spec ha
 obtain ⟨_, _, b1, b2, b3, _⟩ := idx_spec hb
 have ea : mon a = idx a + 1 := by unfold mon date; rw [if_pos ha]; show 12 * yearOf a + monthOf a = idx a + 1; unfold idx; omega
 have eb : mon b = idx b + 1 := by unfold mon date; rw [if_pos hb]; show 12 * yearOf b + monthOf b = idx b + 1; unfold idx; omega
 have e : idx a = idx b := by omega
 have := dayAt_mono (t := idx b) (d := dayOf b) (d' := dayOf a)
 have m := ml_bd (idx b)
 rw [e] at a3
 omega
theorem roll_bd {l : List Int} (hl : l.length ≤ 200) {day how x : Int} (h : rollS l day how = (x, 0)) : RB how day x := by
 unfold rollS at h
 by_cases hd : isDay day
 ·rw [if_neg (fun g => g hd)] at h
  by_cases h1 : how < 1 ∨ 4 < how
  ·rw [if_pos h1] at h; simp at h
  ·rw [if_neg h1] at h
   by_cases e1 : how = 1
   ·rw [if_pos e1] at h
    obtain ⟨rfl, -⟩ := Prod.mk.inj h
    exact .inl ⟨e1, rfl⟩
   ·rw [if_neg e1] at h
    by_cases e4 : how = 4
    ·rw [if_pos e4] at h
     obtain ⟨p, q⟩ := down_bd hl h
     exact .inr (.inr (.inl ⟨e4, p, q⟩))
    ·rw [if_neg e4] at h
     split at h
     ·rename_i hc
      obtain ⟨p, q⟩ := down_bd hl h
      exact .inr (.inr (.inr ⟨hc.1, p, by omega⟩))
     ·rename_i hc
      obtain ⟨p, q, r⟩ := up_bd hl h
      by_cases e3 : how = 3
      ·have hm : mon x = mon day := by
        rcases Decidable.em (mon x = mon day) with g | g
        ·exact g
        ·exact absurd ⟨e3, .inr (by rw [h]; exact g)⟩ hc
       have := same_month hd r hm.symm
       exact .inr (.inr (.inr ⟨e3, by omega, this⟩))
      ·exact .inr (.inl ⟨by omega, p, q⟩)
 ·rw [if_pos hd] at h; simp at h
theorem dayAt_year (t d d' : Int) (h1 : 1 ≤ d) (h2 : d' ≤ 31) (h3 : d' ≤ d + 1) : dayAt (t + 12) d' ≤ dayAt t d + 369 := by
 unfold dayAt
 rw [show (t + 12) / 12 = t / 12 + 1 by omega, show (t + 12) % 12 = t % 12 by omega]
 have o := opens_succ (t / 12)
 have l1 := leap_01 (t / 12)
 have l2 := leap_01 (t / 12 + 1)
 have c : cum (t / 12 + 1) (t % 12 + 1) ≤ cum (t / 12) (t % 12 + 1) + 1 := by
  unfold cum
  repeat' split
  all_goals omega
 omega
theorem A_year {n k e : Int} (h : isDay n) (e1 : 1 ≤ e) (e2 : e ≤ 12) : A n (k + e) ≤ A n k + 369 := by
 have hy : A n (k + 12) ≤ A n k + 369 := by
  unfold A
  have d1 := (idx_spec h).2.2.1
  have m1 := ml_bd (idx n + k)
  have m2 := ml_bd (idx n + (k + 12))
  have hm : ml (idx n + (k + 12)) ≤ ml (idx n + k) + 1 := by
   unfold ml
   rw [show (idx n + (k + 12)) / 12 = (idx n + k) / 12 + 1 by omega, show (idx n + (k + 12)) % 12 = (idx n + k) % 12 by omega]
   have l1 := leap_01 ((idx n + k) / 12)
   have l2 := leap_01 ((idx n + k) / 12 + 1)
   unfold mlen
   repeat' split
   all_goals omega
  have := dayAt_year (idx n + k) (min (dayOf n) (ml (idx n + k))) (min (dayOf n) (ml (idx n + (k + 12)))) (by omega) (by omega) (by omega)
  rw [show idx n + k + 12 = idx n + (k + 12) by omega] at this
  exact this
 rcases (by omega : e = 12 ∨ e < 12) with rfl | h1
 ·exact hy
 ·have := A_far h (k := k + e) (k' := k + 12) (by omega)
  omega
def Near2 : Int → List Int → Prop
 | _, [] => True
 | p, d :: r => d ≤ p + 730 ∧ Near2 d r
theorem rolled_near {n e how : Int} {hol : List Int} (hd : isDay n) (hl : hol.length ≤ 200) (e1 : 1 ≤ e) (e2 : e ≤ 12) : ∀ (m : Nat) (i p : Int) (xs : List Int), RB how (A n (i * e)) p → rollAll hol how (drow n e m i) = (xs, 0) → Near2 p xs
 | 0, i, p, xs, hp, h => by
  obtain ⟨rfl, -⟩ := Prod.mk.inj h
  trivial
 | m + 1, i, p, xs, hp, h => by
  rw [drow, rollAll] at h
  split at h
  ·rename_i h0
   obtain ⟨x, hx⟩ : ∃ x, (rollS hol (A n ((i + 1) * e)) how).1 = x := ⟨_, rfl⟩
   have hr : rollS hol (A n ((i + 1) * e)) how = (x, 0) := by rw [← hx, ← h0]
   have hb := roll_bd hl hr
   rw [hx] at h
   unfold after at h
   split at h
   ·rename_i h1
    have hi := rolled_near hd hl e1 e2 m (i + 1) x (rollAll hol how (drow n e m (i + 1))).1 hb (by rw [← h1])
    obtain ⟨h2, -⟩ := Prod.mk.inj h
    rw [← h2]
    refine ⟨?_, hi⟩
    have ha := A_year (k := i * e) hd e1 e2
    rw [show i * e + e = (i + 1) * e by rw [Int.add_mul]; omega] at ha
    rcases hb with ⟨q, q1⟩ | ⟨q, q1, q2⟩ | ⟨q, q1, q2⟩ | ⟨q, q1, q2⟩ <;> rcases hp with ⟨s, s1⟩ | ⟨s, s1, s2⟩ | ⟨s, s1, s2⟩ | ⟨s, s1, s2⟩ <;> omega
   ·rename_i h1
    exact absurd (congrArg Prod.snd h) h1
  ·rename_i h0
   exact absurd (congrArg Prod.snd h) h0
theorem rb_self {how x : Int} (h1 : 1 ≤ how) (h2 : how ≤ 4) : RB how x x := by
 unfold RB
 omega
theorem days_near {q : Prod} {start : Int} {xs : List Int} (h : daysP q start = (xs, 0)) (ht : q.times ≤ 40) (h2 : start < 20000) : Near2 start xs := by
 obtain ⟨hq, hd, -, -, t1, -, -, hx, hx0, -⟩ := days_known h
 obtain ⟨⟨⟨⟨⟨a1, a2, a3, a4, a5, a6, a7, a8⟩, _⟩, _⟩, _⟩, ⟨hl, ⟨ro1, ro2⟩, _⟩, _⟩ := (ok_iff q).1 hq
 have e1 : 1 ≤ q.every := by omega
 have e2 : q.every ≤ 12 := by omega
 have hdt : datesP start q.every q.times = (drow start q.every q.times.toNat 0, 0) := by
  unfold datesP
  rw [if_pos (by omega), dates_are hd h2 e1 e2 _ 0 [] (by omega) (by omega)]
  rfl
 rw [hdt] at hx hx0
 refine rolled_near (hol := q.hol) (how := q.roll) hd hl e1 e2 q.times.toNat 0 start xs ?_ ?_
 ·rw [Int.zero_mul, A_zero hd]; exact rb_self ro1 ro2
 ·exact Prod.ext hx.symm hx0
theorem actual_most : ∀ (k : Nat) {a : Int}, isDay a → isDay (a + k) → actual (a + k) ≤ actual a + 366 * k
 | 0, a, _, _ => by simp
 | k + 1, a, ha, hb => by
  obtain ⟨a1, a2⟩ := id ha
  obtain ⟨b1, b2⟩ := id hb
  have hm : isDay (a + k) := ⟨by omega, by omega⟩
  have hb' : isDay (a + k + 1) := ⟨by omega, by omega⟩
  have ih := actual_most k ha hm
  have hs := actual_succ hm hb'
  have hl := leap_01 (yearOf (a + k))
  rw [show a + ((k + 1 : Nat) : Int) = a + k + 1 by omega]
  omega
theorem thirty_le {a b : Int} (ha : isDay a) (hb : isDay b) (h : a ≤ b) : thirty a ≤ thirty b := by
 obtain ⟨y1, y2, m1, m2, d1, d2⟩ := date_bd ha
 obtain ⟨y3, y4, m3, m4, d3, d4⟩ := date_bd hb
 obtain ⟨_, _, f1, f2, f3, _⟩ := idx_spec ha
 obtain ⟨_, _, g1, g2, g3, _⟩ := idx_spec hb
 have ei : idx a = 12 * yearOf a + monthOf a - 1 := rfl
 have ej : idx b = 12 * yearOf b + monthOf b - 1 := rfl
 unfold thirty
 rw [if_pos ha, if_pos hb]
 rcases (by omega : idx a < idx b ∨ idx a = idx b ∨ idx b < idx a) with h1 | h1 | h1
 ·omega
 ·have := dayAt_mono (t := idx b) (d := dayOf b) (d' := dayOf a)
  rw [h1] at f3
  omega
 ·have := dayAt_less h1 f1 g2
  omega
theorem place_two {c a b : Int} (hc : c = 1 ∨ c = 2 ∨ c = 3) (ha : isDay a) (hb : isDay b) (h : a ≤ b) (h2 : b ≤ a + 730) : 0 ≤ place c b - place c a ∧ place c b - place c a ≤ 267180 := by
 obtain ⟨p1, p2⟩ := id ha
 obtain ⟨q1, q2⟩ := id hb
 unfold place
 rcases hc with rfl | rfl | rfl
 ·simp only [if_true]
  have := thirty_le ha hb h
  obtain ⟨y1, y2, m1, m2, d1, d2⟩ := date_bd ha
  obtain ⟨y3, y4, m3, m4, d3, d4⟩ := date_bd hb
  unfold thirty at this ⊢
  rw [if_pos ha, if_pos hb] at this ⊢
  omega
 ·simp only [show ¬ ((2 : Int) = 1) by decide, if_false, if_true]; omega
 ·simp only [show ¬ ((3 : Int) = 1) by decide, show ¬ ((3 : Int) = 2) by decide, if_false]
  have hbb : isDay (a + ((b - a).toNat : Int)) := by rw [show a + ((b - a).toNat : Int) = b by omega]; exact hb
  have u := actual_most (b - a).toNat ha hbb
  have v := actual_up (b - a).toNat ha hbb
  rw [show a + ((b - a).toNat : Int) = b by omega] at u v
  omega
theorem fine_parts {c : Int} (hc : c = 1 ∨ c = 2 ∨ c = 3) : ∀ (l : List Int) (s : Int), isDay s → (∀ d ∈ l, isDay d) → rise s l = true → Near2 s l → fine (rpartsL c s l) = true
 | [], s, _, _, _, _ => rfl
 | d :: r, s, hs, hd, hr, hn => by
  obtain ⟨n1, n2⟩ := hn
  rw [rise, Bool.and_eq_true] at hr
  obtain ⟨r1, r2⟩ := hr
  have r1 := of_decide_eq_true r1
  have hdd := hd d (by simp)
  have := place_two hc hs hdd (by omega) n1
  rw [rpartsL, between_ok hc hs hdd]
  unfold fine
  rw [List.all_cons, Bool.and_eq_true]
  exact ⟨decide_eq_true this, fine_parts hc r d hdd (fun x hx => hd x (by simp [hx])) r2 n2⟩
theorem parts_fine {q : Prod} {start : Int} {ys : List Int} (h : partsP q start = (ys, 0)) (ht : q.times ≤ 40) (h2 : start < 20000) : ok q = true ∧ (ys.length : Int) = q.times ∧ fine ys = true := by
 unfold partsP at h
 split at h
 ·rename_i h0
  obtain ⟨rfl, -⟩ := Prod.mk.inj h
  have hd : daysP q start = ((daysP q start).1, 0) := by rw [← h0]
  obtain ⟨ho, hs0, hds, hl, t1, t2, hr, -⟩ := days_known hd
  have hc := count_known ho
  exact ⟨ho, by rw [rparts_len]; exact hl, fine_parts hc _ _ hs0 hds hr (days_near hd ht h2)⟩
 ·rename_i h0
  exact absurd (congrArg Prod.snd h) h0
theorem ask_parts {q : Prod} {start m : Int} {ys : List Int} (h : partsP q start = (ys, 0)) (ht : q.times ≤ 40) (h2 : start < 20000) (m0 : 1 ≤ m) (m1 : m ≤ 10000000000000) : askE q ys m = 0 := by
 obtain ⟨ho, hl, hf⟩ := parts_fine h ht h2
 have he : err q = 0 := by unfold err; rw [if_pos ho]
 unfold askE
 rw [he, if_neg (by decide), if_pos ⟨hl, m0, m1, hf⟩]
end Go.Proofs.Ytcfpkkgdofblfaa.Lv
/- The law LevelLeast, walked. -/
namespace Go.Proofs.Ytcfpkkgdofblfaa.Lv
open Go.RowKit Go.Proofs.YtcfpkkgdofblfaaW.PrintWords Go.Proofs.YtcfpkkgdofblfaaW.PrintLast Go.Proofs.YtcfpkkgdofblfaaW.PrintMore Go.Proofs.Ytcfpkkgdofblfaa.HW
open Pm Pd
set_option linter.unusedVariables false
set_option linter.unusedSimpArgs false
open Go.Proofs.Ytcfpkkgdofblfaa.H Go.Proofs.Ytcfpkkgdofblfaa.Du
attribute [local go_sem] max2_int min2_int max_two min_two
theorem ok_small2 {q : Prod} (h : ok q = true) : Small q := by
 obtain ⟨⟨⟨⟨⟨a1, _⟩, ⟨_, _, b3⟩, _⟩, _⟩, ⟨d1, _⟩, _⟩, ⟨e1, _⟩, _⟩ := (ok_iff q).1 h
 simp only [nameOk, Bool.and_eq_true, decide_eq_true_eq] at a1
 have hn : q.name.data.toList.length = q.name.size := rfl
 exact ⟨by omega, by omega, by omega, by omega⟩
def PartsNo (er : Int) (w : World) (e : Ending) (w' : World) : Prop := ∃ v, e = .returned (.tuple #[v, .int .i64 er]) ∧ Below w.heap.size w w'
def PartsYes (ys : List Int) (w : World) (e : Ending) (w' : World) : Prop := ∃ gx cx, e = .returned (.tuple #[.slice (some ⟨gx, 0, none⟩) ys.length cx, .int .i64 0]) ∧ Kd.C (Kd.int .i64) w' (some ⟨gx, 0, none⟩) ys.length ys ∧ Below w.heap.size w w'
theorem parts_no {r : List Int × Int} {w w' : World} {e : Ending} (h : ListedL r w e w') : PartsNo r.2 w e w' := by
 obtain ⟨v, he, hr, hb⟩ := h
 exact ⟨v, he, hb⟩
theorem parts_yes {ys : List Int} {w w' : World} {e : Ending} (h : ListedL (ys, 0) w e w') (h0 : 0 < ys.length) (hm : ys.length ≤ 1000000) : PartsYes ys w e w' := by
 obtain ⟨v, he, hr, hb⟩ := h
 rcases hr with ⟨-, h⟩ | ⟨g, c, t, rfl, hg, hc, hk⟩
 ·have : ys = [] := h
  rw [this] at h0; simp at h0
 ·exact ⟨g, c, he, reads_l hk hm, hb⟩
theorem of_two (p : Prod) (l : List Int) (m : Int) (h : askE p l m = 0) : (0 < lf p l m 1000000000000000 ∧ ofE p l m = (0, 10)) ∨ (lf p l m 1000000000000000 ≤ 0 ∧ ∃ v, ofE p l m = (v, 0) ∧ Least (lf p l m) v) := by
 obtain ⟨hm, hz⟩ := lf_mono h
 have hn : ¬ askE p l m ≠ 0 := by rw [h]; decide
 unfold ofE
 rw [if_neg hn]
 by_cases h2 : 0 < lf p l m 1000000000000000
 ·exact .inl ⟨h2, by rw [if_pos h2]⟩
 ·exact .inr ⟨by omega, _, by rw [if_neg h2], srch_least (lf p l m) 50 0 1000000000000000 (by decide) (by decide) (by decide) (by decide) hz (by omega)⟩
theorem left_two (p : Prod) (l : List Int) (m x : Int) (h : askE p l m = 0) (x0 : 0 ≤ x) (x1 : x ≤ 1000000000000000) : leftE p l m x = (lf p l m x, 0) := by
 have hn : ¬ askE p l m ≠ 0 := by rw [h]; decide
 unfold leftE
 rw [if_neg hn, if_pos ⟨x0, x1⟩]
theorem times_of_ok {q : Prod} (h : ok q = true) : 1 ≤ q.times ∧ q.times ≤ 600 := by
 obtain ⟨⟨⟨⟨⟨a1, a2, a3, a4, a5, a6, a7, a8⟩, _⟩, _⟩, _⟩, _⟩ := (ok_iff q).1 h
 exact a6
end Go.Proofs.Ytcfpkkgdofblfaa.Lv
/- The law LevelTimes, walked. -/
namespace Go.Proofs.Ytcfpkkgdofblfaa.Lv
open Go.RowKit Go.Proofs.YtcfpkkgdofblfaaW.PrintWords Go.Proofs.YtcfpkkgdofblfaaW.PrintLast Go.Proofs.YtcfpkkgdofblfaaW.PrintMore Go.Proofs.Ytcfpkkgdofblfaa.HW
open Pm Pd
set_option linter.unusedVariables false
set_option linter.unusedSimpArgs false
open Go.Proofs.Ytcfpkkgdofblfaa.H Go.Proofs.Ytcfpkkgdofblfaa.Du
abbrev r3 (q : Prod) : Prod := { q with round := 3 }
theorem ok_round {q : Prod} (h : ok q = true) : ok (r3 q) = true := by
 obtain ⟨⟨⟨⟨⟨a1, a2, a3, a4, a5, a6, a7, a8⟩, b⟩, c⟩, d⟩, e⟩ := (ok_iff q).1 h
 exact (ok_iff _).2 ⟨⟨⟨⟨⟨a1, a2, .inr rfl, a4, a5, a6, a7, a8⟩, b⟩, c⟩, d⟩, e⟩
theorem r_at {w : World} {q : Prod} {A1 : Option Addr} {c1 : Nat} {A2 : Option Addr} {c2 : Nat} {A3 : Option Addr} {c3 : Nat} (h : ProdAt w q A1 c1 A2 c2 A3 c3) : ProdAt w (r3 q) A1 c1 A2 c2 A3 c3 :=
 ⟨h.r1, h.l1, h.n1, h.r2, h.l2, h.n2, h.r3, h.l3, h.n3⟩
theorem lf_more {p : Prod} {l : List Int} {m m2 x : Int} (m0 : 1 ≤ m) (h : m ≤ m2) (m1 : m2 ≤ 10000000000000) (h0 : lf p l m2 x ≤ 0) : lf p l m x ≤ 0 := by
 have I : In (Gm.whole p.count) (Gm.half p.count p.round) 0 m := good_in (good_new p.count p.round) (by omega) (by omega)
 have I2 : In (Gm.whole p.count) (Gm.half p.count p.round) 0 m2 := good_in (good_new p.count p.round) (by omega) (by omega)
 exact wk_mono (Int.le_refl x) l 0 m 0 m2 0 I I2 (by omega) (fun _ => by omega) h0
theorem least_more {p : Prod} {l : List Int} {m m2 a b : Int} (m0 : 1 ≤ m) (h : m ≤ m2) (m1 : m2 ≤ 10000000000000) (ha : askE p l m = 0) (la : Least (lf p l m) a) (lb : Least (lf p l m2) b) : a ≤ b := by
 rcases (by omega : a ≤ b ∨ b ≤ a - 1) with g | g
 ·exact g
 ·have h1 := lf_more m0 h m1 lb.yes
  have h2 := (lf_mono ha).1 b (a - 1) (by have := lb.v1; omega) g (by have := la.vm; omega) h1
  have := la.no
  omega
set_option maxRecDepth 100000 in
set_option maxHeartbeats 8000000 in
theorem times_none (p : Prod) (A1 : Option Addr) (c1 : Nat) (A2 : Option Addr) (c2 : Nat) (A3 : Option Addr) (c3 : Nat) (a : Int) (w : World) (hp : ProdAt w p A1 c1 A2 c2 A3 c3) (hgv : GV w) (hd : Held p) (hx : (partsP (r3 (nearP p 24)) 19723).2 ≠ 0) : Calls Try.prog 9 #[pv p A1 c1 A2 c2 A3 c3, .int .i64 a] w fun e w' => e = .returned (.bool true) ∧ Below w.heap.size w w' := by
 have HP := Aside0.mk hp
 have NE := Aside0.mk (fun W (hb : Below w.heap.size w W) => near_any p A1 c1 A2 c2 A3 c3 24 W (hp.below hb) hd (by omega) (by omega))
 obtain ⟨nv, nt⟩ := near_valid p (n := 24) (by omega) (by omega)
 have AK := Aside0.mk (fun (W : World) (hb : Below w.heap.size w W) => level_awake W (hgv.below hb))
 have HG := Aside0.mk hgv
 generalize nearP p 24 = q0 at NE nv nt hx
 have nv1 := ok_round nv
 have nt1 : ((r3 q0) : Prod).times ≤ 40 := Int.le_trans nt (by decide)
 have sq := ok_small2 nv1
 obtain ⟨er, her⟩ : ∃ er, (partsP (r3 q0) 19723).2 = er := ⟨_, rfl⟩
 have PA := Aside0.mk (fun (B1 : Option Addr) (d1 : Nat) (B2 : Option Addr) (d2 : Nat) (B3 : Option Addr) (d3 : Nat) (hq : ∀ w0, ProdAt w0 p A1 c1 A2 c2 A3 c3 → ProdAt w0 q0 B1 d1 B2 d2 B3 d3) (W : World) (hb : Below w.heap.size w W) => show Calls Try.prog 17 #[pv (r3 q0) B1 d1 B2 d2 B3 d3, .int .i64 19723] W (PartsNo er W) from (rparts_any (r3 q0) B1 d1 B2 d2 B3 d3 19723 W (r_at (hq W (HP.out.below hb))) sq.held sq.s3).mono fun e w' h => by rw [← her]; exact parts_no h)
 rw [her] at hx
 have he : (er != 0) = true := by simpa using hx
 clear hp hgv hd sq nv nt nv1 nt1 her hx
 go_enter Try.func9, Try.ntmps9
 go_wp2_with (first
  | ((with_reducible refine gate_dst (N := 2) rfl ?_); refine box_event ?hg (N := 2) ?hd (cs := pcs p A1 c1 A2 c2 A3 c3) (t := 27) ?hr ?_; (case hd => rfl); (case hg => rfl); (case hr => first | (go_simp; done) | (go_simp; rfl)); intro g hg w1 hb1 hbl1; have gge := (show w.heap.size ≤ g by rw [hg]; exact Nat.le_refl _); clear hg; have GG := Aside0.mk hb1; have HB := Aside0.mk hbl1; clear hb1 hbl1)
  | ((with_reducible refine gate_dst (N := 13) rfl ?_); refine wpList_load_row rfl 27 (.tmp 2) rfl g rfl 27 _ (0, 0) _ GG.out Try.underlying27 rfl info_prod ?_)
  | (go_at_call 12; (with_reducible refine (NE.out _ HB.out).mono ?_); rintro e w2 ⟨B1, d1, B2, d2, B3, d3, rfl, hq, hb⟩; have HQ := Aside0.mk hq; have HB := Aside0.mk (below_step HB.out hb); have GG := Aside0.mk (Pd.blk_below GG.out hb); clear hq hb)
  | ((with_reducible refine gate_store (t := 27) (p := 2) rfl ?_); refine row_event rfl (t := 27) (p := 2) (v := .tmp 14) rfl rfl (g := g) (cs := pcs q0 B1 d1 B2 d2 B3 d3) (zs := pcs p A1 c1 A2 c2 A3 c3) rfl rfl GG.out info_prod rfl (pcs_one _ _ _ _ _ _ _) ?_; intro w3 hb8 hbut; have GG := Aside0.mk hb8; have HB := Aside0.mk (But.below HB.out HB.out.size gge hbut); clear hb8 hbut; have uu2 : w3.cell? ⟨g, 2, none⟩ = some (.int .i64 q0.round) := (blk_cell GG.out 2).trans rfl; have ff2 := frozen_of_row w3 g 2 _ _ GG.out)
  | ((with_reducible refine gate_store (t := 3) (p := 15) rfl ?_); refine put_event rfl (t := 3) (p := 15) (v := (.const (.int .i64 3))) rfl rfl (g := g) (i := 2) (cs := pcs q0 B1 d1 B2 d2 B3 d3) (cs' := pcs (r3 q0) B1 d1 B2 d2 B3 d3) (x := .int .i64 3) ?hr GG.out ?hc ?_; (case hc => rfl); (case hr => go_simp); intro w33 hb8 hbut; have GG := Aside0.mk hb8; have HB := Aside0.mk (But.below HB.out HB.out.size gge hbut); clear hb8 hbut)
  | ((with_reducible refine gate_dst (N := 17) rfl ?_); refine wpList_load_row rfl 27 (.tmp 2) rfl g rfl 27 _ (0, 0) _ GG.out Try.underlying27 rfl info_prod ?_)
  | (go_at_call 17; (with_reducible refine (PA.out _ _ _ _ _ _ HQ.out _ HB.out).mono ?_); rintro e w4 ⟨v, rfl, hb⟩; have HB := Aside0.mk (below_step HB.out hb); have GG := Aside0.mk (Pd.blk_below GG.out hb); clear hb)
  | (go_at_call 24; (with_reducible refine (AK.out _ HB.out).mono ?_); rintro e w9 ⟨rfl, hb⟩; have HB := Aside0.mk (below_step HB.out hb); clear hb))
 go_ret
 exact ⟨rfl, HB.out⟩
set_option maxRecDepth 100000 in
set_option maxHeartbeats 8000000 in
theorem times_one (p : Prod) (A1 : Option Addr) (c1 : Nat) (A2 : Option Addr) (c2 : Nat) (A3 : Option Addr) (c3 : Nat) (a : Int) (w : World) (hp : ProdAt w p A1 c1 A2 c2 A3 c3) (hgv : GV w) (hd : Held p) (hx : (partsP (r3 (nearP p 24)) 19723).2 = 0) (hf : ∀ ys, partsP (r3 (nearP p 24)) 19723 = (ys, 0) → 0 < lf (r3 (nearP p 24)) ys (2 + U a 1000000000) 1000000000000000) : Calls Try.prog 9 #[pv p A1 c1 A2 c2 A3 c3, .int .i64 a] w fun e w' => e = .returned (.bool true) ∧ Below w.heap.size w w' := by
 have HP := Aside0.mk hp
 have NE := Aside0.mk (fun W (hb : Below w.heap.size w W) => near_any p A1 c1 A2 c2 A3 c3 24 W (hp.below hb) hd (by omega) (by omega))
 obtain ⟨nv, nt⟩ := near_valid p (n := 24) (by omega) (by omega)
 have AK := Aside0.mk (fun (W : World) (hb : Below w.heap.size w W) => level_awake W (hgv.below hb))
 have HG := Aside0.mk hgv
 generalize nearP p 24 = q0 at NE nv nt hx hf
 have nv1 := ok_round nv
 have nt1 : ((r3 q0) : Prod).times ≤ 40 := Int.le_trans nt (by decide)
 have sq := ok_small2 nv1
 have SQ := Aside0.mk sq
 obtain ⟨ys, hy⟩ : ∃ ys, partsP (r3 q0) 19723 = (ys, 0) := ⟨(partsP (r3 q0) 19723).1, Prod.ext rfl hx⟩
 obtain ⟨_, yl, _⟩ := parts_fine hy nt1 (by decide)
 have times1 := times_of_ok nv1
 have y0 : 0 < ys.length := by omega
 have ym : ys.length ≤ 1000000 := by omega
 have PA := Aside0.mk (fun (B1 : Option Addr) (d1 : Nat) (B2 : Option Addr) (d2 : Nat) (B3 : Option Addr) (d3 : Nat) (hq : ∀ w0, ProdAt w0 p A1 c1 A2 c2 A3 c3 → ProdAt w0 q0 B1 d1 B2 d2 B3 d3) (W : World) (hb : Below w.heap.size w W) => show Calls Try.prog 17 #[pv (r3 q0) B1 d1 B2 d2 B3 d3, .int .i64 19723] W (PartsYes ys W) from (rparts_any (r3 q0) B1 d1 B2 d2 B3 d3 19723 W (r_at (hq W (HP.out.below hb))) sq.held sq.s3).mono fun e w' h => by rw [hy] at h; exact parts_yes h y0 ym)
 have mM := U_isB a (m := 1000000000) (by omega) (by omega)
 obtain ⟨mMa, mMb⟩ := U_bd a (m := 1000000000) (by omega)
 obtain ⟨M, hM⟩ : ∃ M, 2 + U a 1000000000 = M := ⟨_, rfl⟩
 have sM : IntKind.i64.wrap (2 + U a 1000000000) = M := by rw [hM]; exact IntWalk.i64_in _ (by omega)
 obtain ⟨h, hh⟩ : ∃ h, Int.tdiv M 2 = h := ⟨_, rfl⟩
 have hh2 : h = M / 2 := by rw [← hh]; exact Int.tdiv_eq_ediv_of_nonneg (by omega)
 have sh : IntKind.i64.wrap (Int.tdiv M 2) = h := by rw [hh]; exact IntWalk.i64_in _ (by omega)
 obtain ⟨M2, hM2⟩ : ∃ M2, M + h = M2 := ⟨_, rfl⟩
 have sM2 : IntKind.i64.wrap (M + h) = M2 := by rw [hM2]; exact IntWalk.i64_in _ (by omega)
 have sM3 : wrap64 (M + h) = M2 := by rw [← i64_w]; exact sM2
 have ha : askE (r3 q0) ys M = 0 := ask_parts hy nt1 (by decide) (by omega) (by omega)
 have ha2 : askE (r3 q0) ys M2 = 0 := ask_parts hy nt1 (by decide) (by omega) (by omega)
 have hof : ofE (r3 q0) ys M = (0, 10) := by
  have h2 := hf ys hy
  rw [hM] at h2
  rcases of_two (r3 q0) ys M ha with ⟨_, k⟩ | ⟨k, _⟩
  ·exact k
  ·omega
 obtain ⟨vb, eb, hof2⟩ : ∃ vb eb, ofE (r3 q0) ys M2 = (vb, eb) := ⟨_, _, rfl⟩
 have OF := Aside0.mk (fun (B1 : Option Addr) (d1 : Nat) (B2 : Option Addr) (d2 : Nat) (B3 : Option Addr) (d3 : Nat) (hq : ∀ w0, ProdAt w0 p A1 c1 A2 c2 A3 c3 → ProdAt w0 q0 B1 d1 B2 d2 B3 d3) (W : World) (hb : Below w.heap.size w W) (A : Option Addr) (c : Nat) (hc : Kd.C (Kd.int .i64) W A ys.length ys) => show Calls Try.prog 23 #[pv (r3 q0) B1 d1 B2 d2 B3 d3, .slice A ys.length c, .int .i64 M] W (Two (0, 10) W) from by have := Of_any (r3 q0) B1 d1 B2 d2 B3 d3 A ys c M W (HG.out.below hb) (r_at (hq W (HP.out.below hb))) SQ.out hc ym; rw [hof] at this; exact this)
 have OG := Aside0.mk (fun (B1 : Option Addr) (d1 : Nat) (B2 : Option Addr) (d2 : Nat) (B3 : Option Addr) (d3 : Nat) (hq : ∀ w0, ProdAt w0 p A1 c1 A2 c2 A3 c3 → ProdAt w0 q0 B1 d1 B2 d2 B3 d3) (W : World) (hb : Below w.heap.size w W) (A : Option Addr) (c : Nat) (hc : Kd.C (Kd.int .i64) W A ys.length ys) => show Calls Try.prog 23 #[pv (r3 q0) B1 d1 B2 d2 B3 d3, .slice A ys.length c, .int .i64 M2] W (Two (vb, eb) W) from by have := Of_any (r3 q0) B1 d1 B2 d2 B3 d3 A ys c M2 W (HG.out.below hb) (r_at (hq W (HP.out.below hb))) SQ.out hc ym; rw [hof2] at this; exact this)
 clear hp hgv hd sq nv nt nv1 nt1 hy hx hM ha ha2 yl times1 hh hh2 hM2 hof hof2 hf
 go_enter Try.func9, Try.ntmps9
 go_wp2_with (first
  | ((with_reducible refine gate_dst (N := 2) rfl ?_); refine box_event ?hg (N := 2) ?hd (cs := pcs p A1 c1 A2 c2 A3 c3) (t := 27) ?hr ?_; (case hd => rfl); (case hg => rfl); (case hr => first | (go_simp; done) | (go_simp; rfl)); intro g hg w1 hb1 hbl1; have gge := (show w.heap.size ≤ g by rw [hg]; exact Nat.le_refl _); clear hg; have GG := Aside0.mk hb1; have HB := Aside0.mk hbl1; clear hb1 hbl1)
  | ((with_reducible refine gate_dst (N := 13) rfl ?_); refine wpList_load_row rfl 27 (.tmp 2) rfl g rfl 27 _ (0, 0) _ GG.out Try.underlying27 rfl info_prod ?_)
  | (go_at_call 12; (with_reducible refine (NE.out _ HB.out).mono ?_); rintro e w2 ⟨B1, d1, B2, d2, B3, d3, rfl, hq, hb⟩; have HQ := Aside0.mk hq; have HB := Aside0.mk (below_step HB.out hb); have GG := Aside0.mk (Pd.blk_below GG.out hb); clear hq hb)
  | ((with_reducible refine gate_store (t := 27) (p := 2) rfl ?_); refine row_event rfl (t := 27) (p := 2) (v := .tmp 14) rfl rfl (g := g) (cs := pcs q0 B1 d1 B2 d2 B3 d3) (zs := pcs p A1 c1 A2 c2 A3 c3) rfl rfl GG.out info_prod rfl (pcs_one _ _ _ _ _ _ _) ?_; intro w3 hb8 hbut; have GG := Aside0.mk hb8; have HB := Aside0.mk (But.below HB.out HB.out.size gge hbut); clear hb8 hbut; have uu2 : w3.cell? ⟨g, 2, none⟩ = some (.int .i64 q0.round) := (blk_cell GG.out 2).trans rfl; have ff2 := frozen_of_row w3 g 2 _ _ GG.out)
  | ((with_reducible refine gate_store (t := 3) (p := 15) rfl ?_); refine put_event rfl (t := 3) (p := 15) (v := (.const (.int .i64 3))) rfl rfl (g := g) (i := 2) (cs := pcs q0 B1 d1 B2 d2 B3 d3) (cs' := pcs (r3 q0) B1 d1 B2 d2 B3 d3) (x := .int .i64 3) ?hr GG.out ?hc ?_; (case hc => rfl); (case hr => go_simp); intro w33 hb8 hbut; have GG := Aside0.mk hb8; have HB := Aside0.mk (But.below HB.out HB.out.size gge hbut); clear hb8 hbut)
  | ((with_reducible refine gate_dst (N := 17) rfl ?_); refine wpList_load_row rfl 27 (.tmp 2) rfl g rfl 27 _ (0, 0) _ GG.out Try.underlying27 rfl info_prod ?_)
  | (go_at_call 17; (with_reducible refine (PA.out _ _ _ _ _ _ HQ.out _ HB.out).mono ?_); rintro e w4 ⟨gx, cx, rfl, hcx, hb⟩; have RD := Aside0.mk hcx; have HB := Aside0.mk (below_step HB.out hb); have GG := Aside0.mk (Pd.blk_below GG.out hb); clear hb hcx)
  | ((with_reducible refine gate_dst (N := 30) rfl ?_); refine wpList_load_row rfl 27 (.tmp 2) rfl g rfl 27 _ (0, 0) _ GG.out Try.underlying27 rfl info_prod ?_)
  | (go_at_call 23; (with_reducible refine (OF.out _ _ _ _ _ _ HQ.out _ HB.out _ _ RD.out).mono ?_); rintro e w5 ⟨rfl, hb⟩; have HB := Aside0.mk (below_step HB.out hb); have GG := Aside0.mk (Pd.blk_below GG.out hb); have RD := Aside0.mk (Kd.C_below RD.out hb); clear hb)
  | ((with_reducible refine gate_dst (N := 37) rfl ?_); refine wpList_load_row rfl 27 (.tmp 2) rfl g rfl 27 _ (0, 0) _ GG.out Try.underlying27 rfl info_prod ?_)
  | (go_at_call 23; (with_reducible refine (OG.out _ _ _ _ _ _ HQ.out _ HB.out _ _ RD.out).mono ?_); rintro e w6 ⟨rfl, hb⟩; have HB := Aside0.mk (below_step HB.out hb); have GG := Aside0.mk (Pd.blk_below GG.out hb); have RD := Aside0.mk (Kd.C_below RD.out hb); clear hb)
  | (go_at_call 24; (with_reducible refine (AK.out _ HB.out).mono ?_); rintro e w9 ⟨rfl, hb⟩; have HB := Aside0.mk (below_step HB.out hb); clear hb))
 go_ret
 exact ⟨rfl, HB.out⟩
set_option maxRecDepth 100000 in
set_option maxHeartbeats 8000000 in
theorem times_two (p : Prod) (A1 : Option Addr) (c1 : Nat) (A2 : Option Addr) (c2 : Nat) (A3 : Option Addr) (c3 : Nat) (a : Int) (w : World) (hp : ProdAt w p A1 c1 A2 c2 A3 c3) (hgv : GV w) (hd : Held p) (hx : (partsP (r3 (nearP p 24)) 19723).2 = 0) (hf : ∀ ys, partsP (r3 (nearP p 24)) 19723 = (ys, 0) → lf (r3 (nearP p 24)) ys (2 + U a 1000000000) 1000000000000000 ≤ 0 ∧ 0 < lf (r3 (nearP p 24)) ys (2 + U a 1000000000 + (2 + U a 1000000000) / 2) 1000000000000000) : Calls Try.prog 9 #[pv p A1 c1 A2 c2 A3 c3, .int .i64 a] w fun e w' => e = .returned (.bool true) ∧ Below w.heap.size w w' := by
 have HP := Aside0.mk hp
 have NE := Aside0.mk (fun W (hb : Below w.heap.size w W) => near_any p A1 c1 A2 c2 A3 c3 24 W (hp.below hb) hd (by omega) (by omega))
 obtain ⟨nv, nt⟩ := near_valid p (n := 24) (by omega) (by omega)
 have AK := Aside0.mk (fun (W : World) (hb : Below w.heap.size w W) => level_awake W (hgv.below hb))
 have HG := Aside0.mk hgv
 generalize nearP p 24 = q0 at NE nv nt hx hf
 have nv1 := ok_round nv
 have nt1 : ((r3 q0) : Prod).times ≤ 40 := Int.le_trans nt (by decide)
 have sq := ok_small2 nv1
 have SQ := Aside0.mk sq
 obtain ⟨ys, hy⟩ : ∃ ys, partsP (r3 q0) 19723 = (ys, 0) := ⟨(partsP (r3 q0) 19723).1, Prod.ext rfl hx⟩
 obtain ⟨_, yl, _⟩ := parts_fine hy nt1 (by decide)
 have times1 := times_of_ok nv1
 have y0 : 0 < ys.length := by omega
 have ym : ys.length ≤ 1000000 := by omega
 have PA := Aside0.mk (fun (B1 : Option Addr) (d1 : Nat) (B2 : Option Addr) (d2 : Nat) (B3 : Option Addr) (d3 : Nat) (hq : ∀ w0, ProdAt w0 p A1 c1 A2 c2 A3 c3 → ProdAt w0 q0 B1 d1 B2 d2 B3 d3) (W : World) (hb : Below w.heap.size w W) => show Calls Try.prog 17 #[pv (r3 q0) B1 d1 B2 d2 B3 d3, .int .i64 19723] W (PartsYes ys W) from (rparts_any (r3 q0) B1 d1 B2 d2 B3 d3 19723 W (r_at (hq W (HP.out.below hb))) sq.held sq.s3).mono fun e w' h => by rw [hy] at h; exact parts_yes h y0 ym)
 have mM := U_isB a (m := 1000000000) (by omega) (by omega)
 obtain ⟨mMa, mMb⟩ := U_bd a (m := 1000000000) (by omega)
 obtain ⟨M, hM⟩ : ∃ M, 2 + U a 1000000000 = M := ⟨_, rfl⟩
 have sM : IntKind.i64.wrap (2 + U a 1000000000) = M := by rw [hM]; exact IntWalk.i64_in _ (by omega)
 obtain ⟨h, hh⟩ : ∃ h, Int.tdiv M 2 = h := ⟨_, rfl⟩
 have hh2 : h = M / 2 := by rw [← hh]; exact Int.tdiv_eq_ediv_of_nonneg (by omega)
 have sh : IntKind.i64.wrap (Int.tdiv M 2) = h := by rw [hh]; exact IntWalk.i64_in _ (by omega)
 obtain ⟨M2, hM2⟩ : ∃ M2, M + h = M2 := ⟨_, rfl⟩
 have sM2 : IntKind.i64.wrap (M + h) = M2 := by rw [hM2]; exact IntWalk.i64_in _ (by omega)
 have sM3 : wrap64 (M + h) = M2 := by rw [← i64_w]; exact sM2
 have ha : askE (r3 q0) ys M = 0 := ask_parts hy nt1 (by decide) (by omega) (by omega)
 have ha2 : askE (r3 q0) ys M2 = 0 := ask_parts hy nt1 (by decide) (by omega) (by omega)
 obtain ⟨V, hof, _⟩ : ∃ v, ofE (r3 q0) ys M = (v, 0) ∧ Least (lf (r3 q0) ys M) v := by
  have h2 := (hf ys hy).1
  rw [hM] at h2
  rcases of_two (r3 q0) ys M ha with ⟨k, _⟩ | ⟨_, k⟩
  ·omega
  ·exact k
 have hof2 : ofE (r3 q0) ys M2 = (0, 10) := by
  have h2 := (hf ys hy).2
  rw [hM, ← hh2, hM2] at h2
  rcases of_two (r3 q0) ys M2 ha2 with ⟨_, k⟩ | ⟨k, _⟩
  ·exact k
  ·omega
 have OF := Aside0.mk (fun (B1 : Option Addr) (d1 : Nat) (B2 : Option Addr) (d2 : Nat) (B3 : Option Addr) (d3 : Nat) (hq : ∀ w0, ProdAt w0 p A1 c1 A2 c2 A3 c3 → ProdAt w0 q0 B1 d1 B2 d2 B3 d3) (W : World) (hb : Below w.heap.size w W) (A : Option Addr) (c : Nat) (hc : Kd.C (Kd.int .i64) W A ys.length ys) => show Calls Try.prog 23 #[pv (r3 q0) B1 d1 B2 d2 B3 d3, .slice A ys.length c, .int .i64 M] W (Two (V, 0) W) from by have := Of_any (r3 q0) B1 d1 B2 d2 B3 d3 A ys c M W (HG.out.below hb) (r_at (hq W (HP.out.below hb))) SQ.out hc ym; rw [hof] at this; exact this)
 have OG := Aside0.mk (fun (B1 : Option Addr) (d1 : Nat) (B2 : Option Addr) (d2 : Nat) (B3 : Option Addr) (d3 : Nat) (hq : ∀ w0, ProdAt w0 p A1 c1 A2 c2 A3 c3 → ProdAt w0 q0 B1 d1 B2 d2 B3 d3) (W : World) (hb : Below w.heap.size w W) (A : Option Addr) (c : Nat) (hc : Kd.C (Kd.int .i64) W A ys.length ys) => show Calls Try.prog 23 #[pv (r3 q0) B1 d1 B2 d2 B3 d3, .slice A ys.length c, .int .i64 M2] W (Two (0, 10) W) from by have := Of_any (r3 q0) B1 d1 B2 d2 B3 d3 A ys c M2 W (HG.out.below hb) (r_at (hq W (HP.out.below hb))) SQ.out hc ym; rw [hof2] at this; exact this)
 clear hp hgv hd sq nv nt nv1 nt1 hy hx hM ha ha2 yl times1 hh hh2 hM2 hof hof2 hf
 go_enter Try.func9, Try.ntmps9
 go_wp2_with (first
  | ((with_reducible refine gate_dst (N := 2) rfl ?_); refine box_event ?hg (N := 2) ?hd (cs := pcs p A1 c1 A2 c2 A3 c3) (t := 27) ?hr ?_; (case hd => rfl); (case hg => rfl); (case hr => first | (go_simp; done) | (go_simp; rfl)); intro g hg w1 hb1 hbl1; have gge := (show w.heap.size ≤ g by rw [hg]; exact Nat.le_refl _); clear hg; have GG := Aside0.mk hb1; have HB := Aside0.mk hbl1; clear hb1 hbl1)
  | ((with_reducible refine gate_dst (N := 13) rfl ?_); refine wpList_load_row rfl 27 (.tmp 2) rfl g rfl 27 _ (0, 0) _ GG.out Try.underlying27 rfl info_prod ?_)
  | (go_at_call 12; (with_reducible refine (NE.out _ HB.out).mono ?_); rintro e w2 ⟨B1, d1, B2, d2, B3, d3, rfl, hq, hb⟩; have HQ := Aside0.mk hq; have HB := Aside0.mk (below_step HB.out hb); have GG := Aside0.mk (Pd.blk_below GG.out hb); clear hq hb)
  | ((with_reducible refine gate_store (t := 27) (p := 2) rfl ?_); refine row_event rfl (t := 27) (p := 2) (v := .tmp 14) rfl rfl (g := g) (cs := pcs q0 B1 d1 B2 d2 B3 d3) (zs := pcs p A1 c1 A2 c2 A3 c3) rfl rfl GG.out info_prod rfl (pcs_one _ _ _ _ _ _ _) ?_; intro w3 hb8 hbut; have GG := Aside0.mk hb8; have HB := Aside0.mk (But.below HB.out HB.out.size gge hbut); clear hb8 hbut; have uu2 : w3.cell? ⟨g, 2, none⟩ = some (.int .i64 q0.round) := (blk_cell GG.out 2).trans rfl; have ff2 := frozen_of_row w3 g 2 _ _ GG.out)
  | ((with_reducible refine gate_store (t := 3) (p := 15) rfl ?_); refine put_event rfl (t := 3) (p := 15) (v := (.const (.int .i64 3))) rfl rfl (g := g) (i := 2) (cs := pcs q0 B1 d1 B2 d2 B3 d3) (cs' := pcs (r3 q0) B1 d1 B2 d2 B3 d3) (x := .int .i64 3) ?hr GG.out ?hc ?_; (case hc => rfl); (case hr => go_simp); intro w33 hb8 hbut; have GG := Aside0.mk hb8; have HB := Aside0.mk (But.below HB.out HB.out.size gge hbut); clear hb8 hbut)
  | ((with_reducible refine gate_dst (N := 17) rfl ?_); refine wpList_load_row rfl 27 (.tmp 2) rfl g rfl 27 _ (0, 0) _ GG.out Try.underlying27 rfl info_prod ?_)
  | (go_at_call 17; (with_reducible refine (PA.out _ _ _ _ _ _ HQ.out _ HB.out).mono ?_); rintro e w4 ⟨gx, cx, rfl, hcx, hb⟩; have RD := Aside0.mk hcx; have HB := Aside0.mk (below_step HB.out hb); have GG := Aside0.mk (Pd.blk_below GG.out hb); clear hb hcx)
  | ((with_reducible refine gate_dst (N := 30) rfl ?_); refine wpList_load_row rfl 27 (.tmp 2) rfl g rfl 27 _ (0, 0) _ GG.out Try.underlying27 rfl info_prod ?_)
  | (go_at_call 23; (with_reducible refine (OF.out _ _ _ _ _ _ HQ.out _ HB.out _ _ RD.out).mono ?_); rintro e w5 ⟨rfl, hb⟩; have HB := Aside0.mk (below_step HB.out hb); have GG := Aside0.mk (Pd.blk_below GG.out hb); have RD := Aside0.mk (Kd.C_below RD.out hb); clear hb)
  | ((with_reducible refine gate_dst (N := 37) rfl ?_); refine wpList_load_row rfl 27 (.tmp 2) rfl g rfl 27 _ (0, 0) _ GG.out Try.underlying27 rfl info_prod ?_)
  | (go_at_call 23; (with_reducible refine (OG.out _ _ _ _ _ _ HQ.out _ HB.out _ _ RD.out).mono ?_); rintro e w6 ⟨rfl, hb⟩; have HB := Aside0.mk (below_step HB.out hb); have GG := Aside0.mk (Pd.blk_below GG.out hb); have RD := Aside0.mk (Kd.C_below RD.out hb); clear hb)
  | (go_at_call 24; (with_reducible refine (AK.out _ HB.out).mono ?_); rintro e w9 ⟨rfl, hb⟩; have HB := Aside0.mk (below_step HB.out hb); clear hb))
 go_ret
 exact ⟨rfl, HB.out⟩
set_option maxRecDepth 100000 in
set_option maxHeartbeats 8000000 in
theorem times_all (p : Prod) (A1 : Option Addr) (c1 : Nat) (A2 : Option Addr) (c2 : Nat) (A3 : Option Addr) (c3 : Nat) (a : Int) (w : World) (hp : ProdAt w p A1 c1 A2 c2 A3 c3) (hgv : GV w) (hd : Held p) (hx : (partsP (r3 (nearP p 24)) 19723).2 = 0) (hf : ∀ ys, partsP (r3 (nearP p 24)) 19723 = (ys, 0) → lf (r3 (nearP p 24)) ys (2 + U a 1000000000) 1000000000000000 ≤ 0 ∧ lf (r3 (nearP p 24)) ys (2 + U a 1000000000 + (2 + U a 1000000000) / 2) 1000000000000000 ≤ 0) : Calls Try.prog 9 #[pv p A1 c1 A2 c2 A3 c3, .int .i64 a] w fun e w' => e = .returned (.bool true) ∧ Below w.heap.size w w' := by
 have HP := Aside0.mk hp
 have NE := Aside0.mk (fun W (hb : Below w.heap.size w W) => near_any p A1 c1 A2 c2 A3 c3 24 W (hp.below hb) hd (by omega) (by omega))
 obtain ⟨nv, nt⟩ := near_valid p (n := 24) (by omega) (by omega)
 have AK := Aside0.mk (fun (W : World) (hb : Below w.heap.size w W) => level_awake W (hgv.below hb))
 have HG := Aside0.mk hgv
 generalize nearP p 24 = q0 at NE nv nt hx hf
 have nv1 := ok_round nv
 have nt1 : ((r3 q0) : Prod).times ≤ 40 := Int.le_trans nt (by decide)
 have sq := ok_small2 nv1
 have SQ := Aside0.mk sq
 obtain ⟨ys, hy⟩ : ∃ ys, partsP (r3 q0) 19723 = (ys, 0) := ⟨(partsP (r3 q0) 19723).1, Prod.ext rfl hx⟩
 obtain ⟨_, yl, _⟩ := parts_fine hy nt1 (by decide)
 have times1 := times_of_ok nv1
 have y0 : 0 < ys.length := by omega
 have ym : ys.length ≤ 1000000 := by omega
 have PA := Aside0.mk (fun (B1 : Option Addr) (d1 : Nat) (B2 : Option Addr) (d2 : Nat) (B3 : Option Addr) (d3 : Nat) (hq : ∀ w0, ProdAt w0 p A1 c1 A2 c2 A3 c3 → ProdAt w0 q0 B1 d1 B2 d2 B3 d3) (W : World) (hb : Below w.heap.size w W) => show Calls Try.prog 17 #[pv (r3 q0) B1 d1 B2 d2 B3 d3, .int .i64 19723] W (PartsYes ys W) from (rparts_any (r3 q0) B1 d1 B2 d2 B3 d3 19723 W (r_at (hq W (HP.out.below hb))) sq.held sq.s3).mono fun e w' h => by rw [hy] at h; exact parts_yes h y0 ym)
 have mM := U_isB a (m := 1000000000) (by omega) (by omega)
 obtain ⟨mMa, mMb⟩ := U_bd a (m := 1000000000) (by omega)
 obtain ⟨M, hM⟩ : ∃ M, 2 + U a 1000000000 = M := ⟨_, rfl⟩
 have sM : IntKind.i64.wrap (2 + U a 1000000000) = M := by rw [hM]; exact IntWalk.i64_in _ (by omega)
 obtain ⟨h, hh⟩ : ∃ h, Int.tdiv M 2 = h := ⟨_, rfl⟩
 have hh2 : h = M / 2 := by rw [← hh]; exact Int.tdiv_eq_ediv_of_nonneg (by omega)
 have sh : IntKind.i64.wrap (Int.tdiv M 2) = h := by rw [hh]; exact IntWalk.i64_in _ (by omega)
 obtain ⟨M2, hM2⟩ : ∃ M2, M + h = M2 := ⟨_, rfl⟩
 have sM2 : IntKind.i64.wrap (M + h) = M2 := by rw [hM2]; exact IntWalk.i64_in _ (by omega)
 have sM3 : wrap64 (M + h) = M2 := by rw [← i64_w]; exact sM2
 have ha : askE (r3 q0) ys M = 0 := ask_parts hy nt1 (by decide) (by omega) (by omega)
 have ha2 : askE (r3 q0) ys M2 = 0 := ask_parts hy nt1 (by decide) (by omega) (by omega)
 obtain ⟨V, hof, hV⟩ : ∃ v, ofE (r3 q0) ys M = (v, 0) ∧ Least (lf (r3 q0) ys M) v := by
  have h2 := (hf ys hy).1
  rw [hM] at h2
  rcases of_two (r3 q0) ys M ha with ⟨k, _⟩ | ⟨_, k⟩
  ·omega
  ·exact k
 obtain ⟨V2, hof2, hV2⟩ : ∃ v, ofE (r3 q0) ys M2 = (v, 0) ∧ Least (lf (r3 q0) ys M2) v := by
  have h2 := (hf ys hy).2
  rw [hM, ← hh2, hM2] at h2
  rcases of_two (r3 q0) ys M2 ha2 with ⟨k, _⟩ | ⟨_, k⟩
  ·omega
  ·exact k
 have vv := least_more (by omega) (by omega) (by omega) ha hV hV2
 obtain ⟨V1, Vb, Vc, Vd⟩ := hV
 obtain ⟨LL, hLL⟩ : ∃ z, lf (r3 q0) ys M (V - 1) = z := ⟨_, rfl⟩
 rw [hLL] at Vd
 have hle : leftE (r3 q0) ys M (V - 1) = (LL, 0) := by rw [left_two (r3 q0) ys M (V - 1) ha (by omega) (by omega), hLL]
 have sV : IntKind.i64.wrap (V - 1) = V - 1 := IntWalk.i64_in _ (by omega)
 have OF := Aside0.mk (fun (B1 : Option Addr) (d1 : Nat) (B2 : Option Addr) (d2 : Nat) (B3 : Option Addr) (d3 : Nat) (hq : ∀ w0, ProdAt w0 p A1 c1 A2 c2 A3 c3 → ProdAt w0 q0 B1 d1 B2 d2 B3 d3) (W : World) (hb : Below w.heap.size w W) (A : Option Addr) (c : Nat) (hc : Kd.C (Kd.int .i64) W A ys.length ys) => show Calls Try.prog 23 #[pv (r3 q0) B1 d1 B2 d2 B3 d3, .slice A ys.length c, .int .i64 M] W (Two (V, 0) W) from by have := Of_any (r3 q0) B1 d1 B2 d2 B3 d3 A ys c M W (HG.out.below hb) (r_at (hq W (HP.out.below hb))) SQ.out hc ym; rw [hof] at this; exact this)
 have OG := Aside0.mk (fun (B1 : Option Addr) (d1 : Nat) (B2 : Option Addr) (d2 : Nat) (B3 : Option Addr) (d3 : Nat) (hq : ∀ w0, ProdAt w0 p A1 c1 A2 c2 A3 c3 → ProdAt w0 q0 B1 d1 B2 d2 B3 d3) (W : World) (hb : Below w.heap.size w W) (A : Option Addr) (c : Nat) (hc : Kd.C (Kd.int .i64) W A ys.length ys) => show Calls Try.prog 23 #[pv (r3 q0) B1 d1 B2 d2 B3 d3, .slice A ys.length c, .int .i64 M2] W (Two (V2, 0) W) from by have := Of_any (r3 q0) B1 d1 B2 d2 B3 d3 A ys c M2 W (HG.out.below hb) (r_at (hq W (HP.out.below hb))) SQ.out hc ym; rw [hof2] at this; exact this)
 have LE := Aside0.mk (fun (B1 : Option Addr) (d1 : Nat) (B2 : Option Addr) (d2 : Nat) (B3 : Option Addr) (d3 : Nat) (hq : ∀ w0, ProdAt w0 p A1 c1 A2 c2 A3 c3 → ProdAt w0 q0 B1 d1 B2 d2 B3 d3) (W : World) (hb : Below w.heap.size w W) (A : Option Addr) (c : Nat) (hc : Kd.C (Kd.int .i64) W A ys.length ys) => show Calls Try.prog 26 #[pv (r3 q0) B1 d1 B2 d2 B3 d3, .slice A ys.length c, .int .i64 M, .int .i64 (V - 1)] W (Two (LL, 0) W) from by have := Left_any (r3 q0) B1 d1 B2 d2 B3 d3 A ys c M W (HG.out.below hb) (r_at (hq W (HP.out.below hb))) SQ.out hc ym (V - 1); rw [hle] at this; exact this)
 clear hp hgv hd sq nv nt nv1 nt1 hy hx hM ha ha2 yl times1 hh hh2 hM2 hof hof2 hf hV2 V1 hLL hle
 go_enter Try.func9, Try.ntmps9
 go_wp2_with (first
  | ((with_reducible refine gate_dst (N := 2) rfl ?_); refine box_event ?hg (N := 2) ?hd (cs := pcs p A1 c1 A2 c2 A3 c3) (t := 27) ?hr ?_; (case hd => rfl); (case hg => rfl); (case hr => first | (go_simp; done) | (go_simp; rfl)); intro g hg w1 hb1 hbl1; have gge := (show w.heap.size ≤ g by rw [hg]; exact Nat.le_refl _); clear hg; have GG := Aside0.mk hb1; have HB := Aside0.mk hbl1; clear hb1 hbl1)
  | ((with_reducible refine gate_dst (N := 13) rfl ?_); refine wpList_load_row rfl 27 (.tmp 2) rfl g rfl 27 _ (0, 0) _ GG.out Try.underlying27 rfl info_prod ?_)
  | (go_at_call 12; (with_reducible refine (NE.out _ HB.out).mono ?_); rintro e w2 ⟨B1, d1, B2, d2, B3, d3, rfl, hq, hb⟩; have HQ := Aside0.mk hq; have HB := Aside0.mk (below_step HB.out hb); have GG := Aside0.mk (Pd.blk_below GG.out hb); clear hq hb)
  | ((with_reducible refine gate_store (t := 27) (p := 2) rfl ?_); refine row_event rfl (t := 27) (p := 2) (v := .tmp 14) rfl rfl (g := g) (cs := pcs q0 B1 d1 B2 d2 B3 d3) (zs := pcs p A1 c1 A2 c2 A3 c3) rfl rfl GG.out info_prod rfl (pcs_one _ _ _ _ _ _ _) ?_; intro w3 hb8 hbut; have GG := Aside0.mk hb8; have HB := Aside0.mk (But.below HB.out HB.out.size gge hbut); clear hb8 hbut; have uu2 : w3.cell? ⟨g, 2, none⟩ = some (.int .i64 q0.round) := (blk_cell GG.out 2).trans rfl; have ff2 := frozen_of_row w3 g 2 _ _ GG.out)
  | ((with_reducible refine gate_store (t := 3) (p := 15) rfl ?_); refine put_event rfl (t := 3) (p := 15) (v := (.const (.int .i64 3))) rfl rfl (g := g) (i := 2) (cs := pcs q0 B1 d1 B2 d2 B3 d3) (cs' := pcs (r3 q0) B1 d1 B2 d2 B3 d3) (x := .int .i64 3) ?hr GG.out ?hc ?_; (case hc => rfl); (case hr => go_simp); intro w33 hb8 hbut; have GG := Aside0.mk hb8; have HB := Aside0.mk (But.below HB.out HB.out.size gge hbut); clear hb8 hbut)
  | ((with_reducible refine gate_dst (N := 17) rfl ?_); refine wpList_load_row rfl 27 (.tmp 2) rfl g rfl 27 _ (0, 0) _ GG.out Try.underlying27 rfl info_prod ?_)
  | (go_at_call 17; (with_reducible refine (PA.out _ _ _ _ _ _ HQ.out _ HB.out).mono ?_); rintro e w4 ⟨gx, cx, rfl, hcx, hb⟩; have RD := Aside0.mk hcx; have HB := Aside0.mk (below_step HB.out hb); have GG := Aside0.mk (Pd.blk_below GG.out hb); clear hb hcx)
  | ((with_reducible refine gate_dst (N := 30) rfl ?_); refine wpList_load_row rfl 27 (.tmp 2) rfl g rfl 27 _ (0, 0) _ GG.out Try.underlying27 rfl info_prod ?_)
  | (go_at_call 23; (with_reducible refine (OF.out _ _ _ _ _ _ HQ.out _ HB.out _ _ RD.out).mono ?_); rintro e w5 ⟨rfl, hb⟩; have HB := Aside0.mk (below_step HB.out hb); have GG := Aside0.mk (Pd.blk_below GG.out hb); have RD := Aside0.mk (Kd.C_below RD.out hb); clear hb)
  | ((with_reducible refine gate_dst (N := 37) rfl ?_); refine wpList_load_row rfl 27 (.tmp 2) rfl g rfl 27 _ (0, 0) _ GG.out Try.underlying27 rfl info_prod ?_)
  | (go_at_call 23; (with_reducible refine (OG.out _ _ _ _ _ _ HQ.out _ HB.out _ _ RD.out).mono ?_); rintro e w6 ⟨rfl, hb⟩; have HB := Aside0.mk (below_step HB.out hb); have GG := Aside0.mk (Pd.blk_below GG.out hb); have RD := Aside0.mk (Kd.C_below RD.out hb); clear hb)
  | ((with_reducible refine gate_dst (N := 62) rfl ?_); refine wpList_load_row rfl 27 (.tmp 2) rfl g rfl 27 _ (0, 0) _ GG.out Try.underlying27 rfl info_prod ?_)
  | (go_at_call 26; (with_reducible refine (LE.out _ _ _ _ _ _ HQ.out _ HB.out _ _ RD.out).mono ?_); rintro e w7 ⟨rfl, hb⟩; have HB := Aside0.mk (below_step HB.out hb); have GG := Aside0.mk (Pd.blk_below GG.out hb); have RD := Aside0.mk (Kd.C_below RD.out hb); clear hb)
  | (go_at_call 24; (with_reducible refine (AK.out _ HB.out).mono ?_); rintro e w9 ⟨rfl, hb⟩; have HB := Aside0.mk (below_step HB.out hb); clear hb))
 go_ret
 exact ⟨rfl, HB.out⟩
theorem levelTimes_walk (p : Prod) (A1 : Option Addr) (c1 : Nat) (A2 : Option Addr) (c2 : Nat) (A3 : Option Addr) (c3 : Nat) (a : Int) (w : World) (hp : ProdAt w p A1 c1 A2 c2 A3 c3) (hz0 : p.name.size ≤ maxLen) (hz1 : c1 ≤ maxLen) (hz2 : c2 ≤ maxLen) (hz3 : c3 ≤ maxLen) (wa : (Lit.int .i64 a).wf = true) (hgv : GV w) (hd : Held p) :
  Calls Try.prog 9 #[pv p A1 c1 A2 c2 A3 c3, .int .i64 a] w fun e w' => e = .returned (.bool true) ∧ Below w.heap.size w w' := by
 by_cases hx : (partsP (r3 (nearP p 24)) 19723).2 = 0
 ·obtain ⟨ys, hy⟩ : ∃ ys, partsP (r3 (nearP p 24)) 19723 = (ys, 0) := ⟨(partsP (r3 (nearP p 24)) 19723).1, Prod.ext rfl hx⟩
  have one : ∀ zs, partsP (r3 (nearP p 24)) 19723 = (zs, 0) → zs = ys := fun zs h => by rw [hy] at h; exact (congrArg Prod.fst h).symm
  by_cases hf : 0 < lf (r3 (nearP p 24)) ys (2 + U a 1000000000) 1000000000000000
  ·exact times_one p A1 c1 A2 c2 A3 c3 a w hp hgv hd hx (fun zs h => by rw [one zs h]; exact hf)
  ·by_cases hg : 0 < lf (r3 (nearP p 24)) ys (2 + U a 1000000000 + (2 + U a 1000000000) / 2) 1000000000000000
   ·exact times_two p A1 c1 A2 c2 A3 c3 a w hp hgv hd hx (fun zs h => by rw [one zs h]; exact ⟨by omega, hg⟩)
   ·exact times_all p A1 c1 A2 c2 A3 c3 a w hp hgv hd hx (fun zs h => by rw [one zs h]; exact ⟨by omega, by omega⟩)
 ·exact times_none p A1 c1 A2 c2 A3 c3 a w hp hgv hd hx
end Go.Proofs.Ytcfpkkgdofblfaa.Lv
/- Arguments opened: a product. -/
namespace Go.Proofs.Ytcfpkkgdofblfaa.Pd
open Go.ChangeShapes Go.WideShapes Go.Deep Go.RowKit Go.Joins Go.ChangeAt Go.Proofs.YtcfpkkgdofblfaaW.PrintWords Go.Proofs.Ytcfpkkgdofblfaa.Op
open Pm
set_option linter.unusedVariables false
set_option linter.unusedSimpArgs false
set_option linter.constructorNameAsVariable false
section
variable {H : Type} {enc : TypeId × Value → H} {P : Program} {w : World} {base : Nat} {spare : Nat → Bool} {held : Bool}
theorem open_rowsC {t e : TypeId} {fs : Array Field} {fuel : Nat} {x : Value} {y : DataW H × List MemPlace} (ht : P.underlying t = some (.slice e)) (he : P.underlying e = some (.struct fs))
  (hone : oneCellFields P fs = true) (hC : P.cellsOf e = fs.size) (hint : ∀ (j : Nat) (f : Field), fs[j]? = some f → P.underlying f.type = some (.int .i64)) (h : DataW.trod enc P w base spare held fuel t [x] = some y) :
  ∃ (A : Option Addr) (cap : Nat) (rows : List (List Int)), x = .slice A rows.length cap ∧ (A = none → cap = 0) ∧ rows.length ≤ cap ∧ cap ≤ maxLen ∧ IntRows w A fs.size rows := by
 have hx : ∃ A0 n0 c0, x = .slice A0 n0 c0 := by
  rcases open_slice ht h with ⟨h0, _⟩ | ⟨a, len, cap, m, n, D, Pl, h0, _⟩
  ·simp at h0; exact ⟨_, _, _, h0⟩
  ·simp at h0; exact ⟨_, _, _, h0⟩
 obtain ⟨A0, n0, c0, rfl⟩ := hx
 have hf : DataW.trod enc P w base spare held fuel t (Value.slice A0 n0 c0).cells.toList = some y := h
 rcases open_slice ht hf with ⟨h0, _⟩ | ⟨a, len, cap, m, n, D, Pl, hcs, hb, hl, hm, hmm, hx, hi⟩
 ·simp [Value.cells] at h0
  obtain ⟨rfl, rfl, rfl⟩ := h0
  exact ⟨none, 0, [], rfl, fun _ => rfl, Nat.le_refl _, Nat.zero_le _, fun r hr => by simp at hr, fun i r h => by simp at h⟩
 ·simp [Value.cells] at hcs
  obtain ⟨rfl, rfl, rfl⟩ := hcs
  have hlm : n0 ≤ m := by rw [hmm]; split <;> omega
  obtain ⟨rows, hrl, hrows⟩ := list_of (P := fun i (r : List Int) => (r.length = fs.size ∧ ∀ x ∈ r, (Lit.int .i64 x).wf = true) ∧ ∀ (j : Nat) (x : Int), r[j]? = some x → w.cell? (a.add (i * fs.size + j)) = some (.int .i64 x)) n0 (fun i hin => by
   obtain ⟨cs', hc, ht'⟩ := hi i (by omega)
   rw [hC] at hc
   obtain ⟨ys, n', hn', hy, hlen, hyl, hfl⟩ := DataW.trod_struct he ht'
   obtain ⟨_, hcl, hat⟩ := World.cells?_some hc
   obtain ⟨r, hr1, hr2⟩ := list_of (P := fun j (x : Int) => w.cell? (a.add (i * fs.size + j)) = some (.int .i64 x) ∧ (Lit.int .i64 x).wf = true) fs.size (fun j hj => by
    obtain ⟨f, hfj⟩ : ∃ f, fs[j]? = some f := ⟨_, Array.getElem?_eq_getElem hj⟩
    obtain ⟨ho, hk⟩ := hone_of' hone j f hfj
    have h1 := hfl j f hfj
    rw [ho, hk] at h1
    have hone' : (cs'.drop j).take 1 = [cs'[j]'(by omega)] := by
     rw [List.drop_eq_getElem_cons (by omega)]
     rfl
    rw [hone'] at h1
    have hys : ys[j]? = some (ys[j]'(by omega)) := List.getElem?_eq_getElem (by omega)
    rw [hys] at h1
    obtain ⟨x, hx1, _, hx3⟩ := DataW.trod_int (hint j f hfj) h1
    simp at hx1
    refine ⟨x, ?_, hx3⟩
    rw [← Go.Deep.add_add, hat j hj, List.getElem?_eq_getElem (by omega), hx1])
   exact ⟨r, ⟨hr1, fun x hx => by
    obtain ⟨j, hj, rfl⟩ := List.getElem_of_mem hx
    exact (hr2 j _ (List.getElem?_eq_getElem hj)).2⟩, fun j x hj => (hr2 j x hj).1⟩)
  subst hrl
  refine ⟨some a, c0, rows, rfl, (fun h => by cases h), hl, hm, fun r hr => ?_, fun i r hi => ⟨a, rfl, (hrows i r hi).2⟩⟩
  obtain ⟨i, hi2, rfl⟩ := List.getElem_of_mem hr
  exact (hrows i _ (List.getElem?_eq_getElem hi2)).1
theorem open_intsC {t e : TypeId} {fuel : Nat} {x : Value} {y : DataW H × List MemPlace} (ht : P.underlying t = some (.slice e)) (he : P.underlying e = some (.int .i64)) (hc : P.cellsOf e = 1) (h : DataW.trod enc P w base (fun _ => true) held fuel t [x] = some y) :
  ∃ (A : Option Addr) (cap : Nat) (l : List Int), x = .slice A l.length cap ∧ (A = none → cap = 0) ∧ l.length ≤ cap ∧ cap ≤ maxLen ∧ Kd.C (Kd.int .i64) w A l.length l := by
 rcases open_ints ht he hc h with ⟨hcs, _⟩ | ⟨a, len, cap, zs, hcs, _, hl, hm, hz, _, hcell, hwz⟩
 ·simp at hcs
  exact ⟨none, 0, [], hcs, fun _ => rfl, Nat.le_refl _, Nat.zero_le _, Kd.C_nil _ w⟩
 ·simp at hcs
  have hz' : zs.length = cap := by simpa using hz
  have hlen : (zs.take len).length = len := by rw [List.length_take]; omega
  refine ⟨some a, cap, zs.take len, by rw [hlen]; exact hcs, (fun h => by cases h), by omega, hm, ?_⟩
  refine Kd.C_of_reads (d := (0 : Int)) ⟨rfl, by unfold maxLen at hm; omega, fun _ => ⟨a, rfl, fun j hj => ?_⟩⟩
  rw [hlen] at hj
  rw [hcell j (by omega)]
  congr 2
  rw [List.getD_eq_getElem?_getD, List.getD_eq_getElem?_getD, List.getElem?_take]
  simp [hj]
theorem arr19 {cs : Array Value} (h : cs.size = 19) : ∃ v0 v1 v2 v3 v4 v5 v6 v7 v8 v9 v10 v11 v12 v13 v14 v15 v16 v17 v18, cs = #[v0, v1, v2, v3, v4, v5, v6, v7, v8, v9, v10, v11, v12, v13, v14, v15, v16, v17, v18] := by
 obtain ⟨l⟩ := cs
 match l, h with
 | [v0, v1, v2, v3, v4, v5, v6, v7, v8, v9, v10, v11, v12, v13, v14, v15, v16, v17, v18], _ => exact ⟨v0, v1, v2, v3, v4, v5, v6, v7, v8, v9, v10, v11, v12, v13, v14, v15, v16, v17, v18, rfl⟩
end
theorem cells_prod : Try.prog.cellsOf 27 = 19 := by kernel_rfl
theorem cells_string : Try.prog.cellsOf 9 = 1 := by kernel_rfl
theorem cells_int : Try.prog.cellsOf 3 = 1 := by kernel_rfl
theorem cells_int64 : Try.prog.cellsOf 2 = 1 := by kernel_rfl
theorem cells_resets : Try.prog.cellsOf 22 = 1 := by kernel_rfl
theorem cells_tiers : Try.prog.cellsOf 24 = 1 := by kernel_rfl
theorem cells_ints : Try.prog.cellsOf 25 = 1 := by kernel_rfl
theorem cells_four : Try.prog.cellsOf 23 = 4 := by kernel_rfl
set_option maxRecDepth 100000 in
theorem open_prod {H : Type} {enc : TypeId × Value → H} {w : World} {base b0 : Nat} {held : Bool} {r : Reach} {v : Value} {d : DataW H} {q : List MemPlace} (hv : Value.okWide Try.prog w r b0 27 v) (h : DataW.Trod enc Try.prog w base (fun _ => true) held 27 v d q) :
  ∃ (p : Prod) (A1 : Option Addr) (c1 : Nat) (A2 : Option Addr) (c2 : Nat) (A3 : Option Addr) (c3 : Nat), v = pv p A1 c1 A2 c2 A3 c3 ∧ ProdAt w p A1 c1 A2 c2 A3 c3 ∧ p.name.size ≤ maxLen ∧ c1 ≤ maxLen ∧ c2 ≤ maxLen ∧ c3 ≤ maxLen := by
 obtain ⟨cs, rfl, hsz⟩ := okWide_struct Try.underlying27 hv
 obtain ⟨v0, v1, v2, v3, v4, v5, v6, v7, v8, v9, v10, v11, v12, v13, v14, v15, v16, v17, v18, rfl⟩ := arr19 (hsz.trans cells_prod)
 obtain ⟨fuel, hf⟩ := h
 obtain ⟨xs, n, _, hx, hl, hlen, hfl⟩ := DataW.trod_struct Try.underlying27 hf
 have hy : ∀ i, i < 16 → ∃ y, xs[i]? = some y := fun i hi => ⟨_, List.getElem?_eq_getElem (by rw [hlen]; exact hi)⟩
 obtain ⟨y0, e0⟩ := hy 0 (by decide)
 have g0 : DataW.trod enc Try.prog w base (fun _ => true) held n 9 ([v0, v1, v2, v3, v4, v5, v6, v7, v8, v9, v10, v11, v12, v13, v14, v15, v16, v17, v18].drop 0 |>.take (Try.prog.cellsOf 9)) = some y0 := (hfl 0 _ rfl).trans e0
 rw [cells_string] at g0
 have k0 : DataW.trod enc Try.prog w base (fun _ => true) held n 9 [v0] = some y0 := g0
 obtain ⟨y1, e1⟩ := hy 1 (by decide)
 have g1 : DataW.trod enc Try.prog w base (fun _ => true) held n 3 ([v0, v1, v2, v3, v4, v5, v6, v7, v8, v9, v10, v11, v12, v13, v14, v15, v16, v17, v18].drop 1 |>.take (Try.prog.cellsOf 3)) = some y1 := (hfl 1 _ rfl).trans e1
 rw [cells_int] at g1
 have k1 : DataW.trod enc Try.prog w base (fun _ => true) held n 3 [v1] = some y1 := g1
 obtain ⟨y2, e2⟩ := hy 2 (by decide)
 have g2 : DataW.trod enc Try.prog w base (fun _ => true) held n 3 ([v0, v1, v2, v3, v4, v5, v6, v7, v8, v9, v10, v11, v12, v13, v14, v15, v16, v17, v18].drop 2 |>.take (Try.prog.cellsOf 3)) = some y2 := (hfl 2 _ rfl).trans e2
 rw [cells_int] at g2
 have k2 : DataW.trod enc Try.prog w base (fun _ => true) held n 3 [v2] = some y2 := g2
 obtain ⟨y3, e3⟩ := hy 3 (by decide)
 have g3 : DataW.trod enc Try.prog w base (fun _ => true) held n 3 ([v0, v1, v2, v3, v4, v5, v6, v7, v8, v9, v10, v11, v12, v13, v14, v15, v16, v17, v18].drop 3 |>.take (Try.prog.cellsOf 3)) = some y3 := (hfl 3 _ rfl).trans e3
 rw [cells_int] at g3
 have k3 : DataW.trod enc Try.prog w base (fun _ => true) held n 3 [v3] = some y3 := g3
 obtain ⟨y4, e4⟩ := hy 4 (by decide)
 have g4 : DataW.trod enc Try.prog w base (fun _ => true) held n 3 ([v0, v1, v2, v3, v4, v5, v6, v7, v8, v9, v10, v11, v12, v13, v14, v15, v16, v17, v18].drop 4 |>.take (Try.prog.cellsOf 3)) = some y4 := (hfl 4 _ rfl).trans e4
 rw [cells_int] at g4
 have k4 : DataW.trod enc Try.prog w base (fun _ => true) held n 3 [v4] = some y4 := g4
 obtain ⟨y5, e5⟩ := hy 5 (by decide)
 have g5 : DataW.trod enc Try.prog w base (fun _ => true) held n 3 ([v0, v1, v2, v3, v4, v5, v6, v7, v8, v9, v10, v11, v12, v13, v14, v15, v16, v17, v18].drop 5 |>.take (Try.prog.cellsOf 3)) = some y5 := (hfl 5 _ rfl).trans e5
 rw [cells_int] at g5
 have k5 : DataW.trod enc Try.prog w base (fun _ => true) held n 3 [v5] = some y5 := g5
 obtain ⟨y6, e6⟩ := hy 6 (by decide)
 have g6 : DataW.trod enc Try.prog w base (fun _ => true) held n 3 ([v0, v1, v2, v3, v4, v5, v6, v7, v8, v9, v10, v11, v12, v13, v14, v15, v16, v17, v18].drop 6 |>.take (Try.prog.cellsOf 3)) = some y6 := (hfl 6 _ rfl).trans e6
 rw [cells_int] at g6
 have k6 : DataW.trod enc Try.prog w base (fun _ => true) held n 3 [v6] = some y6 := g6
 obtain ⟨y7, e7⟩ := hy 7 (by decide)
 have g7 : DataW.trod enc Try.prog w base (fun _ => true) held n 2 ([v0, v1, v2, v3, v4, v5, v6, v7, v8, v9, v10, v11, v12, v13, v14, v15, v16, v17, v18].drop 7 |>.take (Try.prog.cellsOf 2)) = some y7 := (hfl 7 _ rfl).trans e7
 rw [cells_int64] at g7
 have k7 : DataW.trod enc Try.prog w base (fun _ => true) held n 2 [v7] = some y7 := g7
 obtain ⟨y8, e8⟩ := hy 8 (by decide)
 have g8 : DataW.trod enc Try.prog w base (fun _ => true) held n 22 ([v0, v1, v2, v3, v4, v5, v6, v7, v8, v9, v10, v11, v12, v13, v14, v15, v16, v17, v18].drop 8 |>.take (Try.prog.cellsOf 22)) = some y8 := (hfl 8 _ rfl).trans e8
 rw [cells_resets] at g8
 have k8 : DataW.trod enc Try.prog w base (fun _ => true) held n 22 [v8] = some y8 := g8
 obtain ⟨y9, e9⟩ := hy 9 (by decide)
 have g9 : DataW.trod enc Try.prog w base (fun _ => true) held n 2 ([v0, v1, v2, v3, v4, v5, v6, v7, v8, v9, v10, v11, v12, v13, v14, v15, v16, v17, v18].drop 9 |>.take (Try.prog.cellsOf 2)) = some y9 := (hfl 9 _ rfl).trans e9
 rw [cells_int64] at g9
 have k9 : DataW.trod enc Try.prog w base (fun _ => true) held n 2 [v9] = some y9 := g9
 obtain ⟨y10, e10⟩ := hy 10 (by decide)
 have g10 : DataW.trod enc Try.prog w base (fun _ => true) held n 23 ([v0, v1, v2, v3, v4, v5, v6, v7, v8, v9, v10, v11, v12, v13, v14, v15, v16, v17, v18].drop 10 |>.take (Try.prog.cellsOf 23)) = some y10 := (hfl 10 _ rfl).trans e10
 rw [cells_four] at g10
 have k10 : DataW.trod enc Try.prog w base (fun _ => true) held n 23 [v10, v11, v12, v13] = some y10 := g10
 obtain ⟨y11, e11⟩ := hy 11 (by decide)
 have g11 : DataW.trod enc Try.prog w base (fun _ => true) held n 3 ([v0, v1, v2, v3, v4, v5, v6, v7, v8, v9, v10, v11, v12, v13, v14, v15, v16, v17, v18].drop 14 |>.take (Try.prog.cellsOf 3)) = some y11 := (hfl 11 _ rfl).trans e11
 rw [cells_int] at g11
 have k11 : DataW.trod enc Try.prog w base (fun _ => true) held n 3 [v14] = some y11 := g11
 obtain ⟨y12, e12⟩ := hy 12 (by decide)
 have g12 : DataW.trod enc Try.prog w base (fun _ => true) held n 24 ([v0, v1, v2, v3, v4, v5, v6, v7, v8, v9, v10, v11, v12, v13, v14, v15, v16, v17, v18].drop 15 |>.take (Try.prog.cellsOf 24)) = some y12 := (hfl 12 _ rfl).trans e12
 rw [cells_tiers] at g12
 have k12 : DataW.trod enc Try.prog w base (fun _ => true) held n 24 [v15] = some y12 := g12
 obtain ⟨y13, e13⟩ := hy 13 (by decide)
 have g13 : DataW.trod enc Try.prog w base (fun _ => true) held n 2 ([v0, v1, v2, v3, v4, v5, v6, v7, v8, v9, v10, v11, v12, v13, v14, v15, v16, v17, v18].drop 16 |>.take (Try.prog.cellsOf 2)) = some y13 := (hfl 13 _ rfl).trans e13
 rw [cells_int64] at g13
 have k13 : DataW.trod enc Try.prog w base (fun _ => true) held n 2 [v16] = some y13 := g13
 obtain ⟨y14, e14⟩ := hy 14 (by decide)
 have g14 : DataW.trod enc Try.prog w base (fun _ => true) held n 3 ([v0, v1, v2, v3, v4, v5, v6, v7, v8, v9, v10, v11, v12, v13, v14, v15, v16, v17, v18].drop 17 |>.take (Try.prog.cellsOf 3)) = some y14 := (hfl 14 _ rfl).trans e14
 rw [cells_int] at g14
 have k14 : DataW.trod enc Try.prog w base (fun _ => true) held n 3 [v17] = some y14 := g14
 obtain ⟨y15, e15⟩ := hy 15 (by decide)
 have g15 : DataW.trod enc Try.prog w base (fun _ => true) held n 25 ([v0, v1, v2, v3, v4, v5, v6, v7, v8, v9, v10, v11, v12, v13, v14, v15, v16, v17, v18].drop 18 |>.take (Try.prog.cellsOf 25)) = some y15 := (hfl 15 _ rfl).trans e15
 rw [cells_ints] at g15
 have k15 : DataW.trod enc Try.prog w base (fun _ => true) held n 25 [v18] = some y15 := g15
 clear hy hfl hf
 obtain ⟨nm, m0, _, z0⟩ := DataW.trod_string Try.underlying9 k0
 simp at m0
 subst m0
 obtain ⟨x1, m1, _, _⟩ := DataW.trod_int Try.underlying3 k1
 simp at m1
 subst m1
 obtain ⟨x2, m2, _, _⟩ := DataW.trod_int Try.underlying3 k2
 simp at m2
 subst m2
 obtain ⟨x3, m3, _, _⟩ := DataW.trod_int Try.underlying3 k3
 simp at m3
 subst m3
 obtain ⟨x4, m4, _, _⟩ := DataW.trod_int Try.underlying3 k4
 simp at m4
 subst m4
 obtain ⟨x5, m5, _, _⟩ := DataW.trod_int Try.underlying3 k5
 simp at m5
 subst m5
 obtain ⟨x6, m6, _, _⟩ := DataW.trod_int Try.underlying3 k6
 simp at m6
 subst m6
 obtain ⟨x7, m7, _, _⟩ := DataW.trod_int Try.underlying2 k7
 simp at m7
 subst m7
 obtain ⟨x9, m9, _, _⟩ := DataW.trod_int Try.underlying2 k9
 simp at m9
 subst m9
 obtain ⟨x11, m11, _, _⟩ := DataW.trod_int Try.underlying3 k11
 simp at m11
 subst m11
 obtain ⟨x13, m13, _, _⟩ := DataW.trod_int Try.underlying2 k13
 simp at m13
 subst m13
 obtain ⟨x14, m14, _, _⟩ := DataW.trod_int Try.underlying3 k14
 simp at m14
 subst m14
 obtain ⟨u0, u1, u2, u3, nn, _, f0, f1, f2, f3⟩ := trod_array4 Try.underlying23 cells_int k10
 obtain ⟨o0, mo0, _, _⟩ := DataW.trod_int Try.underlying3 f0
 simp at mo0
 subst mo0
 obtain ⟨o1, mo1, _, _⟩ := DataW.trod_int Try.underlying3 f1
 simp at mo1
 subst mo1
 obtain ⟨o2, mo2, _, _⟩ := DataW.trod_int Try.underlying3 f2
 simp at mo2
 subst mo2
 obtain ⟨o3, mo3, _, _⟩ := DataW.trod_int Try.underlying3 f3
 simp at mo3
 subst mo3
 obtain ⟨A1, c1, l1, rfl, n1, lc1, cm1, hr1⟩ := open_rowsC Try.underlying22 Try.underlying116 (by kernel_rfl) (by kernel_rfl) (fun j f hj => by have hmem := Array.mem_of_getElem? hj; simp at hmem; rcases hmem with rfl | rfl <;> first | exact Try.underlying3 | exact Try.underlying2) k8
 obtain ⟨A2, c2, l2, rfl, n2, lc2, cm2, hr2⟩ := open_rowsC Try.underlying24 Try.underlying118 (by kernel_rfl) (by kernel_rfl) (fun j f hj => by have hmem := Array.mem_of_getElem? hj; simp at hmem; rcases hmem with rfl | rfl <;> first | exact Try.underlying3 | exact Try.underlying2) k12
 obtain ⟨A3, c3, l3, rfl, n3, lc3, cm3, hr3⟩ := open_intsC Try.underlying25 Try.underlying3 cells_int k15
 exact ⟨{ name := nm, count := x1, round := x2, kind := x3, every := x4, times := x5, grace := x6, rate := x7, resets := l1, penalty := x9, o1 := o0, o2 := o1, o3 := o2, o4 := o3, over := x11, late := l2, cap := x13, roll := x14, hol := l3 }, A1, c1, A2, c2, A3, c3, rfl, ⟨hr1, lc1, n1, hr2, lc2, n2, hr3, lc3, n3⟩, z0, cm1, cm2, cm3⟩
end Go.Proofs.Ytcfpkkgdofblfaa.Pd
/- A product handed in is within the reach: its name, its rows. -/
namespace Go.Proofs.Ytcfpkkgdofblfaa.Pd
open Go.ChangeShapes Go.WideShapes Go.Deep Go.RowKit Go.Joins Go.ChangeAt Go.Proofs.YtcfpkkgdofblfaaW.PrintWords Go.Proofs.Ytcfpkkgdofblfaa.Op
open Pm
set_option linter.unusedVariables false
set_option linter.unusedSimpArgs false
section
variable {H : Type} {enc : TypeId × Value → H} {P : Program} {w : World} {base : Nat} {spare : Nat → Bool} {held : Bool}
theorem slice_weight {t e : TypeId} {fuel : Nat} {A : Option Addr} {n c : Nat} {y : DataW H × List MemPlace} (ht : P.underlying t = some (.slice e)) (h : DataW.trod enc P w base spare held fuel t [.slice A n c] = some y) (hb : 0 < P.bytesOf e)
  (hw : ∀ k ∈ y.1.weights P t, k ≤ reachBytes) : n ≤ reachBytes := by
 rcases open_slice ht h with ⟨h0, -⟩ | ⟨a, len, cap, m, n', D, Pl, hcs, -, -, -, -, hx, -⟩
 ·simp at h0
  omega
 ·simp at hcs
  obtain ⟨-, rfl, -⟩ := hcs
  subst hx
  have := hw ((((List.range n).map D).length + ((List.range (m - n)).map fun j => D (n + j)).length) * P.bytesOf e) (by simp [DataW.weights, ht])
  rw [List.length_map, List.length_range] at this
  have h2 : n * 1 ≤ (n + ((List.range (m - n)).map fun j => D (n + j)).length) * P.bytesOf e := Nat.mul_le_mul (by omega) hb
  omega
theorem string_weight {t : TypeId} {fuel : Nat} {s : ByteArray} {y : DataW H × List MemPlace} (ht : P.underlying t = some .string) (h : DataW.trod enc P w base spare held fuel t [.string s] = some y)
  (hw : ∀ k ∈ y.1.weights P t, k ≤ reachBytes) : s.size ≤ reachBytes := by
 cases fuel with
 | zero => simp [DataW.trod] at h
 | succ n =>
  simp [DataW.trod, ht] at h
  obtain ⟨-, rfl⟩ := h
  have := hw s.data.toList.length (by simp [DataW.weights])
  exact this
end
theorem prod_sized {H : Type} {enc : TypeId × Value → H} {w : World} {base : Nat} {held : Bool} {p : Prod} {A1 : Option Addr} {c1 : Nat} {A2 : Option Addr} {c2 : Nat} {A3 : Option Addr} {c3 : Nat} {d : DataW H} {q : List MemPlace}
  (h : DataW.Trod enc Try.prog w base (fun _ => true) held 27 (pv p A1 c1 A2 c2 A3 c3) d q) (hw : ∀ k ∈ d.weights Try.prog 27, k ≤ reachBytes) : Held p := by
 obtain ⟨fuel, hf⟩ := h
 obtain ⟨xs, n, _, hx, hl, hlen, hfl⟩ := DataW.trod_struct Try.underlying27 hf
 have hy : ∀ i, i < 16 → ∃ y, xs[i]? = some y := fun i hi => ⟨_, List.getElem?_eq_getElem (by rw [hlen]; exact hi)⟩
 obtain rfl : d = .agg (xs.map (·.1)) := (Prod.mk.inj hx).1
 have part : ∀ (i : Nat) (f : Field) (y : DataW H × List MemPlace), (Try.prog.underlying 27).bind (fun t => match t with | .struct fs => fs[i]? | _ => none) = some f → xs[i]? = some y → ∀ k ∈ y.1.weights Try.prog f.type, k ≤ reachBytes := by
  intro i f y hfi hyi k hk
  refine hw k ?_
  rw [Try.underlying27] at hfi
  simp only [DataW.weights, Try.underlying27]
  refine DataW.weights_mem_each (j := i) (t := f.type) (d := y.1) ?_ (by simp [hyi]) k hk
  simp only [Option.bind_some] at hfi
  rw [List.getElem?_map, Array.getElem?_toList, hfi]
  rfl
 have rb : reachBytes ≤ 140737488351232 := by decide
 obtain ⟨y0, e0⟩ := hy 0 (by decide)
 have g0 := (hfl 0 _ rfl).trans e0
 have k0 : DataW.trod enc Try.prog w base (fun _ => true) held n 9 [.string p.name] = some y0 := by rw [← g0]; show _ = DataW.trod _ _ _ _ _ _ _ 9 ((List.drop 0 _).take (Try.prog.cellsOf 9)); rw [cells_string]; rfl
 obtain ⟨y8, e8⟩ := hy 8 (by decide)
 have g8 := (hfl 8 _ rfl).trans e8
 have k8 : DataW.trod enc Try.prog w base (fun _ => true) held n 22 [.slice A1 p.resets.length c1] = some y8 := by rw [← g8]; show _ = DataW.trod _ _ _ _ _ _ _ 22 ((List.drop 8 _).take (Try.prog.cellsOf 22)); rw [cells_resets]; rfl
 obtain ⟨y12, e12⟩ := hy 12 (by decide)
 have g12 := (hfl 12 _ rfl).trans e12
 have k12 : DataW.trod enc Try.prog w base (fun _ => true) held n 24 [.slice A2 p.late.length c2] = some y12 := by rw [← g12]; show _ = DataW.trod _ _ _ _ _ _ _ 24 ((List.drop 15 _).take (Try.prog.cellsOf 24)); rw [cells_tiers]; rfl
 obtain ⟨y15, e15⟩ := hy 15 (by decide)
 have g15 := (hfl 15 _ rfl).trans e15
 have k15 : DataW.trod enc Try.prog w base (fun _ => true) held n 25 [.slice A3 p.hol.length c3] = some y15 := by rw [← g15]; show _ = DataW.trod _ _ _ _ _ _ _ 25 ((List.drop 18 _).take (Try.prog.cellsOf 25)); rw [cells_ints]; rfl
 have w0 := string_weight Try.underlying9 k0 (part 0 _ y0 (by rw [Try.underlying27]; rfl) e0)
 have w8 := slice_weight Try.underlying22 k8 (by decide +kernel) (part 8 _ y8 (by rw [Try.underlying27]; rfl) e8)
 have w12 := slice_weight Try.underlying24 k12 (by decide +kernel) (part 12 _ y12 (by rw [Try.underlying27]; rfl) e12)
 have w15 := slice_weight Try.underlying25 k15 (by decide +kernel) (part 15 _ y15 (by rw [Try.underlying27]; rfl) e15)
 exact ⟨by omega, by omega, by omega, by omega⟩
end Go.Proofs.Ytcfpkkgdofblfaa.Pd
