/- Texts of this claim, joined in build order. -/
import Derived.RowKit
import Derived.Below
import Derived.Test.YtbbbjjfecblhpaaProg
import Derived.Deep.Draws
import Derived.Deep.AppendLies
import Derived.Maps.AppendAt
import Derived.OwnWalk
import Derived.Laws.BytesArg
import Derived.Laws.MakeOwn
import Derived.Laws.OwnMore
import Derived.Tactics
import Derived.Lib.ConvBytes
import Derived.Laws.Slices
import Derived.WalkKit
import Derived.KernelRfl
import Derived.RowKit3
import Derived.Deep.LoopGhost
import Derived.Deep.QuietTactic
import Derived.BigQuiet
import Derived.WideLaws
import Derived.Deep.DeepCutAuto
import Derived.Deep.CutBlock
import Derived.Deep.RegionHeld3
import Derived.Lib.AppendStr
import Derived.ArgAppend
import Derived.Laws.IdiomCopy
import Derived.OrdersHeld
import Derived.Laws.BitsLemmas
import Derived.Laws.StructEq
import Derived.WalkLawsBesides
import Derived.WalkSpells
import Derived.Lib.IndexMore
import Derived.Deep.Slices
import Derived.Deep.Fields
import Derived.ChangeSame
import Derived.Lib.SmallJoins
import Derived.ProofKit
import Derived.Defers
import Derived.Laws.Tables
import Derived.Deep.WholeRow
import Derived.Recover
import Derived.StillTailTactics
import Derived.IntWalk
import Derived.Shelf.Small.Bits
import Derived.Shelf.Small.Wraps
import Derived.Shelf.Strconv.Itoa0
import Derived.Shelf.Strings.Search1
import Derived.Shelf.Strings.Search2
import Derived.Shelf.Strings.Search3
import Derived.Shelf.LaysM
import Derived.Shelf.Strings.Shaped
import Derived.Shelf.Bits.Mul64
import Derived.Ground.Names2Prog
import Derived.Shelf.Slices.Clone
import Derived.Shelf.Slices.SearchI
import Derived.Shelf.Slices.Empties
import Derived.Lib.SlBytesConst
import Derived.Deep.RegionWith
import Derived.Lib.Hide
import Derived.BigFrame
import Derived.Deep.MidRow
import Derived.Lib.BitFns
import Derived.Laws.BitsAllLaws
import Derived.Laws.Externs
import Derived.RegionTactic
import Derived.Laws.AppendOwnNone
import Derived.OpenShut
import Derived.ShutString
import Derived.ChangeOld
import Derived.Laws.IdiomArrays
import Derived.SizedLaws
import Derived.HandedShaped
import Derived.Shelf.Vars
import Derived.Test.YtbbbjjfecblhpaaJM1
import Derived.Test.YtbbbjjfecblhpaaJM2
import Derived.Test.YtbbbjjfecblhpaaJM3
import Derived.Test.YtbbbjjfecblhpaaJM4
import Derived.Test.YtbbbjjfecblhpaaJM5
import Derived.Test.YtbbbjjfecblhpaaJM6
set_option linter.unusedVariables false
set_option linter.unusedSimpArgs false
/- Contracts by hand: Nights, Night: what nights make of a state. -/
namespace Go.Proofs.Ytbbbjjfecblhpaa.Nt
open Go.RowKit Go.Proofs.YtbbbjjfecblhpaaW.PrintWords Go.Proofs.YtbbbjjfecblhpaaW.PrintLast Go.Proofs.YtbbbjjfecblhpaaW.PrintMore Go.Proofs.Ytbbbjjfecblhpaa.HW
open Go.Proofs.Ytbbbjjfecblhpaa.Math Go.Proofs.Ytbbbjjfecblhpaa.H Go.Proofs.Ytbbbjjfecblhpaa.Pd Go.Proofs.Ytbbbjjfecblhpaa.Du Go.Proofs.Ytbbbjjfecblhpaa.Lv Pm
set_option linter.unusedVariables false
set_option linter.unusedSimpArgs false
attribute [local go_sem] max2_int min2_int max_two min_two
theorem err_shape {P : Pm.Prod} (h : err P = 0) : (P.count = 1 ∨ P.count = 2 ∨ P.count = 3) ∧ (P.round = 1 ∨ P.round = 3) ∧ (0 ≤ P.rate ∧ P.rate ≤ 1000000000) ∧ (0 ≤ P.penalty ∧ P.penalty ≤ 1000000000) := by
 have h1 : ok P = true := by
  unfold err at h
  split at h
  ·assumption
  ·cases h
 unfold ok at h1
 simp only [Bool.and_eq_true] at h1
 obtain ⟨⟨⟨⟨h2, h3⟩, -⟩, -⟩, -⟩ := h1
 unfold shapeOk at h2
 rw [Bool.and_eq_true] at h2
 have h4 := of_decide_eq_true h2.2
 unfold ratesOk at h3
 rw [Bool.and_eq_true] at h3
 have h5 := of_decide_eq_true h3.1
 exact ⟨by omega, h4.2.1, h5.1, h5.2.1⟩
theorem looks_any (P : Pm.Prod) (A1 : Option Addr) (c1 : Nat) (A2 : Option Addr) (c2 : Nat) (A3 : Option Addr) (c3 : Nat) (s : St) (L : Option Addr) (lc : Nat) (D : Option Addr) (dc : Nat) (w : World) (hp : ProdAt w P A1 c1 A2 c2 A3 c3) (hs : Small P) (hgv : GV w) (hm : MAt w s.m D) :
  Calls Try.prog 26 #[pv P A1 c1 A2 c2 A3 c3, sv s L lc D dc] w fun e w' => e = lookE (mayE P s) ∧ Below w.heap.size w w' := by
 by_cases he : err P = 0
 ·obtain ⟨hc, hr, -, -⟩ := err_shape he
  refine nmay_walk P A1 c1 A2 c2 A3 c3 s L lc D dc w hp hs hgv he hc hr hm _ _ _ rfl rfl rfl (mayE P s) ?_
  unfold mayE
  rw [if_neg (show ¬ err P ≠ 0 from fun h => h he)]
  cases h1 : restOk P s.residue with
  | false => exact Or.inl ⟨rfl, by simp⟩
  | true =>
   refine Or.inr ⟨rfl, ?_⟩
   cases h2 : restOk P s.fine with
   | false => exact Or.inl ⟨rfl, by simp⟩
   | true =>
    refine Or.inr ⟨rfl, ?_⟩
    by_cases h3 : s.rate < 0
    ·exact Or.inl ⟨h3, by simp [show ¬ 0 ≤ s.rate by omega]⟩
    ·refine Or.inr ⟨by omega, ?_⟩
     by_cases h4 : 1000000000 < s.rate
     ·exact Or.inl ⟨h4, by simp [show ¬ s.rate ≤ 1000000000 by omega]⟩
     ·refine Or.inr ⟨by omega, ?_⟩
      cases h5 : (readM s.m).isSome with
      | false => exact Or.inl ⟨rfl, by simp⟩
      | true =>
       refine Or.inr ⟨rfl, ?_⟩
       rw [if_pos (by simp [show 0 ≤ s.rate by omega, show s.rate ≤ 1000000000 by omega])]
       by_cases h6 : s.day < -25567
       ·exact Or.inl ⟨h6, by rw [if_neg (by omega)]⟩
       ·refine Or.inr ⟨by omega, ?_⟩
        by_cases h7 : s.day < 84370
        ·exact Or.inr ⟨h7, by rw [if_pos (by omega)]⟩
        ·exact Or.inl ⟨by simp [h7], by rw [if_neg (by omega)]⟩
 ·refine (nmay_err P A1 c1 A2 c2 A3 c3 s L lc D dc w hp hs hgv he).mono ?_
  rintro e w' ⟨rfl, hb⟩
  have h9 : mayE P s = err P := by unfold mayE; rw [if_pos he]
  exact ⟨by rw [h9]; unfold lookE; rw [if_neg he], hb⟩
theorem mayE_zero {P : Pm.Prod} {s : St} (h : mayE P s = 0) : err P = 0 ∧ restOk P s.residue = true ∧ restOk P s.fine = true ∧ 0 ≤ s.rate ∧ s.rate ≤ 1000000000 ∧ (readM s.m).isSome = true ∧ -25567 ≤ s.day ∧ s.day < 84370 := by
 unfold mayE at h
 split at h
 ·contradiction
 ·rename_i h0
  split at h
  ·rename_i h1
   split at h
   ·rename_i h2
    simp only [Bool.and_eq_true, decide_eq_true_eq] at h1
    exact ⟨by omega, h1.1.1.1.1, h1.1.1.1.2, h1.1.1.2, h1.1.2, h1.2, h2.1, h2.2⟩
   ·cases h
  ·cases h
theorem restOk_bd {P : Pm.Prod} {r : Int} (h : restOk P r = true) : -(Gm.half P.count P.round) ≤ r ∧ r < Gm.whole P.count - Gm.half P.count P.round := by
 unfold restOk at h
 simpa only [Bool.and_eq_true, decide_eq_true_eq] using h
theorem readM_flat {m : Mny} (h : (readM m).isSome = true) : ∀ v ∈ m.flat, 0 ≤ v ∧ v ≤ 1000000000000000 := by
 intro v hv
 unfold readM at h
 split at h
 ·rename_i h1
  exact mayB_iff.1 (List.all_eq_true.1 h1 v hv)
 ·cases h
theorem bear_ok {W h rest bal rate n : Int} (hz : (Gm.bear W h rest bal rate n).2.1 = 0) : ∃ v r2, Gm.bear W h rest bal rate n = (v, 0, r2) ∧ v ≤ 1000000000000000 ∧ v = Gm.q W h rest (bal * rate * n) ∧ r2 = Gm.r W h rest (bal * rate * n) ∧ Gm.may bal rate n := by
 unfold Gm.bear at hz ⊢
 split
 ·rename_i h1
  rw [if_pos h1] at hz
  split
  ·rename_i h2
   exact ⟨_, _, rfl, h2, rfl, rfl, h1⟩
  ·rename_i h2
   rw [if_neg h2] at hz
   cases hz
 ·rename_i h1
  rw [if_neg h1] at hz
  cases hz
def nightsE (x : St × Int) (L : Option Addr) (lc : Nat) (D : Option Addr) (dc : Nat) : Ending := if x.2 = 0 then .returned (sv x.1 L lc D dc) else thrownE x.2
theorem nights_any (P : Pm.Prod) (A1 : Option Addr) (c1 : Nat) (A2 : Option Addr) (c2 : Nat) (A3 : Option Addr) (c3 : Nat) (s : St) (L : Option Addr) (lc : Nat) (D : Option Addr) (dc : Nat) (n : Int) (w : World) (h : mayE P s = 0) (h0 : 0 ≤ n) (hn : n ≤ 84370 - s.day) (hm : MAt w s.m D) :
  Calls Try.prog 29 #[pv P A1 c1 A2 c2 A3 c3, sv s L lc D dc, .int .i64 n] w fun e w' => e = nightsE (nightsB P s n) L lc D dc ∧ Below w.heap.size w w' := by
 obtain ⟨he, k1, k2, k3, k4, k5, k6, k7⟩ := mayE_zero h
 obtain ⟨hc, hr, -, hpen⟩ := err_shape he
 have hd : isDay s.day := ⟨by omega, by omega⟩
 have hd2 : isDay (s.day + n) := ⟨by omega, by omega⟩
 by_cases hz : (Gm.bear (Gm.whole P.count) (Gm.half P.count P.round) s.residue s.m.p s.rate (place P.count (s.day + n) - place P.count s.day)).2.1 = 0
 ·obtain ⟨v, r2, hz', hv, ev, er, hmay⟩ := bear_ok hz
  by_cases hz2 : (Gm.bear (Gm.whole P.count) (Gm.half P.count P.round) s.fine (owedP s.m) P.penalty (place P.count (s.day + n) - place P.count s.day)).2.1 = 0
  ·obtain ⟨v2, r4, hz2', hv2, ev2, er2, hmay2⟩ := bear_ok hz2
   have hW := Gm.whole_bd P.count
   have hH := Gm.half_bd P.count P.round
   have f1 : 0 ≤ v := by
    rw [ev]
    exact (Gm.step (by omega) (Int.mul_nonneg (Int.mul_nonneg hmay.1 hmay.2.2.1) hmay.2.2.2.2.1) (restOk_bd k1).1).1
   have f2 : 0 ≤ v2 := by
    rw [ev2]
    exact (Gm.step (by omega) (Int.mul_nonneg (Int.mul_nonneg hmay2.1 hmay2.2.2.1) hmay2.2.2.2.2.1) (restOk_bd k2).1).1
   have m1 := readM_flat k5 s.m.acc (by simp [Mny.flat])
   have m2 := readM_flat k5 s.m.earned (by simp [Mny.flat])
   have m3 := readM_flat k5 s.m.pen (by simp [Mny.flat])
   have m4 := readM_flat k5 s.m.fined (by simp [Mny.flat])
   have hw : IntKind.i64.wrap (s.m.acc + v) = s.m.acc + v ∧ IntKind.i64.wrap (s.m.earned + v) = s.m.earned + v ∧ IntKind.i64.wrap (s.m.pen + v2) = s.m.pen + v2 ∧ IntKind.i64.wrap (s.m.fined + v2) = s.m.fined + v2 :=
    ⟨IntWalk.i64_in _ (by omega), IntWalk.i64_in _ (by omega), IntWalk.i64_in _ (by omega), IntWalk.i64_in _ (by omega)⟩
   cases hR : (readM (mN s.m v v2)).isSome with
   | false =>
    refine (nights_wrong P A1 c1 A2 c2 A3 c3 s L lc D dc n w hc hr (restOk_bd k1) (restOk_bd k2) hd hd2 hm v r2 v2 r4 hz' hz2' hw hR).mono ?_
    rintro e w' ⟨rfl, hb⟩
    refine ⟨?_, hb⟩
    have e1 : nightsB P s n = (zeroS, 3) := by
     unfold nightsB
     rw [if_neg (fun h => h hz), if_neg (fun h => h hz2)]
     simp only [hz', hz2']
     rw [if_neg (by rw [hR]; decide)]
    rw [e1]
    rfl
   | true =>
    refine (nights_right P A1 c1 A2 c2 A3 c3 s L lc D dc n w hc hr (restOk_bd k1) (restOk_bd k2) hd hd2 hm v r2 v2 r4 hz' hz2' hw hR).mono ?_
    rintro e w' ⟨rfl, hb⟩
    refine ⟨?_, hb⟩
    have e1 : nightsB P s n = (sN s n v v2 r2 r4, 0) := by
     unfold nightsB
     rw [if_neg (fun h => h hz), if_neg (fun h => h hz2)]
     simp only [hz', hz2']
     rw [if_pos hR]
    rw [e1]
    rfl
  ·refine (nights_range2 P A1 c1 A2 c2 A3 c3 s L lc D dc n w hc hr (restOk_bd k1) (restOk_bd k2) hd hd2 hm v r2 hz' hz2).mono ?_
   rintro e w' ⟨rfl, hb⟩
   refine ⟨?_, hb⟩
   have e1 : nightsB P s n = (zeroS, 3) := by
    unfold nightsB
    rw [if_neg (fun h => h hz), if_pos hz2]
   rw [e1]
   rfl
 ·refine (nights_range1 P A1 c1 A2 c2 A3 c3 s L lc D dc n w hc hr (restOk_bd k1) (restOk_bd k2) hd hd2 hm hz).mono ?_
  rintro e w' ⟨rfl, hb⟩
  refine ⟨?_, hb⟩
  have e1 : nightsB P s n = (zeroS, 3) := by
   unfold nightsB
   rw [if_pos hz]
  rw [e1]
  rfl
theorem nightsB_lists (P : Pm.Prod) (s : St) (n : Int) (h : (nightsB P s n).2 = 0) : (nightsB P s n).1.plan = s.plan ∧ (nightsB P s n).1.m.dues = s.m.dues := by
 unfold nightsB at h ⊢
 split
 ·rename_i h1; rw [if_pos h1] at h; cases h
 ·rename_i h1
  rw [if_neg h1] at h
  split
  ·rename_i h2; rw [if_pos h2] at h; cases h
  ·rename_i h2
   rw [if_neg h2] at h
   simp only at h ⊢
   split
   ·exact ⟨rfl, rfl⟩
   ·rename_i h3; rw [if_neg h3] at h; cases h
theorem nightsB_zero (P : Pm.Prod) (s : St) (n : Int) (h : (nightsB P s n).2 ≠ 0) : (nightsB P s n).1 = zeroS := by
 unfold nightsB at h ⊢
 split
 ·rfl
 ·rename_i h1
  rw [if_neg h1] at h
  split
  ·rfl
  ·rename_i h2
   rw [if_neg h2] at h
   simp only at h ⊢
   split
   ·rename_i h3; rw [if_pos h3] at h; exact absurd rfl h
   ·rfl
end Go.Proofs.Ytbbbjjfecblhpaa.Nt
/- Contracts by hand: Nights and Night. -/
namespace Go.Proofs.Ytbbbjjfecblhpaa.Nt
open Go.RowKit Go.Proofs.YtbbbjjfecblhpaaW.PrintWords Go.Proofs.YtbbbjjfecblhpaaW.PrintLast Go.Proofs.YtbbbjjfecblhpaaW.PrintMore Go.Proofs.Ytbbbjjfecblhpaa.HW
open Go.Proofs.Ytbbbjjfecblhpaa.Math Go.Proofs.Ytbbbjjfecblhpaa.H Go.Proofs.Ytbbbjjfecblhpaa.Pd Go.Proofs.Ytbbbjjfecblhpaa.Du Go.Proofs.Ytbbbjjfecblhpaa.Lv Pm
set_option linter.unusedVariables false
set_option linter.unusedSimpArgs false
attribute [local go_sem] max2_int min2_int max_two min_two
def Handed (w : World) (x : St × Int) (e : Ending) (w' : World) : Prop := ∃ L2 lc2 D2 dc2, e = .returned (.tuple #[sv x.1 L2 lc2 D2 dc2, .int .i64 x.2]) ∧ StAt w' x.1 L2 lc2 D2 dc2 ∧ Below w.heap.size w w' ∧ Lies w.heap.size L2 D2
theorem lies_none (b : Nat) : Lies b none none := ⟨fun a h => (Option.some_ne_none a h.symm).elim, fun a h => (Option.some_ne_none a h.symm).elim⟩
theorem Lies.mono {a b : Nat} {L D : Option Addr} (h : Lies b L D) (hb : a ≤ b) : Lies a L D := ⟨fun x e => Nat.le_trans hb (h.1 x e), fun x e => Nat.le_trans hb (h.2 x e)⟩
set_option maxRecDepth 100000 in
set_option maxHeartbeats 8000000 in
theorem Nights_look (P : Pm.Prod) (A1 : Option Addr) (c1 : Nat) (A2 : Option Addr) (c2 : Nat) (A3 : Option Addr) (c3 : Nat) (s : St) (L : Option Addr) (lc : Nat) (D : Option Addr) (dc : Nat) (n : Int) (w : World) (hp : ProdAt w P A1 c1 A2 c2 A3 c3) (hs : Small P) (hgv : GV w) (hm : MAt w s.m D) (he : mayE P s ≠ 0) : Calls Try.prog 10 #[pv P A1 c1 A2 c2 A3 c3, sv s L lc D dc, .int .i64 n] w (Handed w (zeroS, mayE P s)) := by
 have MA := Aside0.mk (fun (W : World) (hb : Below w.heap.size w W) => looks_any P A1 c1 A2 c2 A3 c3 s L lc D dc W (hp.below hb) hs (hgv.below hb) (hm.below hb))
 obtain ⟨c, hc⟩ : ∃ c, mayE P s = c := ⟨_, rfl⟩
 rw [hc] at MA he ⊢
 simp only [lookE, if_neg he] at MA
 clear hp hs hgv hm he hc
 go_enter_defers Try.func10, Try.ntmps10
 go_wp2_with (first
  | ((with_reducible refine gate_dst (N := 3) rfl ?_); refine box_event ?hg (N := 3) ?hd (cs := pcs P A1 c1 A2 c2 A3 c3) (t := 27) ?hr ?_; (case hd => rfl); (case hg => rfl); (case hr => first | (go_simp; done) | (go_simp; rfl)); intro gp hg y1_ hb1 hb; clear hg; have GP := Aside0.mk hb1; have HB := Aside0.mk hb; clear hb1 hb)
  | ((with_reducible refine gate_dst (N := 4) rfl ?_); refine box_event ?hg (N := 4) ?hd (cs := scs s L lc D dc) (t := 33) ?hr ?_; (case hd => rfl); (case hg => rfl); (case hr => first | (go_simp; done) | (go_simp; rfl)); intro gs hg y2_ hb1 hb; clear hg; have GS := Aside0.mk hb1; have GP := Aside0.mk (Pd.blk_below GP.out hb); have HB := Aside0.mk (below_step HB.out hb); clear hb1 hb)
  | ((with_reducible refine gate_dst (N := 6) rfl ?_); refine box_event rfl (N := 6) rfl (cs := scs zeroS none 0 none 0) (t := 33) ?hr ?_; (case hr => first | (go_simp; done) | (go_simp; rfl)); intro gr hg y3_ hb1 hb; have grge := (show w.heap.size ≤ gr by rw [hg]; exact HB.out.size); clear hg; have GR := Aside0.mk hb1; have GP := Aside0.mk (Pd.blk_below GP.out hb); have GS := Aside0.mk (Pd.blk_below GS.out hb); have HB := Aside0.mk (below_step HB.out hb); clear hb1 hb)
  | ((with_reducible refine gate_dst (N := 7) rfl ?_); refine box_event rfl (N := 7) rfl (cs := #[.int .i64 0]) (t := 38) ?hr ?_; (case hr => first | (go_simp; done) | (go_simp; rfl)); intro ge hg v4 hb1 hb; have gege := (show w.heap.size ≤ ge by rw [hg]; exact HB.out.size); have grne := (show gr ≠ ge by have := blk_lt GR.out; omega); clear hg; have GR := Aside0.mk (Pd.blk_below GR.out hb); have GP := Aside0.mk (Pd.blk_below GP.out hb); have GS := Aside0.mk (Pd.blk_below GS.out hb); have HB := Aside0.mk (below_step HB.out hb); have R := Aside0.mk (Out.mk GR.out hb1 grge gege grne HB.out); clear grge gege grne GR HB hb1 hb)
  | ((with_reducible refine gate_dst (N := 8) rfl ?_); refine wpList_load_row rfl 27 (.tmp 3) rfl gp rfl 27 _ (0, 0) _ GP.out Try.underlying27 rfl info_prod ?_)
  | ((with_reducible refine gate_dst (N := 9) rfl ?_); refine wpList_load_row rfl 33 (.tmp 4) rfl gs rfl 33 _ (0, 0) _ GS.out Try.underlying33 rfl info_state ?_)
  | (go_at_call 26; (with_reducible refine (MA.out _ R.out.below).mono ?_); rintro e y5_ ⟨rfl, hb⟩; have GP := Aside0.mk (Pd.blk_below GP.out hb); have GS := Aside0.mk (Pd.blk_below GS.out hb); have R := Aside0.mk (R.out.step hb); clear hb))
 refine leaves_cons (f := 25) (args := #[.pointer (some ⟨gr, 0, none⟩), .pointer (some ⟨ge, 0, none⟩)]) (by simp) (by simp [go_sem]) ?_
 refine (ncaught_thrown w gr ge 0 c zeroS none 0 none 0 [] _ R.out).mono ?_
 rintro e u' w'' ⟨rfl, rfl, R2⟩
 exact ⟨_, R2.results (p := 6) (q := 7) Try.results10 _ rfl rfl, none, 0, none, 0, rfl, st_zero _, R2.below, lies_none _⟩
set_option maxRecDepth 100000 in
set_option maxHeartbeats 8000000 in
theorem Nights_less (P : Pm.Prod) (A1 : Option Addr) (c1 : Nat) (A2 : Option Addr) (c2 : Nat) (A3 : Option Addr) (c3 : Nat) (s : St) (L : Option Addr) (lc : Nat) (D : Option Addr) (dc : Nat) (n : Int) (w : World) (hp : ProdAt w P A1 c1 A2 c2 A3 c3) (hs : Small P) (hgv : GV w) (hm : MAt w s.m D) (he : mayE P s = 0) (hn : n < 0) : Calls Try.prog 10 #[pv P A1 c1 A2 c2 A3 c3, sv s L lc D dc, .int .i64 n] w (Handed w (zeroS, 1)) := by
 have MA := Aside0.mk (fun (W : World) (hb : Below w.heap.size w W) => looks_any P A1 c1 A2 c2 A3 c3 s L lc D dc W (hp.below hb) hs (hgv.below hb) (hm.below hb))
 rw [he] at MA
 simp only [lookE, if_pos (rfl : (0 : Int) = 0)] at MA
 have N1 := Aside0.mk (fun W => nmust_no 1 W)
 have hge : decide (0 ≤ n) = false := decide_eq_false (by omega)
 clear hp hs hgv hm he
 go_enter_defers Try.func10, Try.ntmps10
 go_wp2_with (first
  | ((with_reducible refine gate_dst (N := 3) rfl ?_); refine box_event ?hg (N := 3) ?hd (cs := pcs P A1 c1 A2 c2 A3 c3) (t := 27) ?hr ?_; (case hd => rfl); (case hg => rfl); (case hr => first | (go_simp; done) | (go_simp; rfl)); intro gp hg y1_ hb1 hb; clear hg; have GP := Aside0.mk hb1; have HB := Aside0.mk hb; clear hb1 hb)
  | ((with_reducible refine gate_dst (N := 4) rfl ?_); refine box_event ?hg (N := 4) ?hd (cs := scs s L lc D dc) (t := 33) ?hr ?_; (case hd => rfl); (case hg => rfl); (case hr => first | (go_simp; done) | (go_simp; rfl)); intro gs hg y2_ hb1 hb; clear hg; have GS := Aside0.mk hb1; have GP := Aside0.mk (Pd.blk_below GP.out hb); have HB := Aside0.mk (below_step HB.out hb); clear hb1 hb)
  | ((with_reducible refine gate_dst (N := 6) rfl ?_); refine box_event rfl (N := 6) rfl (cs := scs zeroS none 0 none 0) (t := 33) ?hr ?_; (case hr => first | (go_simp; done) | (go_simp; rfl)); intro gr hg y3_ hb1 hb; have grge := (show w.heap.size ≤ gr by rw [hg]; exact HB.out.size); clear hg; have GR := Aside0.mk hb1; have GP := Aside0.mk (Pd.blk_below GP.out hb); have GS := Aside0.mk (Pd.blk_below GS.out hb); have HB := Aside0.mk (below_step HB.out hb); clear hb1 hb)
  | ((with_reducible refine gate_dst (N := 7) rfl ?_); refine box_event rfl (N := 7) rfl (cs := #[.int .i64 0]) (t := 38) ?hr ?_; (case hr => first | (go_simp; done) | (go_simp; rfl)); intro ge hg v4 hb1 hb; have gege := (show w.heap.size ≤ ge by rw [hg]; exact HB.out.size); have grne := (show gr ≠ ge by have := blk_lt GR.out; omega); clear hg; have GR := Aside0.mk (Pd.blk_below GR.out hb); have GP := Aside0.mk (Pd.blk_below GP.out hb); have GS := Aside0.mk (Pd.blk_below GS.out hb); have HB := Aside0.mk (below_step HB.out hb); have R := Aside0.mk (Out.mk GR.out hb1 grge gege grne HB.out); clear grge gege grne GR HB hb1 hb)
  | ((with_reducible refine gate_dst (N := 8) rfl ?_); refine wpList_load_row rfl 27 (.tmp 3) rfl gp rfl 27 _ (0, 0) _ GP.out Try.underlying27 rfl info_prod ?_)
  | ((with_reducible refine gate_dst (N := 9) rfl ?_); refine wpList_load_row rfl 33 (.tmp 4) rfl gs rfl 33 _ (0, 0) _ GS.out Try.underlying33 rfl info_state ?_)
  | (go_at_call 26; (with_reducible refine (MA.out _ R.out.below).mono ?_); rintro e y5_ ⟨rfl, hb⟩; have GP := Aside0.mk (Pd.blk_below GP.out hb); have GS := Aside0.mk (Pd.blk_below GS.out hb); have R := Aside0.mk (R.out.step hb); clear hb; have s0 := (show y5_.cell? ⟨gs, 0, none⟩ = some (.int .i64 s.day) from (blk_cell GS.out 0).trans rfl))
  | (go_at_call 27; (with_reducible refine (N1.out _).mono ?_); rintro e w' ⟨rfl, rfl⟩))
 refine leaves_cons (f := 25) (args := #[.pointer (some ⟨gr, 0, none⟩), .pointer (some ⟨ge, 0, none⟩)]) (by simp) (by simp [go_sem]) ?_
 refine (ncaught_thrown w gr ge 0 1 zeroS none 0 none 0 [] _ R.out).mono ?_
 rintro e u' w'' ⟨rfl, rfl, R2⟩
 exact ⟨_, R2.results (p := 6) (q := 7) Try.results10 _ rfl rfl, none, 0, none, 0, rfl, st_zero _, R2.below, lies_none _⟩
set_option maxRecDepth 100000 in
set_option maxHeartbeats 8000000 in
theorem Nights_many (P : Pm.Prod) (A1 : Option Addr) (c1 : Nat) (A2 : Option Addr) (c2 : Nat) (A3 : Option Addr) (c3 : Nat) (s : St) (L : Option Addr) (lc : Nat) (D : Option Addr) (dc : Nat) (n : Int) (w : World) (hp : ProdAt w P A1 c1 A2 c2 A3 c3) (hs : Small P) (hgv : GV w) (hm : MAt w s.m D) (he : mayE P s = 0) (h0 : 0 ≤ n) (hn : 84370 - s.day < n) : Calls Try.prog 10 #[pv P A1 c1 A2 c2 A3 c3, sv s L lc D dc, .int .i64 n] w (Handed w (zeroS, 5)) := by
 have MA := Aside0.mk (fun (W : World) (hb : Below w.heap.size w W) => looks_any P A1 c1 A2 c2 A3 c3 s L lc D dc W (hp.below hb) hs (hgv.below hb) (hm.below hb))
 rw [he] at MA
 simp only [lookE, if_pos (rfl : (0 : Int) = 0)] at MA
 have N5 := Aside0.mk (fun W => nmust_no 5 W)
 have M1 := Aside0.mk (fun W => nmust_yes 1 W)
 have hd := mayE_zero he
 have sw : IntKind.i64.wrap (84370 - s.day) = 84370 - s.day := IntWalk.i64_in _ (by obtain ⟨-, -, -, -, -, -, k6, k7⟩ := hd; omega)
 have hge : decide (0 ≤ n) = true := decide_eq_true h0
 have hle : decide (n ≤ 84370 - s.day) = false := decide_eq_false (by omega)
 clear hd h0 hn
 clear hp hs hgv hm he
 go_enter_defers Try.func10, Try.ntmps10
 go_wp2_with (first
  | ((with_reducible refine gate_dst (N := 3) rfl ?_); refine box_event ?hg (N := 3) ?hd (cs := pcs P A1 c1 A2 c2 A3 c3) (t := 27) ?hr ?_; (case hd => rfl); (case hg => rfl); (case hr => first | (go_simp; done) | (go_simp; rfl)); intro gp hg y1_ hb1 hb; clear hg; have GP := Aside0.mk hb1; have HB := Aside0.mk hb; clear hb1 hb)
  | ((with_reducible refine gate_dst (N := 4) rfl ?_); refine box_event ?hg (N := 4) ?hd (cs := scs s L lc D dc) (t := 33) ?hr ?_; (case hd => rfl); (case hg => rfl); (case hr => first | (go_simp; done) | (go_simp; rfl)); intro gs hg y2_ hb1 hb; clear hg; have GS := Aside0.mk hb1; have GP := Aside0.mk (Pd.blk_below GP.out hb); have HB := Aside0.mk (below_step HB.out hb); clear hb1 hb)
  | ((with_reducible refine gate_dst (N := 6) rfl ?_); refine box_event rfl (N := 6) rfl (cs := scs zeroS none 0 none 0) (t := 33) ?hr ?_; (case hr => first | (go_simp; done) | (go_simp; rfl)); intro gr hg y3_ hb1 hb; have grge := (show w.heap.size ≤ gr by rw [hg]; exact HB.out.size); clear hg; have GR := Aside0.mk hb1; have GP := Aside0.mk (Pd.blk_below GP.out hb); have GS := Aside0.mk (Pd.blk_below GS.out hb); have HB := Aside0.mk (below_step HB.out hb); clear hb1 hb)
  | ((with_reducible refine gate_dst (N := 7) rfl ?_); refine box_event rfl (N := 7) rfl (cs := #[.int .i64 0]) (t := 38) ?hr ?_; (case hr => first | (go_simp; done) | (go_simp; rfl)); intro ge hg v4 hb1 hb; have gege := (show w.heap.size ≤ ge by rw [hg]; exact HB.out.size); have grne := (show gr ≠ ge by have := blk_lt GR.out; omega); clear hg; have GR := Aside0.mk (Pd.blk_below GR.out hb); have GP := Aside0.mk (Pd.blk_below GP.out hb); have GS := Aside0.mk (Pd.blk_below GS.out hb); have HB := Aside0.mk (below_step HB.out hb); have R := Aside0.mk (Out.mk GR.out hb1 grge gege grne HB.out); clear grge gege grne GR HB hb1 hb)
  | ((with_reducible refine gate_dst (N := 8) rfl ?_); refine wpList_load_row rfl 27 (.tmp 3) rfl gp rfl 27 _ (0, 0) _ GP.out Try.underlying27 rfl info_prod ?_)
  | ((with_reducible refine gate_dst (N := 9) rfl ?_); refine wpList_load_row rfl 33 (.tmp 4) rfl gs rfl 33 _ (0, 0) _ GS.out Try.underlying33 rfl info_state ?_)
  | (go_at_call 26; (with_reducible refine (MA.out _ R.out.below).mono ?_); rintro e y5_ ⟨rfl, hb⟩; have GP := Aside0.mk (Pd.blk_below GP.out hb); have GS := Aside0.mk (Pd.blk_below GS.out hb); have R := Aside0.mk (R.out.step hb); clear hb; have s0 := (show y5_.cell? ⟨gs, 0, none⟩ = some (.int .i64 s.day) from (blk_cell GS.out 0).trans rfl))
  | (go_at_call 27; (with_reducible refine (M1.out _).mono ?_); rintro e w' ⟨rfl, rfl⟩)
  | (go_at_call 27; (with_reducible refine (N5.out _).mono ?_); rintro e w' ⟨rfl, rfl⟩))
 refine leaves_cons (f := 25) (args := #[.pointer (some ⟨gr, 0, none⟩), .pointer (some ⟨ge, 0, none⟩)]) (by simp) (by simp [go_sem]) ?_
 refine (ncaught_thrown w gr ge 0 5 zeroS none 0 none 0 [] _ R.out).mono ?_
 rintro e u' w'' ⟨rfl, rfl, R2⟩
 exact ⟨_, R2.results (p := 6) (q := 7) Try.results10 _ rfl rfl, none, 0, none, 0, rfl, st_zero _, R2.below, lies_none _⟩
set_option maxRecDepth 100000 in
set_option maxHeartbeats 8000000 in
theorem Nights_wrong (P : Pm.Prod) (A1 : Option Addr) (c1 : Nat) (A2 : Option Addr) (c2 : Nat) (A3 : Option Addr) (c3 : Nat) (s : St) (L : Option Addr) (lc : Nat) (D : Option Addr) (dc : Nat) (n : Int) (w : World) (hp : ProdAt w P A1 c1 A2 c2 A3 c3) (hs : Small P) (hgv : GV w) (hm : MAt w s.m D) (he : mayE P s = 0) (h0 : 0 ≤ n) (hn : n ≤ 84370 - s.day) (hz : (nightsB P s n).2 ≠ 0) : Calls Try.prog 10 #[pv P A1 c1 A2 c2 A3 c3, sv s L lc D dc, .int .i64 n] w (Handed w (zeroS, (nightsB P s n).2)) := by
 have MA := Aside0.mk (fun (W : World) (hb : Below w.heap.size w W) => looks_any P A1 c1 A2 c2 A3 c3 s L lc D dc W (hp.below hb) hs (hgv.below hb) (hm.below hb))
 rw [he] at MA
 simp only [lookE, if_pos (rfl : (0 : Int) = 0)] at MA
 have M5 := Aside0.mk (fun W => nmust_yes 5 W)
 have M1 := Aside0.mk (fun W => nmust_yes 1 W)
 have NI := Aside0.mk (fun (W : World) (hb : Below w.heap.size w W) => nights_any P A1 c1 A2 c2 A3 c3 s L lc D dc n W he h0 hn (hm.below hb))
 have hd := mayE_zero he
 have sw : IntKind.i64.wrap (84370 - s.day) = 84370 - s.day := IntWalk.i64_in _ (by obtain ⟨-, -, -, -, -, -, k6, k7⟩ := hd; omega)
 have hge : decide (0 ≤ n) = true := decide_eq_true h0
 have hle : decide (n ≤ 84370 - s.day) = true := decide_eq_true hn
 clear hd h0 hn
 obtain ⟨c, hc⟩ : ∃ c, (nightsB P s n).2 = c := ⟨_, rfl⟩
 rw [hc] at hz ⊢
 simp only [nightsE, hc, if_neg hz] at NI
 clear hp hs hgv hm he hz hc
 go_enter_defers Try.func10, Try.ntmps10
 go_wp2_with (first
  | ((with_reducible refine gate_dst (N := 3) rfl ?_); refine box_event ?hg (N := 3) ?hd (cs := pcs P A1 c1 A2 c2 A3 c3) (t := 27) ?hr ?_; (case hd => rfl); (case hg => rfl); (case hr => first | (go_simp; done) | (go_simp; rfl)); intro gp hg y1_ hb1 hb; clear hg; have GP := Aside0.mk hb1; have HB := Aside0.mk hb; clear hb1 hb)
  | ((with_reducible refine gate_dst (N := 4) rfl ?_); refine box_event ?hg (N := 4) ?hd (cs := scs s L lc D dc) (t := 33) ?hr ?_; (case hd => rfl); (case hg => rfl); (case hr => first | (go_simp; done) | (go_simp; rfl)); intro gs hg y2_ hb1 hb; clear hg; have GS := Aside0.mk hb1; have GP := Aside0.mk (Pd.blk_below GP.out hb); have HB := Aside0.mk (below_step HB.out hb); clear hb1 hb)
  | ((with_reducible refine gate_dst (N := 6) rfl ?_); refine box_event rfl (N := 6) rfl (cs := scs zeroS none 0 none 0) (t := 33) ?hr ?_; (case hr => first | (go_simp; done) | (go_simp; rfl)); intro gr hg y3_ hb1 hb; have grge := (show w.heap.size ≤ gr by rw [hg]; exact HB.out.size); clear hg; have GR := Aside0.mk hb1; have GP := Aside0.mk (Pd.blk_below GP.out hb); have GS := Aside0.mk (Pd.blk_below GS.out hb); have HB := Aside0.mk (below_step HB.out hb); clear hb1 hb)
  | ((with_reducible refine gate_dst (N := 7) rfl ?_); refine box_event rfl (N := 7) rfl (cs := #[.int .i64 0]) (t := 38) ?hr ?_; (case hr => first | (go_simp; done) | (go_simp; rfl)); intro ge hg v4 hb1 hb; have gege := (show w.heap.size ≤ ge by rw [hg]; exact HB.out.size); have grne := (show gr ≠ ge by have := blk_lt GR.out; omega); clear hg; have GR := Aside0.mk (Pd.blk_below GR.out hb); have GP := Aside0.mk (Pd.blk_below GP.out hb); have GS := Aside0.mk (Pd.blk_below GS.out hb); have HB := Aside0.mk (below_step HB.out hb); have R := Aside0.mk (Out.mk GR.out hb1 grge gege grne HB.out); clear grge gege grne GR HB hb1 hb)
  | ((with_reducible refine gate_dst (N := 8) rfl ?_); refine wpList_load_row rfl 27 (.tmp 3) rfl gp rfl 27 _ (0, 0) _ GP.out Try.underlying27 rfl info_prod ?_)
  | ((with_reducible refine gate_dst (N := 9) rfl ?_); refine wpList_load_row rfl 33 (.tmp 4) rfl gs rfl 33 _ (0, 0) _ GS.out Try.underlying33 rfl info_state ?_)
  | (go_at_call 26; (with_reducible refine (MA.out _ R.out.below).mono ?_); rintro e y5_ ⟨rfl, hb⟩; have GP := Aside0.mk (Pd.blk_below GP.out hb); have GS := Aside0.mk (Pd.blk_below GS.out hb); have R := Aside0.mk (R.out.step hb); clear hb; have s0 := (show y5_.cell? ⟨gs, 0, none⟩ = some (.int .i64 s.day) from (blk_cell GS.out 0).trans rfl))
  | (go_at_call 27; (with_reducible refine (M1.out _).mono ?_); rintro e w' ⟨rfl, rfl⟩)
  | (go_at_call 27; (with_reducible refine (M5.out _).mono ?_); rintro e w' ⟨rfl, rfl⟩)
  | ((with_reducible refine gate_dst (N := 20) rfl ?_); refine wpList_load_row rfl 27 (.tmp 3) rfl gp rfl 27 _ (0, 0) _ GP.out Try.underlying27 rfl info_prod ?_)
  | ((with_reducible refine gate_dst (N := 21) rfl ?_); refine wpList_load_row rfl 33 (.tmp 4) rfl gs rfl 33 _ (0, 0) _ GS.out Try.underlying33 rfl info_state ?_)
  | (go_at_call 29; (with_reducible refine (NI.out _ R.out.below).mono ?_); rintro e y6_ ⟨rfl, hb⟩; have GP := Aside0.mk (Pd.blk_below GP.out hb); have GS := Aside0.mk (Pd.blk_below GS.out hb); have R := Aside0.mk (R.out.step hb); clear hb s0))
 refine leaves_cons (f := 25) (args := #[.pointer (some ⟨gr, 0, none⟩), .pointer (some ⟨ge, 0, none⟩)]) (by simp) (by simp [go_sem]) ?_
 refine (ncaught_thrown w gr ge 0 c zeroS none 0 none 0 [] _ R.out).mono ?_
 rintro e u' w'' ⟨rfl, rfl, R2⟩
 exact ⟨_, R2.results (p := 6) (q := 7) Try.results10 _ rfl rfl, none, 0, none, 0, rfl, st_zero _, R2.below, lies_none _⟩
set_option maxRecDepth 100000 in
set_option maxHeartbeats 8000000 in
theorem Nights_right (P : Pm.Prod) (A1 : Option Addr) (c1 : Nat) (A2 : Option Addr) (c2 : Nat) (A3 : Option Addr) (c3 : Nat) (s : St) (L : Option Addr) (lc : Nat) (D : Option Addr) (dc : Nat) (n : Int) (w : World) (hp : ProdAt w P A1 c1 A2 c2 A3 c3) (hs : Small P) (hgv : GV w) (hst : StAt w s L lc D dc) (he : mayE P s = 0) (h0 : 0 ≤ n) (hn : n ≤ 84370 - s.day) (hz : (nightsB P s n).2 = 0) : Calls Try.prog 10 #[pv P A1 c1 A2 c2 A3 c3, sv s L lc D dc, .int .i64 n] w (Handed w ((nightsB P s n).1, 0)) := by
 have hm := hst.m
 have MA := Aside0.mk (fun (W : World) (hb : Below w.heap.size w W) => looks_any P A1 c1 A2 c2 A3 c3 s L lc D dc W (hp.below hb) hs (hgv.below hb) (hm.below hb))
 rw [he] at MA
 simp only [lookE, if_pos (rfl : (0 : Int) = 0)] at MA
 have M5 := Aside0.mk (fun W => nmust_yes 5 W)
 have M1 := Aside0.mk (fun W => nmust_yes 1 W)
 have NI := Aside0.mk (fun (W : World) (hb : Below w.heap.size w W) => nights_any P A1 c1 A2 c2 A3 c3 s L lc D dc n W he h0 hn (hm.below hb))
 have hd := mayE_zero he
 have sw : IntKind.i64.wrap (84370 - s.day) = 84370 - s.day := IntWalk.i64_in _ (by obtain ⟨-, -, -, -, -, -, k6, k7⟩ := hd; omega)
 have hge : decide (0 ≤ n) = true := decide_eq_true h0
 have hle : decide (n ≤ 84370 - s.day) = true := decide_eq_true hn
 clear hd h0 hn
 obtain ⟨l1, l2⟩ := nightsB_lists P s n hz
 obtain ⟨x, hx⟩ : ∃ x, (nightsB P s n).1 = x := ⟨_, rfl⟩
 simp only [nightsE, hz, if_true] at NI
 rw [hx] at l1 l2 NI ⊢
 have OW := Aside0.mk (fun (W : World) (hb : Below w.heap.size w W) => own_any x L lc D dc W ((hst.below hb).of l1 l2))
 clear hp hs hgv hm he hz hx l1 l2 hst
 go_enter_defers Try.func10, Try.ntmps10
 go_wp2_with (first
  | ((with_reducible refine gate_dst (N := 3) rfl ?_); refine box_event ?hg (N := 3) ?hd (cs := pcs P A1 c1 A2 c2 A3 c3) (t := 27) ?hr ?_; (case hd => rfl); (case hg => rfl); (case hr => first | (go_simp; done) | (go_simp; rfl)); intro gp hg y1_ hb1 hb; clear hg; have GP := Aside0.mk hb1; have HB := Aside0.mk hb; clear hb1 hb)
  | ((with_reducible refine gate_dst (N := 4) rfl ?_); refine box_event ?hg (N := 4) ?hd (cs := scs s L lc D dc) (t := 33) ?hr ?_; (case hd => rfl); (case hg => rfl); (case hr => first | (go_simp; done) | (go_simp; rfl)); intro gs hg y2_ hb1 hb; clear hg; have GS := Aside0.mk hb1; have GP := Aside0.mk (Pd.blk_below GP.out hb); have HB := Aside0.mk (below_step HB.out hb); clear hb1 hb)
  | ((with_reducible refine gate_dst (N := 6) rfl ?_); refine box_event rfl (N := 6) rfl (cs := scs zeroS none 0 none 0) (t := 33) ?hr ?_; (case hr => first | (go_simp; done) | (go_simp; rfl)); intro gr hg y3_ hb1 hb; have grge := (show w.heap.size ≤ gr by rw [hg]; exact HB.out.size); clear hg; have GR := Aside0.mk hb1; have GP := Aside0.mk (Pd.blk_below GP.out hb); have GS := Aside0.mk (Pd.blk_below GS.out hb); have HB := Aside0.mk (below_step HB.out hb); clear hb1 hb)
  | ((with_reducible refine gate_dst (N := 7) rfl ?_); refine box_event rfl (N := 7) rfl (cs := #[.int .i64 0]) (t := 38) ?hr ?_; (case hr => first | (go_simp; done) | (go_simp; rfl)); intro ge hg v4 hb1 hb; have gege := (show w.heap.size ≤ ge by rw [hg]; exact HB.out.size); have grne := (show gr ≠ ge by have := blk_lt GR.out; omega); clear hg; have GR := Aside0.mk (Pd.blk_below GR.out hb); have GP := Aside0.mk (Pd.blk_below GP.out hb); have GS := Aside0.mk (Pd.blk_below GS.out hb); have HB := Aside0.mk (below_step HB.out hb); have R := Aside0.mk (Out.mk GR.out hb1 grge gege grne HB.out); clear grge gege grne GR HB hb1 hb)
  | ((with_reducible refine gate_dst (N := 8) rfl ?_); refine wpList_load_row rfl 27 (.tmp 3) rfl gp rfl 27 _ (0, 0) _ GP.out Try.underlying27 rfl info_prod ?_)
  | ((with_reducible refine gate_dst (N := 9) rfl ?_); refine wpList_load_row rfl 33 (.tmp 4) rfl gs rfl 33 _ (0, 0) _ GS.out Try.underlying33 rfl info_state ?_)
  | (go_at_call 26; (with_reducible refine (MA.out _ R.out.below).mono ?_); rintro e y5_ ⟨rfl, hb⟩; have GP := Aside0.mk (Pd.blk_below GP.out hb); have GS := Aside0.mk (Pd.blk_below GS.out hb); have R := Aside0.mk (R.out.step hb); clear hb; have s0 := (show y5_.cell? ⟨gs, 0, none⟩ = some (.int .i64 s.day) from (blk_cell GS.out 0).trans rfl))
  | (go_at_call 27; (with_reducible refine (M1.out _).mono ?_); rintro e w' ⟨rfl, rfl⟩)
  | (go_at_call 27; (with_reducible refine (M5.out _).mono ?_); rintro e w' ⟨rfl, rfl⟩)
  | ((with_reducible refine gate_dst (N := 20) rfl ?_); refine wpList_load_row rfl 27 (.tmp 3) rfl gp rfl 27 _ (0, 0) _ GP.out Try.underlying27 rfl info_prod ?_)
  | ((with_reducible refine gate_dst (N := 21) rfl ?_); refine wpList_load_row rfl 33 (.tmp 4) rfl gs rfl 33 _ (0, 0) _ GS.out Try.underlying33 rfl info_state ?_)
  | (go_at_call 29; (with_reducible refine (NI.out _ R.out.below).mono ?_); rintro e y6_ ⟨rfl, hb⟩; have GP := Aside0.mk (Pd.blk_below GP.out hb); have GS := Aside0.mk (Pd.blk_below GS.out hb); have R := Aside0.mk (R.out.step hb); clear hb s0)
  | (go_at_call 28; (with_reducible refine (OW.out _ R.out.below).mono ?_); have grlt := blk_lt R.out.st; have gelt := blk_lt R.out.er; have y6s := R.out.below.size; rintro e y7_ ⟨L2, lc2, D2, dc2, rfl, hst, hb, hli⟩; have ST := Aside0.mk hst; have LI := Aside0.mk hli; have R := Aside0.mk (R.out.step hb); clear hb hst hli GP GS)
  | ((with_reducible refine gate_store (t := 33) (p := 6) rfl ?_); refine row_event rfl (t := 33) (p := 6) (v := .tmp 24) rfl rfl (g := gr) (cs := scs x L2 lc2 D2 dc2) (zs := scs zeroS none 0 none 0) rfl rfl R.out.st info_state rfl (by simp [Value.oneCell']) ?_; intro w1 hb1 hbut; refine Hid.out ?_))
 refine Lib.hid ?_
 have hne := R.out.ne
 have HE := Aside0.mk (show w1.heap[ge]? = some (.cells #[.int .i64 0] 38 (0, 0)) from (hbut.block ge (blk_lt R.out.er) (Ne.symm hne)).trans R.out.er)
 have HB := Aside0.mk (But.below R.out.below R.out.below.size R.out.r0 hbut)
 have ST2 := Aside0.mk (st_but hbut ST.out LI.out grlt)
 have r0 := R.out.r0
 have e0 := R.out.e0
 have R1 := Aside0.mk (Out.mk (s := x) (L := L2) (lc := lc2) (D := D2) (dc := dc2) hb1 HE.out r0 e0 hne HB.out)
 have c0 := (show w1.cell? ⟨ge, 0, none⟩ = some (.int .i64 0) from (blk_cell HE.out 0).trans rfl)
 have f0 := frozen_of_row w1 ge 0 _ _ HE.out
 clear hbut hb1 HE HB R ST
 go_wp2
 refine leaves_cons (f := 25) (args := #[.pointer (some ⟨gr, 0, none⟩), .pointer (some ⟨ge, 0, none⟩)]) (by simp) (by simp [go_sem]) ?_
 refine (ncaught_idle _ _ _).mono ?_
 rintro e u' w'' ⟨rfl, rfl, rfl⟩
 have R3 := Out.mk (w0 := w) (w := w1.setCell ⟨ge, 0, none⟩ (.int .i64 0)) (c := 0) (s := x) (L := L2) (lc := lc2) (D := D2) (dc := dc2) (blk_far R1.out.st hne _) (blk_set R1.out.er 0 (.int .i64 0)) r0 e0 hne (Below.setCell R1.out.below e0 _)
 exact ⟨_, R3.results (p := 6) (q := 7) Try.results10 _ rfl rfl, L2, lc2, D2, dc2, rfl, st_but (But.of (gb := ge) (Below.refl _ _)|>.setCell (Or.inl rfl) _) ST2.out LI.out gelt, R3.below, LI.out.mono y6s⟩
theorem Nights_any (P : Pm.Prod) (A1 : Option Addr) (c1 : Nat) (A2 : Option Addr) (c2 : Nat) (A3 : Option Addr) (c3 : Nat) (s : St) (L : Option Addr) (lc : Nat) (D : Option Addr) (dc : Nat) (n : Int) (w : World) (hp : ProdAt w P A1 c1 A2 c2 A3 c3) (hs : Small P) (hgv : GV w) (hst : StAt w s L lc D dc) : Calls Try.prog 10 #[pv P A1 c1 A2 c2 A3 c3, sv s L lc D dc, .int .i64 n] w (Handed w (nightsP P s n)) := by
 unfold nightsP
 by_cases he : mayE P s = 0
 ·rw [if_neg (fun h => h he)]
  by_cases h0 : n < 0
  ·rw [if_pos h0]
   exact Nights_less P A1 c1 A2 c2 A3 c3 s L lc D dc n w hp hs hgv hst.m he h0
  ·rw [if_neg h0]
   by_cases hn : 84370 - s.day < n
   ·rw [if_pos hn]
    exact Nights_many P A1 c1 A2 c2 A3 c3 s L lc D dc n w hp hs hgv hst.m he (by omega) hn
   ·rw [if_neg hn]
    by_cases hz : (nightsB P s n).2 = 0
    ·have h := Nights_right P A1 c1 A2 c2 A3 c3 s L lc D dc n w hp hs hgv hst he (by omega) (by omega) hz
     rw [show nightsB P s n = ((nightsB P s n).1, 0) from Prod.ext rfl hz]
     exact h
    ·have h := Nights_wrong P A1 c1 A2 c2 A3 c3 s L lc D dc n w hp hs hgv hst.m he (by omega) (by omega) hz
     rw [show nightsB P s n = (zeroS, (nightsB P s n).2) from Prod.ext (nightsB_zero P s n hz) rfl]
     exact h
 ·rw [if_pos he]
  exact Nights_look P A1 c1 A2 c2 A3 c3 s L lc D dc n w hp hs hgv hst.m he
theorem results_mix {w : World} {gr : Nat} {c : Int} {s : St} {L : Option Addr} {lc : Nat} {D : Option Addr} {dc : Nat} (h : w.heap[gr]? = some (.cells (scs s L lc D dc) 33 (0, 0))) {fn : Func} {p q : Tmp} (hr : fn.results = #[.cell p 33, .tmp q]) (tmps : Array Value) (hp : tmps.getD p undef = .pointer (some ⟨gr, 0, none⟩)) (hq : tmps.getD q undef = .int .i64 c) :
  (results fn tmps).run Try.prog w = .ok (.tuple #[sv s L lc D dc, .int .i64 c]) w := by
 have hp' : tmps[p]?.getD undef = .pointer (some ⟨gr, 0, none⟩) := by simpa using hp
 have hq' : tmps[q]?.getD undef = .int .i64 c := by simpa using hq
 have e1 := run_loadVar_row (P := Try.prog) w gr 33 33 _ (0, 0) _ h Try.underlying33 rfl info_state
 simp [Go.results, hr, hp', hq', asAddr, e1]
set_option maxRecDepth 100000 in
set_option maxHeartbeats 8000000 in
theorem Night_any (P : Pm.Prod) (A1 : Option Addr) (c1 : Nat) (A2 : Option Addr) (c2 : Nat) (A3 : Option Addr) (c3 : Nat) (s : St) (L : Option Addr) (lc : Nat) (D : Option Addr) (dc : Nat) (w : World) (hp : ProdAt w P A1 c1 A2 c2 A3 c3) (hs : Small P) (hgv : GV w) (hst : StAt w s L lc D dc) : Calls Try.prog 12 #[pv P A1 c1 A2 c2 A3 c3, sv s L lc D dc] w (Handed w (nightsP P s 1)) := by
 have NS := Aside0.mk (fun (W : World) (hb : Below w.heap.size w W) => Nights_any P A1 c1 A2 c2 A3 c3 s L lc D dc 1 W (hp.below hb) hs (hgv.below hb) (hst.below hb))
 obtain ⟨⟨x, c⟩, hx⟩ : ∃ x, nightsP P s 1 = x := ⟨_, rfl⟩
 rw [hx] at NS ⊢
 clear hp hs hgv hst hx
 go_enter Try.func12, Try.ntmps12
 go_wp2_with (first
  | ((with_reducible refine gate_dst (N := 2) rfl ?_); refine box_event ?hg (N := 2) ?hd (cs := pcs P A1 c1 A2 c2 A3 c3) (t := 27) ?hr ?_; (case hd => rfl); (case hg => rfl); (case hr => first | (go_simp; done) | (go_simp; rfl)); intro gp hg y1_ hb1 hb; clear hg; have GP := Aside0.mk hb1; have HB := Aside0.mk hb; clear hb1 hb)
  | ((with_reducible refine gate_dst (N := 3) rfl ?_); refine box_event ?hg (N := 3) ?hd (cs := scs s L lc D dc) (t := 33) ?hr ?_; (case hd => rfl); (case hg => rfl); (case hr => first | (go_simp; done) | (go_simp; rfl)); intro gs hg y2_ hb1 hb; clear hg; have GS := Aside0.mk hb1; have GP := Aside0.mk (Pd.blk_below GP.out hb); have HB := Aside0.mk (below_step HB.out hb); clear hb1 hb)
  | ((with_reducible refine gate_dst (N := 4) rfl ?_); refine box_event rfl (N := 4) rfl (cs := scs zeroS none 0 none 0) (t := 33) ?hr ?_; (case hr => first | (go_simp; done) | (go_simp; rfl)); intro gr hg y3_ hb1 hb; have grge := (show w.heap.size ≤ gr by rw [hg]; exact HB.out.size); clear hg; have GR := Aside0.mk hb1; have GP := Aside0.mk (Pd.blk_below GP.out hb); have GS := Aside0.mk (Pd.blk_below GS.out hb); have HB := Aside0.mk (below_step HB.out hb); clear hb1 hb)
  | ((with_reducible refine gate_dst (N := 6) rfl ?_); refine wpList_load_row rfl 27 (.tmp 2) rfl gp rfl 27 _ (0, 0) _ GP.out Try.underlying27 rfl info_prod ?_)
  | ((with_reducible refine gate_dst (N := 7) rfl ?_); refine wpList_load_row rfl 33 (.tmp 3) rfl gs rfl 33 _ (0, 0) _ GS.out Try.underlying33 rfl info_state ?_)
  | (go_at_call 10; (with_reducible refine (NS.out _ HB.out).mono ?_); have grlt := blk_lt GR.out; have y3s := HB.out.size; rintro e y4_ ⟨L2, lc2, D2, dc2, rfl, hst, hb, hli⟩; have ST := Aside0.mk hst; have LI := Aside0.mk hli; have GR := Aside0.mk (Pd.blk_below GR.out hb); have HB := Aside0.mk (below_step HB.out hb); clear hb hst hli GP GS NS)
  | ((with_reducible refine gate_store (t := 33) (p := 4) rfl ?_); refine row_event rfl (t := 33) (p := 4) (v := .tmp 9) rfl rfl (g := gr) (cs := scs x L2 lc2 D2 dc2) (zs := scs zeroS none 0 none 0) rfl rfl GR.out info_state rfl (by simp [Value.oneCell']) ?_; intro w1 hb1 hbut; have GR1 := Aside0.mk hb1; have HB1 := Aside0.mk (But.below HB.out HB.out.size grge hbut); have BU := Aside0.mk hbut; clear hb1 hbut))
 exact bodyPost_ret (v := .tuple #[sv x L2 lc2 D2 dc2, .int .i64 c]) (results_mix (p := 4) (q := 5) GR1.out Try.results12 _ rfl rfl) rfl ⟨L2, lc2, D2, dc2, rfl, st_but BU.out ST.out LI.out grlt, HB1.out, LI.out.mono y3s⟩
end Go.Proofs.Ytbbbjjfecblhpaa.Nt
/- Contracts by hand: two lists of numbers held against each other, one by one. -/
namespace Go.Proofs.Ytbbbjjfecblhpaa.H
open Go.RowKit Go.Proofs.YtbbbjjfecblhpaaW.PrintWords Go.Proofs.YtbbbjjfecblhpaaW.PrintLast Go.Proofs.YtbbbjjfecblhpaaW.PrintMore
set_option linter.unusedVariables false
set_option linter.unusedSimpArgs false
theorem plain1 (x y : Int) (r : Bool) (hr : (x == y) = r) (w : World) : Calls Try.prog 47 #[.int .i64 x, .int .i64 y] w fun e w' => e = .returned (.bool r) ∧ w' = w := by
 go_enter Try.func47, Try.ntmps47
 go_wp2
 go_ret
 exact ⟨by simp, rfl⟩
theorem rd_drop (l : List Int) (k : Nat) (h : k < l.length) : l.drop k = rd l k :: l.drop (k + 1) := by
 rw [List.drop_eq_getElem_cons h]
 simp [rd, h]
set_option maxHeartbeats 1000000 in
theorem same_any (A0 A1 : Option Addr) (c0 c1 : Nat) (l0 l1 : List Int) (r : Bool) (hr : (l0 == l1) = r) (w : World) (hr0 : Kd.C (Kd.int .i64) w A0 l0.length l0) (hc0 : l0.length ≤ c0) (hr1 : Kd.C (Kd.int .i64) w A1 l1.length l1) (hc1 : l1.length ≤ c1) (hm : l0.length ≤ 1000000000) :
  Calls Try.prog 46 #[.slice A0 l0.length c0, .slice A1 l1.length c1, .func (.func 47) #[] #[]] w fun e w' => e = .returned (.bool r) ∧ Drawn0 w w' := by
 have HR0 := Aside0.mk hr0
 have HR1 := Aside0.mk hr1
 have HR := Aside0.mk hr
 clear hr0 hr1 hr
 by_cases hlen : l0.length = l1.length
 ·have hb : ((l0.length : Int) != (l1.length : Int)) = false := by simp [hlen]
  have HLn := Aside0.mk hlen
  clear hlen
  go_enter Try.func46, Try.ntmps46
  go_wp2
  go_loopg [7] (l0.length + 1) (fun g i w' => ∃ (k : Nat), k ≤ l0.length ∧ i = .int .i64 k ∧ Aside0 (g = l0.length + 1 - k) ∧ Aside0 ((l0 == l1) = (l0.drop k == l1.drop k)) ∧ Drawn0 w w')
  case atStart => exact ⟨0, Nat.zero_le _, rfl, ⟨by omega⟩, ⟨by simp⟩, Drawn0.refl _⟩
  case round =>
   obtain ⟨k, hk, rfl, hg, hd, ⟨m1, rfl⟩⟩ := hrel
   by_cases hlt : k < l0.length
   ·have hlt1 : k < l1.length := by have := HLn.out; omega
    obtain ⟨ad0, e0, hx0⟩ := Kd.at_int HR0.out (k : Int) (by omega) (by omega)
    cases e0
    obtain ⟨ad1, e1, hx1⟩ := Kd.at_int HR1.out (k : Int) (by omega) (by omega)
    cases e1
    simp only [Int.toNat_natCast] at hx0 hx1
    have hdr : (l0.drop k == l1.drop k) = ((rd l0 k == rd l1 k) && (l0.drop (k + 1) == l1.drop (k + 1))) := by
     rw [rd_drop l0 k hlt, rd_drop l1 k hlt1]; rfl
    cases hq : (rd l0 k == rd l1 k) with
    | true =>
     have HQ := Aside0.mk hq
     clear hq
     have HD := Aside0.mk ((hd.out.trans hdr).trans (by rw [HQ.out, Bool.true_and]))
     clear hdr hd
     go_wp2
     go_quiet ((go_at_call 47; refine (plain1 _ _ _ HQ.out _).mono ?_; rintro e w' ⟨rfl, rfl⟩; exact ⟨rfl, _, rfl⟩))
     go_wp2
     go_roundg (l0.length + 1 - (k + 1))
     case measure => have := hg.out; omega
     case rel => exact ⟨k + 1, by omega, by simp, ⟨rfl⟩, ⟨HD.out⟩, ⟨_, rfl⟩⟩
    | false =>
     have HQ := Aside0.mk hq
     clear hq
     have HD := Aside0.mk ((hd.out.trans hdr).trans (by rw [HQ.out, Bool.false_and]))
     clear hdr hd
     go_wp2
     go_quiet ((go_at_call 47; refine (plain1 _ _ _ HQ.out _).mono ?_; rintro e w' ⟨rfl, rfl⟩; exact ⟨rfl, _, rfl⟩))
     go_wp2
     go_ret
     exact ⟨by rw [← HR.out, HD.out]; rfl, ⟨_, World.drewN_drewN _ _ _⟩⟩
   ·go_wp2
    go_ret
    have hk2 : k = l0.length := by omega
    exact ⟨by rw [← HR.out, hd.out, List.drop_of_length_le (by omega), List.drop_of_length_le (by have := HLn.out; omega)]; rfl, ⟨_, rfl⟩⟩
 ·have hb : ((l0.length : Int) != (l1.length : Int)) = true := by simp; omega
  have HLn := Aside0.mk hlen
  clear hlen
  go_enter Try.func46, Try.ntmps46
  go_wp2
  go_ret
  refine ⟨?_, Drawn0.refl _⟩
  rw [← HR.out]
  have : (l0 == l1) = false := by
   rw [beq_eq_false_iff_ne]
   exact fun h => HLn.out (by rw [h])
  rw [this]; rfl
def help_Plain_int.f (l0 l1 : List Int) : Option Bool := if l0.length ≤ 1000000000 then some (l0 == l1) else none
theorem help_Plain_int.calls (A0 : Option Addr) (c0 : Nat) (l0 : List Int) (A1 : Option Addr) (c1 : Nat) (l1 : List Int) (r : Bool) (w : World) (hr0 : Kd.C (Kd.int .i64) w A0 l0.length l0) (hc0 : l0.length ≤ c0) (hr1 : Kd.C (Kd.int .i64) w A1 l1.length l1) (hc1 : l1.length ≤ c1) (h : help_Plain_int.f l0 l1 = some r) :
  Calls Try.prog 22 #[.slice A0 l0.length c0, .slice A1 l1.length c1] w fun e w' => e = .returned (.bool r) ∧ Drawn0 w w' := by
 unfold help_Plain_int.f at h
 by_cases hm : l0.length ≤ 1000000000
 ·rw [if_pos hm] at h
  have HS := Aside0.mk (same_any A0 A1 c0 c1 l0 l1 r (Option.some.inj h) w hr0 hc0 hr1 hc1 hm)
  clear h hr0 hr1
  go_enter Try.func22, Try.ntmps22
  go_wp2_with fail
  refine HS.out.mono ?_
  rintro e w1 ⟨rfl, ⟨n, rfl⟩⟩
  go_wp2
  go_ret
  exact ⟨rfl, ⟨n, rfl⟩⟩
 ·rw [if_neg hm] at h
  cases h
end Go.Proofs.Ytbbbjjfecblhpaa.H
/- Contracts by hand: two lists of numbers held against each other, one by one. -/
namespace Go.Proofs.Ytbbbjjfecblhpaa.HL
open Go.RowKit Go.Proofs.YtbbbjjfecblhpaaW.PrintWords Go.Proofs.YtbbbjjfecblhpaaW.PrintLast Go.Proofs.YtbbbjjfecblhpaaW.PrintMore
set_option linter.unusedVariables false
set_option linter.unusedSimpArgs false
theorem plain1 (x y : Int) (r : Bool) (hr : (x == y) = r) (w : World) : Calls Try.prog 36 #[.int .i64 x, .int .i64 y] w fun e w' => e = .returned (.bool r) ∧ w' = w := by
 go_enter Try.func36, Try.ntmps36
 go_wp2
 go_ret
 exact ⟨by simp, rfl⟩
theorem rd_drop (l : List Int) (k : Nat) (h : k < l.length) : l.drop k = rd l k :: l.drop (k + 1) := by
 rw [List.drop_eq_getElem_cons h]
 simp [rd, h]
set_option maxHeartbeats 1000000 in
theorem same_any (A0 A1 : Option Addr) (c0 c1 : Nat) (l0 l1 : List Int) (r : Bool) (hr : (l0 == l1) = r) (w : World) (hr0 : Kd.C (Kd.int .i64) w A0 l0.length l0) (hc0 : l0.length ≤ c0) (hr1 : Kd.C (Kd.int .i64) w A1 l1.length l1) (hc1 : l1.length ≤ c1) (hm : l0.length ≤ 1000000000) :
  Calls Try.prog 35 #[.slice A0 l0.length c0, .slice A1 l1.length c1, .func (.func 36) #[] #[]] w fun e w' => e = .returned (.bool r) ∧ Drawn0 w w' := by
 have HR0 := Aside0.mk hr0
 have HR1 := Aside0.mk hr1
 have HR := Aside0.mk hr
 clear hr0 hr1 hr
 by_cases hlen : l0.length = l1.length
 ·have hb : ((l0.length : Int) != (l1.length : Int)) = false := by simp [hlen]
  have HLn := Aside0.mk hlen
  clear hlen
  go_enter Try.func35, Try.ntmps35
  go_wp2
  go_loopg [7] (l0.length + 1) (fun g i w' => ∃ (k : Nat), k ≤ l0.length ∧ i = .int .i64 k ∧ Aside0 (g = l0.length + 1 - k) ∧ Aside0 ((l0 == l1) = (l0.drop k == l1.drop k)) ∧ Drawn0 w w')
  case atStart => exact ⟨0, Nat.zero_le _, rfl, ⟨by omega⟩, ⟨by simp⟩, Drawn0.refl _⟩
  case round =>
   obtain ⟨k, hk, rfl, hg, hd, ⟨m1, rfl⟩⟩ := hrel
   by_cases hlt : k < l0.length
   ·have hlt1 : k < l1.length := by have := HLn.out; omega
    obtain ⟨ad0, e0, hx0⟩ := Kd.at_int HR0.out (k : Int) (by omega) (by omega)
    cases e0
    obtain ⟨ad1, e1, hx1⟩ := Kd.at_int HR1.out (k : Int) (by omega) (by omega)
    cases e1
    simp only [Int.toNat_natCast] at hx0 hx1
    have hdr : (l0.drop k == l1.drop k) = ((rd l0 k == rd l1 k) && (l0.drop (k + 1) == l1.drop (k + 1))) := by
     rw [rd_drop l0 k hlt, rd_drop l1 k hlt1]; rfl
    cases hq : (rd l0 k == rd l1 k) with
    | true =>
     have HQ := Aside0.mk hq
     clear hq
     have HD := Aside0.mk ((hd.out.trans hdr).trans (by rw [HQ.out, Bool.true_and]))
     clear hdr hd
     go_wp2
     go_quiet ((go_at_call 36; refine (plain1 _ _ _ HQ.out _).mono ?_; rintro e w' ⟨rfl, rfl⟩; exact ⟨rfl, _, rfl⟩))
     go_wp2
     go_roundg (l0.length + 1 - (k + 1))
     case measure => have := hg.out; omega
     case rel => exact ⟨k + 1, by omega, by simp, ⟨rfl⟩, ⟨HD.out⟩, ⟨_, rfl⟩⟩
    | false =>
     have HQ := Aside0.mk hq
     clear hq
     have HD := Aside0.mk ((hd.out.trans hdr).trans (by rw [HQ.out, Bool.false_and]))
     clear hdr hd
     go_wp2
     go_quiet ((go_at_call 36; refine (plain1 _ _ _ HQ.out _).mono ?_; rintro e w' ⟨rfl, rfl⟩; exact ⟨rfl, _, rfl⟩))
     go_wp2
     go_ret
     exact ⟨by rw [← HR.out, HD.out]; rfl, ⟨_, World.drewN_drewN _ _ _⟩⟩
   ·go_wp2
    go_ret
    have hk2 : k = l0.length := by omega
    exact ⟨by rw [← HR.out, hd.out, List.drop_of_length_le (by omega), List.drop_of_length_le (by have := HLn.out; omega)]; rfl, ⟨_, rfl⟩⟩
 ·have hb : ((l0.length : Int) != (l1.length : Int)) = true := by simp; omega
  have HLn := Aside0.mk hlen
  clear hlen
  go_enter Try.func35, Try.ntmps35
  go_wp2
  go_ret
  refine ⟨?_, Drawn0.refl _⟩
  rw [← HR.out]
  have : (l0 == l1) = false := by
   rw [beq_eq_false_iff_ne]
   exact fun h => HLn.out (by rw [h])
  rw [this]; rfl
def help_Plain_int.f (l0 l1 : List Int) : Option Bool := if l0.length ≤ 1000000000 then some (l0 == l1) else none
theorem help_Plain_int.calls (A0 : Option Addr) (c0 : Nat) (l0 : List Int) (A1 : Option Addr) (c1 : Nat) (l1 : List Int) (r : Bool) (w : World) (hr0 : Kd.C (Kd.int .i64) w A0 l0.length l0) (hc0 : l0.length ≤ c0) (hr1 : Kd.C (Kd.int .i64) w A1 l1.length l1) (hc1 : l1.length ≤ c1) (h : help_Plain_int.f l0 l1 = some r) :
  Calls Try.prog 15 #[.slice A0 l0.length c0, .slice A1 l1.length c1] w fun e w' => e = .returned (.bool r) ∧ Drawn0 w w' := by
 unfold help_Plain_int.f at h
 by_cases hm : l0.length ≤ 1000000000
 ·rw [if_pos hm] at h
  have HS := Aside0.mk (same_any A0 A1 c0 c1 l0 l1 r (Option.some.inj h) w hr0 hc0 hr1 hc1 hm)
  clear h hr0 hr1
  go_enter Try.func15, Try.ntmps15
  go_wp2_with fail
  refine HS.out.mono ?_
  rintro e w1 ⟨rfl, ⟨n, rfl⟩⟩
  go_wp2
  go_ret
  exact ⟨rfl, ⟨n, rfl⟩⟩
 ·rw [if_neg hm] at h
  cases h
end Go.Proofs.Ytbbbjjfecblhpaa.HL
/- What a law of days asks of lists that calls hand back. -/
namespace Go.Proofs.Ytbbbjjfecblhpaa.Du
open Go.RowKit Go.Proofs.YtbbbjjfecblhpaaW.PrintWords Go.Proofs.YtbbbjjfecblhpaaW.PrintLast Go.Proofs.YtbbbjjfecblhpaaW.PrintMore Go.Proofs.Ytbbbjjfecblhpaa.HW
open Go.Proofs.Ytbbbjjfecblhpaa.Math Go.Proofs.Ytbbbjjfecblhpaa.H Go.Proofs.Ytbbbjjfecblhpaa.Pd Pm
set_option linter.unusedVariables false
set_option linter.unusedSimpArgs false
theorem near_any (p : Prod) (A1 : Option Addr) (c1 : Nat) (A2 : Option Addr) (c2 : Nat) (A3 : Option Addr) (c3 : Nat) (n : Int) (w : World) (hp : ProdAt w p A1 c1 A2 c2 A3 c3) (hs : Held p) (n1 : 1 ≤ n) (n2 : n ≤ 1000) :
  Calls Try.prog 9 #[pv p A1 c1 A2 c2 A3 c3, .int .i64 n] w (NearE p A1 c1 A2 c2 A3 c3 (nearP p n) w) := by
 cases ho : ok p with
 | false => exact near_not p A1 c1 A2 c2 A3 c3 n w hp hs ho n1 n2
 | true => exact near_ok p A1 c1 A2 c2 A3 c3 n w hp hs ho
theorem C_nil (w : World) : Kd.C (Kd.int .i64) w none 0 [] := Kd.C_of_reads (d := (0 : Int)) ⟨rfl, by omega, fun h => absurd h (by omega)⟩
theorem plain_sameL (A0 A1 : Option Addr) (c0 c1 : Nat) (l : List Int) (w : World) (h0 : Kd.C (Kd.int .i64) w A0 l.length l) (k0 : l.length ≤ c0) (h1 : Kd.C (Kd.int .i64) w A1 l.length l) (k1 : l.length ≤ c1) (hm : l.length ≤ 1000000) :
  Calls Try.prog 15 #[.slice A0 l.length c0, .slice A1 l.length c1] w fun e w' => e = .returned (.bool true) ∧ Below w.heap.size w w' :=
 (HL.help_Plain_int.calls A0 c0 l A1 c1 l true w h0 k0 h1 k1 (by unfold HL.help_Plain_int.f; rw [if_pos (by omega)]; simp)).mono fun _ _ h => ⟨h.1, h.2.below⟩
theorem right_any (A0 : Option Addr) (c0 : Nat) (l : List Int) (w : World) (h0 : Kd.C (Kd.int .i64) w A0 l.length l) (k0 : l.length ≤ c0) (hm : l.length ≤ 1000000) :
  Calls Try.prog 17 #[.slice A0 l.length c0] w fun e w' => e = .returned (.bool (rightB l)) ∧ Below w.heap.size w w' :=
 (H.ref05_Right.calls A0 c0 l (rightB l) w h0 k0 (by unfold H.ref05_Right.f; rw [if_pos (by omega)])).mono fun _ _ h => ⟨h.1, h.2.below⟩
end Go.Proofs.Ytbbbjjfecblhpaa.Du
/- Plain: a product near another one may be, whatever its way of rolling, without holidays. -/
namespace Go.Proofs.Ytbbbjjfecblhpaa.Du
open Go.RowKit Go.Proofs.YtbbbjjfecblhpaaW.PrintWords Go.Proofs.YtbbbjjfecblhpaaW.PrintLast Go.Proofs.YtbbbjjfecblhpaaW.PrintMore Go.Proofs.Ytbbbjjfecblhpaa.HW
open Go.Proofs.Ytbbbjjfecblhpaa.Math Go.Proofs.Ytbbbjjfecblhpaa.H Go.Proofs.Ytbbbjjfecblhpaa.Pd Pm
set_option linter.unusedVariables false
set_option linter.unusedSimpArgs false
theorem ok_iff (p : Prod) : ok p = true ↔ ((((nameOk p.name.data.toList = true ∧ (1 ≤ p.count ∧ p.count ≤ 3) ∧ (p.round = 1 ∨ p.round = 3) ∧ (1 ≤ p.kind ∧ p.kind ≤ 3) ∧ (p.every = 1 ∨ p.every = 2 ∨ p.every = 3 ∨ p.every = 4 ∨ p.every = 6 ∨ p.every = 12) ∧ (1 ≤ p.times ∧ p.times ≤ 600) ∧ (0 ≤ p.grace ∧ p.grace ≤ p.times - 1) ∧ (p.kind = 3 → p.grace = 0)) ∧
  ((0 ≤ p.rate ∧ p.rate ≤ 1000000000) ∧ (0 ≤ p.penalty ∧ p.penalty ≤ 1000000000) ∧ p.resets.length ≤ 20) ∧ resetsOk p.times 0 p.resets = true) ∧ orderOk p.o1 p.o2 p.o3 p.o4 = true ∧ 1 ≤ p.over ∧ p.over ≤ 3) ∧
  (p.late.length ≤ 8 ∧ (0 ≤ p.cap ∧ p.cap ≤ 10000000000000) ∧ (p.late = [] → p.cap = 0)) ∧ tiersOk 0 0 p.late = true) ∧ (p.hol.length ≤ 200 ∧ (1 ≤ p.roll ∧ p.roll ≤ 4) ∧ (p.roll = 1 → p.hol = [])) ∧ holsOk (-25568) p.hol = true := by
 simp only [ok, shapeOk, ratesOk, ordOk, lateOk, daysOk, Bool.and_eq_true, decide_eq_true_eq]
theorem ok_graced {q : Prod} (h : (ok { q with grace := 0 } = true)) (hg : ¬ (q.times ≤ q.grace ∨ q.kind = 3)) (g0 : 0 ≤ q.grace) : ok q = true := by
 have h' := (ok_iff _).1 h
 obtain ⟨⟨⟨⟨⟨a1, a2, a3, a4, a5, a6, a7, a8⟩, b⟩, c⟩, d⟩, e⟩ := h'
 exact (ok_iff _).2 ⟨⟨⟨⟨⟨a1, a2, a3, a4, a5, a6, ⟨g0, by omega⟩, fun h => absurd (Or.inr h) hg⟩, b⟩, c⟩, d⟩, e⟩
theorem ok_nearD {q : Prod} (h : (ok { q with grace := 0 } = true)) (g0 : 0 ≤ q.grace) : ok (nearD q) = true := by
 unfold nearD
 split
 ·exact h
 ·rename_i hg; exact ok_graced h hg g0
theorem nearD_times (q : Prod) : (nearD q).times = q.times ∧ (nearD q).count = q.count ∧ (nearD q).every = q.every := by
 unfold nearD
 split <;> exact ⟨rfl, rfl, rfl⟩
theorem plain_good : ok plainP = true := by decide +kernel
theorem near_valid (p : Prod) {n : Int} (n1 : 1 ≤ n) (n2 : n ≤ 600) : ok (nearP p n) = true ∧ (nearP p n).times ≤ n := by
 unfold nearP
 split
 ·rename_i h
  obtain ⟨⟨⟨⟨⟨a1, a2, a3, a4, a5, a6, a7, a8⟩, ⟨b1, b2, b3⟩, b4⟩, c⟩, d⟩, e⟩ := (ok_iff _).1 h
  split
  ·rename_i hn
   refine ⟨ok_nearD ((ok_iff _).2 ⟨⟨⟨⟨⟨a1, a2, a3, a4, a5, ⟨n1, n2⟩, ⟨by show (0 : Int) ≤ 0; omega, by show (0 : Int) ≤ n - 1; omega⟩, fun _ => rfl⟩, ⟨b1, b2, by show (0 : Nat) ≤ 20; omega⟩, rfl⟩, c⟩, d⟩, e⟩) a7.1, ?_⟩
   rw [(nearD_times _).1]
   exact Int.le_refl n
  ·rename_i hn
   refine ⟨ok_nearD ((ok_iff _).2 ⟨⟨⟨⟨⟨a1, a2, a3, a4, a5, a6, ⟨by show (0 : Int) ≤ 0; omega, by show (0 : Int) ≤ p.times - 1; omega⟩, fun _ => rfl⟩, ⟨b1, b2, b3⟩, b4⟩, c⟩, d⟩, e⟩) a7.1, ?_⟩
   rw [(nearD_times _).1]
   omega
 ·have u1 := U_bd p.count (m := 3) (by omega)
  have u2 := U_bd p.kind (m := 3) (by omega)
  have u3 := U_bd p.every (m := 6) (by omega)
  have u4 := U_bd p.times (m := n) (by omega)
  have u5 := U_bd p.rate (m := 300000000) (by omega)
  have u6 := U_bd p.penalty (m := 500000000) (by omega)
  have u7 := U_bd p.over (m := 3) (by omega)
  obtain ⟨⟨⟨⟨⟨a1, a2, a3, a4, a5, a6, a7, a8⟩, ⟨b1, b2, b3⟩, b4⟩, c⟩, d⟩, e⟩ := (ok_iff _).1 plain_good
  refine ⟨ok_nearD ((ok_iff _).2 ⟨⟨⟨⟨⟨a1, ⟨by show 1 ≤ 1 + U p.count 3; omega, by show 1 + U p.count 3 ≤ 3; omega⟩, ?_, ⟨by show 1 ≤ 1 + U p.kind 3; omega, by show 1 + U p.kind 3 ≤ 3; omega⟩, ?_, ⟨by show 1 ≤ 1 + U p.times n; omega, by show 1 + U p.times n ≤ 600; omega⟩, ⟨by show (0 : Int) ≤ 0; omega, by show (0 : Int) ≤ 1 + U p.times n - 1; omega⟩, fun _ => rfl⟩, ⟨⟨by show 0 ≤ U p.rate 300000000; omega, by show U p.rate 300000000 ≤ 1000000000; omega⟩, ⟨by show 0 ≤ U p.penalty 500000000; omega, by show U p.penalty 500000000 ≤ 1000000000; omega⟩, b3⟩, rfl⟩, ⟨c.1, by show 1 ≤ 1 + U p.over 3; omega, by show 1 + U p.over 3 ≤ 3; omega⟩⟩, d⟩, e⟩) (by show (0 : Int) ≤ 0; omega), ?_⟩
  ·show (if U p.round 2 = 0 then (1 : Int) else 3) = 1 ∨ (if U p.round 2 = 0 then (1 : Int) else 3) = 3
   split
   ·exact Or.inl rfl
   ·exact Or.inr rfl
  ·generalize hx : (nearB p n).every = x
   have hx' : (if U p.every 6 = 0 then (1 : Int) else if U p.every 6 = 1 then 2 else if U p.every 6 = 2 then 3 else if U p.every 6 = 3 then 4 else if U p.every 6 = 4 then 6 else 12) = x := hx
   show x = 1 ∨ x = 2 ∨ x = 3 ∨ x = 4 ∨ x = 6 ∨ x = 12
   repeat' split at hx'
   all_goals omega
  ·rw [(nearD_times _).1]
   show 1 + U p.times n ≤ n
   omega
end Go.Proofs.Ytbbbjjfecblhpaa.Du
/- Plain: the days of a product near another one, from a day of thirty years: they are there, and lie far apart. -/
namespace Go.Proofs.Ytbbbjjfecblhpaa.Du
open Go.RowKit Go.Proofs.YtbbbjjfecblhpaaW.PrintWords Go.Proofs.YtbbbjjfecblhpaaW.PrintLast Go.Proofs.YtbbbjjfecblhpaaW.PrintMore Go.Proofs.Ytbbbjjfecblhpaa.HW
open Go.Proofs.Ytbbbjjfecblhpaa.Math Go.Proofs.Ytbbbjjfecblhpaa.H Go.Proofs.Ytbbbjjfecblhpaa.Pd Pm
set_option linter.unusedVariables false
set_option linter.unusedSimpArgs false
def A (n k : Int) : Int := dayAt (idx n + k) (min (dayOf n) (ml (idx n + k)))
end Go.Proofs.Ytbbbjjfecblhpaa.Du
/- Plain: parts between days far apart are above nothing; their sum is what lies between the first day and the last one. -/
namespace Go.Proofs.Ytbbbjjfecblhpaa.Du
open Go.RowKit Go.Proofs.YtbbbjjfecblhpaaW.PrintWords Go.Proofs.YtbbbjjfecblhpaaW.PrintLast Go.Proofs.YtbbbjjfecblhpaaW.PrintMore Go.Proofs.Ytbbbjjfecblhpaa.HW
open Go.Proofs.Ytbbbjjfecblhpaa.Math Go.Proofs.Ytbbbjjfecblhpaa.H Go.Proofs.Ytbbbjjfecblhpaa.Pd Pm
set_option linter.unusedVariables false
set_option linter.unusedSimpArgs false
theorem actual_up : ∀ (k : Nat) {a : Int}, isDay a → isDay (a + k) → actual a + k ≤ actual (a + k)
 | 0, a, _, _ => by simp
 | k + 1, a, ha, hb => by
  obtain ⟨a1, a2⟩ := id ha
  obtain ⟨b1, b2⟩ := id hb
  have hm : isDay (a + k) := ⟨by omega, by omega⟩
  have hb' : isDay (a + k + 1) := ⟨by omega, by omega⟩
  have ih := actual_up k ha hm
  have hs := actual_succ hm hb'
  have hl := leap_01 (yearOf (a + k))
  rw [show a + ((k + 1 : Nat) : Int) = a + k + 1 by omega]
  omega
def prev (s : Int) (l : List Int) (k : Nat) : Int := if k = 0 then s else l.getD (k - 1) 0
end Go.Proofs.Ytbbbjjfecblhpaa.Du
/- Plain: what nights of a loan without dues leave: the rests. -/
namespace Go.Proofs.Ytbbbjjfecblhpaa.Nt
open Go.RowKit Go.Proofs.YtbbbjjfecblhpaaW.PrintWords Go.Proofs.YtbbbjjfecblhpaaW.PrintLast Go.Proofs.YtbbbjjfecblhpaaW.PrintMore Go.Proofs.Ytbbbjjfecblhpaa.HW
open Go.Proofs.Ytbbbjjfecblhpaa.Math Go.Proofs.Ytbbbjjfecblhpaa.H Go.Proofs.Ytbbbjjfecblhpaa.Pd Go.Proofs.Ytbbbjjfecblhpaa.Du Go.Proofs.Ytbbbjjfecblhpaa.Lv Pm
set_option linter.unusedVariables false
set_option linter.unusedSimpArgs false
theorem actual_most : ∀ (k : Nat) {a : Int}, isDay a → isDay (a + k) → actual (a + k) ≤ actual a + 366 * k
 | 0, a, _, _ => by simp
 | k + 1, a, ha, hb => by
  obtain ⟨a1, a2⟩ := id ha
  obtain ⟨b1, b2⟩ := id hb
  have hm : isDay (a + k) := ⟨by omega, by omega⟩
  have hb' : isDay (a + k + 1) := ⟨by omega, by omega⟩
  have ih := actual_most k ha hm
  have hs := actual_succ hm hb'
  have hl := leap_01 (yearOf (a + k))
  rw [show a + ((k + 1 : Nat) : Int) = a + k + 1 by omega]
  omega
theorem thirty_le {a b : Int} (ha : isDay a) (hb : isDay b) (h : a ≤ b) : thirty a ≤ thirty b := by
 obtain ⟨y1, y2, m1, m2, d1, d2⟩ := date_bd ha
 obtain ⟨y3, y4, m3, m4, d3, d4⟩ := date_bd hb
 obtain ⟨_, _, f1, f2, f3, _⟩ := idx_spec ha
 obtain ⟨_, _, g1, g2, g3, _⟩ := idx_spec hb
 have ei : idx a = 12 * yearOf a + monthOf a - 1 := rfl
 have ej : idx b = 12 * yearOf b + monthOf b - 1 := rfl
 unfold thirty
 rw [if_pos ha, if_pos hb]
 rcases (by omega : idx a < idx b ∨ idx a = idx b ∨ idx b < idx a) with h1 | h1 | h1
 ·omega
 ·have := dayAt_mono (t := idx b) (d := dayOf b) (d' := dayOf a)
  rw [h1] at f3
  omega
 ·have := dayAt_less h1 f1 g2
  omega
theorem place_wide {c a b : Int} (hc : c = 1 ∨ c = 2 ∨ c = 3) (ha : isDay a) (hb : isDay b) (h : a ≤ b) : 0 ≤ place c b - place c a ∧ place c b - place c a ≤ 53436000 := by
 obtain ⟨p1, p2⟩ := id ha
 obtain ⟨q1, q2⟩ := id hb
 unfold place
 rcases hc with rfl | rfl | rfl
 ·simp only [if_true]
  have := thirty_le ha hb h
  obtain ⟨y1, y2, m1, m2, d1, d2⟩ := date_bd ha
  obtain ⟨y3, y4, m3, m4, d3, d4⟩ := date_bd hb
  have e1 := (yearOf_spec ha).1
  have e2 := (yearOf_spec hb).2.1
  unfold thirty at this ⊢
  rw [if_pos ha, if_pos hb] at this ⊢
  omega
 ·simp only [show ¬ ((2 : Int) = 1) by decide, if_false, if_true]; omega
 ·simp only [show ¬ ((3 : Int) = 1) by decide, show ¬ ((3 : Int) = 2) by decide, if_false]
  have hbb : isDay (a + ((b - a).toNat : Int)) := by rw [show a + ((b - a).toNat : Int) = b by omega]; exact hb
  have u := actual_most (b - a).toNat ha hbb
  have v := actual_up (b - a).toNat ha hbb
  rw [show a + ((b - a).toNat : Int) = b by omega] at u v
  omega
end Go.Proofs.Ytbbbjjfecblhpaa.Nt
/- The statements of layer 20: awake. -/
namespace Go.Proofs.Ytbbbjjfecblhpaa.Nt
open Go.RowKit Go.Proofs.YtbbbjjfecblhpaaW.PrintWords Go.Proofs.YtbbbjjfecblhpaaW.PrintLast Go.Proofs.YtbbbjjfecblhpaaW.PrintMore Go.Proofs.Ytbbbjjfecblhpaa.HW
open Go.Proofs.Ytbbbjjfecblhpaa.Math Go.Proofs.Ytbbbjjfecblhpaa.H Go.Proofs.Ytbbbjjfecblhpaa.Pd Go.Proofs.Ytbbbjjfecblhpaa.Du Go.Proofs.Ytbbbjjfecblhpaa.Lv Pm
set_option linter.unusedVariables false
set_option linter.unusedSimpArgs false
attribute [local go_sem] max2_int min2_int max_two min_two
abbrev awS : St := { zeroS with day := 5, rate := 1000000000, m := { zeroM with p := 365, cash := -365 } }
abbrev awP : Pm.Prod := { plainP with rate := 1000000000 }
theorem aw_run : (nightsP awP awS 1).2 = 0 ∧ (nightsP awP awS 1).1.day = 6 ∧ (nightsP awP awS 1).1.m.acc = 1 ∧ (nightsP awP awS 1).1.m.earned = 1 := by decide +kernel
theorem st_nil (s : St) (w : World) (h1 : s.plan = []) (h2 : s.m.dues = []) : StAt w s none 0 none 0 :=
 ⟨by rw [h1]; exact Kd.C_of_reads (d := (0 : Int)) ⟨rfl, by simp, fun h => absurd h (by simp)⟩, by rw [h1]; exact Nat.le_refl _, fun _ => rfl, by rw [h1]; simp, ⟨fun r hr => by rw [h2] at hr; simp at hr, fun i r h => by rw [h2] at h; simp at h⟩, by rw [h2]; exact Nat.le_refl _, fun _ => rfl, by rw [h2]; simp⟩
set_option maxRecDepth 100000 in
set_option maxHeartbeats 8000000 in
theorem night_awake (w : World) (hg : GV w) : Calls Try.prog 8 #[] w fun e w' => e = .returned (.bool true) ∧ Below w.heap.size w w' := by
 have NS := Aside0.mk (fun (W : World) (hb : Below w.heap.size w W) => Night_any awP none 0 none 0 none 0 awS none 0 none 0 W (nilAt rfl rfl rfl) ⟨by decide, by decide, by decide, by decide⟩ (hg.below hb) (st_nil awS W rfl rfl))
 obtain ⟨r1, r2, r3, r4⟩ := aw_run
 obtain ⟨⟨x, c⟩, hx⟩ : ∃ x, nightsP awP awS 1 = x := ⟨_, rfl⟩
 rw [hx] at NS r1 r2 r3 r4
 simp only at r1 r2 r3 r4
 subst r1
 clear hx hg
 go_enter Try.func8, Try.ntmps8
 go_wp2_with (first
  | (go_at_call 23; (with_reducible refine (plain_any _).mono ?_); rintro e w0 ⟨rfl, hb⟩; have HB := Aside0.mk hb; clear hb)
  | ((with_reducible refine gate_dst (N := 1) rfl ?_); refine copy_event rfl (N := 1) rfl rfl rfl (t := 27) (v := .tmp 4) rfl (cs := pcs plainP none 0 none 0 none 0) (zs := pzs) ?hr rfl rfl info_prod ?hz (pcs_one _ _ _ _ _ _ _) ?_; (case hr => first | (go_simp; done) | (go_simp; rfl)); (case hz => rfl); intro g hg w1 hb1 hbl1; have gge := (show w.heap.size ≤ g by rw [hg]; exact HB.out.size); have HB := Aside0.mk (below_step HB.out hbl1); have GG := Aside0.mk hb1; clear hg hb1 hbl1; have u7 : w1.cell? ⟨g, 7, none⟩ = some (.int .i64 _) := (blk_cell GG.out 7).trans rfl; have f7 := frozen_of_row w1 g 7 _ _ GG.out)
  | ((with_reducible refine gate_store (t := 2) (p := 5) rfl ?_); refine put_event rfl (t := 2) (p := 5) (v := (.const (.int .i64 1000000000))) rfl rfl (g := g) (i := 7) (cs := pcs plainP none 0 none 0 none 0) (cs' := pcs awP none 0 none 0 none 0) (x := .int .i64 1000000000) ?hr GG.out ?hc ?_; (case hc => rfl); (case hr => go_simp); intro w2 hb8 hbut; have GG := Aside0.mk hb8; have HB := Aside0.mk (But.below HB.out HB.out.size gge hbut); clear hbut; clear hb8)
  | ((with_reducible refine gate_dst (N := 7) rfl ?_); refine wpList_load_row rfl 27 (.tmp 1) rfl g rfl 27 _ (0, 0) _ GG.out Try.underlying27 rfl info_prod ?_)
  | ((with_reducible refine gate_dst (N := 8) rfl ?_); refine build_event rfl (t := 31) rfl (cs := mcs awS.m none 0) ?hb ?_; (case hb => simp only [List.map_toArray, List.map_cons, List.map_nil]; kernel_rfl))
  | ((with_reducible refine gate_dst (N := 9) rfl ?_); refine build_event rfl (t := 33) rfl (cs := scs awS none 0 none 0) ?hb ?_; (case hb => simp only [List.map_toArray, List.map_cons, List.map_nil]; kernel_rfl))
  | (go_at_call 12; (with_reducible refine (NS.out _ HB.out).mono ?_); rintro e w3 ⟨L2, lc2, D2, dc2, rfl, -, hb, -⟩; have HB := Aside0.mk (below_step HB.out hb); clear hb GG NS)
  | ((with_reducible refine gate_dst (N := 2) rfl ?_); refine copy_event rfl (N := 2) rfl rfl rfl (t := 33) (v := .tmp 11) rfl (cs := scs x L2 lc2 D2 dc2) (zs := scs zeroS none 0 none 0) ?hr rfl rfl info_state ?hz (by simp [Value.oneCell']) ?_; (case hr => first | (go_simp; done) | (go_simp; rfl)); (case hz => rfl); intro g2 hg w4 hb1 hbl1; have HB := Aside0.mk (below_step HB.out hbl1); have GG := Aside0.mk hb1; clear hg hb1 hbl1; refine Hid.out ?_))
 refine Lib.hid ?_
 have k0 := (show w4.cell? ⟨g2, 0, none⟩ = some (.int .i64 6) from (blk_cell GG.out 0).trans (by rw [← r2]; rfl))
 have k7 := (show w4.cell? ⟨g2, 7, none⟩ = some (.int .i64 1) from (blk_cell GG.out 7).trans (by rw [← r3]; rfl))
 have k13 := (show w4.cell? ⟨g2, 13, none⟩ = some (.int .i64 1) from (blk_cell GG.out 13).trans (by rw [← r4]; rfl))
 go_wp2
 go_ret
 exact ⟨rfl, HB.out⟩
end Go.Proofs.Ytbbbjjfecblhpaa.Nt
/- The statements of layer 20: few. -/
namespace Go.Proofs.Ytbbbjjfecblhpaa.Nt
open Go.RowKit Go.Proofs.YtbbbjjfecblhpaaW.PrintWords Go.Proofs.YtbbbjjfecblhpaaW.PrintLast Go.Proofs.YtbbbjjfecblhpaaW.PrintMore Go.Proofs.Ytbbbjjfecblhpaa.HW
open Go.Proofs.Ytbbbjjfecblhpaa.Math Go.Proofs.Ytbbbjjfecblhpaa.H Go.Proofs.Ytbbbjjfecblhpaa.Pd Go.Proofs.Ytbbbjjfecblhpaa.Du Go.Proofs.Ytbbbjjfecblhpaa.Lv Pm
set_option linter.unusedVariables false
set_option linter.unusedSimpArgs false
attribute [local go_sem] max2_int min2_int max_two min_two
def fewP (p : Pm.Prod) (s : St) : Prop := p.name.size ≤ 100 ∧ p.resets.length ≤ 50 ∧ p.late.length ≤ 50 ∧ p.hol.length ≤ 300 ∧ s.m.dues.length ≤ 30 ∧ s.plan.length ≤ 100
instance (p : Pm.Prod) (s : St) : Decidable (fewP p s) := by unfold fewP; exact inferInstance
set_option maxRecDepth 100000 in
set_option maxHeartbeats 8000000 in
theorem few_any (p : Pm.Prod) (A1 : Option Addr) (c1 : Nat) (A2 : Option Addr) (c2 : Nat) (A3 : Option Addr) (c3 : Nat) (s : St) (L : Option Addr) (lc : Nat) (D : Option Addr) (dc : Nat) (w : World) :
  Calls Try.prog 7 #[pv p A1 c1 A2 c2 A3 c3, sv s L lc D dc] w fun e w' => e = .returned (.bool (decide (fewP p s))) ∧ Below w.heap.size w w' := by
 obtain ⟨b, hb⟩ : ∃ b, decide (fewP p s) = b := ⟨_, rfl⟩
 rw [hb]
 have h : decide ((p.name.size : Int) ≤ 100) = false ∧ b = false ∨ decide ((p.name.size : Int) ≤ 100) = true ∧ decide ((p.resets.length : Int) ≤ 50) = false ∧ b = false ∨ decide ((p.name.size : Int) ≤ 100) = true ∧ decide ((p.resets.length : Int) ≤ 50) = true ∧ decide ((p.late.length : Int) ≤ 50) = false ∧ b = false ∨ decide ((p.name.size : Int) ≤ 100) = true ∧ decide ((p.resets.length : Int) ≤ 50) = true ∧ decide ((p.late.length : Int) ≤ 50) = true ∧ decide ((p.hol.length : Int) ≤ 300) = false ∧ b = false ∨ decide ((p.name.size : Int) ≤ 100) = true ∧ decide ((p.resets.length : Int) ≤ 50) = true ∧ decide ((p.late.length : Int) ≤ 50) = true ∧ decide ((p.hol.length : Int) ≤ 300) = true ∧ decide ((s.m.dues.length : Int) ≤ 30) = false ∧ b = false ∨ decide ((p.name.size : Int) ≤ 100) = true ∧ decide ((p.resets.length : Int) ≤ 50) = true ∧ decide ((p.late.length : Int) ≤ 50) = true ∧ decide ((p.hol.length : Int) ≤ 300) = true ∧ decide ((s.m.dues.length : Int) ≤ 30) = true ∧ decide ((s.plan.length : Int) ≤ 100) = false ∧ b = false ∨ decide ((p.name.size : Int) ≤ 100) = true ∧ decide ((p.resets.length : Int) ≤ 50) = true ∧ decide ((p.late.length : Int) ≤ 50) = true ∧ decide ((p.hol.length : Int) ≤ 300) = true ∧ decide ((s.m.dues.length : Int) ≤ 30) = true ∧ decide ((s.plan.length : Int) ≤ 100) = true ∧ b = true := by
  subst hb
  by_cases h0 : (p.name.size : Int) ≤ 100
  rotate_left
  ·exact Or.inl ⟨decide_eq_false h0, decide_eq_false (fun g => by unfold fewP at g; omega)⟩
  by_cases h1 : (p.resets.length : Int) ≤ 50
  rotate_left
  ·exact Or.inr (Or.inl ⟨decide_eq_true h0, decide_eq_false h1, decide_eq_false (fun g => by unfold fewP at g; omega)⟩)
  by_cases h2 : (p.late.length : Int) ≤ 50
  rotate_left
  ·exact Or.inr (Or.inr (Or.inl ⟨decide_eq_true h0, decide_eq_true h1, decide_eq_false h2, decide_eq_false (fun g => by unfold fewP at g; omega)⟩))
  by_cases h3 : (p.hol.length : Int) ≤ 300
  rotate_left
  ·exact Or.inr (Or.inr (Or.inr (Or.inl ⟨decide_eq_true h0, decide_eq_true h1, decide_eq_true h2, decide_eq_false h3, decide_eq_false (fun g => by unfold fewP at g; omega)⟩)))
  by_cases h4 : (s.m.dues.length : Int) ≤ 30
  rotate_left
  ·exact Or.inr (Or.inr (Or.inr (Or.inr (Or.inl ⟨decide_eq_true h0, decide_eq_true h1, decide_eq_true h2, decide_eq_true h3, decide_eq_false h4, decide_eq_false (fun g => by unfold fewP at g; omega)⟩))))
  by_cases h5 : (s.plan.length : Int) ≤ 100
  rotate_left
  ·exact Or.inr (Or.inr (Or.inr (Or.inr (Or.inr (Or.inl ⟨decide_eq_true h0, decide_eq_true h1, decide_eq_true h2, decide_eq_true h3, decide_eq_true h4, decide_eq_false h5, decide_eq_false (fun g => by unfold fewP at g; omega)⟩)))))
  exact Or.inr (Or.inr (Or.inr (Or.inr (Or.inr (Or.inr (⟨decide_eq_true h0, decide_eq_true h1, decide_eq_true h2, decide_eq_true h3, decide_eq_true h4, decide_eq_true h5, decide_eq_true (by unfold fewP; omega)⟩))))))
 clear hb
 rcases h with ⟨k0, rfl⟩ | ⟨k0, k1, rfl⟩ | ⟨k0, k1, k2, rfl⟩ | ⟨k0, k1, k2, k3, rfl⟩ | ⟨k0, k1, k2, k3, k4, rfl⟩ | ⟨k0, k1, k2, k3, k4, k5, rfl⟩ | ⟨k0, k1, k2, k3, k4, k5, rfl⟩
 all_goals
  go_enter Try.func7, Try.ntmps7
  go_wp2_with (first
   | ((with_reducible refine gate_dst (N := 2) rfl ?_); refine box_event ?hg (N := 2) ?hd (cs := pcs p A1 c1 A2 c2 A3 c3) (t := 27) ?hr ?_; (case hd => rfl); (case hg => rfl); (case hr => first | (go_simp; done) | (go_simp; rfl)); intro gp hg y2_ hb1 hb; clear hg; have GP := Aside0.mk hb1; have HB := Aside0.mk hb; clear hb1 hb)
   | ((with_reducible refine gate_dst (N := 3) rfl ?_); refine box_event ?hg (N := 3) ?hd (cs := scs s L lc D dc) (t := 33) ?hr ?_; (case hd => rfl); (case hg => rfl); (case hr => first | (go_simp; done) | (go_simp; rfl)); intro gs hg y3_ hb1 hb; clear hg; have GS := Aside0.mk hb1; have GP := Aside0.mk (Pd.blk_below GP.out hb); have HB := Aside0.mk (below_step HB.out hb); clear hb1 hb; refine Hid.out ?_))
  refine Lib.hid ?_
  have u0 := (show y3_.cell? ⟨gp, 0, none⟩ = some (.string p.name) from (blk_cell GP.out 0).trans rfl)
  have u8 := (show y3_.cell? ⟨gp, 8, none⟩ = some (.slice A1 p.resets.length c1) from (blk_cell GP.out 8).trans rfl)
  have u15 := (show y3_.cell? ⟨gp, 15, none⟩ = some (.slice A2 p.late.length c2) from (blk_cell GP.out 15).trans rfl)
  have u18 := (show y3_.cell? ⟨gp, 18, none⟩ = some (.slice A3 p.hol.length c3) from (blk_cell GP.out 18).trans rfl)
  have s8 := (show y3_.cell? ⟨gs, 8, none⟩ = some (.slice D s.m.dues.length dc) from (blk_cell GS.out 8).trans rfl)
  have s3 := (show y3_.cell? ⟨gs, 3, none⟩ = some (.slice L s.plan.length lc) from (blk_cell GS.out 3).trans rfl)
  go_wp2_with fail
  go_ret
  exact ⟨rfl, HB.out⟩
end Go.Proofs.Ytbbbjjfecblhpaa.Nt
/- Plain: nights, and nights behind them, are as1 all of them. -/
namespace Go.Proofs.Ytbbbjjfecblhpaa.Nt
open Go.RowKit Go.Proofs.YtbbbjjfecblhpaaW.PrintWords Go.Proofs.YtbbbjjfecblhpaaW.PrintLast Go.Proofs.YtbbbjjfecblhpaaW.PrintMore Go.Proofs.Ytbbbjjfecblhpaa.HW
open Go.Proofs.Ytbbbjjfecblhpaa.Math Go.Proofs.Ytbbbjjfecblhpaa.H Go.Proofs.Ytbbbjjfecblhpaa.Pd Go.Proofs.Ytbbbjjfecblhpaa.Du Go.Proofs.Ytbbbjjfecblhpaa.Lv Pm
set_option linter.unusedVariables false
set_option linter.unusedSimpArgs false
theorem readM_parts {m : Mny} (h : (readM m).isSome = true) : ∃ a b, dsum none m.dues 0 0 = some (a, b) ∧ readM m = some (a, b) ∧ (-1000000000000000 ≤ m.cash ∧ m.cash ≤ 1000000000000000) ∧ m.cash + m.p + m.acc + a + b + m.pen + m.fees = m.un + m.earned + m.fined + m.charged ∧ (0 ≤ b ∧ b ≤ 1000000000000000) := by
 have h' := h
 unfold readM at h'
 split at h'
 ·rename_i h1
  cases hd : dsum none m.dues 0 0 with
  | none => rw [hd] at h'; cases h'
  | some ab =>
   obtain ⟨a, b⟩ := ab
   obtain ⟨-, bb⟩ := dsum_bd m.dues none 0 0 a b (by decide) (by decide) hd
   rw [hd] at h'
   simp only at h'
   split at h'
   ·rename_i h2
    refine ⟨a, b, rfl, ?_, ⟨h2.1, h2.2.1⟩, h2.2.2, mayB_iff.1 bb⟩
    unfold readM
    rw [if_pos h1, hd]
    simp only
    rw [if_pos h2]
   ·cases h'
 ·cases h'
theorem readM_more {m : Mny} (h : (readM m).isSome = true) {v v2 : Int} (h1 : 0 ≤ v) (h2 : 0 ≤ v2) : (readM (mN m v v2)).isSome = decide (m.acc + v ≤ 1000000000000000 ∧ m.earned + v ≤ 1000000000000000 ∧ m.pen + v2 ≤ 1000000000000000 ∧ m.fined + v2 ≤ 1000000000000000) := by
 obtain ⟨a, b, hd, -, hc, hs, -⟩ := readM_parts h
 have hf := readM_flat h
 simp only [Mny.flat, List.mem_cons, List.not_mem_nil, or_false, forall_eq_or_imp, forall_eq] at hf
 by_cases hx : m.acc + v ≤ 1000000000000000 ∧ m.earned + v ≤ 1000000000000000 ∧ m.pen + v2 ≤ 1000000000000000 ∧ m.fined + v2 ≤ 1000000000000000
 ·rw [decide_eq_true hx]
  unfold readM
  rw [if_pos (List.all_eq_true.2 fun x hx2 => mayB_iff.2 (by
   simp only [Mny.flat, List.mem_cons, List.not_mem_nil, or_false] at hx2
   omega))]
  show (match dsum none m.dues 0 0 with
   | none => none
   | some (a, b) => if -1000000000000000 ≤ m.cash ∧ m.cash ≤ 1000000000000000 ∧ m.cash + m.p + (m.acc + v) + a + b + (m.pen + v2) + m.fees = m.un + (m.earned + v) + (m.fined + v2) + m.charged then some (a, b) else none : Option (Int × Int)).isSome = true
  rw [hd]
  simp only
  rw [if_pos ⟨hc.1, hc.2, by omega⟩]
  rfl
 ·rw [decide_eq_false hx]
  cases hr : (readM (mN m v v2)).isSome with
  | false => rfl
  | true =>
   exfalso
   have hf2 := readM_flat hr
   simp only [Mny.flat, List.mem_cons, List.not_mem_nil, or_false, forall_eq_or_imp, forall_eq] at hf2
   omega
theorem owedP_bd {m : Mny} (h : (readM m).isSome = true) : 0 ≤ owedP m ∧ owedP m ≤ 1000000000000000 := by
 obtain ⟨a, b, -, hr, -, -, hb⟩ := readM_parts h
 unfold owedP
 rw [hr]
 exact hb
abbrev wP (q : Pm.Prod) : Int := Gm.whole q.count
abbrev hP (q : Pm.Prod) : Int := Gm.half q.count q.round
abbrev x1P (q : Pm.Prod) (s : St) (n : Int) : Int := s.m.p * s.rate * (place q.count (s.day + n) - place q.count s.day)
abbrev x2P (q : Pm.Prod) (s : St) (n : Int) : Int := owedP s.m * q.penalty * (place q.count (s.day + n) - place q.count s.day)
theorem stepP (q : Pm.Prod) {rest x : Int} (hx : 0 ≤ x) (hr : restOk q rest = true) : 0 ≤ Gm.q (wP q) (hP q) rest x ∧ restOk q (Gm.r (wP q) (hP q) rest x) = true := by
 have hW := Gm.whole_bd q.count
 obtain ⟨s1, s2, s3, -⟩ := Gm.step (show 0 < Gm.whole q.count by omega) hx (restOk_bd hr).1
 refine ⟨s1, ?_⟩
 unfold restOk
 rw [decide_eq_true s2, decide_eq_true s3]
 rfl
theorem nightsB_is {q : Pm.Prod} {s : St} {n : Int} (hm : mayE q s = 0) (h0 : 0 ≤ n) (hn : s.day + n ≤ 84370) :
  (0 ≤ x1P q s n ∧ 0 ≤ x2P q s n) ∧ nightsB q s n = if Gm.q (wP q) (hP q) s.residue (x1P q s n) ≤ 1000000000000000 ∧ Gm.q (wP q) (hP q) s.fine (x2P q s n) ≤ 1000000000000000 ∧ s.m.acc + Gm.q (wP q) (hP q) s.residue (x1P q s n) ≤ 1000000000000000 ∧ s.m.earned + Gm.q (wP q) (hP q) s.residue (x1P q s n) ≤ 1000000000000000 ∧ s.m.pen + Gm.q (wP q) (hP q) s.fine (x2P q s n) ≤ 1000000000000000 ∧ s.m.fined + Gm.q (wP q) (hP q) s.fine (x2P q s n) ≤ 1000000000000000
   then (sN s n (Gm.q (wP q) (hP q) s.residue (x1P q s n)) (Gm.q (wP q) (hP q) s.fine (x2P q s n)) (Gm.r (wP q) (hP q) s.residue (x1P q s n)) (Gm.r (wP q) (hP q) s.fine (x2P q s n)), 0) else (zeroS, 3) := by
 obtain ⟨he, k1, k2, k3, k4, k5, k6, k7⟩ := mayE_zero hm
 obtain ⟨hc, hr, -, hpen⟩ := err_shape he
 have hW := Gm.whole_bd q.count
 have hd : isDay s.day := ⟨by omega, by omega⟩
 have hd2 : isDay (s.day + n) := ⟨by omega, by omega⟩
 obtain ⟨g0, g1⟩ := place_wide hc hd hd2 (by omega)
 have hp := readM_flat k5 s.m.p (by simp [Mny.flat])
 have ho := owedP_bd k5
 have y1 : 0 ≤ x1P q s n := Int.mul_nonneg (Int.mul_nonneg hp.1 k3) g0
 have y2 : 0 ≤ x2P q s n := Int.mul_nonneg (Int.mul_nonneg ho.1 hpen.1) g0
 obtain ⟨s1, -⟩ := stepP q y1 k1
 obtain ⟨s2, -⟩ := stepP q y2 k2
 refine ⟨⟨y1, y2⟩, ?_⟩
 have b1 : Gm.bear (wP q) (hP q) s.residue s.m.p s.rate (place q.count (s.day + n) - place q.count s.day) = if Gm.q (wP q) (hP q) s.residue (x1P q s n) ≤ 1000000000000000 then (Gm.q (wP q) (hP q) s.residue (x1P q s n), 0, Gm.r (wP q) (hP q) s.residue (x1P q s n)) else (0, 3, s.residue) := by
  unfold Gm.bear
  rw [if_pos (show Gm.may _ _ _ from ⟨hp.1, hp.2, k3, k4, g0, g1⟩)]
 have b2 : Gm.bear (wP q) (hP q) s.fine (owedP s.m) q.penalty (place q.count (s.day + n) - place q.count s.day) = if Gm.q (wP q) (hP q) s.fine (x2P q s n) ≤ 1000000000000000 then (Gm.q (wP q) (hP q) s.fine (x2P q s n), 0, Gm.r (wP q) (hP q) s.fine (x2P q s n)) else (0, 3, s.fine) := by
  unfold Gm.bear
  rw [if_pos (show Gm.may _ _ _ from ⟨ho.1, ho.2, hpen.1, hpen.2, g0, g1⟩)]
 have hR := readM_more k5 s1 s2
 generalize Gm.q (wP q) (hP q) s.residue (x1P q s n) = v at *
 generalize Gm.q (wP q) (hP q) s.fine (x2P q s n) = v2 at *
 generalize Gm.r (wP q) (hP q) s.residue (x1P q s n) = r at *
 generalize Gm.r (wP q) (hP q) s.fine (x2P q s n) = r2 at *
 unfold nightsB
 rw [b1, b2]
 by_cases c1 : v ≤ 1000000000000000
 ·rw [if_pos c1]
  by_cases c2 : v2 ≤ 1000000000000000
  ·rw [if_pos c2]
   rw [if_neg (by simp), if_neg (by simp)]
   show (if (readM (mN s.m v v2)).isSome = true then (sN s n v v2 r r2, (0 : Int)) else (zeroS, 3)) = _
   rw [hR]
   by_cases c3 : s.m.acc + v ≤ 1000000000000000 ∧ s.m.earned + v ≤ 1000000000000000 ∧ s.m.pen + v2 ≤ 1000000000000000 ∧ s.m.fined + v2 ≤ 1000000000000000
   ·rw [decide_eq_true c3, if_pos rfl, if_pos ⟨c1, c2, c3⟩]
   ·rw [decide_eq_false c3, if_neg (by simp), if_neg (fun g => c3 g.2.2)]
  ·rw [if_neg c2, if_neg (by simp), if_pos (by simp), if_neg (fun g => c2 g.2.1)]
 ·rw [if_neg c1, if_pos (by simp), if_neg (fun g => c1 g.1)]
theorem nightsP_in {q : Pm.Prod} {s : St} {n : Int} (hm : mayE q s = 0) (h0 : 0 ≤ n) (hn : s.day + n ≤ 84370) : nightsP q s n = nightsB q s n := by
 unfold nightsP
 rw [if_neg (fun h => h hm), if_neg (by omega), if_neg (by omega)]
end Go.Proofs.Ytbbbjjfecblhpaa.Nt
/- Contracts by hand: the document's words of money that is right. -/
namespace Go.Proofs.Ytbbbjjfecblhpaa.Nt
open Go.RowKit Go.Proofs.YtbbbjjfecblhpaaW.PrintWords Go.Proofs.YtbbbjjfecblhpaaW.PrintLast Go.Proofs.YtbbbjjfecblhpaaW.PrintMore Go.Proofs.Ytbbbjjfecblhpaa.HW
open Go.Proofs.Ytbbbjjfecblhpaa.Math Go.Proofs.Ytbbbjjfecblhpaa.H Go.Proofs.Ytbbbjjfecblhpaa.Pd Go.Proofs.Ytbbbjjfecblhpaa.Du Go.Proofs.Ytbbbjjfecblhpaa.Lv Pm
set_option linter.unusedVariables false
set_option linter.unusedSimpArgs false
attribute [local go_sem] max2_int min2_int max_two min_two
theorem rmay_any (v : Int) (r : Bool) (h : mayB v = r) (w : World) : Calls Try.prog 32 #[.int .i64 v] w fun e w' => e = .returned (.bool r) ∧ w' = w := by
 unfold mayB at h
 by_cases h0 : 0 ≤ v
 ·by_cases h1 : v ≤ 1000000000000000
  ·rw [decide_eq_true h0, decide_eq_true h1] at h
   obtain rfl : true = r := h
   go_enter Try.func32, Try.ntmps32
   go_wp2
   go_ret
   exact ⟨rfl, rfl⟩
  ·rw [decide_eq_true h0, decide_eq_false h1] at h
   obtain rfl : false = r := h
   go_enter Try.func32, Try.ntmps32
   go_wp2
   go_ret
   exact ⟨rfl, rfl⟩
 ·rw [decide_eq_false h0] at h
  obtain rfl : false = r := h
  go_enter Try.func32, Try.ntmps32
  go_wp2
  go_ret
  exact ⟨rfl, rfl⟩
theorem zz_or {z1 z2 : Bool} (h : (z1 && z2) = false) : z1 = false ∨ (z1 = true ∧ z2 = false) := by
 revert h
 cases z1 <;> cases z2 <;> simp
def dueV (r : Option (Int × Int)) : Value := match r with
 | none => .tuple #[.int .i64 0, .int .i64 0, .bool false]
 | some (a, b) => .tuple #[.int .i64 a, .int .i64 b, .bool true]
set_option maxRecDepth 100000 in
set_option maxHeartbeats 20000000 in
theorem due_any (A : Option Addr) (c : Nat) (rows : List (List Int)) (w : World) (hr : Op.IntRows w A 4 rows) (hm : rows.length ≤ 140737488351232) :
  Calls Try.prog 31 #[.slice A rows.length c] w fun e w' => e = .returned (dueV (dsum none rows 0 0)) ∧ Below w.heap.size w w' := by
 have HR := Aside0.mk hr
 clear hr
 obtain ⟨res, hres⟩ : ∃ r, dsum none rows 0 0 = r := ⟨_, rfl⟩
 rw [hres]
 have RES := Aside0.mk hres
 clear hres
 go_enter Try.func31, Try.ntmps31
 go_wp2_with fail
 go_loopg [5, 6, 7] (rows.length + 1) (fun gq av bv iv w' => ∃ (k : Nat) (a b : Int), k ≤ rows.length ∧ iv = .int .i64 (k : Int) ∧ av = .int .i64 a ∧ bv = .int .i64 b ∧ Aside0 (gq = rows.length + 1 - k) ∧ Aside0 (dsum (pvA rows k) (rows.drop k) a b = res) ∧ Aside0 (mayB a = true ∧ mayB b = true) ∧ Aside0 (Below w.heap.size w w'))
 case atStart => exact ⟨0, 0, 0, by omega, rfl, rfl, rfl, ⟨rfl⟩, ⟨by rw [List.drop_zero]; exact RES.out⟩, ⟨by decide, by decide⟩, ⟨Below.refl _ _⟩⟩
 case round =>
  obtain ⟨k, a, b, kn, rfl, rfl, rfl, hgq, HD, MAB, HB⟩ := hrel
  by_cases hlt : k < rows.length
  ·obtain ⟨ad, n, d, i, q, rfl, hrow, p0, p1, p2, p3, wn, wi, wq⟩ := four_at (HR.out.below HB.out) k hlt
   have hd := HD.out
   rw [List.drop_eq_getElem_cons hlt, show rows[k] = [n, d, i, q] from (List.getElem?_eq_some_iff.1 hrow).2, dsum_step] at hd
   have hpv : pvA rows (k + 1) = some (n, d) := by simp only [pvA, hrow]
   have HPV := Aside0.mk hpv
   obtain ⟨ma, mb⟩ := MAB.out
   have ma := mayB_iff.1 ma
   have mb := mayB_iff.1 mb
   have kl : (k : Int) < (rows.length : Int) := by omega
   clear hrow hpv wn
   by_cases hn : n < 1
   ·have hn1 : decide (n < 1) = true := decide_eq_true hn
    have MI := Aside0.mk (fun W => rmay_any 0 true rfl W)
    have MQ := MI
    have hd : none = res := by rw [← hd]; simp [okDue, show ¬ (1 ≤ n) by omega]
    subst hd
    clear wi wq hn
    go_wp2_with ((with_reducible refine gate_dst (N := 8) rfl ?_); refine copy_event rfl (N := 8) rfl rfl rfl (t := 47) (v := .tmp 18) rfl (cs := #[.int .i64 n, .int .i64 d, .int .i64 i, .int .i64 q]) (zs := #[.int .i64 0, .int .i64 0, .int .i64 0, .int .i64 0]) ?hr rfl rfl info_dueN ?hz (by simp [Value.oneCell']) ?_; (case hr => first | (go_simp; done) | (go_simp; rfl)); (case hz => rfl); intro gd hg wd hb1 hb; clear hg; have GD := Aside0.mk hb1; have HB := Aside0.mk (below_step HB.out hb); have c0 := (show wd.cell? ⟨gd, 0, none⟩ = some (.int .i64 n) from (blk_cell hb1 0).trans rfl); have c1 := (show wd.cell? ⟨gd, 1, none⟩ = some (.int .i64 d) from (blk_cell hb1 1).trans rfl); have c2 := (show wd.cell? ⟨gd, 2, none⟩ = some (.int .i64 i) from (blk_cell hb1 2).trans rfl); have c3 := (show wd.cell? ⟨gd, 3, none⟩ = some (.int .i64 q) from (blk_cell hb1 3).trans rfl); clear hb hb1)
    (try simp only [Act.put, List.setIfInBounds_toArray, List.set_cons_zero, List.set_cons_succ])
    go_quiet ((go_at_call 32; (first | (with_reducible refine (MI.out _).mono ?_) | (with_reducible refine (MQ.out _).mono ?_)); rintro e w' ⟨rfl, rfl⟩; exact ⟨rfl, _, rfl⟩))
    obtain ⟨wq, hwq⟩ : ∃ x, wd.drewN nq = x := ⟨_, rfl⟩
    have B0 : Below wd.heap.size wd wq := by rw [← hwq]; exact pw_below_drewN (Below.refl _ _) nq
    rw [hwq]
    have GD := Aside0.mk (Pd.blk_below GD.out B0)
    have HB := Aside0.mk (below_step HB.out B0)
    clear hwq B0 c0 c1 c2 c3
    go_wp2_with fail
    go_ret3
    exact ⟨rfl, HB.out⟩
   ·have hn1 : decide (n < 1) = false := decide_eq_false hn
    cases hI : mayB i with
    | false =>
     have MI := Aside0.mk (fun W => rmay_any i false hI W)
     have MQ := MI
     have hd : none = res := by rw [← hd]; simp [okDue, hI]
     subst hd
     clear hI wi wq hn
     go_wp2_with ((with_reducible refine gate_dst (N := 8) rfl ?_); refine copy_event rfl (N := 8) rfl rfl rfl (t := 47) (v := .tmp 18) rfl (cs := #[.int .i64 n, .int .i64 d, .int .i64 i, .int .i64 q]) (zs := #[.int .i64 0, .int .i64 0, .int .i64 0, .int .i64 0]) ?hr rfl rfl info_dueN ?hz (by simp [Value.oneCell']) ?_; (case hr => first | (go_simp; done) | (go_simp; rfl)); (case hz => rfl); intro gd hg wd hb1 hb; clear hg; have GD := Aside0.mk hb1; have HB := Aside0.mk (below_step HB.out hb); have c0 := (show wd.cell? ⟨gd, 0, none⟩ = some (.int .i64 n) from (blk_cell hb1 0).trans rfl); have c1 := (show wd.cell? ⟨gd, 1, none⟩ = some (.int .i64 d) from (blk_cell hb1 1).trans rfl); have c2 := (show wd.cell? ⟨gd, 2, none⟩ = some (.int .i64 i) from (blk_cell hb1 2).trans rfl); have c3 := (show wd.cell? ⟨gd, 3, none⟩ = some (.int .i64 q) from (blk_cell hb1 3).trans rfl); clear hb hb1)
     (try simp only [Act.put, List.setIfInBounds_toArray, List.set_cons_zero, List.set_cons_succ])
     go_quiet ((go_at_call 32; (first | (with_reducible refine (MI.out _).mono ?_) | (with_reducible refine (MQ.out _).mono ?_)); rintro e w' ⟨rfl, rfl⟩; exact ⟨rfl, _, rfl⟩))
     obtain ⟨wq, hwq⟩ : ∃ x, wd.drewN nq = x := ⟨_, rfl⟩
     have B0 : Below wd.heap.size wd wq := by rw [← hwq]; exact pw_below_drewN (Below.refl _ _) nq
     rw [hwq]
     have GD := Aside0.mk (Pd.blk_below GD.out B0)
     have HB := Aside0.mk (below_step HB.out B0)
     clear hwq B0 c0 c1 c2 c3
     go_wp2_with fail
     go_ret3
     exact ⟨rfl, HB.out⟩
    | true =>
     have MI := Aside0.mk (fun W => rmay_any i true hI W)
     have bi := mayB_iff.1 hI
     cases hQ : mayB q with
     | false =>
      have MQ := Aside0.mk (fun W => rmay_any q false hQ W)
      have hd : none = res := by rw [← hd]; simp [okDue, hQ]
      subst hd
      clear hI hQ wi wq hn bi
      go_wp2_with ((with_reducible refine gate_dst (N := 8) rfl ?_); refine copy_event rfl (N := 8) rfl rfl rfl (t := 47) (v := .tmp 18) rfl (cs := #[.int .i64 n, .int .i64 d, .int .i64 i, .int .i64 q]) (zs := #[.int .i64 0, .int .i64 0, .int .i64 0, .int .i64 0]) ?hr rfl rfl info_dueN ?hz (by simp [Value.oneCell']) ?_; (case hr => first | (go_simp; done) | (go_simp; rfl)); (case hz => rfl); intro gd hg wd hb1 hb; clear hg; have GD := Aside0.mk hb1; have HB := Aside0.mk (below_step HB.out hb); have c0 := (show wd.cell? ⟨gd, 0, none⟩ = some (.int .i64 n) from (blk_cell hb1 0).trans rfl); have c1 := (show wd.cell? ⟨gd, 1, none⟩ = some (.int .i64 d) from (blk_cell hb1 1).trans rfl); have c2 := (show wd.cell? ⟨gd, 2, none⟩ = some (.int .i64 i) from (blk_cell hb1 2).trans rfl); have c3 := (show wd.cell? ⟨gd, 3, none⟩ = some (.int .i64 q) from (blk_cell hb1 3).trans rfl); clear hb hb1)
      (try simp only [Act.put, List.setIfInBounds_toArray, List.set_cons_zero, List.set_cons_succ])
      go_quiet ((go_at_call 32; (first | (with_reducible refine (MI.out _).mono ?_) | (with_reducible refine (MQ.out _).mono ?_)); rintro e w' ⟨rfl, rfl⟩; exact ⟨rfl, _, rfl⟩))
      obtain ⟨wq, hwq⟩ : ∃ x, wd.drewN nq = x := ⟨_, rfl⟩
      have B0 : Below wd.heap.size wd wq := by rw [← hwq]; exact pw_below_drewN (Below.refl _ _) nq
      rw [hwq]
      have GD := Aside0.mk (Pd.blk_below GD.out B0)
      have HB := Aside0.mk (below_step HB.out B0)
      clear hwq B0 c0 c1 c2 c3
      go_wp2_with fail
      go_ret3
      exact ⟨rfl, HB.out⟩
     | true =>
      have MQ := Aside0.mk (fun W => rmay_any q true hQ W)
      have bq := mayB_iff.1 hQ
      by_cases hz : i + q = 0
      ·have hz1 : (i == 0) = true := by simp; omega
       have hz2 : (q == 0) = true := by simp; omega
       have hd : none = res := by rw [← hd]; simp [okDue, hz]
       subst hd
       clear hI hQ wi wq hn hz bi bq
       go_wp2_with ((with_reducible refine gate_dst (N := 8) rfl ?_); refine copy_event rfl (N := 8) rfl rfl rfl (t := 47) (v := .tmp 18) rfl (cs := #[.int .i64 n, .int .i64 d, .int .i64 i, .int .i64 q]) (zs := #[.int .i64 0, .int .i64 0, .int .i64 0, .int .i64 0]) ?hr rfl rfl info_dueN ?hz (by simp [Value.oneCell']) ?_; (case hr => first | (go_simp; done) | (go_simp; rfl)); (case hz => rfl); intro gd hg wd hb1 hb; clear hg; have GD := Aside0.mk hb1; have HB := Aside0.mk (below_step HB.out hb); have c0 := (show wd.cell? ⟨gd, 0, none⟩ = some (.int .i64 n) from (blk_cell hb1 0).trans rfl); have c1 := (show wd.cell? ⟨gd, 1, none⟩ = some (.int .i64 d) from (blk_cell hb1 1).trans rfl); have c2 := (show wd.cell? ⟨gd, 2, none⟩ = some (.int .i64 i) from (blk_cell hb1 2).trans rfl); have c3 := (show wd.cell? ⟨gd, 3, none⟩ = some (.int .i64 q) from (blk_cell hb1 3).trans rfl); clear hb hb1)
       (try simp only [Act.put, List.setIfInBounds_toArray, List.set_cons_zero, List.set_cons_succ])
       go_quiet ((go_at_call 32; (first | (with_reducible refine (MI.out _).mono ?_) | (with_reducible refine (MQ.out _).mono ?_)); rintro e w' ⟨rfl, rfl⟩; exact ⟨rfl, _, rfl⟩))
       obtain ⟨wq, hwq⟩ : ∃ x, wd.drewN nq = x := ⟨_, rfl⟩
       have B0 : Below wd.heap.size wd wq := by rw [← hwq]; exact pw_below_drewN (Below.refl _ _) nq
       rw [hwq]
       have GD := Aside0.mk (Pd.blk_below GD.out B0)
       have HB := Aside0.mk (below_step HB.out B0)
       clear hwq B0 c0 c1 c2 c3
       go_wp2_with fail
       go_ret3
       exact ⟨rfl, HB.out⟩
      ·have hz0 : (i + q == 0) = false := by simp [hz]
       clear hI hQ wi wq
       obtain ⟨z1, z2, hz1, hz2, hz3⟩ : ∃ z1 z2, (i == 0) = z1 ∧ (q == 0) = z2 ∧ (z1 && z2) = false := ⟨_, _, rfl, rfl, by cases h1 : (i == 0) with | false => rfl | true => cases h2 : (q == 0) with | false => rfl | true => exfalso; simp at h1 h2; omega⟩
       rcases (show k = 0 ∨ ∃ j, k = j + 1 by cases k with | zero => exact .inl rfl | succ j => exact .inr ⟨j, rfl⟩) with hk0 | ⟨j, hkj⟩
       ·have hj0 : decide ((0 : Int) < (k : Int)) = false := decide_eq_false (by omega)
        have hj0' : decide (0 < k) = false := decide_eq_false (by omega)
        have hok : okDue (pvA rows k) n d i q = true := by rw [hk0]; simp [okDue, pvA, behind, mayB_iff.2 bi, mayB_iff.2 bq, hz0]; omega
        clear hk0 hn hz hz0
        rcases zz_or hz3 with rfl | ⟨rfl, rfl⟩
        ·clear hz3
         go_wp2_with ((with_reducible refine gate_dst (N := 8) rfl ?_); refine copy_event rfl (N := 8) rfl rfl rfl (t := 47) (v := .tmp 18) rfl (cs := #[.int .i64 n, .int .i64 d, .int .i64 i, .int .i64 q]) (zs := #[.int .i64 0, .int .i64 0, .int .i64 0, .int .i64 0]) ?hr rfl rfl info_dueN ?hz (by simp [Value.oneCell']) ?_; (case hr => first | (go_simp; done) | (go_simp; rfl)); (case hz => rfl); intro gd hg wd hb1 hb; clear hg; have GD := Aside0.mk hb1; have HB := Aside0.mk (below_step HB.out hb); have c0 := (show wd.cell? ⟨gd, 0, none⟩ = some (.int .i64 n) from (blk_cell hb1 0).trans rfl); have c1 := (show wd.cell? ⟨gd, 1, none⟩ = some (.int .i64 d) from (blk_cell hb1 1).trans rfl); have c2 := (show wd.cell? ⟨gd, 2, none⟩ = some (.int .i64 i) from (blk_cell hb1 2).trans rfl); have c3 := (show wd.cell? ⟨gd, 3, none⟩ = some (.int .i64 q) from (blk_cell hb1 3).trans rfl); clear hb hb1)
         (try simp only [Act.put, List.setIfInBounds_toArray, List.set_cons_zero, List.set_cons_succ])
         go_quiet ((go_at_call 32; (first | (with_reducible refine (MI.out _).mono ?_) | (with_reducible refine (MQ.out _).mono ?_)); rintro e w' ⟨rfl, rfl⟩; exact ⟨rfl, _, rfl⟩))
         obtain ⟨wq, hwq⟩ : ∃ x, wd.drewN nq = x := ⟨_, rfl⟩
         have B0 : Below wd.heap.size wd wq := by rw [← hwq]; exact pw_below_drewN (Below.refl _ _) nq
         rw [hwq]
         have GD := Aside0.mk (Pd.blk_below GD.out B0)
         have HB := Aside0.mk (below_step HB.out B0)
         clear hwq B0 c0 c1 c2 c3
         clear hj0 hj0' hn1 hz1 hz2 p0 p1 p2 p3
         have c2 := (show wq.cell? ⟨gd, 2, none⟩ = some (.int .i64 i) from (blk_cell GD.out 2).trans rfl)
         have c3 := (show wq.cell? ⟨gd, 3, none⟩ = some (.int .i64 q) from (blk_cell GD.out 3).trans rfl)
         obtain ⟨a2, ha2⟩ : ∃ x, a + i = x := ⟨_, rfl⟩
         obtain ⟨b2, hb2⟩ : ∃ x, b + q = x := ⟨_, rfl⟩
         have wa : IntKind.i64.wrap (a + i) = a2 := by rw [ha2]; exact IntWalk.i64_in _ (by omega)
         have wb : IntKind.i64.wrap (b + q) = b2 := by rw [hb2]; exact IntWalk.i64_in _ (by omega)
         rw [hok, Bool.true_and, ha2, hb2] at hd
         clear ha2 hb2 bi bq ma mb hok
         have MZ := Aside0.mk (Below.refl wq.heap.size wq)
         go_wp2_with fail
         go_quiet (fail)
         cases hA : mayB a2 with
         | false =>
          have hd : none = res := by rw [← hd]; simp [hA]
          subst hd
          have MI := Aside0.mk (fun W => rmay_any a2 false hA W)
          have MQ := MI
          clear hA
          go_wp2_with (go_at_call 32; (first | (with_reducible refine (MI.out _).mono ?_) | (with_reducible refine (MQ.out _).mono ?_)); rintro e w' ⟨rfl, rfl⟩)
          go_ret3
          exact ⟨rfl, (by first | exact HB.out | exact Below.drew HB.out | exact pw_below_drewN HB.out _)⟩
         | true =>
          have MI := Aside0.mk (fun W => rmay_any a2 true hA W)
          cases hB : mayB b2 with
          | false =>
           have hd : none = res := by rw [← hd]; simp [hB]
           subst hd
           have MQ := Aside0.mk (fun W => rmay_any b2 false hB W)
           clear hA hB
           go_wp2_with (go_at_call 32; (first | (with_reducible refine (MI.out _).mono ?_) | (with_reducible refine (MQ.out _).mono ?_)); rintro e w' ⟨rfl, rfl⟩)
           go_ret3
           exact ⟨rfl, (by first | exact HB.out | exact Below.drew HB.out | exact pw_below_drewN HB.out _)⟩
          | true =>
           have hd : dsum (some (n, d)) (rows.drop (k + 1)) a2 b2 = res := by rw [← hd]; simp [hA, hB]
           have hd := Aside0.mk hd
           have MAB2 := Aside0.mk (And.intro hA hB)
           have MQ := Aside0.mk (fun W => rmay_any b2 true hB W)
           clear hA hB
           go_wp2_with (go_at_call 32; (first | (with_reducible refine (MI.out _).mono ?_) | (with_reducible refine (MQ.out _).mono ?_)); rintro e w' ⟨rfl, rfl⟩)
           go_roundg (rows.length + 1 - (k + 1))
           case measure => have := hgq.out; omega
           case rel => exact ⟨k + 1, a2, b2, by omega, by simp, rfl, rfl, ⟨rfl⟩, ⟨by rw [HPV.out]; exact hd.out⟩, ⟨MAB2.out⟩, ⟨(by first | exact HB.out | exact Below.drew HB.out | exact pw_below_drewN HB.out _)⟩⟩
        ·clear hz3
         go_wp2_with ((with_reducible refine gate_dst (N := 8) rfl ?_); refine copy_event rfl (N := 8) rfl rfl rfl (t := 47) (v := .tmp 18) rfl (cs := #[.int .i64 n, .int .i64 d, .int .i64 i, .int .i64 q]) (zs := #[.int .i64 0, .int .i64 0, .int .i64 0, .int .i64 0]) ?hr rfl rfl info_dueN ?hz (by simp [Value.oneCell']) ?_; (case hr => first | (go_simp; done) | (go_simp; rfl)); (case hz => rfl); intro gd hg wd hb1 hb; clear hg; have GD := Aside0.mk hb1; have HB := Aside0.mk (below_step HB.out hb); have c0 := (show wd.cell? ⟨gd, 0, none⟩ = some (.int .i64 n) from (blk_cell hb1 0).trans rfl); have c1 := (show wd.cell? ⟨gd, 1, none⟩ = some (.int .i64 d) from (blk_cell hb1 1).trans rfl); have c2 := (show wd.cell? ⟨gd, 2, none⟩ = some (.int .i64 i) from (blk_cell hb1 2).trans rfl); have c3 := (show wd.cell? ⟨gd, 3, none⟩ = some (.int .i64 q) from (blk_cell hb1 3).trans rfl); clear hb hb1)
         (try simp only [Act.put, List.setIfInBounds_toArray, List.set_cons_zero, List.set_cons_succ])
         go_quiet ((go_at_call 32; (first | (with_reducible refine (MI.out _).mono ?_) | (with_reducible refine (MQ.out _).mono ?_)); rintro e w' ⟨rfl, rfl⟩; exact ⟨rfl, _, rfl⟩))
         obtain ⟨wq, hwq⟩ : ∃ x, wd.drewN nq = x := ⟨_, rfl⟩
         have B0 : Below wd.heap.size wd wq := by rw [← hwq]; exact pw_below_drewN (Below.refl _ _) nq
         rw [hwq]
         have GD := Aside0.mk (Pd.blk_below GD.out B0)
         have HB := Aside0.mk (below_step HB.out B0)
         clear hwq B0 c0 c1 c2 c3
         clear hj0 hj0' hn1 hz1 hz2 p0 p1 p2 p3
         have c2 := (show wq.cell? ⟨gd, 2, none⟩ = some (.int .i64 i) from (blk_cell GD.out 2).trans rfl)
         have c3 := (show wq.cell? ⟨gd, 3, none⟩ = some (.int .i64 q) from (blk_cell GD.out 3).trans rfl)
         obtain ⟨a2, ha2⟩ : ∃ x, a + i = x := ⟨_, rfl⟩
         obtain ⟨b2, hb2⟩ : ∃ x, b + q = x := ⟨_, rfl⟩
         have wa : IntKind.i64.wrap (a + i) = a2 := by rw [ha2]; exact IntWalk.i64_in _ (by omega)
         have wb : IntKind.i64.wrap (b + q) = b2 := by rw [hb2]; exact IntWalk.i64_in _ (by omega)
         rw [hok, Bool.true_and, ha2, hb2] at hd
         clear ha2 hb2 bi bq ma mb hok
         have MZ := Aside0.mk (Below.refl wq.heap.size wq)
         go_wp2_with fail
         go_quiet (fail)
         cases hA : mayB a2 with
         | false =>
          have hd : none = res := by rw [← hd]; simp [hA]
          subst hd
          have MI := Aside0.mk (fun W => rmay_any a2 false hA W)
          have MQ := MI
          clear hA
          go_wp2_with (go_at_call 32; (first | (with_reducible refine (MI.out _).mono ?_) | (with_reducible refine (MQ.out _).mono ?_)); rintro e w' ⟨rfl, rfl⟩)
          go_ret3
          exact ⟨rfl, (by first | exact HB.out | exact Below.drew HB.out | exact pw_below_drewN HB.out _)⟩
         | true =>
          have MI := Aside0.mk (fun W => rmay_any a2 true hA W)
          cases hB : mayB b2 with
          | false =>
           have hd : none = res := by rw [← hd]; simp [hB]
           subst hd
           have MQ := Aside0.mk (fun W => rmay_any b2 false hB W)
           clear hA hB
           go_wp2_with (go_at_call 32; (first | (with_reducible refine (MI.out _).mono ?_) | (with_reducible refine (MQ.out _).mono ?_)); rintro e w' ⟨rfl, rfl⟩)
           go_ret3
           exact ⟨rfl, (by first | exact HB.out | exact Below.drew HB.out | exact pw_below_drewN HB.out _)⟩
          | true =>
           have hd : dsum (some (n, d)) (rows.drop (k + 1)) a2 b2 = res := by rw [← hd]; simp [hA, hB]
           have hd := Aside0.mk hd
           have MAB2 := Aside0.mk (And.intro hA hB)
           have MQ := Aside0.mk (fun W => rmay_any b2 true hB W)
           clear hA hB
           go_wp2_with (go_at_call 32; (first | (with_reducible refine (MI.out _).mono ?_) | (with_reducible refine (MQ.out _).mono ?_)); rintro e w' ⟨rfl, rfl⟩)
           go_roundg (rows.length + 1 - (k + 1))
           case measure => have := hgq.out; omega
           case rel => exact ⟨k + 1, a2, b2, by omega, by simp, rfl, rfl, ⟨rfl⟩, ⟨by rw [HPV.out]; exact hd.out⟩, ⟨MAB2.out⟩, ⟨(by first | exact HB.out | exact Below.drew HB.out | exact pw_below_drewN HB.out _)⟩⟩
       ·obtain ⟨ad', pn, pd, pi, pq, e', hrow', r0, r1, -⟩ := four_at (HR.out.below HB.out) j (by omega)
        obtain rfl := Option.some.inj e'
        have hj1 : decide ((0 : Int) < (k : Int)) = true := decide_eq_true (by omega)
        have hj1' : decide (0 < k) = true := decide_eq_true (by omega)
        have hjs : IntKind.i64.wrap ((k : Int) - 1) = (j : Int) := by rw [IntWalk.i64_in _ (by omega)]; omega
        have hjl : (j : Int) < (rows.length : Int) := by omega
        have hpj : pvA rows k = some (pn, pd) := by rw [hkj]; simp only [pvA, hrow']
        by_cases h1 : n ≤ pn
        ·have o1 : decide (n ≤ pn) = true := decide_eq_true h1
         have hd : none = res := by rw [← hd, hpj]; simp [okDue, behind, show ¬ (pn < n) by omega]
         subst hd
         clear hkj hpj hrow' bi bq ma mb hn h1 hz hz0
         rcases zz_or hz3 with rfl | ⟨rfl, rfl⟩
         ·clear hz3
          go_wp2_with ((with_reducible refine gate_dst (N := 8) rfl ?_); refine copy_event rfl (N := 8) rfl rfl rfl (t := 47) (v := .tmp 18) rfl (cs := #[.int .i64 n, .int .i64 d, .int .i64 i, .int .i64 q]) (zs := #[.int .i64 0, .int .i64 0, .int .i64 0, .int .i64 0]) ?hr rfl rfl info_dueN ?hz (by simp [Value.oneCell']) ?_; (case hr => first | (go_simp; done) | (go_simp; rfl)); (case hz => rfl); intro gd hg wd hb1 hb; clear hg; have GD := Aside0.mk hb1; have HB := Aside0.mk (below_step HB.out hb); have c0 := (show wd.cell? ⟨gd, 0, none⟩ = some (.int .i64 n) from (blk_cell hb1 0).trans rfl); have c1 := (show wd.cell? ⟨gd, 1, none⟩ = some (.int .i64 d) from (blk_cell hb1 1).trans rfl); have c2 := (show wd.cell? ⟨gd, 2, none⟩ = some (.int .i64 i) from (blk_cell hb1 2).trans rfl); have c3 := (show wd.cell? ⟨gd, 3, none⟩ = some (.int .i64 q) from (blk_cell hb1 3).trans rfl); have r0 := cell_laterN hb r0; have r1 := cell_laterN hb r1; clear hb hb1)
          (try simp only [Act.put, List.setIfInBounds_toArray, List.set_cons_zero, List.set_cons_succ])
          go_quiet ((go_at_call 32; (first | (with_reducible refine (MI.out _).mono ?_) | (with_reducible refine (MQ.out _).mono ?_)); rintro e w' ⟨rfl, rfl⟩; exact ⟨rfl, _, rfl⟩))
          obtain ⟨wq, hwq⟩ : ∃ x, wd.drewN nq = x := ⟨_, rfl⟩
          have B0 : Below wd.heap.size wd wq := by rw [← hwq]; exact pw_below_drewN (Below.refl _ _) nq
          rw [hwq]
          have GD := Aside0.mk (Pd.blk_below GD.out B0)
          have HB := Aside0.mk (below_step HB.out B0)
          clear hwq B0 c0 c1 c2 c3
          go_wp2_with fail
          go_ret3
          exact ⟨rfl, HB.out⟩
         ·clear hz3
          go_wp2_with ((with_reducible refine gate_dst (N := 8) rfl ?_); refine copy_event rfl (N := 8) rfl rfl rfl (t := 47) (v := .tmp 18) rfl (cs := #[.int .i64 n, .int .i64 d, .int .i64 i, .int .i64 q]) (zs := #[.int .i64 0, .int .i64 0, .int .i64 0, .int .i64 0]) ?hr rfl rfl info_dueN ?hz (by simp [Value.oneCell']) ?_; (case hr => first | (go_simp; done) | (go_simp; rfl)); (case hz => rfl); intro gd hg wd hb1 hb; clear hg; have GD := Aside0.mk hb1; have HB := Aside0.mk (below_step HB.out hb); have c0 := (show wd.cell? ⟨gd, 0, none⟩ = some (.int .i64 n) from (blk_cell hb1 0).trans rfl); have c1 := (show wd.cell? ⟨gd, 1, none⟩ = some (.int .i64 d) from (blk_cell hb1 1).trans rfl); have c2 := (show wd.cell? ⟨gd, 2, none⟩ = some (.int .i64 i) from (blk_cell hb1 2).trans rfl); have c3 := (show wd.cell? ⟨gd, 3, none⟩ = some (.int .i64 q) from (blk_cell hb1 3).trans rfl); have r0 := cell_laterN hb r0; have r1 := cell_laterN hb r1; clear hb hb1)
          (try simp only [Act.put, List.setIfInBounds_toArray, List.set_cons_zero, List.set_cons_succ])
          go_quiet ((go_at_call 32; (first | (with_reducible refine (MI.out _).mono ?_) | (with_reducible refine (MQ.out _).mono ?_)); rintro e w' ⟨rfl, rfl⟩; exact ⟨rfl, _, rfl⟩))
          obtain ⟨wq, hwq⟩ : ∃ x, wd.drewN nq = x := ⟨_, rfl⟩
          have B0 : Below wd.heap.size wd wq := by rw [← hwq]; exact pw_below_drewN (Below.refl _ _) nq
          rw [hwq]
          have GD := Aside0.mk (Pd.blk_below GD.out B0)
          have HB := Aside0.mk (below_step HB.out B0)
          clear hwq B0 c0 c1 c2 c3
          go_wp2_with fail
          go_ret3
          exact ⟨rfl, HB.out⟩
        ·have o1 : decide (n ≤ pn) = false := decide_eq_false h1
         by_cases h2 : d ≤ pd
         ·have o2 : decide (d ≤ pd) = true := decide_eq_true h2
          have hd : none = res := by rw [← hd, hpj]; simp [okDue, behind, show ¬ (pd < d) by omega]
          subst hd
          clear hkj hpj hrow' bi bq ma mb hn h1 h2 hz hz0
          rcases zz_or hz3 with rfl | ⟨rfl, rfl⟩
          ·clear hz3
           go_wp2_with ((with_reducible refine gate_dst (N := 8) rfl ?_); refine copy_event rfl (N := 8) rfl rfl rfl (t := 47) (v := .tmp 18) rfl (cs := #[.int .i64 n, .int .i64 d, .int .i64 i, .int .i64 q]) (zs := #[.int .i64 0, .int .i64 0, .int .i64 0, .int .i64 0]) ?hr rfl rfl info_dueN ?hz (by simp [Value.oneCell']) ?_; (case hr => first | (go_simp; done) | (go_simp; rfl)); (case hz => rfl); intro gd hg wd hb1 hb; clear hg; have GD := Aside0.mk hb1; have HB := Aside0.mk (below_step HB.out hb); have c0 := (show wd.cell? ⟨gd, 0, none⟩ = some (.int .i64 n) from (blk_cell hb1 0).trans rfl); have c1 := (show wd.cell? ⟨gd, 1, none⟩ = some (.int .i64 d) from (blk_cell hb1 1).trans rfl); have c2 := (show wd.cell? ⟨gd, 2, none⟩ = some (.int .i64 i) from (blk_cell hb1 2).trans rfl); have c3 := (show wd.cell? ⟨gd, 3, none⟩ = some (.int .i64 q) from (blk_cell hb1 3).trans rfl); have r0 := cell_laterN hb r0; have r1 := cell_laterN hb r1; clear hb hb1)
           (try simp only [Act.put, List.setIfInBounds_toArray, List.set_cons_zero, List.set_cons_succ])
           go_quiet ((go_at_call 32; (first | (with_reducible refine (MI.out _).mono ?_) | (with_reducible refine (MQ.out _).mono ?_)); rintro e w' ⟨rfl, rfl⟩; exact ⟨rfl, _, rfl⟩))
           obtain ⟨wq, hwq⟩ : ∃ x, wd.drewN nq = x := ⟨_, rfl⟩
           have B0 : Below wd.heap.size wd wq := by rw [← hwq]; exact pw_below_drewN (Below.refl _ _) nq
           rw [hwq]
           have GD := Aside0.mk (Pd.blk_below GD.out B0)
           have HB := Aside0.mk (below_step HB.out B0)
           clear hwq B0 c0 c1 c2 c3
           go_wp2_with fail
           go_ret3
           exact ⟨rfl, HB.out⟩
          ·clear hz3
           go_wp2_with ((with_reducible refine gate_dst (N := 8) rfl ?_); refine copy_event rfl (N := 8) rfl rfl rfl (t := 47) (v := .tmp 18) rfl (cs := #[.int .i64 n, .int .i64 d, .int .i64 i, .int .i64 q]) (zs := #[.int .i64 0, .int .i64 0, .int .i64 0, .int .i64 0]) ?hr rfl rfl info_dueN ?hz (by simp [Value.oneCell']) ?_; (case hr => first | (go_simp; done) | (go_simp; rfl)); (case hz => rfl); intro gd hg wd hb1 hb; clear hg; have GD := Aside0.mk hb1; have HB := Aside0.mk (below_step HB.out hb); have c0 := (show wd.cell? ⟨gd, 0, none⟩ = some (.int .i64 n) from (blk_cell hb1 0).trans rfl); have c1 := (show wd.cell? ⟨gd, 1, none⟩ = some (.int .i64 d) from (blk_cell hb1 1).trans rfl); have c2 := (show wd.cell? ⟨gd, 2, none⟩ = some (.int .i64 i) from (blk_cell hb1 2).trans rfl); have c3 := (show wd.cell? ⟨gd, 3, none⟩ = some (.int .i64 q) from (blk_cell hb1 3).trans rfl); have r0 := cell_laterN hb r0; have r1 := cell_laterN hb r1; clear hb hb1)
           (try simp only [Act.put, List.setIfInBounds_toArray, List.set_cons_zero, List.set_cons_succ])
           go_quiet ((go_at_call 32; (first | (with_reducible refine (MI.out _).mono ?_) | (with_reducible refine (MQ.out _).mono ?_)); rintro e w' ⟨rfl, rfl⟩; exact ⟨rfl, _, rfl⟩))
           obtain ⟨wq, hwq⟩ : ∃ x, wd.drewN nq = x := ⟨_, rfl⟩
           have B0 : Below wd.heap.size wd wq := by rw [← hwq]; exact pw_below_drewN (Below.refl _ _) nq
           rw [hwq]
           have GD := Aside0.mk (Pd.blk_below GD.out B0)
           have HB := Aside0.mk (below_step HB.out B0)
           clear hwq B0 c0 c1 c2 c3
           go_wp2_with fail
           go_ret3
           exact ⟨rfl, HB.out⟩
         ·have o2 : decide (d ≤ pd) = false := decide_eq_false h2
          have hok : okDue (pvA rows k) n d i q = true := by rw [hpj]; simp [okDue, behind, mayB_iff.2 bi, mayB_iff.2 bq, hz0]; omega
          clear hkj hpj hrow' h1 h2 hn hz hz0
          rcases zz_or hz3 with rfl | ⟨rfl, rfl⟩
          ·clear hz3
           go_wp2_with ((with_reducible refine gate_dst (N := 8) rfl ?_); refine copy_event rfl (N := 8) rfl rfl rfl (t := 47) (v := .tmp 18) rfl (cs := #[.int .i64 n, .int .i64 d, .int .i64 i, .int .i64 q]) (zs := #[.int .i64 0, .int .i64 0, .int .i64 0, .int .i64 0]) ?hr rfl rfl info_dueN ?hz (by simp [Value.oneCell']) ?_; (case hr => first | (go_simp; done) | (go_simp; rfl)); (case hz => rfl); intro gd hg wd hb1 hb; clear hg; have GD := Aside0.mk hb1; have HB := Aside0.mk (below_step HB.out hb); have c0 := (show wd.cell? ⟨gd, 0, none⟩ = some (.int .i64 n) from (blk_cell hb1 0).trans rfl); have c1 := (show wd.cell? ⟨gd, 1, none⟩ = some (.int .i64 d) from (blk_cell hb1 1).trans rfl); have c2 := (show wd.cell? ⟨gd, 2, none⟩ = some (.int .i64 i) from (blk_cell hb1 2).trans rfl); have c3 := (show wd.cell? ⟨gd, 3, none⟩ = some (.int .i64 q) from (blk_cell hb1 3).trans rfl); have r0 := cell_laterN hb r0; have r1 := cell_laterN hb r1; clear hb hb1)
           (try simp only [Act.put, List.setIfInBounds_toArray, List.set_cons_zero, List.set_cons_succ])
           go_quiet ((go_at_call 32; (first | (with_reducible refine (MI.out _).mono ?_) | (with_reducible refine (MQ.out _).mono ?_)); rintro e w' ⟨rfl, rfl⟩; exact ⟨rfl, _, rfl⟩))
           obtain ⟨wq, hwq⟩ : ∃ x, wd.drewN nq = x := ⟨_, rfl⟩
           have B0 : Below wd.heap.size wd wq := by rw [← hwq]; exact pw_below_drewN (Below.refl _ _) nq
           rw [hwq]
           have GD := Aside0.mk (Pd.blk_below GD.out B0)
           have HB := Aside0.mk (below_step HB.out B0)
           clear hwq B0 c0 c1 c2 c3
           clear hj1 hj1' hjs hjl hz1 hz2 hn1 p0 p1 p2 p3 o1 o2 r0 r1
           have c2 := (show wq.cell? ⟨gd, 2, none⟩ = some (.int .i64 i) from (blk_cell GD.out 2).trans rfl)
           have c3 := (show wq.cell? ⟨gd, 3, none⟩ = some (.int .i64 q) from (blk_cell GD.out 3).trans rfl)
           obtain ⟨a2, ha2⟩ : ∃ x, a + i = x := ⟨_, rfl⟩
           obtain ⟨b2, hb2⟩ : ∃ x, b + q = x := ⟨_, rfl⟩
           have wa : IntKind.i64.wrap (a + i) = a2 := by rw [ha2]; exact IntWalk.i64_in _ (by omega)
           have wb : IntKind.i64.wrap (b + q) = b2 := by rw [hb2]; exact IntWalk.i64_in _ (by omega)
           rw [hok, Bool.true_and, ha2, hb2] at hd
           clear ha2 hb2 bi bq ma mb hok
           have MZ := Aside0.mk (Below.refl wq.heap.size wq)
           go_wp2_with fail
           go_quiet (fail)
           cases hA : mayB a2 with
           | false =>
            have hd : none = res := by rw [← hd]; simp [hA]
            subst hd
            have MI := Aside0.mk (fun W => rmay_any a2 false hA W)
            have MQ := MI
            clear hA
            go_wp2_with (go_at_call 32; (first | (with_reducible refine (MI.out _).mono ?_) | (with_reducible refine (MQ.out _).mono ?_)); rintro e w' ⟨rfl, rfl⟩)
            go_ret3
            exact ⟨rfl, (by first | exact HB.out | exact Below.drew HB.out | exact pw_below_drewN HB.out _)⟩
           | true =>
            have MI := Aside0.mk (fun W => rmay_any a2 true hA W)
            cases hB : mayB b2 with
            | false =>
             have hd : none = res := by rw [← hd]; simp [hB]
             subst hd
             have MQ := Aside0.mk (fun W => rmay_any b2 false hB W)
             clear hA hB
             go_wp2_with (go_at_call 32; (first | (with_reducible refine (MI.out _).mono ?_) | (with_reducible refine (MQ.out _).mono ?_)); rintro e w' ⟨rfl, rfl⟩)
             go_ret3
             exact ⟨rfl, (by first | exact HB.out | exact Below.drew HB.out | exact pw_below_drewN HB.out _)⟩
            | true =>
             have hd : dsum (some (n, d)) (rows.drop (k + 1)) a2 b2 = res := by rw [← hd]; simp [hA, hB]
             have hd := Aside0.mk hd
             have MAB2 := Aside0.mk (And.intro hA hB)
             have MQ := Aside0.mk (fun W => rmay_any b2 true hB W)
             clear hA hB
             go_wp2_with (go_at_call 32; (first | (with_reducible refine (MI.out _).mono ?_) | (with_reducible refine (MQ.out _).mono ?_)); rintro e w' ⟨rfl, rfl⟩)
             go_roundg (rows.length + 1 - (k + 1))
             case measure => have := hgq.out; omega
             case rel => exact ⟨k + 1, a2, b2, by omega, by simp, rfl, rfl, ⟨rfl⟩, ⟨by rw [HPV.out]; exact hd.out⟩, ⟨MAB2.out⟩, ⟨(by first | exact HB.out | exact Below.drew HB.out | exact pw_below_drewN HB.out _)⟩⟩
          ·clear hz3
           go_wp2_with ((with_reducible refine gate_dst (N := 8) rfl ?_); refine copy_event rfl (N := 8) rfl rfl rfl (t := 47) (v := .tmp 18) rfl (cs := #[.int .i64 n, .int .i64 d, .int .i64 i, .int .i64 q]) (zs := #[.int .i64 0, .int .i64 0, .int .i64 0, .int .i64 0]) ?hr rfl rfl info_dueN ?hz (by simp [Value.oneCell']) ?_; (case hr => first | (go_simp; done) | (go_simp; rfl)); (case hz => rfl); intro gd hg wd hb1 hb; clear hg; have GD := Aside0.mk hb1; have HB := Aside0.mk (below_step HB.out hb); have c0 := (show wd.cell? ⟨gd, 0, none⟩ = some (.int .i64 n) from (blk_cell hb1 0).trans rfl); have c1 := (show wd.cell? ⟨gd, 1, none⟩ = some (.int .i64 d) from (blk_cell hb1 1).trans rfl); have c2 := (show wd.cell? ⟨gd, 2, none⟩ = some (.int .i64 i) from (blk_cell hb1 2).trans rfl); have c3 := (show wd.cell? ⟨gd, 3, none⟩ = some (.int .i64 q) from (blk_cell hb1 3).trans rfl); have r0 := cell_laterN hb r0; have r1 := cell_laterN hb r1; clear hb hb1)
           (try simp only [Act.put, List.setIfInBounds_toArray, List.set_cons_zero, List.set_cons_succ])
           go_quiet ((go_at_call 32; (first | (with_reducible refine (MI.out _).mono ?_) | (with_reducible refine (MQ.out _).mono ?_)); rintro e w' ⟨rfl, rfl⟩; exact ⟨rfl, _, rfl⟩))
           obtain ⟨wq, hwq⟩ : ∃ x, wd.drewN nq = x := ⟨_, rfl⟩
           have B0 : Below wd.heap.size wd wq := by rw [← hwq]; exact pw_below_drewN (Below.refl _ _) nq
           rw [hwq]
           have GD := Aside0.mk (Pd.blk_below GD.out B0)
           have HB := Aside0.mk (below_step HB.out B0)
           clear hwq B0 c0 c1 c2 c3
           clear hj1 hj1' hjs hjl hz1 hz2 hn1 p0 p1 p2 p3 o1 o2 r0 r1
           have c2 := (show wq.cell? ⟨gd, 2, none⟩ = some (.int .i64 i) from (blk_cell GD.out 2).trans rfl)
           have c3 := (show wq.cell? ⟨gd, 3, none⟩ = some (.int .i64 q) from (blk_cell GD.out 3).trans rfl)
           obtain ⟨a2, ha2⟩ : ∃ x, a + i = x := ⟨_, rfl⟩
           obtain ⟨b2, hb2⟩ : ∃ x, b + q = x := ⟨_, rfl⟩
           have wa : IntKind.i64.wrap (a + i) = a2 := by rw [ha2]; exact IntWalk.i64_in _ (by omega)
           have wb : IntKind.i64.wrap (b + q) = b2 := by rw [hb2]; exact IntWalk.i64_in _ (by omega)
           rw [hok, Bool.true_and, ha2, hb2] at hd
           clear ha2 hb2 bi bq ma mb hok
           have MZ := Aside0.mk (Below.refl wq.heap.size wq)
           go_wp2_with fail
           go_quiet (fail)
           cases hA : mayB a2 with
           | false =>
            have hd : none = res := by rw [← hd]; simp [hA]
            subst hd
            have MI := Aside0.mk (fun W => rmay_any a2 false hA W)
            have MQ := MI
            clear hA
            go_wp2_with (go_at_call 32; (first | (with_reducible refine (MI.out _).mono ?_) | (with_reducible refine (MQ.out _).mono ?_)); rintro e w' ⟨rfl, rfl⟩)
            go_ret3
            exact ⟨rfl, (by first | exact HB.out | exact Below.drew HB.out | exact pw_below_drewN HB.out _)⟩
           | true =>
            have MI := Aside0.mk (fun W => rmay_any a2 true hA W)
            cases hB : mayB b2 with
            | false =>
             have hd : none = res := by rw [← hd]; simp [hB]
             subst hd
             have MQ := Aside0.mk (fun W => rmay_any b2 false hB W)
             clear hA hB
             go_wp2_with (go_at_call 32; (first | (with_reducible refine (MI.out _).mono ?_) | (with_reducible refine (MQ.out _).mono ?_)); rintro e w' ⟨rfl, rfl⟩)
             go_ret3
             exact ⟨rfl, (by first | exact HB.out | exact Below.drew HB.out | exact pw_below_drewN HB.out _)⟩
            | true =>
             have hd : dsum (some (n, d)) (rows.drop (k + 1)) a2 b2 = res := by rw [← hd]; simp [hA, hB]
             have hd := Aside0.mk hd
             have MAB2 := Aside0.mk (And.intro hA hB)
             have MQ := Aside0.mk (fun W => rmay_any b2 true hB W)
             clear hA hB
             go_wp2_with (go_at_call 32; (first | (with_reducible refine (MI.out _).mono ?_) | (with_reducible refine (MQ.out _).mono ?_)); rintro e w' ⟨rfl, rfl⟩)
             go_roundg (rows.length + 1 - (k + 1))
             case measure => have := hgq.out; omega
             case rel => exact ⟨k + 1, a2, b2, by omega, by simp, rfl, rfl, ⟨rfl⟩, ⟨by rw [HPV.out]; exact hd.out⟩, ⟨MAB2.out⟩, ⟨(by first | exact HB.out | exact Below.drew HB.out | exact pw_below_drewN HB.out _)⟩⟩
  ·obtain rfl : k = rows.length := by omega
   have hd : some (a, b) = res := by have := HD.out; rw [List.drop_of_length_le (Nat.le_refl _)] at this; exact this
   subst hd
   go_wp2_with fail
   go_ret3
   exact ⟨rfl, HB.out⟩
end Go.Proofs.Ytbbbjjfecblhpaa.Nt
/- Contracts by hand: the document's Right. -/
namespace Go.Proofs.Ytbbbjjfecblhpaa.Nt
open Go.RowKit Go.Proofs.YtbbbjjfecblhpaaW.PrintWords Go.Proofs.YtbbbjjfecblhpaaW.PrintLast Go.Proofs.YtbbbjjfecblhpaaW.PrintMore Go.Proofs.Ytbbbjjfecblhpaa.HW
open Go.Proofs.Ytbbbjjfecblhpaa.Math Go.Proofs.Ytbbbjjfecblhpaa.H Go.Proofs.Ytbbbjjfecblhpaa.Pd Go.Proofs.Ytbbbjjfecblhpaa.Du Go.Proofs.Ytbbbjjfecblhpaa.Lv Pm
set_option linter.unusedVariables false
set_option linter.unusedSimpArgs false
attribute [local go_sem] max2_int min2_int max_two min_two
theorem all_succ (m : Mny) {k : Nat} {v : Int} (hv : m.flat[k]? = some v) : (m.flat.take (k + 1)).all mayB = ((m.flat.take k).all mayB && mayB v) := by
 obtain ⟨hk, rfl⟩ := List.getElem?_eq_some_iff.1 hv
 rw [List.take_succ_eq_append_getElem hk, List.all_append]
 simp
theorem readM_bool (m : Mny) : (readM m).isSome = ((dsum none m.dues 0 0).isSome && m.flat.all mayB && decide (-1000000000000000 ≤ m.cash) && decide (m.cash ≤ 1000000000000000) && (match dsum none m.dues 0 0 with
 | none => false
 | some (a, b) => (m.cash + m.p + m.acc + a + b + m.pen + m.fees == m.un + m.earned + m.fined + m.charged))) := by
 unfold readM
 cases h1 : m.flat.all mayB with
 | false => simp
 | true =>
  rw [if_pos rfl]
  cases hd : dsum none m.dues 0 0 with
  | none => simp
  | some ab =>
   obtain ⟨a, b⟩ := ab
   simp only
   by_cases h2 : -1000000000000000 ≤ m.cash
   ·by_cases h3 : m.cash ≤ 1000000000000000
    ·by_cases h4 : m.cash + m.p + m.acc + a + b + m.pen + m.fees = m.un + m.earned + m.fined + m.charged
     ·rw [if_pos ⟨h2, h3, h4⟩]; simp [h2, h3, h4]
     ·rw [if_neg (fun g => h4 g.2.2)]; simp [h2, h3, h4]
    ·rw [if_neg (fun g => h3 g.2.1)]; simp [h2, h3]
   ·rw [if_neg (fun g => h2 g.1)]; simp [h2]
set_option maxRecDepth 100000 in
set_option maxHeartbeats 20000000 in
theorem rright_any (m : Mny) (D : Option Addr) (dc : Nat) (w : World) (hm : MAt w m D) :
  Calls Try.prog 13 #[mv m D dc] w fun e w' => e = .returned (.bool (readM m).isSome) ∧ Below w.heap.size w w' := by
 have DA := Aside0.mk (fun (W : World) (hb : Below w.heap.size w W) => due_any D dc m.dues W (hm.rows.below hb) hm.len)
 have hrb := readM_bool m
 obtain ⟨r, hr⟩ : ∃ r, (readM m).isSome = r := ⟨_, rfl⟩
 rw [hr] at hrb ⊢
 clear hr hm
 cases hds : dsum none m.dues 0 0 with
 | none =>
  rw [hds] at hrb DA
  simp only [dueV] at DA
  have RB := Aside0.mk (show r = false by rw [hrb]; simp)
  clear hrb hds
  go_enter Try.func13, Try.ntmps13
  go_wp2_with (first
   | ((with_reducible refine gate_dst (N := 1) rfl ?_); refine box_event ?hg (N := 1) ?hd (cs := mcs m D dc) (t := 31) ?hr ?_; (case hd => rfl); (case hg => rfl); (case hr => first | (go_simp; done) | (go_simp; rfl)); intro gm hg w1_ hb1 hb; clear hg; have GM := Aside0.mk hb1; have HB := Aside0.mk hb; clear hb1 hb; have u2 := (show w1_.cell? ⟨gm, 2, none⟩ = some (.slice D m.dues.length dc) from (blk_cell GM.out 2).trans rfl))
   | (go_at_call 31; (with_reducible refine (DA.out _ HB.out).mono ?_); rintro e w2_ ⟨rfl, hb⟩; have GM := Aside0.mk (Pd.blk_below GM.out hb); have HB := Aside0.mk (below_step HB.out hb); clear hb DA u2; have u0 := (show w2_.cell? ⟨gm, 0, none⟩ = some (.int .i64 m.p) from (blk_cell GM.out 0).trans rfl); have u1 := (show w2_.cell? ⟨gm, 1, none⟩ = some (.int .i64 m.acc) from (blk_cell GM.out 1).trans rfl); have u3 := (show w2_.cell? ⟨gm, 3, none⟩ = some (.int .i64 m.pen) from (blk_cell GM.out 3).trans rfl); have u4 := (show w2_.cell? ⟨gm, 4, none⟩ = some (.int .i64 m.fees) from (blk_cell GM.out 4).trans rfl); have u5 := (show w2_.cell? ⟨gm, 5, none⟩ = some (.int .i64 m.un) from (blk_cell GM.out 5).trans rfl); have u7 := (show w2_.cell? ⟨gm, 7, none⟩ = some (.int .i64 m.earned) from (blk_cell GM.out 7).trans rfl); have u8 := (show w2_.cell? ⟨gm, 8, none⟩ = some (.int .i64 m.fined) from (blk_cell GM.out 8).trans rfl); have u9 := (show w2_.cell? ⟨gm, 9, none⟩ = some (.int .i64 m.charged) from (blk_cell GM.out 9).trans rfl); have u6 := (show w2_.cell? ⟨gm, 6, none⟩ = some (.int .i64 m.cash) from (blk_cell GM.out 6).trans rfl))
   | ((with_reducible refine gate_dst (N := 31) rfl ?_); refine lit_event rfl (N := 31) rfl (cs := #[.int .i64 m.p, .int .i64 m.acc, .int .i64 m.pen, .int .i64 m.fees, .int .i64 m.un, .int .i64 m.earned, .int .i64 m.fined, .int .i64 m.charged]) (t := 2) (n := 8) ?hr ?_; (case hr => first | (go_simp; done) | (go_simp; rfl)); intro gl hg w4_ hb1 hb; clear hg; have GL := Aside0.mk hb1; have HB := Aside0.mk (below_step HB.out hb); have GM := Aside0.mk (Pd.blk_below GM.out hb); clear hb1 hb u0 u1 u3 u4 u5 u6 u7 u8 u9))
  go_loopg [5, 7] 9 (fun gq ov iv w' => ∃ (k : Nat) (o : Bool), k ≤ 8 ∧ iv = .int .i64 (k : Int) ∧ ov = .bool o ∧ Aside0 (gq = 9 - k) ∧ Aside0 (o = (false && (m.flat.take k).all mayB)) ∧ Aside0 (w'.heap[gl]? = some (.cells #[.int .i64 m.p, .int .i64 m.acc, .int .i64 m.pen, .int .i64 m.fees, .int .i64 m.un, .int .i64 m.earned, .int .i64 m.fined, .int .i64 m.charged] 2 (0, 0))) ∧ Aside0 (w'.heap[gm]? = some (.cells (mcs m D dc) 31 (0, 0))) ∧ Aside0 (Below w.heap.size w w'))
  case atStart => exact ⟨0, false, by omega, rfl, rfl, ⟨rfl⟩, ⟨by simp⟩, GL, GM, HB⟩
  case round =>
   obtain ⟨k, o, k8, rfl, rfl, hgq, HO, GL, GM, HB⟩ := hrel
   by_cases hlt : (k : Int) < 8
   ·obtain ⟨v, hv⟩ : ∃ v, m.flat[k]? = some v := ⟨_, List.getElem?_eq_getElem (show k < 8 by omega)⟩
    have hcl : wr.cell? ⟨gl, k, none⟩ = some (.int .i64 v) := (blk_cell GL.out k).trans (by
     rcases (by omega : k = 0 ∨ k = 1 ∨ k = 2 ∨ k = 3 ∨ k = 4 ∨ k = 5 ∨ k = 6 ∨ k = 7) with rfl | rfl | rfl | rfl | rfl | rfl | rfl | rfl <;> exact congrArg (Option.map (Value.int .i64)) hv)
    obtain ⟨b, hb⟩ : ∃ b, mayB v = b := ⟨_, rfl⟩
    have MI := Aside0.mk (fun W => rmay_any v b hb W)
    have HN := Aside0.mk (show (o && b) = (false && (m.flat.take (k + 1)).all mayB) by rw [all_succ m hv, HO.out, hb, Bool.and_assoc])
    clear hv hb
    cases o with
    | false =>
     go_wp2_with (go_at_call 32; (with_reducible refine (MI.out _).mono ?_); rintro e w' ⟨rfl, rfl⟩)
     go_roundg (9 - (k + 1))
     case measure => have := hgq.out; omega
     case rel => exact ⟨k + 1, false, by omega, by simp, rfl, ⟨rfl⟩, ⟨by rw [← HN.out]; rfl⟩, GL, GM, HB⟩
    | true =>
     go_wp2_with (go_at_call 32; (with_reducible refine (MI.out _).mono ?_); rintro e w' ⟨rfl, rfl⟩)
     go_roundg (9 - (k + 1))
     case measure => have := hgq.out; omega
     case rel => exact ⟨k + 1, b, by omega, by simp, rfl, ⟨rfl⟩, ⟨by rw [← HN.out, Bool.true_and]⟩, GL, GM, HB⟩
   ·obtain rfl : k = 8 := by omega
    have ho : o = (false && m.flat.all mayB) := HO.out
    clear HO GL hlt
    have u0 := (show wr.cell? ⟨gm, 0, none⟩ = some (.int .i64 m.p) from (blk_cell GM.out 0).trans rfl)
    have u1 := (show wr.cell? ⟨gm, 1, none⟩ = some (.int .i64 m.acc) from (blk_cell GM.out 1).trans rfl)
    have u3 := (show wr.cell? ⟨gm, 3, none⟩ = some (.int .i64 m.pen) from (blk_cell GM.out 3).trans rfl)
    have u4 := (show wr.cell? ⟨gm, 4, none⟩ = some (.int .i64 m.fees) from (blk_cell GM.out 4).trans rfl)
    have u5 := (show wr.cell? ⟨gm, 5, none⟩ = some (.int .i64 m.un) from (blk_cell GM.out 5).trans rfl)
    have u7 := (show wr.cell? ⟨gm, 7, none⟩ = some (.int .i64 m.earned) from (blk_cell GM.out 7).trans rfl)
    have u8 := (show wr.cell? ⟨gm, 8, none⟩ = some (.int .i64 m.fined) from (blk_cell GM.out 8).trans rfl)
    have u9 := (show wr.cell? ⟨gm, 9, none⟩ = some (.int .i64 m.charged) from (blk_cell GM.out 9).trans rfl)
    have u6 := (show wr.cell? ⟨gm, 6, none⟩ = some (.int .i64 m.cash) from (blk_cell GM.out 6).trans rfl)
    obtain rfl : o = false := ho
    go_wp2_with fail
    go_ret
    exact ⟨by rw [RB.out]; rfl, HB.out⟩
 | some ab =>
  obtain ⟨a, b⟩ := ab
  obtain ⟨ba, bb⟩ := dsum_bd m.dues none 0 0 a b (by decide) (by decide) hds
  rw [mayB_iff] at ba bb
  rw [hds] at hrb DA
  simp only [dueV] at DA
  have RB := Aside0.mk (show r = (true && m.flat.all mayB && decide (-1000000000000000 ≤ m.cash) && decide (m.cash ≤ 1000000000000000) && (m.cash + m.p + m.acc + a + b + m.pen + m.fees == m.un + m.earned + m.fined + m.charged)) from hrb)
  clear hrb hds
  go_enter Try.func13, Try.ntmps13
  go_wp2_with (first
   | ((with_reducible refine gate_dst (N := 1) rfl ?_); refine box_event ?hg (N := 1) ?hd (cs := mcs m D dc) (t := 31) ?hr ?_; (case hd => rfl); (case hg => rfl); (case hr => first | (go_simp; done) | (go_simp; rfl)); intro gm hg w1_ hb1 hb; clear hg; have GM := Aside0.mk hb1; have HB := Aside0.mk hb; clear hb1 hb; have u2 := (show w1_.cell? ⟨gm, 2, none⟩ = some (.slice D m.dues.length dc) from (blk_cell GM.out 2).trans rfl))
   | (go_at_call 31; (with_reducible refine (DA.out _ HB.out).mono ?_); rintro e w2_ ⟨rfl, hb⟩; have GM := Aside0.mk (Pd.blk_below GM.out hb); have HB := Aside0.mk (below_step HB.out hb); clear hb DA u2; have u0 := (show w2_.cell? ⟨gm, 0, none⟩ = some (.int .i64 m.p) from (blk_cell GM.out 0).trans rfl); have u1 := (show w2_.cell? ⟨gm, 1, none⟩ = some (.int .i64 m.acc) from (blk_cell GM.out 1).trans rfl); have u3 := (show w2_.cell? ⟨gm, 3, none⟩ = some (.int .i64 m.pen) from (blk_cell GM.out 3).trans rfl); have u4 := (show w2_.cell? ⟨gm, 4, none⟩ = some (.int .i64 m.fees) from (blk_cell GM.out 4).trans rfl); have u5 := (show w2_.cell? ⟨gm, 5, none⟩ = some (.int .i64 m.un) from (blk_cell GM.out 5).trans rfl); have u7 := (show w2_.cell? ⟨gm, 7, none⟩ = some (.int .i64 m.earned) from (blk_cell GM.out 7).trans rfl); have u8 := (show w2_.cell? ⟨gm, 8, none⟩ = some (.int .i64 m.fined) from (blk_cell GM.out 8).trans rfl); have u9 := (show w2_.cell? ⟨gm, 9, none⟩ = some (.int .i64 m.charged) from (blk_cell GM.out 9).trans rfl); have u6 := (show w2_.cell? ⟨gm, 6, none⟩ = some (.int .i64 m.cash) from (blk_cell GM.out 6).trans rfl))
   | ((with_reducible refine gate_dst (N := 31) rfl ?_); refine lit_event rfl (N := 31) rfl (cs := #[.int .i64 m.p, .int .i64 m.acc, .int .i64 m.pen, .int .i64 m.fees, .int .i64 m.un, .int .i64 m.earned, .int .i64 m.fined, .int .i64 m.charged]) (t := 2) (n := 8) ?hr ?_; (case hr => first | (go_simp; done) | (go_simp; rfl)); intro gl hg w4_ hb1 hb; clear hg; have GL := Aside0.mk hb1; have HB := Aside0.mk (below_step HB.out hb); have GM := Aside0.mk (Pd.blk_below GM.out hb); clear hb1 hb u0 u1 u3 u4 u5 u6 u7 u8 u9))
  go_loopg [5, 7] 9 (fun gq ov iv w' => ∃ (k : Nat) (o : Bool), k ≤ 8 ∧ iv = .int .i64 (k : Int) ∧ ov = .bool o ∧ Aside0 (gq = 9 - k) ∧ Aside0 (o = (true && (m.flat.take k).all mayB)) ∧ Aside0 (w'.heap[gl]? = some (.cells #[.int .i64 m.p, .int .i64 m.acc, .int .i64 m.pen, .int .i64 m.fees, .int .i64 m.un, .int .i64 m.earned, .int .i64 m.fined, .int .i64 m.charged] 2 (0, 0))) ∧ Aside0 (w'.heap[gm]? = some (.cells (mcs m D dc) 31 (0, 0))) ∧ Aside0 (Below w.heap.size w w'))
  case atStart => exact ⟨0, true, by omega, rfl, rfl, ⟨rfl⟩, ⟨by simp⟩, GL, GM, HB⟩
  case round =>
   obtain ⟨k, o, k8, rfl, rfl, hgq, HO, GL, GM, HB⟩ := hrel
   by_cases hlt : (k : Int) < 8
   ·obtain ⟨v, hv⟩ : ∃ v, m.flat[k]? = some v := ⟨_, List.getElem?_eq_getElem (show k < 8 by omega)⟩
    have hcl : wr.cell? ⟨gl, k, none⟩ = some (.int .i64 v) := (blk_cell GL.out k).trans (by
     rcases (by omega : k = 0 ∨ k = 1 ∨ k = 2 ∨ k = 3 ∨ k = 4 ∨ k = 5 ∨ k = 6 ∨ k = 7) with rfl | rfl | rfl | rfl | rfl | rfl | rfl | rfl <;> exact congrArg (Option.map (Value.int .i64)) hv)
    obtain ⟨b, hb⟩ : ∃ b, mayB v = b := ⟨_, rfl⟩
    have MI := Aside0.mk (fun W => rmay_any v b hb W)
    have HN := Aside0.mk (show (o && b) = (true && (m.flat.take (k + 1)).all mayB) by rw [all_succ m hv, HO.out, hb, Bool.and_assoc])
    clear hv hb
    cases o with
    | false =>
     go_wp2_with (go_at_call 32; (with_reducible refine (MI.out _).mono ?_); rintro e w' ⟨rfl, rfl⟩)
     go_roundg (9 - (k + 1))
     case measure => have := hgq.out; omega
     case rel => exact ⟨k + 1, false, by omega, by simp, rfl, ⟨rfl⟩, ⟨by rw [← HN.out]; rfl⟩, GL, GM, HB⟩
    | true =>
     go_wp2_with (go_at_call 32; (with_reducible refine (MI.out _).mono ?_); rintro e w' ⟨rfl, rfl⟩)
     go_roundg (9 - (k + 1))
     case measure => have := hgq.out; omega
     case rel => exact ⟨k + 1, b, by omega, by simp, rfl, ⟨rfl⟩, ⟨by rw [← HN.out, Bool.true_and]⟩, GL, GM, HB⟩
   ·obtain rfl : k = 8 := by omega
    have ho : o = (true && m.flat.all mayB) := HO.out
    clear HO GL hlt
    have u0 := (show wr.cell? ⟨gm, 0, none⟩ = some (.int .i64 m.p) from (blk_cell GM.out 0).trans rfl)
    have u1 := (show wr.cell? ⟨gm, 1, none⟩ = some (.int .i64 m.acc) from (blk_cell GM.out 1).trans rfl)
    have u3 := (show wr.cell? ⟨gm, 3, none⟩ = some (.int .i64 m.pen) from (blk_cell GM.out 3).trans rfl)
    have u4 := (show wr.cell? ⟨gm, 4, none⟩ = some (.int .i64 m.fees) from (blk_cell GM.out 4).trans rfl)
    have u5 := (show wr.cell? ⟨gm, 5, none⟩ = some (.int .i64 m.un) from (blk_cell GM.out 5).trans rfl)
    have u7 := (show wr.cell? ⟨gm, 7, none⟩ = some (.int .i64 m.earned) from (blk_cell GM.out 7).trans rfl)
    have u8 := (show wr.cell? ⟨gm, 8, none⟩ = some (.int .i64 m.fined) from (blk_cell GM.out 8).trans rfl)
    have u9 := (show wr.cell? ⟨gm, 9, none⟩ = some (.int .i64 m.charged) from (blk_cell GM.out 9).trans rfl)
    have u6 := (show wr.cell? ⟨gm, 6, none⟩ = some (.int .i64 m.cash) from (blk_cell GM.out 6).trans rfl)
    rw [Bool.true_and] at ho
    cases o with
    | false =>
     have hr : r = false := by rw [RB.out, ← ho]; simp
     subst hr
     clear ho
     go_wp2_with fail
     go_ret
     exact ⟨rfl, HB.out⟩
    | true =>
     rw [← ho] at RB
     have hall := ho.symm
     simp only [Mny.flat, List.all_cons, List.all_nil, Bool.and_true, Bool.and_eq_true, mayB_iff] at hall
     obtain ⟨k1, k2, k3, k4, k5, k6, k7, k9⟩ := hall
     clear ho
     by_cases n1 : -1000000000000000 ≤ m.cash
     ·by_cases n2 : m.cash ≤ 1000000000000000
      ·have s1 : IntKind.i64.wrap (m.cash + m.p) = m.cash + m.p := IntWalk.i64_in _ (by omega)
       have s2 : IntKind.i64.wrap (m.cash + m.p + m.acc) = m.cash + m.p + m.acc := IntWalk.i64_in _ (by omega)
       have s3 : IntKind.i64.wrap (m.cash + m.p + m.acc + a) = m.cash + m.p + m.acc + a := IntWalk.i64_in _ (by omega)
       have s4 : IntKind.i64.wrap (m.cash + m.p + m.acc + a + b) = m.cash + m.p + m.acc + a + b := IntWalk.i64_in _ (by omega)
       have s5 : IntKind.i64.wrap (m.cash + m.p + m.acc + a + b + m.pen) = m.cash + m.p + m.acc + a + b + m.pen := IntWalk.i64_in _ (by omega)
       obtain ⟨X, hX⟩ : ∃ X, m.cash + m.p + m.acc + a + b + m.pen + m.fees = X := ⟨_, rfl⟩
       have s6 : IntKind.i64.wrap (m.cash + m.p + m.acc + a + b + m.pen + m.fees) = X := by rw [hX]; exact IntWalk.i64_in _ (by omega)
       have r1 : IntKind.i64.wrap (m.un + m.earned) = m.un + m.earned := IntWalk.i64_in _ (by omega)
       have r2 : IntKind.i64.wrap (m.un + m.earned + m.fined) = m.un + m.earned + m.fined := IntWalk.i64_in _ (by omega)
       obtain ⟨Y, hY⟩ : ∃ Y, m.un + m.earned + m.fined + m.charged = Y := ⟨_, rfl⟩
       have r3 : IntKind.i64.wrap (m.un + m.earned + m.fined + m.charged) = Y := by rw [hY]; exact IntWalk.i64_in _ (by omega)
       have e1 := decide_eq_true n1
       have e2 := decide_eq_true n2
       obtain ⟨eq, heq⟩ : ∃ q, (X == Y) = q := ⟨_, rfl⟩
       have RB := Aside0.mk (show r = eq by rw [RB.out, e1, e2, hX, hY, heq]; rfl)
       clear hX hY k1 k2 k3 k4 k5 k6 k7 k9 n1 n2 ba bb
       go_wp2_with fail
       go_ret
       exact ⟨by rw [RB.out]; rfl, HB.out⟩
      ·have e1 := decide_eq_true n1
       have e2 := decide_eq_false n2
       have hr : r = false := by rw [RB.out, e2]; simp
       subst hr
       clear k1 k2 k3 k4 k5 k6 k7 k9 n1 n2 ba bb
       go_wp2_with fail
       go_ret
       exact ⟨rfl, HB.out⟩
     ·have e1 := decide_eq_false n1
      have hr : r = false := by rw [RB.out, e1]; simp
      subst hr
      clear k1 k2 k3 k4 k5 k6 k7 k9 n1 ba bb
      go_wp2_with fail
      go_ret
      exact ⟨rfl, HB.out⟩
end Go.Proofs.Ytbbbjjfecblhpaa.Nt
/- Contracts by hand: two states that are alike. -/
namespace Go.Proofs.Ytbbbjjfecblhpaa.Nt
open Go.RowKit Go.Proofs.YtbbbjjfecblhpaaW.PrintWords Go.Proofs.YtbbbjjfecblhpaaW.PrintLast Go.Proofs.YtbbbjjfecblhpaaW.PrintMore Go.Proofs.Ytbbbjjfecblhpaa.HW
open Go.Proofs.Ytbbbjjfecblhpaa.Math Go.Proofs.Ytbbbjjfecblhpaa.H Go.Proofs.Ytbbbjjfecblhpaa.Pd Go.Proofs.Ytbbbjjfecblhpaa.Du Go.Proofs.Ytbbbjjfecblhpaa.Lv Pm
set_option linter.unusedVariables false
set_option linter.unusedSimpArgs false
attribute [local go_sem] max2_int min2_int max_two min_two
theorem info_due4 : (Try.prog.info? 47).map (·.size) = some 4 := by kernel_rfl
set_option maxRecDepth 100000 in
set_option maxHeartbeats 1000000 in
theorem plainD1 (a b c d : Int) (w : World) : Calls Try.prog 34 #[.agg #[.int .i64 a, .int .i64 b, .int .i64 c, .int .i64 d], .agg #[.int .i64 a, .int .i64 b, .int .i64 c, .int .i64 d]] w fun e w' => e = .returned (.bool true) ∧ Below w.heap.size w w' := by
 go_enter Try.func34, Try.ntmps34
 go_wp2_with (first
  | ((with_reducible refine gate_dst (N := 2) rfl ?_); refine box_event ?hg (N := 2) ?hd (cs := #[.int .i64 a, .int .i64 b, .int .i64 c, .int .i64 d]) (t := 47) ?hr ?_; (case hd => rfl); (case hg => rfl); (case hr => first | (go_simp; done) | (go_simp; rfl)); intro g2 hg w1 hb1 hbl1; clear hg; have HB2 := Aside0.mk hb1; have BL1 := Aside0.mk hbl1; clear hb1 hbl1)
  | ((with_reducible refine gate_dst (N := 3) rfl ?_); refine box_event ?hg (N := 3) ?hd (cs := #[.int .i64 a, .int .i64 b, .int .i64 c, .int .i64 d]) (t := 47) ?hr ?_; (case hd => rfl); (case hg => rfl); (case hr => first | (go_simp; done) | (go_simp; rfl)); intro g3 hg w2 hb1 hbl1; clear hg; have HB3 := Aside0.mk hb1; have HB22 := Aside0.mk (Pd.blk_below HB2.out hbl1); have BL2 := Aside0.mk (below_step BL1.out hbl1); clear hb1 hbl1)
  | ((with_reducible refine gate_dst (N := 5) rfl ?_); refine wpList_load_row rfl 47 (.tmp 2) rfl g2 rfl 47 _ (0, 0) _ HB22.out Try.underlying47 rfl info_due4 ?_)
  | ((with_reducible refine gate_dst (N := 6) rfl ?_); refine wpList_load_row rfl 47 (.tmp 3) rfl g3 rfl 47 _ (0, 0) _ HB3.out Try.underlying47 rfl info_due4 ?_))
 go_ret
 exact ⟨by simp, BL2.out⟩
set_option maxRecDepth 100000 in
set_option maxHeartbeats 1000000 in
theorem sameD (A0 A1 : Option Addr) (c0 c1 : Nat) (rows : List (List Int)) (w : World) (hr0 : Op.IntRows w A0 4 rows) (hr1 : Op.IntRows w A1 4 rows) (hm : rows.length ≤ 1000000) :
  Calls Try.prog 33 #[.slice A0 rows.length c0, .slice A1 rows.length c1, .func (.func 34) #[] #[]] w fun e w' => e = .returned (.bool true) ∧ Below w.heap.size w w' := by
 have HR0 := Aside0.mk hr0
 have HR1 := Aside0.mk hr1
 clear hr0 hr1
 go_enter Try.func33, Try.ntmps33
 go_wp2_with fail
 go_loopg [7] (rows.length + 1) (fun gq iv w' => ∃ (k : Nat), k ≤ rows.length ∧ iv = .int .i64 (k : Int) ∧ Aside0 (gq = rows.length + 1 - k) ∧ Aside0 (Below w.heap.size w w'))
 case atStart => exact ⟨0, Nat.zero_le _, rfl, ⟨rfl⟩, ⟨Below.refl _ _⟩⟩
 case round =>
  obtain ⟨k, hk, rfl, hgq, hbl⟩ := hrel
  by_cases hlt : k < rows.length
  ·obtain ⟨ad0, n, d, i, q, e0, hrow, p0, p1, p2, p3, -⟩ := four_at (HR0.out.below hbl.out) k hlt
   obtain ⟨ad1, n', d', i', q', e1, hrow', s0, s1, s2, s3, -⟩ := four_at (HR1.out.below hbl.out) k hlt
   obtain ⟨rfl, rfl, rfl, rfl⟩ : n = n' ∧ d = d' ∧ i = i' ∧ q = q' := by
    have h := hrow.symm.trans hrow'
    simpa using h
   subst e0 e1
   have kk0 : (0 : Int) ≤ (k : Int) := by omega
   have kk1 : (k : Int) < (rows.length : Int) := by omega
   clear hrow hrow'
   go_wp2_with fail
   go_still_tail 9, (by kernel_rfl)
   go_wp2_with ((go_at_call 34; refine (plainD1 n d i q _).mono ?_; rintro e v1 ⟨rfl, hb⟩; have B1 := Aside0.mk (below_step (by first | exact pw_below_drewN hbl.out _ | exact Below.drew hbl.out | exact hbl.out) hb); clear hb))
   go_roundg (rows.length + 1 - (k + 1))
   case measure => have := hgq.out; omega
   case rel => exact ⟨k + 1, by omega, by simp, ⟨rfl⟩, B1⟩
  ·have hk2 : k = rows.length := by omega
   subst hk2
   go_wp2_with fail
   go_ret
   exact ⟨rfl, hbl.out⟩
set_option maxRecDepth 100000 in
set_option maxHeartbeats 1000000 in
theorem plainD (A0 A1 : Option Addr) (c0 c1 : Nat) (rows : List (List Int)) (w : World) (hr0 : Op.IntRows w A0 4 rows) (hr1 : Op.IntRows w A1 4 rows) (hm : rows.length ≤ 1000000) :
  Calls Try.prog 14 #[.slice A0 rows.length c0, .slice A1 rows.length c1] w fun e w' => e = .returned (.bool true) ∧ Below w.heap.size w w' := by
 have HR0 := Aside0.mk hr0
 have HR1 := Aside0.mk hr1
 clear hr0 hr1
 go_enter Try.func14, Try.ntmps14
 go_wp2_with fail
 refine (sameD A0 A1 c0 c1 rows _ HR0.out HR1.out hm).mono ?_
 rintro e v1 ⟨rfl, hb⟩
 have B1 := Aside0.mk hb
 clear hb
 go_wp2_with fail
 go_ret
 exact ⟨rfl, B1.out⟩
set_option maxRecDepth 100000 in
set_option maxHeartbeats 8000000 in
theorem sameM (m : Mny) (D : Option Addr) (dc : Nat) (D2 : Option Addr) (dc2 : Nat) (w : World) (h1 : Op.IntRows w D 4 m.dues) (h2 : Op.IntRows w D2 4 m.dues) (hm : m.dues.length ≤ 1000000) :
  Calls Try.prog 30 #[mv m D dc, mv m D2 dc2] w fun e w' => e = .returned (.bool true) ∧ Below w.heap.size w w' := by
 have PD := Aside0.mk (fun (W : World) (hb : Below w.heap.size w W) => plainD D D2 dc dc2 m.dues W (h1.below hb) (h2.below hb) hm)
 clear h1 h2 hm
 go_enter Try.func30, Try.ntmps30
 go_wp2_with (first
  | ((with_reducible refine gate_dst (N := 2) rfl ?_); refine box_event ?hg (N := 2) ?hd (cs := mcs m D dc) (t := 31) ?hr ?_; (case hd => rfl); (case hg => rfl); (case hr => first | (go_simp; done) | (go_simp; rfl)); intro ga hg y2_ hb1 hb; clear hg; have GA := Aside0.mk hb1; have HB := Aside0.mk hb; clear hb1 hb)
  | ((with_reducible refine gate_dst (N := 3) rfl ?_); refine box_event ?hg (N := 3) ?hd (cs := mcs m D2 dc2) (t := 31) ?hr ?_; (case hd => rfl); (case hg => rfl); (case hr => first | (go_simp; done) | (go_simp; rfl)); intro gb hg y3_ hb1 hb; clear hg; have GB := Aside0.mk hb1; have GA := Aside0.mk (Pd.blk_below GA.out hb); have HB := Aside0.mk (below_step HB.out hb); clear hb1 hb; refine Hid.out ?_))
 refine Lib.hid ?_
 have a0 := (show y3_.cell? ⟨ga, 0, none⟩ = some (.int .i64 m.p) from (blk_cell GA.out 0).trans rfl)
 have b0 := (show y3_.cell? ⟨gb, 0, none⟩ = some (.int .i64 m.p) from (blk_cell GB.out 0).trans rfl)
 have a1 := (show y3_.cell? ⟨ga, 1, none⟩ = some (.int .i64 m.acc) from (blk_cell GA.out 1).trans rfl)
 have b1 := (show y3_.cell? ⟨gb, 1, none⟩ = some (.int .i64 m.acc) from (blk_cell GB.out 1).trans rfl)
 have a2 := (show y3_.cell? ⟨ga, 2, none⟩ = some (.slice D m.dues.length dc) from (blk_cell GA.out 2).trans rfl)
 have b2 := (show y3_.cell? ⟨gb, 2, none⟩ = some (.slice D2 m.dues.length dc2) from (blk_cell GB.out 2).trans rfl)
 go_wp2_with (first
  | (go_at_call 14; (with_reducible refine (PD.out _ HB.out).mono ?_); rintro e y4_ ⟨rfl, hb⟩; have GA := Aside0.mk (Pd.blk_below GA.out hb); have GB := Aside0.mk (Pd.blk_below GB.out hb); have HB := Aside0.mk (below_step HB.out hb); clear hb; clear a0 b0 a1 b1 a2 b2; have a3 := (show y4_.cell? ⟨ga, 3, none⟩ = some (.int .i64 m.pen) from (blk_cell GA.out 3).trans rfl); have b3 := (show y4_.cell? ⟨gb, 3, none⟩ = some (.int .i64 m.pen) from (blk_cell GB.out 3).trans rfl); have a4 := (show y4_.cell? ⟨ga, 4, none⟩ = some (.int .i64 m.fees) from (blk_cell GA.out 4).trans rfl); have b4 := (show y4_.cell? ⟨gb, 4, none⟩ = some (.int .i64 m.fees) from (blk_cell GB.out 4).trans rfl); have a5 := (show y4_.cell? ⟨ga, 5, none⟩ = some (.int .i64 m.un) from (blk_cell GA.out 5).trans rfl); have b5 := (show y4_.cell? ⟨gb, 5, none⟩ = some (.int .i64 m.un) from (blk_cell GB.out 5).trans rfl); have a6 := (show y4_.cell? ⟨ga, 6, none⟩ = some (.int .i64 m.cash) from (blk_cell GA.out 6).trans rfl); have b6 := (show y4_.cell? ⟨gb, 6, none⟩ = some (.int .i64 m.cash) from (blk_cell GB.out 6).trans rfl); have a7 := (show y4_.cell? ⟨ga, 7, none⟩ = some (.int .i64 m.earned) from (blk_cell GA.out 7).trans rfl); have b7 := (show y4_.cell? ⟨gb, 7, none⟩ = some (.int .i64 m.earned) from (blk_cell GB.out 7).trans rfl); have a8 := (show y4_.cell? ⟨ga, 8, none⟩ = some (.int .i64 m.fined) from (blk_cell GA.out 8).trans rfl); have b8 := (show y4_.cell? ⟨gb, 8, none⟩ = some (.int .i64 m.fined) from (blk_cell GB.out 8).trans rfl); have a9 := (show y4_.cell? ⟨ga, 9, none⟩ = some (.int .i64 m.charged) from (blk_cell GA.out 9).trans rfl); have b9 := (show y4_.cell? ⟨gb, 9, none⟩ = some (.int .i64 m.charged) from (blk_cell GB.out 9).trans rfl)))
 go_ret
 exact ⟨by simp, HB.out⟩
set_option maxRecDepth 100000 in
set_option maxHeartbeats 8000000 in
theorem sameS (s : St) (L : Option Addr) (lc : Nat) (D : Option Addr) (dc : Nat) (L2 : Option Addr) (lc2 : Nat) (D2 : Option Addr) (dc2 : Nat) (w : World) (h1 : StAt w s L lc D dc) (h2 : StAt w s L2 lc2 D2 dc2) :
  Calls Try.prog 11 #[sv s L lc D dc, sv s L2 lc2 D2 dc2] w fun e w' => e = .returned (.bool true) ∧ Below w.heap.size w w' := by
 have PL := Aside0.mk (fun (W : World) (hb : Below w.heap.size w W) => plain_sameL L L2 lc lc2 s.plan W (h1.below hb).plan h1.pc (h2.below hb).plan h2.pc h1.pl)
 have PM := Aside0.mk (fun (W : World) (hb : Below w.heap.size w W) => sameM s.m D dc D2 dc2 W (h1.below hb).rows (h2.below hb).rows h1.dl)
 clear h1 h2
 go_enter Try.func11, Try.ntmps11
 go_wp2_with (first
  | ((with_reducible refine gate_dst (N := 2) rfl ?_); refine box_event ?hg (N := 2) ?hd (cs := scs s L lc D dc) (t := 33) ?hr ?_; (case hd => rfl); (case hg => rfl); (case hr => first | (go_simp; done) | (go_simp; rfl)); intro ga hg y2_ hb1 hb; clear hg; have GA := Aside0.mk hb1; have HB := Aside0.mk hb; clear hb1 hb)
  | ((with_reducible refine gate_dst (N := 3) rfl ?_); refine box_event ?hg (N := 3) ?hd (cs := scs s L2 lc2 D2 dc2) (t := 33) ?hr ?_; (case hd => rfl); (case hg => rfl); (case hr => first | (go_simp; done) | (go_simp; rfl)); intro gb hg y3_ hb1 hb; clear hg; have GB := Aside0.mk hb1; have GA := Aside0.mk (Pd.blk_below GA.out hb); have HB := Aside0.mk (below_step HB.out hb); clear hb1 hb; refine Hid.out ?_))
 refine Lib.hid ?_
 have a0 := (show y3_.cell? ⟨ga, 0, none⟩ = some (.int .i64 s.day) from (blk_cell GA.out 0).trans rfl)
 have b0 := (show y3_.cell? ⟨gb, 0, none⟩ = some (.int .i64 s.day) from (blk_cell GB.out 0).trans rfl)
 have a1 := (show y3_.cell? ⟨ga, 1, none⟩ = some (.bool s.opn) from (blk_cell GA.out 1).trans rfl)
 have b1 := (show y3_.cell? ⟨gb, 1, none⟩ = some (.bool s.opn) from (blk_cell GB.out 1).trans rfl)
 have a2 := (show y3_.cell? ⟨ga, 2, none⟩ = some (.int .i64 s.start) from (blk_cell GA.out 2).trans rfl)
 have b2 := (show y3_.cell? ⟨gb, 2, none⟩ = some (.int .i64 s.start) from (blk_cell GB.out 2).trans rfl)
 have a3 := (show y3_.cell? ⟨ga, 3, none⟩ = some (.slice L s.plan.length lc) from (blk_cell GA.out 3).trans rfl)
 have b3 := (show y3_.cell? ⟨gb, 3, none⟩ = some (.slice L2 s.plan.length lc2) from (blk_cell GB.out 3).trans rfl)
 go_wp2_with (first
  | (go_at_call 15; (with_reducible refine (PL.out _ HB.out).mono ?_); rintro e y4_ ⟨rfl, hb⟩; have GA := Aside0.mk (Pd.blk_below GA.out hb); have GB := Aside0.mk (Pd.blk_below GB.out hb); have HB := Aside0.mk (below_step HB.out hb); clear hb; clear a0 b0 a1 b1 a2 b2 a3 b3; have a4 := (show y4_.cell? ⟨ga, 4, none⟩ = some (.int .i64 s.next) from (blk_cell GA.out 4).trans rfl); have b4 := (show y4_.cell? ⟨gb, 4, none⟩ = some (.int .i64 s.next) from (blk_cell GB.out 4).trans rfl); have a5 := (show y4_.cell? ⟨ga, 5, none⟩ = some (.int .i64 s.rate) from (blk_cell GA.out 5).trans rfl); have b5 := (show y4_.cell? ⟨gb, 5, none⟩ = some (.int .i64 s.rate) from (blk_cell GB.out 5).trans rfl))
  | ((with_reducible refine gate_dst (N := 47) rfl ?_); refine mid_want rfl 31 (.tmp 46) rfl ga 6 ?hx (mcs s.m D dc).toList _ (mny_range GA.out) Try.underlying31 rfl info_mny ?_; (case hx => first | rfl | (go_simp; done) | (go_simp; rfl)))
  | ((with_reducible refine gate_dst (N := 49) rfl ?_); refine mid_want rfl 31 (.tmp 48) rfl gb 6 ?hx (mcs s.m D2 dc2).toList _ (mny_range GB.out) Try.underlying31 rfl info_mny ?_; (case hx => first | rfl | (go_simp; done) | (go_simp; rfl)))
  | (go_at_call 30; (with_reducible refine (PM.out _ HB.out).mono ?_); rintro e y5_ ⟨rfl, hb⟩; have GA := Aside0.mk (Pd.blk_below GA.out hb); have GB := Aside0.mk (Pd.blk_below GB.out hb); have HB := Aside0.mk (below_step HB.out hb); clear hb; clear a4 b4 a5 b5; have a16 := (show y5_.cell? ⟨ga, 16, none⟩ = some (.int .i64 s.lateFees) from (blk_cell GA.out 16).trans rfl); have b16 := (show y5_.cell? ⟨gb, 16, none⟩ = some (.int .i64 s.lateFees) from (blk_cell GB.out 16).trans rfl); have a17 := (show y5_.cell? ⟨ga, 17, none⟩ = some (.int .i64 s.residue) from (blk_cell GA.out 17).trans rfl); have b17 := (show y5_.cell? ⟨gb, 17, none⟩ = some (.int .i64 s.residue) from (blk_cell GB.out 17).trans rfl); have a18 := (show y5_.cell? ⟨ga, 18, none⟩ = some (.int .i64 s.fine) from (blk_cell GA.out 18).trans rfl); have b18 := (show y5_.cell? ⟨gb, 18, none⟩ = some (.int .i64 s.fine) from (blk_cell GB.out 18).trans rfl)))
 go_ret
 exact ⟨by simp, HB.out⟩
end Go.Proofs.Ytbbbjjfecblhpaa.Nt
/- The law NightlyRests, walked. -/
namespace Go.Proofs.Ytbbbjjfecblhpaa.Nt
open Go.RowKit Go.Proofs.YtbbbjjfecblhpaaW.PrintWords Go.Proofs.YtbbbjjfecblhpaaW.PrintLast Go.Proofs.YtbbbjjfecblhpaaW.PrintMore Go.Proofs.Ytbbbjjfecblhpaa.HW
open Go.Proofs.Ytbbbjjfecblhpaa.Math Go.Proofs.Ytbbbjjfecblhpaa.H Go.Proofs.Ytbbbjjfecblhpaa.Pd Go.Proofs.Ytbbbjjfecblhpaa.Du Go.Proofs.Ytbbbjjfecblhpaa.Lv Pm
set_option linter.unusedVariables false
set_option linter.unusedSimpArgs false
attribute [local go_sem] max2_int min2_int max_two min_two
theorem ok_small {P : Pm.Prod} (h : ok P = true) : Small P := by
 unfold ok at h
 simp only [Bool.and_eq_true] at h
 obtain ⟨⟨⟨⟨h1, h2⟩, -⟩, h4⟩, h5⟩ := h
 unfold shapeOk at h1
 unfold ratesOk at h2
 unfold lateOk at h4
 unfold daysOk at h5
 rw [Bool.and_eq_true] at h1 h2 h4 h5
 have k1 := h1.1
 unfold nameOk at k1
 simp only [Bool.and_eq_true, decide_eq_true_eq] at k1
 have k2 := of_decide_eq_true h2.1
 have k4 := of_decide_eq_true h4.1
 have k5 := of_decide_eq_true h5.1
 have hn : P.name.size = P.name.data.toList.length := rfl
 exact ⟨by rw [hn]; omega, by omega, by omega, by omega⟩
end Go.Proofs.Ytbbbjjfecblhpaa.Nt
/- Arguments opened: a product. -/
namespace Go.Proofs.Ytbbbjjfecblhpaa.Pd
open Go.ChangeShapes Go.WideShapes Go.Deep Go.RowKit Go.Joins Go.ChangeAt Go.Proofs.YtbbbjjfecblhpaaW.PrintWords Go.Proofs.Ytbbbjjfecblhpaa.Op
open Pm
set_option linter.unusedVariables false
set_option linter.unusedSimpArgs false
set_option linter.constructorNameAsVariable false
section
variable {H : Type} {enc : TypeId × Value → H} {P : Program} {w : World} {base : Nat} {spare : Nat → Bool} {held : Bool}
theorem open_rowsC {t e : TypeId} {fs : Array Field} {fuel : Nat} {x : Value} {y : DataW H × List MemPlace} (ht : P.underlying t = some (.slice e)) (he : P.underlying e = some (.struct fs))
  (hone : oneCellFields P fs = true) (hC : P.cellsOf e = fs.size) (hint : ∀ (j : Nat) (f : Field), fs[j]? = some f → P.underlying f.type = some (.int .i64)) (h : DataW.trod enc P w base spare held fuel t [x] = some y) :
  ∃ (A : Option Addr) (cap : Nat) (rows : List (List Int)), x = .slice A rows.length cap ∧ (A = none → cap = 0) ∧ rows.length ≤ cap ∧ cap ≤ maxLen ∧ IntRows w A fs.size rows := by
 have hx : ∃ A0 n0 c0, x = .slice A0 n0 c0 := by
  rcases open_slice ht h with ⟨h0, _⟩ | ⟨a, len, cap, m, n, D, Pl, h0, _⟩
  ·simp at h0; exact ⟨_, _, _, h0⟩
  ·simp at h0; exact ⟨_, _, _, h0⟩
 obtain ⟨A0, n0, c0, rfl⟩ := hx
 have hf : DataW.trod enc P w base spare held fuel t (Value.slice A0 n0 c0).cells.toList = some y := h
 rcases open_slice ht hf with ⟨h0, _⟩ | ⟨a, len, cap, m, n, D, Pl, hcs, hb, hl, hm, hmm, hx, hi⟩
 ·simp [Value.cells] at h0
  obtain ⟨rfl, rfl, rfl⟩ := h0
  exact ⟨none, 0, [], rfl, fun _ => rfl, Nat.le_refl _, Nat.zero_le _, fun r hr => by simp at hr, fun i r h => by simp at h⟩
 ·simp [Value.cells] at hcs
  obtain ⟨rfl, rfl, rfl⟩ := hcs
  have hlm : n0 ≤ m := by rw [hmm]; split <;> omega
  obtain ⟨rows, hrl, hrows⟩ := list_of (P := fun i (r : List Int) => (r.length = fs.size ∧ ∀ x ∈ r, (Lit.int .i64 x).wf = true) ∧ ∀ (j : Nat) (x : Int), r[j]? = some x → w.cell? (a.add (i * fs.size + j)) = some (.int .i64 x)) n0 (fun i hin => by
   obtain ⟨cs', hc, ht'⟩ := hi i (by omega)
   rw [hC] at hc
   obtain ⟨ys, n', hn', hy, hlen, hyl, hfl⟩ := DataW.trod_struct he ht'
   obtain ⟨_, hcl, hat⟩ := World.cells?_some hc
   obtain ⟨r, hr1, hr2⟩ := list_of (P := fun j (x : Int) => w.cell? (a.add (i * fs.size + j)) = some (.int .i64 x) ∧ (Lit.int .i64 x).wf = true) fs.size (fun j hj => by
    obtain ⟨f, hfj⟩ : ∃ f, fs[j]? = some f := ⟨_, Array.getElem?_eq_getElem hj⟩
    obtain ⟨ho, hk⟩ := hone_of' hone j f hfj
    have h1 := hfl j f hfj
    rw [ho, hk] at h1
    have hone' : (cs'.drop j).take 1 = [cs'[j]'(by omega)] := by
     rw [List.drop_eq_getElem_cons (by omega)]
     rfl
    rw [hone'] at h1
    have hys : ys[j]? = some (ys[j]'(by omega)) := List.getElem?_eq_getElem (by omega)
    rw [hys] at h1
    obtain ⟨x, hx1, _, hx3⟩ := DataW.trod_int (hint j f hfj) h1
    simp at hx1
    refine ⟨x, ?_, hx3⟩
    rw [← Go.Deep.add_add, hat j hj, List.getElem?_eq_getElem (by omega), hx1])
   exact ⟨r, ⟨hr1, fun x hx => by
    obtain ⟨j, hj, rfl⟩ := List.getElem_of_mem hx
    exact (hr2 j _ (List.getElem?_eq_getElem hj)).2⟩, fun j x hj => (hr2 j x hj).1⟩)
  subst hrl
  refine ⟨some a, c0, rows, rfl, (fun h => by cases h), hl, hm, fun r hr => ?_, fun i r hi => ⟨a, rfl, (hrows i r hi).2⟩⟩
  obtain ⟨i, hi2, rfl⟩ := List.getElem_of_mem hr
  exact (hrows i _ (List.getElem?_eq_getElem hi2)).1
theorem open_intsC {t e : TypeId} {fuel : Nat} {x : Value} {y : DataW H × List MemPlace} (ht : P.underlying t = some (.slice e)) (he : P.underlying e = some (.int .i64)) (hc : P.cellsOf e = 1) (h : DataW.trod enc P w base (fun _ => true) held fuel t [x] = some y) :
  ∃ (A : Option Addr) (cap : Nat) (l : List Int), x = .slice A l.length cap ∧ (A = none → cap = 0) ∧ l.length ≤ cap ∧ cap ≤ maxLen ∧ Kd.C (Kd.int .i64) w A l.length l := by
 rcases open_ints ht he hc h with ⟨hcs, _⟩ | ⟨a, len, cap, zs, hcs, _, hl, hm, hz, _, hcell, hwz⟩
 ·simp at hcs
  exact ⟨none, 0, [], hcs, fun _ => rfl, Nat.le_refl _, Nat.zero_le _, Kd.C_nil _ w⟩
 ·simp at hcs
  have hz' : zs.length = cap := by simpa using hz
  have hlen : (zs.take len).length = len := by rw [List.length_take]; omega
  refine ⟨some a, cap, zs.take len, by rw [hlen]; exact hcs, (fun h => by cases h), by omega, hm, ?_⟩
  refine Kd.C_of_reads (d := (0 : Int)) ⟨rfl, by unfold maxLen at hm; omega, fun _ => ⟨a, rfl, fun j hj => ?_⟩⟩
  rw [hlen] at hj
  rw [hcell j (by omega)]
  congr 2
  rw [List.getD_eq_getElem?_getD, List.getD_eq_getElem?_getD, List.getElem?_take]
  simp [hj]
theorem arr19 {cs : Array Value} (h : cs.size = 19) : ∃ v0 v1 v2 v3 v4 v5 v6 v7 v8 v9 v10 v11 v12 v13 v14 v15 v16 v17 v18, cs = #[v0, v1, v2, v3, v4, v5, v6, v7, v8, v9, v10, v11, v12, v13, v14, v15, v16, v17, v18] := by
 obtain ⟨l⟩ := cs
 match l, h with
 | [v0, v1, v2, v3, v4, v5, v6, v7, v8, v9, v10, v11, v12, v13, v14, v15, v16, v17, v18], _ => exact ⟨v0, v1, v2, v3, v4, v5, v6, v7, v8, v9, v10, v11, v12, v13, v14, v15, v16, v17, v18, rfl⟩
end
theorem cells_prod : Try.prog.cellsOf 27 = 19 := by kernel_rfl
theorem cells_string : Try.prog.cellsOf 9 = 1 := by kernel_rfl
theorem cells_int : Try.prog.cellsOf 3 = 1 := by kernel_rfl
theorem cells_int64 : Try.prog.cellsOf 2 = 1 := by kernel_rfl
theorem cells_resets : Try.prog.cellsOf 22 = 1 := by kernel_rfl
theorem cells_tiers : Try.prog.cellsOf 24 = 1 := by kernel_rfl
theorem cells_ints : Try.prog.cellsOf 25 = 1 := by kernel_rfl
theorem cells_four : Try.prog.cellsOf 23 = 4 := by kernel_rfl
set_option maxRecDepth 100000 in
theorem open_prod {H : Type} {enc : TypeId × Value → H} {w : World} {base b0 : Nat} {held : Bool} {r : Reach} {v : Value} {d : DataW H} {q : List MemPlace} (hv : Value.okWide Try.prog w r b0 27 v) (h : DataW.Trod enc Try.prog w base (fun _ => true) held 27 v d q) :
  ∃ (p : Prod) (A1 : Option Addr) (c1 : Nat) (A2 : Option Addr) (c2 : Nat) (A3 : Option Addr) (c3 : Nat), v = pv p A1 c1 A2 c2 A3 c3 ∧ ProdAt w p A1 c1 A2 c2 A3 c3 ∧ p.name.size ≤ maxLen ∧ c1 ≤ maxLen ∧ c2 ≤ maxLen ∧ c3 ≤ maxLen := by
 obtain ⟨cs, rfl, hsz⟩ := okWide_struct Try.underlying27 hv
 obtain ⟨v0, v1, v2, v3, v4, v5, v6, v7, v8, v9, v10, v11, v12, v13, v14, v15, v16, v17, v18, rfl⟩ := arr19 (hsz.trans cells_prod)
 obtain ⟨fuel, hf⟩ := h
 obtain ⟨xs, n, _, hx, hl, hlen, hfl⟩ := DataW.trod_struct Try.underlying27 hf
 have hy : ∀ i, i < 16 → ∃ y, xs[i]? = some y := fun i hi => ⟨_, List.getElem?_eq_getElem (by rw [hlen]; exact hi)⟩
 obtain ⟨y0, e0⟩ := hy 0 (by decide)
 have g0 : DataW.trod enc Try.prog w base (fun _ => true) held n 9 ([v0, v1, v2, v3, v4, v5, v6, v7, v8, v9, v10, v11, v12, v13, v14, v15, v16, v17, v18].drop 0 |>.take (Try.prog.cellsOf 9)) = some y0 := (hfl 0 _ rfl).trans e0
 rw [cells_string] at g0
 have k0 : DataW.trod enc Try.prog w base (fun _ => true) held n 9 [v0] = some y0 := g0
 obtain ⟨y1, e1⟩ := hy 1 (by decide)
 have g1 : DataW.trod enc Try.prog w base (fun _ => true) held n 3 ([v0, v1, v2, v3, v4, v5, v6, v7, v8, v9, v10, v11, v12, v13, v14, v15, v16, v17, v18].drop 1 |>.take (Try.prog.cellsOf 3)) = some y1 := (hfl 1 _ rfl).trans e1
 rw [cells_int] at g1
 have k1 : DataW.trod enc Try.prog w base (fun _ => true) held n 3 [v1] = some y1 := g1
 obtain ⟨y2, e2⟩ := hy 2 (by decide)
 have g2 : DataW.trod enc Try.prog w base (fun _ => true) held n 3 ([v0, v1, v2, v3, v4, v5, v6, v7, v8, v9, v10, v11, v12, v13, v14, v15, v16, v17, v18].drop 2 |>.take (Try.prog.cellsOf 3)) = some y2 := (hfl 2 _ rfl).trans e2
 rw [cells_int] at g2
 have k2 : DataW.trod enc Try.prog w base (fun _ => true) held n 3 [v2] = some y2 := g2
 obtain ⟨y3, e3⟩ := hy 3 (by decide)
 have g3 : DataW.trod enc Try.prog w base (fun _ => true) held n 3 ([v0, v1, v2, v3, v4, v5, v6, v7, v8, v9, v10, v11, v12, v13, v14, v15, v16, v17, v18].drop 3 |>.take (Try.prog.cellsOf 3)) = some y3 := (hfl 3 _ rfl).trans e3
 rw [cells_int] at g3
 have k3 : DataW.trod enc Try.prog w base (fun _ => true) held n 3 [v3] = some y3 := g3
 obtain ⟨y4, e4⟩ := hy 4 (by decide)
 have g4 : DataW.trod enc Try.prog w base (fun _ => true) held n 3 ([v0, v1, v2, v3, v4, v5, v6, v7, v8, v9, v10, v11, v12, v13, v14, v15, v16, v17, v18].drop 4 |>.take (Try.prog.cellsOf 3)) = some y4 := (hfl 4 _ rfl).trans e4
 rw [cells_int] at g4
 have k4 : DataW.trod enc Try.prog w base (fun _ => true) held n 3 [v4] = some y4 := g4
 obtain ⟨y5, e5⟩ := hy 5 (by decide)
 have g5 : DataW.trod enc Try.prog w base (fun _ => true) held n 3 ([v0, v1, v2, v3, v4, v5, v6, v7, v8, v9, v10, v11, v12, v13, v14, v15, v16, v17, v18].drop 5 |>.take (Try.prog.cellsOf 3)) = some y5 := (hfl 5 _ rfl).trans e5
 rw [cells_int] at g5
 have k5 : DataW.trod enc Try.prog w base (fun _ => true) held n 3 [v5] = some y5 := g5
 obtain ⟨y6, e6⟩ := hy 6 (by decide)
 have g6 : DataW.trod enc Try.prog w base (fun _ => true) held n 3 ([v0, v1, v2, v3, v4, v5, v6, v7, v8, v9, v10, v11, v12, v13, v14, v15, v16, v17, v18].drop 6 |>.take (Try.prog.cellsOf 3)) = some y6 := (hfl 6 _ rfl).trans e6
 rw [cells_int] at g6
 have k6 : DataW.trod enc Try.prog w base (fun _ => true) held n 3 [v6] = some y6 := g6
 obtain ⟨y7, e7⟩ := hy 7 (by decide)
 have g7 : DataW.trod enc Try.prog w base (fun _ => true) held n 2 ([v0, v1, v2, v3, v4, v5, v6, v7, v8, v9, v10, v11, v12, v13, v14, v15, v16, v17, v18].drop 7 |>.take (Try.prog.cellsOf 2)) = some y7 := (hfl 7 _ rfl).trans e7
 rw [cells_int64] at g7
 have k7 : DataW.trod enc Try.prog w base (fun _ => true) held n 2 [v7] = some y7 := g7
 obtain ⟨y8, e8⟩ := hy 8 (by decide)
 have g8 : DataW.trod enc Try.prog w base (fun _ => true) held n 22 ([v0, v1, v2, v3, v4, v5, v6, v7, v8, v9, v10, v11, v12, v13, v14, v15, v16, v17, v18].drop 8 |>.take (Try.prog.cellsOf 22)) = some y8 := (hfl 8 _ rfl).trans e8
 rw [cells_resets] at g8
 have k8 : DataW.trod enc Try.prog w base (fun _ => true) held n 22 [v8] = some y8 := g8
 obtain ⟨y9, e9⟩ := hy 9 (by decide)
 have g9 : DataW.trod enc Try.prog w base (fun _ => true) held n 2 ([v0, v1, v2, v3, v4, v5, v6, v7, v8, v9, v10, v11, v12, v13, v14, v15, v16, v17, v18].drop 9 |>.take (Try.prog.cellsOf 2)) = some y9 := (hfl 9 _ rfl).trans e9
 rw [cells_int64] at g9
 have k9 : DataW.trod enc Try.prog w base (fun _ => true) held n 2 [v9] = some y9 := g9
 obtain ⟨y10, e10⟩ := hy 10 (by decide)
 have g10 : DataW.trod enc Try.prog w base (fun _ => true) held n 23 ([v0, v1, v2, v3, v4, v5, v6, v7, v8, v9, v10, v11, v12, v13, v14, v15, v16, v17, v18].drop 10 |>.take (Try.prog.cellsOf 23)) = some y10 := (hfl 10 _ rfl).trans e10
 rw [cells_four] at g10
 have k10 : DataW.trod enc Try.prog w base (fun _ => true) held n 23 [v10, v11, v12, v13] = some y10 := g10
 obtain ⟨y11, e11⟩ := hy 11 (by decide)
 have g11 : DataW.trod enc Try.prog w base (fun _ => true) held n 3 ([v0, v1, v2, v3, v4, v5, v6, v7, v8, v9, v10, v11, v12, v13, v14, v15, v16, v17, v18].drop 14 |>.take (Try.prog.cellsOf 3)) = some y11 := (hfl 11 _ rfl).trans e11
 rw [cells_int] at g11
 have k11 : DataW.trod enc Try.prog w base (fun _ => true) held n 3 [v14] = some y11 := g11
 obtain ⟨y12, e12⟩ := hy 12 (by decide)
 have g12 : DataW.trod enc Try.prog w base (fun _ => true) held n 24 ([v0, v1, v2, v3, v4, v5, v6, v7, v8, v9, v10, v11, v12, v13, v14, v15, v16, v17, v18].drop 15 |>.take (Try.prog.cellsOf 24)) = some y12 := (hfl 12 _ rfl).trans e12
 rw [cells_tiers] at g12
 have k12 : DataW.trod enc Try.prog w base (fun _ => true) held n 24 [v15] = some y12 := g12
 obtain ⟨y13, e13⟩ := hy 13 (by decide)
 have g13 : DataW.trod enc Try.prog w base (fun _ => true) held n 2 ([v0, v1, v2, v3, v4, v5, v6, v7, v8, v9, v10, v11, v12, v13, v14, v15, v16, v17, v18].drop 16 |>.take (Try.prog.cellsOf 2)) = some y13 := (hfl 13 _ rfl).trans e13
 rw [cells_int64] at g13
 have k13 : DataW.trod enc Try.prog w base (fun _ => true) held n 2 [v16] = some y13 := g13
 obtain ⟨y14, e14⟩ := hy 14 (by decide)
 have g14 : DataW.trod enc Try.prog w base (fun _ => true) held n 3 ([v0, v1, v2, v3, v4, v5, v6, v7, v8, v9, v10, v11, v12, v13, v14, v15, v16, v17, v18].drop 17 |>.take (Try.prog.cellsOf 3)) = some y14 := (hfl 14 _ rfl).trans e14
 rw [cells_int] at g14
 have k14 : DataW.trod enc Try.prog w base (fun _ => true) held n 3 [v17] = some y14 := g14
 obtain ⟨y15, e15⟩ := hy 15 (by decide)
 have g15 : DataW.trod enc Try.prog w base (fun _ => true) held n 25 ([v0, v1, v2, v3, v4, v5, v6, v7, v8, v9, v10, v11, v12, v13, v14, v15, v16, v17, v18].drop 18 |>.take (Try.prog.cellsOf 25)) = some y15 := (hfl 15 _ rfl).trans e15
 rw [cells_ints] at g15
 have k15 : DataW.trod enc Try.prog w base (fun _ => true) held n 25 [v18] = some y15 := g15
 clear hy hfl hf
 obtain ⟨nm, m0, _, z0⟩ := DataW.trod_string Try.underlying9 k0
 simp at m0
 subst m0
 obtain ⟨x1, m1, _, _⟩ := DataW.trod_int Try.underlying3 k1
 simp at m1
 subst m1
 obtain ⟨x2, m2, _, _⟩ := DataW.trod_int Try.underlying3 k2
 simp at m2
 subst m2
 obtain ⟨x3, m3, _, _⟩ := DataW.trod_int Try.underlying3 k3
 simp at m3
 subst m3
 obtain ⟨x4, m4, _, _⟩ := DataW.trod_int Try.underlying3 k4
 simp at m4
 subst m4
 obtain ⟨x5, m5, _, _⟩ := DataW.trod_int Try.underlying3 k5
 simp at m5
 subst m5
 obtain ⟨x6, m6, _, _⟩ := DataW.trod_int Try.underlying3 k6
 simp at m6
 subst m6
 obtain ⟨x7, m7, _, _⟩ := DataW.trod_int Try.underlying2 k7
 simp at m7
 subst m7
 obtain ⟨x9, m9, _, _⟩ := DataW.trod_int Try.underlying2 k9
 simp at m9
 subst m9
 obtain ⟨x11, m11, _, _⟩ := DataW.trod_int Try.underlying3 k11
 simp at m11
 subst m11
 obtain ⟨x13, m13, _, _⟩ := DataW.trod_int Try.underlying2 k13
 simp at m13
 subst m13
 obtain ⟨x14, m14, _, _⟩ := DataW.trod_int Try.underlying3 k14
 simp at m14
 subst m14
 obtain ⟨u0, u1, u2, u3, nn, _, f0, f1, f2, f3⟩ := trod_array4 Try.underlying23 cells_int k10
 obtain ⟨o0, mo0, _, _⟩ := DataW.trod_int Try.underlying3 f0
 simp at mo0
 subst mo0
 obtain ⟨o1, mo1, _, _⟩ := DataW.trod_int Try.underlying3 f1
 simp at mo1
 subst mo1
 obtain ⟨o2, mo2, _, _⟩ := DataW.trod_int Try.underlying3 f2
 simp at mo2
 subst mo2
 obtain ⟨o3, mo3, _, _⟩ := DataW.trod_int Try.underlying3 f3
 simp at mo3
 subst mo3
 obtain ⟨A1, c1, l1, rfl, n1, lc1, cm1, hr1⟩ := open_rowsC Try.underlying22 Try.underlying126 (by kernel_rfl) (by kernel_rfl) (fun j f hj => by have hmem := Array.mem_of_getElem? hj; simp at hmem; rcases hmem with rfl | rfl <;> first | exact Try.underlying3 | exact Try.underlying2) k8
 obtain ⟨A2, c2, l2, rfl, n2, lc2, cm2, hr2⟩ := open_rowsC Try.underlying24 Try.underlying128 (by kernel_rfl) (by kernel_rfl) (fun j f hj => by have hmem := Array.mem_of_getElem? hj; simp at hmem; rcases hmem with rfl | rfl <;> first | exact Try.underlying3 | exact Try.underlying2) k12
 obtain ⟨A3, c3, l3, rfl, n3, lc3, cm3, hr3⟩ := open_intsC Try.underlying25 Try.underlying3 cells_int k15
 exact ⟨{ name := nm, count := x1, round := x2, kind := x3, every := x4, times := x5, grace := x6, rate := x7, resets := l1, penalty := x9, o1 := o0, o2 := o1, o3 := o2, o4 := o3, over := x11, late := l2, cap := x13, roll := x14, hol := l3 }, A1, c1, A2, c2, A3, c3, rfl, ⟨hr1, lc1, n1, hr2, lc2, n2, hr3, lc3, n3⟩, z0, cm1, cm2, cm3⟩
end Go.Proofs.Ytbbbjjfecblhpaa.Pd
/- Arguments opened: a loan's state. -/
namespace Go.Proofs.Ytbbbjjfecblhpaa.Nt
open Go.ChangeShapes Go.WideShapes Go.Deep Go.RowKit Go.Joins Go.ChangeAt Go.Proofs.YtbbbjjfecblhpaaW.PrintWords Go.Proofs.Ytbbbjjfecblhpaa.Op Go.Proofs.Ytbbbjjfecblhpaa.Pd
set_option linter.unusedVariables false
set_option linter.unusedSimpArgs false
set_option linter.constructorNameAsVariable false
theorem cells_state : Try.prog.cellsOf 33 = 19 := by kernel_rfl
theorem cells_money : Try.prog.cellsOf 31 = 10 := by kernel_rfl
theorem cells_boolN : Try.prog.cellsOf 4 = 1 := by kernel_rfl
theorem cells_i64s : Try.prog.cellsOf 28 = 1 := by kernel_rfl
theorem cells_dues : Try.prog.cellsOf 29 = 1 := by kernel_rfl
structure Comes (w : World) (s : St) (L : Option Addr) (lc : Nat) (D : Option Addr) (dc : Nat) : Prop where
 plan : Kd.C (Kd.int .i64) w L s.plan.length s.plan
 pc : s.plan.length ≤ lc
 pn : L = none → lc = 0
 pm : lc ≤ maxLen
 rows : Op.IntRows w D 4 s.m.dues
 dc_ : s.m.dues.length ≤ dc
 dn : D = none → dc = 0
 dm : dc ≤ maxLen
theorem Comes.st {w : World} {s : St} {L : Option Addr} {lc : Nat} {D : Option Addr} {dc : Nat} (h : Comes w s L lc D dc) (h1 : s.plan.length ≤ 1000000) (h2 : s.m.dues.length ≤ 1000000) : StAt w s L lc D dc := ⟨h.plan, h.pc, h.pn, h1, h.rows, h.dc_, h.dn, h2⟩
set_option maxRecDepth 100000 in
theorem open_state {H : Type} {enc : TypeId × Value → H} {w : World} {base b0 : Nat} {held : Bool} {r : Reach} {v : Value} {d : DataW H} {q : List MemPlace} (hv : Value.okWide Try.prog w r b0 33 v) (h : DataW.Trod enc Try.prog w base (fun _ => true) held 33 v d q) :
  ∃ (s : St) (L : Option Addr) (lc : Nat) (D : Option Addr) (dc : Nat), v = sv s L lc D dc ∧ Comes w s L lc D dc := by
 obtain ⟨cs, rfl, hsz⟩ := okWide_struct Try.underlying33 hv
 obtain ⟨v0, v1, v2, v3, v4, v5, v6, v7, v8, v9, v10, v11, v12, v13, v14, v15, v16, v17, v18, rfl⟩ := arr19 (hsz.trans cells_state)
 obtain ⟨fuel, hf⟩ := h
 obtain ⟨xs, n, _, hx, hl, hlen, hfl⟩ := DataW.trod_struct Try.underlying33 hf
 have hy : ∀ i, i < 10 → ∃ y, xs[i]? = some y := fun i hi => ⟨_, List.getElem?_eq_getElem (by rw [hlen]; exact hi)⟩
 obtain ⟨y0, e0⟩ := hy 0 (by decide)
 have g0 : DataW.trod enc Try.prog w base (fun _ => true) held n 3 ([v0, v1, v2, v3, v4, v5, v6, v7, v8, v9, v10, v11, v12, v13, v14, v15, v16, v17, v18].drop 0 |>.take (Try.prog.cellsOf 3)) = some y0 := (hfl 0 _ rfl).trans e0
 rw [cells_int] at g0
 have k0 : DataW.trod enc Try.prog w base (fun _ => true) held n 3 [v0] = some y0 := g0
 obtain ⟨y1, e1⟩ := hy 1 (by decide)
 have g1 : DataW.trod enc Try.prog w base (fun _ => true) held n 4 ([v0, v1, v2, v3, v4, v5, v6, v7, v8, v9, v10, v11, v12, v13, v14, v15, v16, v17, v18].drop 1 |>.take (Try.prog.cellsOf 4)) = some y1 := (hfl 1 _ rfl).trans e1
 rw [cells_boolN] at g1
 have k1 : DataW.trod enc Try.prog w base (fun _ => true) held n 4 [v1] = some y1 := g1
 obtain ⟨y2, e2⟩ := hy 2 (by decide)
 have g2 : DataW.trod enc Try.prog w base (fun _ => true) held n 3 ([v0, v1, v2, v3, v4, v5, v6, v7, v8, v9, v10, v11, v12, v13, v14, v15, v16, v17, v18].drop 2 |>.take (Try.prog.cellsOf 3)) = some y2 := (hfl 2 _ rfl).trans e2
 rw [cells_int] at g2
 have k2 : DataW.trod enc Try.prog w base (fun _ => true) held n 3 [v2] = some y2 := g2
 obtain ⟨y3, e3⟩ := hy 3 (by decide)
 have g3 : DataW.trod enc Try.prog w base (fun _ => true) held n 28 ([v0, v1, v2, v3, v4, v5, v6, v7, v8, v9, v10, v11, v12, v13, v14, v15, v16, v17, v18].drop 3 |>.take (Try.prog.cellsOf 28)) = some y3 := (hfl 3 _ rfl).trans e3
 rw [cells_i64s] at g3
 have k3 : DataW.trod enc Try.prog w base (fun _ => true) held n 28 [v3] = some y3 := g3
 obtain ⟨y4, e4⟩ := hy 4 (by decide)
 have g4 : DataW.trod enc Try.prog w base (fun _ => true) held n 3 ([v0, v1, v2, v3, v4, v5, v6, v7, v8, v9, v10, v11, v12, v13, v14, v15, v16, v17, v18].drop 4 |>.take (Try.prog.cellsOf 3)) = some y4 := (hfl 4 _ rfl).trans e4
 rw [cells_int] at g4
 have k4 : DataW.trod enc Try.prog w base (fun _ => true) held n 3 [v4] = some y4 := g4
 obtain ⟨y5, e5⟩ := hy 5 (by decide)
 have g5 : DataW.trod enc Try.prog w base (fun _ => true) held n 2 ([v0, v1, v2, v3, v4, v5, v6, v7, v8, v9, v10, v11, v12, v13, v14, v15, v16, v17, v18].drop 5 |>.take (Try.prog.cellsOf 2)) = some y5 := (hfl 5 _ rfl).trans e5
 rw [cells_int64] at g5
 have k5 : DataW.trod enc Try.prog w base (fun _ => true) held n 2 [v5] = some y5 := g5
 obtain ⟨y6, e6⟩ := hy 6 (by decide)
 have g6 : DataW.trod enc Try.prog w base (fun _ => true) held n 31 ([v0, v1, v2, v3, v4, v5, v6, v7, v8, v9, v10, v11, v12, v13, v14, v15, v16, v17, v18].drop 6 |>.take (Try.prog.cellsOf 31)) = some y6 := (hfl 6 _ rfl).trans e6
 rw [cells_money] at g6
 have k6 : DataW.trod enc Try.prog w base (fun _ => true) held n 31 [v6, v7, v8, v9, v10, v11, v12, v13, v14, v15] = some y6 := g6
 obtain ⟨y7, e7⟩ := hy 7 (by decide)
 have g7 : DataW.trod enc Try.prog w base (fun _ => true) held n 2 ([v0, v1, v2, v3, v4, v5, v6, v7, v8, v9, v10, v11, v12, v13, v14, v15, v16, v17, v18].drop 16 |>.take (Try.prog.cellsOf 2)) = some y7 := (hfl 7 _ rfl).trans e7
 rw [cells_int64] at g7
 have k7 : DataW.trod enc Try.prog w base (fun _ => true) held n 2 [v16] = some y7 := g7
 obtain ⟨y8, e8⟩ := hy 8 (by decide)
 have g8 : DataW.trod enc Try.prog w base (fun _ => true) held n 2 ([v0, v1, v2, v3, v4, v5, v6, v7, v8, v9, v10, v11, v12, v13, v14, v15, v16, v17, v18].drop 17 |>.take (Try.prog.cellsOf 2)) = some y8 := (hfl 8 _ rfl).trans e8
 rw [cells_int64] at g8
 have k8 : DataW.trod enc Try.prog w base (fun _ => true) held n 2 [v17] = some y8 := g8
 obtain ⟨y9, e9⟩ := hy 9 (by decide)
 have g9 : DataW.trod enc Try.prog w base (fun _ => true) held n 2 ([v0, v1, v2, v3, v4, v5, v6, v7, v8, v9, v10, v11, v12, v13, v14, v15, v16, v17, v18].drop 18 |>.take (Try.prog.cellsOf 2)) = some y9 := (hfl 9 _ rfl).trans e9
 rw [cells_int64] at g9
 have k9 : DataW.trod enc Try.prog w base (fun _ => true) held n 2 [v18] = some y9 := g9
 obtain ⟨xs2, n2, _, hx2, hl2, hlen2, hfl2⟩ := DataW.trod_struct Try.underlying31 k6
 have hy2 : ∀ i, i < 10 → ∃ y, xs2[i]? = some y := fun i hi => ⟨_, List.getElem?_eq_getElem (by rw [hlen2]; exact hi)⟩
 obtain ⟨my0, me0⟩ := hy2 0 (by decide)
 have mg0 : DataW.trod enc Try.prog w base (fun _ => true) held n2 2 ([v6, v7, v8, v9, v10, v11, v12, v13, v14, v15].drop 0 |>.take (Try.prog.cellsOf 2)) = some my0 := (hfl2 0 _ rfl).trans me0
 rw [cells_int64] at mg0
 have mk0 : DataW.trod enc Try.prog w base (fun _ => true) held n2 2 [v6] = some my0 := mg0
 obtain ⟨my1, me1⟩ := hy2 1 (by decide)
 have mg1 : DataW.trod enc Try.prog w base (fun _ => true) held n2 2 ([v6, v7, v8, v9, v10, v11, v12, v13, v14, v15].drop 1 |>.take (Try.prog.cellsOf 2)) = some my1 := (hfl2 1 _ rfl).trans me1
 rw [cells_int64] at mg1
 have mk1 : DataW.trod enc Try.prog w base (fun _ => true) held n2 2 [v7] = some my1 := mg1
 obtain ⟨my2, me2⟩ := hy2 2 (by decide)
 have mg2 : DataW.trod enc Try.prog w base (fun _ => true) held n2 29 ([v6, v7, v8, v9, v10, v11, v12, v13, v14, v15].drop 2 |>.take (Try.prog.cellsOf 29)) = some my2 := (hfl2 2 _ rfl).trans me2
 rw [cells_dues] at mg2
 have mk2 : DataW.trod enc Try.prog w base (fun _ => true) held n2 29 [v8] = some my2 := mg2
 obtain ⟨my3, me3⟩ := hy2 3 (by decide)
 have mg3 : DataW.trod enc Try.prog w base (fun _ => true) held n2 2 ([v6, v7, v8, v9, v10, v11, v12, v13, v14, v15].drop 3 |>.take (Try.prog.cellsOf 2)) = some my3 := (hfl2 3 _ rfl).trans me3
 rw [cells_int64] at mg3
 have mk3 : DataW.trod enc Try.prog w base (fun _ => true) held n2 2 [v9] = some my3 := mg3
 obtain ⟨my4, me4⟩ := hy2 4 (by decide)
 have mg4 : DataW.trod enc Try.prog w base (fun _ => true) held n2 2 ([v6, v7, v8, v9, v10, v11, v12, v13, v14, v15].drop 4 |>.take (Try.prog.cellsOf 2)) = some my4 := (hfl2 4 _ rfl).trans me4
 rw [cells_int64] at mg4
 have mk4 : DataW.trod enc Try.prog w base (fun _ => true) held n2 2 [v10] = some my4 := mg4
 obtain ⟨my5, me5⟩ := hy2 5 (by decide)
 have mg5 : DataW.trod enc Try.prog w base (fun _ => true) held n2 2 ([v6, v7, v8, v9, v10, v11, v12, v13, v14, v15].drop 5 |>.take (Try.prog.cellsOf 2)) = some my5 := (hfl2 5 _ rfl).trans me5
 rw [cells_int64] at mg5
 have mk5 : DataW.trod enc Try.prog w base (fun _ => true) held n2 2 [v11] = some my5 := mg5
 obtain ⟨my6, me6⟩ := hy2 6 (by decide)
 have mg6 : DataW.trod enc Try.prog w base (fun _ => true) held n2 2 ([v6, v7, v8, v9, v10, v11, v12, v13, v14, v15].drop 6 |>.take (Try.prog.cellsOf 2)) = some my6 := (hfl2 6 _ rfl).trans me6
 rw [cells_int64] at mg6
 have mk6 : DataW.trod enc Try.prog w base (fun _ => true) held n2 2 [v12] = some my6 := mg6
 obtain ⟨my7, me7⟩ := hy2 7 (by decide)
 have mg7 : DataW.trod enc Try.prog w base (fun _ => true) held n2 2 ([v6, v7, v8, v9, v10, v11, v12, v13, v14, v15].drop 7 |>.take (Try.prog.cellsOf 2)) = some my7 := (hfl2 7 _ rfl).trans me7
 rw [cells_int64] at mg7
 have mk7 : DataW.trod enc Try.prog w base (fun _ => true) held n2 2 [v13] = some my7 := mg7
 obtain ⟨my8, me8⟩ := hy2 8 (by decide)
 have mg8 : DataW.trod enc Try.prog w base (fun _ => true) held n2 2 ([v6, v7, v8, v9, v10, v11, v12, v13, v14, v15].drop 8 |>.take (Try.prog.cellsOf 2)) = some my8 := (hfl2 8 _ rfl).trans me8
 rw [cells_int64] at mg8
 have mk8 : DataW.trod enc Try.prog w base (fun _ => true) held n2 2 [v14] = some my8 := mg8
 obtain ⟨my9, me9⟩ := hy2 9 (by decide)
 have mg9 : DataW.trod enc Try.prog w base (fun _ => true) held n2 2 ([v6, v7, v8, v9, v10, v11, v12, v13, v14, v15].drop 9 |>.take (Try.prog.cellsOf 2)) = some my9 := (hfl2 9 _ rfl).trans me9
 rw [cells_int64] at mg9
 have mk9 : DataW.trod enc Try.prog w base (fun _ => true) held n2 2 [v15] = some my9 := mg9
 clear hy hfl hf hy2 hfl2
 obtain ⟨x0, q0, _, _⟩ := DataW.trod_int Try.underlying3 k0
 simp at q0
 subst q0
 obtain ⟨x1, q1, _⟩ := DataW.trod_bool Try.underlying4 k1
 simp at q1
 subst q1
 obtain ⟨x2, q2, _, _⟩ := DataW.trod_int Try.underlying3 k2
 simp at q2
 subst q2
 obtain ⟨x4, q4, _, _⟩ := DataW.trod_int Try.underlying3 k4
 simp at q4
 subst q4
 obtain ⟨x5, q5, _, _⟩ := DataW.trod_int Try.underlying2 k5
 simp at q5
 subst q5
 obtain ⟨x7, q7, _, _⟩ := DataW.trod_int Try.underlying2 k7
 simp at q7
 subst q7
 obtain ⟨x8, q8, _, _⟩ := DataW.trod_int Try.underlying2 k8
 simp at q8
 subst q8
 obtain ⟨x9, q9, _, _⟩ := DataW.trod_int Try.underlying2 k9
 simp at q9
 subst q9
 obtain ⟨z0, mq0, _, _⟩ := DataW.trod_int Try.underlying2 mk0
 simp at mq0
 subst mq0
 obtain ⟨z1, mq1, _, _⟩ := DataW.trod_int Try.underlying2 mk1
 simp at mq1
 subst mq1
 obtain ⟨z3, mq3, _, _⟩ := DataW.trod_int Try.underlying2 mk3
 simp at mq3
 subst mq3
 obtain ⟨z4, mq4, _, _⟩ := DataW.trod_int Try.underlying2 mk4
 simp at mq4
 subst mq4
 obtain ⟨z5, mq5, _, _⟩ := DataW.trod_int Try.underlying2 mk5
 simp at mq5
 subst mq5
 obtain ⟨z6, mq6, _, _⟩ := DataW.trod_int Try.underlying2 mk6
 simp at mq6
 subst mq6
 obtain ⟨z7, mq7, _, _⟩ := DataW.trod_int Try.underlying2 mk7
 simp at mq7
 subst mq7
 obtain ⟨z8, mq8, _, _⟩ := DataW.trod_int Try.underlying2 mk8
 simp at mq8
 subst mq8
 obtain ⟨z9, mq9, _, _⟩ := DataW.trod_int Try.underlying2 mk9
 simp at mq9
 subst mq9
 obtain ⟨L, lc, l, rfl, n1, lc1, cm1, hr1⟩ := open_intsC Try.underlying28 Try.underlying2 cells_int64 k3
 obtain ⟨D, dc, rows, rfl, n2, lc2, cm2, hr2⟩ := open_rowsC Try.underlying29 Try.underlying47 (by kernel_rfl) (by kernel_rfl) (fun j f hj => by have hmem := Array.mem_of_getElem? hj; simp at hmem; rcases hmem with rfl | rfl | rfl | rfl <;> first | exact Try.underlying3 | exact Try.underlying2) mk2
 exact ⟨{ day := x0, opn := x1, start := x2, plan := l, next := x4, rate := x5, m := { p := z0, acc := z1, dues := rows, pen := z3, fees := z4, un := z5, cash := z6, earned := z7, fined := z8, charged := z9 }, lateFees := x7, residue := x8, fine := x9 }, L, lc, D, dc, rfl, ⟨hr1, lc1, n1, cm1, hr2, lc2, n2, cm2⟩⟩
end Go.Proofs.Ytbbbjjfecblhpaa.Nt
/- The law NightlyMoney, walked. -/
namespace Go.Proofs.Ytbbbjjfecblhpaa.Nt
open Go.RowKit Go.Proofs.YtbbbjjfecblhpaaW.PrintWords Go.Proofs.YtbbbjjfecblhpaaW.PrintLast Go.Proofs.YtbbbjjfecblhpaaW.PrintMore Go.Proofs.Ytbbbjjfecblhpaa.HW
open Go.Proofs.Ytbbbjjfecblhpaa.Math Go.Proofs.Ytbbbjjfecblhpaa.H Go.Proofs.Ytbbbjjfecblhpaa.Pd Go.Proofs.Ytbbbjjfecblhpaa.Du Go.Proofs.Ytbbbjjfecblhpaa.Lv Pm
set_option linter.unusedVariables false
set_option linter.unusedSimpArgs false
attribute [local go_sem] max2_int min2_int max_two min_two
section
variable {P : Program} {ops : Array Oper} {rest : List Oper} {a : Act} {Q : Exit → Act → World → Prop}
theorem build_wantN {W : World} {o : Oper} (hw : Region.wanted o (yielded ops a.tmps) = true) {t : TypeId} {parts : Array (Nat × Operand)} (ho : o.op = .build t parts) {cs : Array Value}
  (hb : P.built t ((parts.map fun (i, x) => (i, a.eval x)).toList) = some cs) (h : wpList P ops Q rest (a.put o.dst (.agg cs)) W) : wpList P ops Q (o :: rest) a W :=
 Go.BigFrame.wpList_want hw fun _ hK => wp_build t parts ho (by rw [hb]; rfl) (by rw [hb]; exact hK _ _ h)
end
theorem putm (m : Mny) (D : Option Addr) (dc : Nat) : putAll #[.int .i64 0, .int .i64 0, .slice none 0 0, .int .i64 0, .int .i64 0, .int .i64 0, .int .i64 0, .int .i64 0, .int .i64 0, .int .i64 0] 0 (mcs m D dc).toList = mcs m D dc := by
 simp only [putAll, List.setIfInBounds_toArray, List.set_cons_zero, List.set_cons_succ]
theorem row_range {w : World} {g : Nat} {cs : Array Value} {t : TypeId} (h : w.heap[g]? = some (.cells cs t (0, 0))) : w.rangeAt g 0 cs.toList := by
 have := blk_rangeN h
 exact this
theorem nightsP_zero (P : Pm.Prod) (s : St) (n : Int) (h : (nightsP P s n).2 ≠ 0) : (nightsP P s n).1 = zeroS := by
 unfold nightsP at h ⊢
 split
 ·rfl
 ·rename_i h1
  rw [if_neg h1] at h
  split
  ·rfl
  ·rename_i h2
   rw [if_neg h2] at h
   split
   ·rfl
   ·rename_i h3
    rw [if_neg h3] at h
    exact nightsB_zero P s n h
theorem money_law {q : Pm.Prod} {s : St} (h : (nightsP q s 1).2 = 0) : ∃ v v2 r r2, nightsP q s 1 = (sN s 1 v v2 r r2, 0) ∧ 0 ≤ v ∧ 0 ≤ v2 ∧ (readM (mN s.m v v2)).isSome = true ∧ (readM s.m).isSome = true := by
 by_cases hm : mayE q s = 0
 ·obtain ⟨-, k1, k2, k3, k4, k5, k6, k7⟩ := mayE_zero hm
  rw [nightsP_in hm (by omega) (by omega)] at h ⊢
  obtain ⟨⟨y1, y2⟩, e⟩ := nightsB_is hm (show (0 : Int) ≤ 1 by omega) (by omega)
  obtain ⟨s1, -⟩ := stepP q y1 k1
  obtain ⟨t1, -⟩ := stepP q y2 k2
  rw [e] at h ⊢
  split at h
  ·rename_i hc
   rw [if_pos hc]
   exact ⟨_, _, _, _, rfl, s1, t1, by rw [readM_more k5 s1 t1, decide_eq_true hc.2.2], k5⟩
  ·cases h
 ·exfalso
  unfold nightsP at h
  rw [if_pos hm] at h
  exact hm h
set_option maxRecDepth 100000 in
set_option maxHeartbeats 8000000 in
theorem money_not (p : Pm.Prod) (A1 : Option Addr) (c1 : Nat) (A2 : Option Addr) (c2 : Nat) (A3 : Option Addr) (c3 : Nat) (s : St) (L : Option Addr) (lc : Nat) (D : Option Addr) (dc : Nat) (w : World) (hgv : GV w) (hf : ¬ fewP p s) :
  Calls Try.prog 4 #[pv p A1 c1 A2 c2 A3 c3, sv s L lc D dc] w fun e w' => e = .returned (.bool true) ∧ Below w.heap.size w w' := by
 have FW := Aside0.mk (fun V => few_any p A1 c1 A2 c2 A3 c3 s L lc D dc V)
 rw [decide_eq_false hf] at FW
 have AK := Aside0.mk (fun (V : World) (hb : Below w.heap.size w V) => night_awake V (hgv.below hb))
 clear hgv hf
 go_enter Try.func4, Try.ntmps4
 go_wp2_with (first
  | ((with_reducible refine gate_dst (N := 2) rfl ?_); refine box_event ?hg (N := 2) ?hd (cs := pcs p A1 c1 A2 c2 A3 c3) (t := 27) ?hr ?_; (case hd => rfl); (case hg => rfl); (case hr => first | (go_simp; done) | (go_simp; rfl)); intro gp hg w4_ hb1 hb; have gpge := (show w.heap.size ≤ gp by rw [hg]; exact Nat.le_refl _); clear hg; have GP := Aside0.mk hb1; have HB := Aside0.mk hb; clear hb1 hb)
  | ((with_reducible refine gate_dst (N := 3) rfl ?_); refine box_event ?hg (N := 3) ?hd (cs := scs s L lc D dc) (t := 33) ?hr ?_; (case hd => rfl); (case hg => rfl); (case hr => first | (go_simp; done) | (go_simp; rfl)); intro gs hg w5_ hb1 hb; have gsge := (show w.heap.size ≤ gs by rw [hg]; exact HB.out.size); have gps := (show gp ≠ gs by have := blk_lt GP.out; omega); clear hg; have GS := Aside0.mk hb1; have GP := Aside0.mk (Pd.blk_below GP.out hb); have HB := Aside0.mk (below_step HB.out hb); clear hb1 hb)
  | ((with_reducible refine gate_dst (N := 11) rfl ?_); refine wpList_load_row rfl 27 (.tmp 2) rfl gp rfl 27 _ (0, 0) _ GP.out Try.underlying27 rfl info_prod ?_)
  | ((with_reducible refine gate_dst (N := 12) rfl ?_); refine wpList_load_row rfl 33 (.tmp 3) rfl gs rfl 33 _ (0, 0) _ GS.out Try.underlying33 rfl info_state ?_)
  | (go_at_call 7; (with_reducible refine (FW.out _).mono ?_); rintro e w6_ ⟨rfl, hb⟩; have GS := Aside0.mk (Pd.blk_below GS.out hb); have GP := Aside0.mk (Pd.blk_below GP.out hb); have HB := Aside0.mk (below_step HB.out hb); clear hb FW)
  | (go_at_call 8; (with_reducible refine (AK.out _ HB.out).mono ?_); rintro e w7_ ⟨rfl, hb⟩; have HB := Aside0.mk (below_step HB.out hb); clear hb))
 go_ret
 exact ⟨rfl, HB.out⟩
set_option maxRecDepth 100000 in
set_option maxHeartbeats 8000000 in
theorem money_wrong (p : Pm.Prod) (A1 : Option Addr) (c1 : Nat) (A2 : Option Addr) (c2 : Nat) (A3 : Option Addr) (c3 : Nat) (s : St) (L : Option Addr) (lc : Nat) (D : Option Addr) (dc : Nat) (q : Pm.Prod) (w : World) (hp : ProdAt w p A1 c1 A2 c2 A3 c3) (hgv : GV w) (hcm : Comes w s L lc D dc) (hf : fewP p s)
  (hne : ∀ W, Below w.heap.size w W → Calls Try.prog 9 #[pv p A1 c1 A2 c2 A3 c3, .int .i64 20] W (NearE p A1 c1 A2 c2 A3 c3 q W))
  (hsm : Small q) (hz : (nightsP q s 1).2 ≠ 0) :
  Calls Try.prog 4 #[pv p A1 c1 A2 c2 A3 c3, sv s L lc D dc] w fun e w' => e = .returned (.bool true) ∧ Below w.heap.size w w' := by
 have FW := Aside0.mk (fun V => few_any p A1 c1 A2 c2 A3 c3 s L lc D dc V)
 rw [decide_eq_true hf] at FW
 have AK := Aside0.mk (fun (V : World) (hb : Below w.heap.size w V) => night_awake V (hgv.below hb))
 have NE := Aside0.mk hne
 have hst : StAt w s L lc D dc := hcm.st (by have := hf.2.2.2.2.2; omega) (by have := hf.2.2.2.2.1; omega)
 have NX := Aside0.mk (fun (V : World) (B1 : Option Addr) (d1 : Nat) (B2 : Option Addr) (d2 : Nat) (B3 : Option Addr) (d3 : Nat) (hb : Below w.heap.size w V) (hk : ∀ w0, ProdAt w0 p A1 c1 A2 c2 A3 c3 → ProdAt w0 q B1 d1 B2 d2 B3 d3) => Night_any q B1 d1 B2 d2 B3 d3 s L lc D dc V (hk V (hp.below hb)) hsm (hgv.below hb) (hst.below hb))
 have SS0 := Aside0.mk (fun (V : World) (hb : Below w.heap.size w V) => hst.below hb)
 have hx := nightsP_zero q s 1 hz
 obtain ⟨cx, hcx⟩ : ∃ x, (nightsP q s 1).2 = x := ⟨_, rfl⟩
 rw [hcx] at hz
 rw [show nightsP q s 1 = (zeroS, cx) from Prod.ext hx hcx] at NX
 have o1 : (cx == 0) = false := by simpa using hz
 have o2 : (cx != 0) = true := by simpa using hz
 clear hne hgv hp hf hsm hx hcx hz hst hcm
 go_enter Try.func4, Try.ntmps4
 go_wp2_with (first
  | ((with_reducible refine gate_dst (N := 2) rfl ?_); refine box_event ?hg (N := 2) ?hd (cs := pcs p A1 c1 A2 c2 A3 c3) (t := 27) ?hr ?_; (case hd => rfl); (case hg => rfl); (case hr => first | (go_simp; done) | (go_simp; rfl)); intro gp hg w4_ hb1 hb; have gpge := (show w.heap.size ≤ gp by rw [hg]; exact Nat.le_refl _); clear hg; have GP := Aside0.mk hb1; have HB := Aside0.mk hb; clear hb1 hb)
  | ((with_reducible refine gate_dst (N := 3) rfl ?_); refine box_event ?hg (N := 3) ?hd (cs := scs s L lc D dc) (t := 33) ?hr ?_; (case hd => rfl); (case hg => rfl); (case hr => first | (go_simp; done) | (go_simp; rfl)); intro gs hg w5_ hb1 hb; have gsge := (show w.heap.size ≤ gs by rw [hg]; exact HB.out.size); have gps := (show gp ≠ gs by have := blk_lt GP.out; omega); clear hg; have GS := Aside0.mk hb1; have GP := Aside0.mk (Pd.blk_below GP.out hb); have HB := Aside0.mk (below_step HB.out hb); clear hb1 hb)
  | ((with_reducible refine gate_dst (N := 11) rfl ?_); refine wpList_load_row rfl 27 (.tmp 2) rfl gp rfl 27 _ (0, 0) _ GP.out Try.underlying27 rfl info_prod ?_)
  | ((with_reducible refine gate_dst (N := 12) rfl ?_); refine wpList_load_row rfl 33 (.tmp 3) rfl gs rfl 33 _ (0, 0) _ GS.out Try.underlying33 rfl info_state ?_)
  | (go_at_call 7; (with_reducible refine (FW.out _).mono ?_); rintro e w6_ ⟨rfl, hb⟩; have GS := Aside0.mk (Pd.blk_below GS.out hb); have GP := Aside0.mk (Pd.blk_below GP.out hb); have HB := Aside0.mk (below_step HB.out hb); clear hb FW)
  | ((with_reducible refine gate_dst (N := 16) rfl ?_); refine wpList_load_row rfl 27 (.tmp 2) rfl gp rfl 27 _ (0, 0) _ GP.out Try.underlying27 rfl info_prod ?_)
  | (go_at_call 9; (with_reducible refine (NE.out _ HB.out).mono ?_); rintro e w8_ ⟨B1, d1, B2, d2, B3, d3, rfl, hk, hb⟩; have HK := Aside0.mk hk; have GP := Aside0.mk (Pd.blk_below GP.out hb); have GS := Aside0.mk (Pd.blk_below GS.out hb); have HB := Aside0.mk (below_step HB.out hb); clear hk hb NE)
  | ((with_reducible refine gate_store (t := 27) (p := 2) rfl ?_); refine row_event rfl (t := 27) (p := 2) (v := .tmp 17) rfl rfl (g := gp) (cs := pcs q B1 d1 B2 d2 B3 d3) (zs := pcs p A1 c1 A2 c2 A3 c3) rfl rfl GP.out info_prod rfl (pcs_one _ _ _ _ _ _ _) ?_; intro w9_ hb1 hbut; have GS := Aside0.mk ((hbut.block gs (blk_lt GS.out) (Ne.symm gps)).trans GS.out); have GP := Aside0.mk hb1; have HB := Aside0.mk (But.below HB.out HB.out.size gpge hbut); clear hb1 hbut)
  | ((with_reducible refine gate_dst (N := 19) rfl ?_); refine wpList_load_row rfl 27 (.tmp 2) rfl gp rfl 27 _ (0, 0) _ GP.out Try.underlying27 rfl info_prod ?_)
  | ((with_reducible refine gate_dst (N := 20) rfl ?_); refine wpList_load_row rfl 33 (.tmp 3) rfl gs rfl 33 _ (0, 0) _ GS.out Try.underlying33 rfl info_state ?_)
  | (go_at_call 12; (with_reducible refine (NX.out _ B1 d1 B2 d2 B3 d3 HB.out HK.out).mono ?_); rintro e w11_ ⟨L2, lc2, D2, dc2, rfl, hst, hb, -⟩; have SX := Aside0.mk hst; have GS := Aside0.mk (Pd.blk_below GS.out hb); have HB := Aside0.mk (below_step HB.out hb); clear hst hb NX GP)
  | ((with_reducible refine gate_dst (N := 5) rfl ?_); refine copy_event rfl (N := 5) rfl rfl rfl (t := 33) (v := .tmp 22) rfl (cs := scs zeroS L2 lc2 D2 dc2) (zs := scs zeroS none 0 none 0) ?hr rfl rfl info_state ?hz (by simp [Value.oneCell']) ?_; (case hr => first | (go_simp; done) | (go_simp; rfl)); (case hz => rfl); intro gx hg w12_ hb1 hb; have GX := Aside0.mk hb1; have GS := Aside0.mk (Pd.blk_below GS.out hb); have SX := Aside0.mk (SX.out.below hb); have HB := Aside0.mk (below_step HB.out hb); clear hg hb1 hb)
  | (go_at_call 8; (with_reducible refine (AK.out _ HB.out).mono ?_); rintro e w7_ ⟨rfl, hb⟩; have GX := Aside0.mk (Pd.blk_below GX.out hb); have SX := Aside0.mk (SX.out.below hb); have HB := Aside0.mk (below_step HB.out hb); clear hb)
  | ((with_reducible refine gate_dst (N := 32) rfl ?_); refine mid_want rfl 33 (.tmp 5) rfl gx 0 ?hx (scs zeroS L2 lc2 D2 dc2).toList _ (row_range GX.out) Try.underlying33 rfl info_state ?_; (case hx => first | rfl | (go_simp; done) | (go_simp; rfl)))
  | ((with_reducible refine gate_dst (N := 33) rfl ?_); refine build_wantN rfl (t := 33) rfl (cs := scs zeroS none 0 none 0) ?hb ?_; (case hb => simp only [List.map_toArray, List.map_cons, List.map_nil]; exact built_state0))
  | (go_at_call 11; (with_reducible refine (sameS zeroS L2 lc2 D2 dc2 none 0 none 0 _ SX.out (st_zero _)).mono ?_); rintro e w17_ ⟨rfl, hb⟩; have HB := Aside0.mk (below_step HB.out hb); clear hb))
 go_ret
 exact ⟨by simp, HB.out⟩
set_option maxRecDepth 100000 in
set_option maxHeartbeats 8000000 in
theorem money_right (p : Pm.Prod) (A1 : Option Addr) (c1 : Nat) (A2 : Option Addr) (c2 : Nat) (A3 : Option Addr) (c3 : Nat) (s : St) (L : Option Addr) (lc : Nat) (D : Option Addr) (dc : Nat) (q : Pm.Prod) (w : World) (hp : ProdAt w p A1 c1 A2 c2 A3 c3) (hgv : GV w) (hcm : Comes w s L lc D dc) (hf : fewP p s)
  (hne : ∀ W, Below w.heap.size w W → Calls Try.prog 9 #[pv p A1 c1 A2 c2 A3 c3, .int .i64 20] W (NearE p A1 c1 A2 c2 A3 c3 q W))
  (hsm : Small q) (hz : (nightsP q s 1).2 = 0) :
  Calls Try.prog 4 #[pv p A1 c1 A2 c2 A3 c3, sv s L lc D dc] w fun e w' => e = .returned (.bool true) ∧ Below w.heap.size w w' := by
 have FW := Aside0.mk (fun V => few_any p A1 c1 A2 c2 A3 c3 s L lc D dc V)
 rw [decide_eq_true hf] at FW
 have AK := Aside0.mk (fun (V : World) (hb : Below w.heap.size w V) => night_awake V (hgv.below hb))
 have NE := Aside0.mk hne
 have hst : StAt w s L lc D dc := hcm.st (by have := hf.2.2.2.2.2; omega) (by have := hf.2.2.2.2.1; omega)
 have NX := Aside0.mk (fun (V : World) (B1 : Option Addr) (d1 : Nat) (B2 : Option Addr) (d2 : Nat) (B3 : Option Addr) (d3 : Nat) (hb : Below w.heap.size w V) (hk : ∀ w0, ProdAt w0 p A1 c1 A2 c2 A3 c3 → ProdAt w0 q B1 d1 B2 d2 B3 d3) => Night_any q B1 d1 B2 d2 B3 d3 s L lc D dc V (hk V (hp.below hb)) hsm (hgv.below hb) (hst.below hb))
 have SS0 := Aside0.mk (fun (V : World) (hb : Below w.heap.size w V) => hst.below hb)
 obtain ⟨v, v2, r, r2, ex, v0, v20, hR, hR0⟩ := money_law hz
 rw [ex] at NX
 have f0 := readM_flat hR0
 have f1 := readM_flat hR
 simp only [Mny.flat, List.mem_cons, List.not_mem_nil, or_false, forall_eq_or_imp, forall_eq] at f0 f1
 have q1 : IntKind.i64.wrap (s.m.acc + v - s.m.acc) = v := by rw [IntWalk.i64_in _ (by omega)]; omega
 have q2 : IntKind.i64.wrap (s.m.pen + v2 - s.m.pen) = v2 := by rw [IntWalk.i64_in _ (by omega)]; omega
 have q3 : IntKind.i64.wrap (s.m.earned + v - s.m.earned) = v := by rw [IntWalk.i64_in _ (by omega)]; omega
 have q4 : IntKind.i64.wrap (s.m.fined + v2 - s.m.fined) = v2 := by rw [IntWalk.i64_in _ (by omega)]; omega
 have o1 : decide (0 ≤ v) = true := decide_eq_true v0
 have o2 : decide (0 ≤ v2) = true := decide_eq_true v20
 have RR := Aside0.mk (fun (W : World) (A : Option Addr) (c : Nat) (hm : MAt W (mN s.m v v2) A) => by have h := rright_any (mN s.m v v2) A c W hm; rw [hR] at h; exact h)
 clear hne hgv hp hf hsm hz hst hcm ex f0 f1 hR hR0 v0 v20
 go_enter Try.func4, Try.ntmps4
 go_wp2_with (first
  | ((with_reducible refine gate_dst (N := 2) rfl ?_); refine box_event ?hg (N := 2) ?hd (cs := pcs p A1 c1 A2 c2 A3 c3) (t := 27) ?hr ?_; (case hd => rfl); (case hg => rfl); (case hr => first | (go_simp; done) | (go_simp; rfl)); intro gp hg w4_ hb1 hb; have gpge := (show w.heap.size ≤ gp by rw [hg]; exact Nat.le_refl _); clear hg; have GP := Aside0.mk hb1; have HB := Aside0.mk hb; clear hb1 hb)
  | ((with_reducible refine gate_dst (N := 3) rfl ?_); refine box_event ?hg (N := 3) ?hd (cs := scs s L lc D dc) (t := 33) ?hr ?_; (case hd => rfl); (case hg => rfl); (case hr => first | (go_simp; done) | (go_simp; rfl)); intro gs hg w5_ hb1 hb; have gsge := (show w.heap.size ≤ gs by rw [hg]; exact HB.out.size); have gps := (show gp ≠ gs by have := blk_lt GP.out; omega); clear hg; have GS := Aside0.mk hb1; have GP := Aside0.mk (Pd.blk_below GP.out hb); have HB := Aside0.mk (below_step HB.out hb); clear hb1 hb)
  | ((with_reducible refine gate_dst (N := 11) rfl ?_); refine wpList_load_row rfl 27 (.tmp 2) rfl gp rfl 27 _ (0, 0) _ GP.out Try.underlying27 rfl info_prod ?_)
  | ((with_reducible refine gate_dst (N := 12) rfl ?_); refine wpList_load_row rfl 33 (.tmp 3) rfl gs rfl 33 _ (0, 0) _ GS.out Try.underlying33 rfl info_state ?_)
  | (go_at_call 7; (with_reducible refine (FW.out _).mono ?_); rintro e w6_ ⟨rfl, hb⟩; have GS := Aside0.mk (Pd.blk_below GS.out hb); have GP := Aside0.mk (Pd.blk_below GP.out hb); have HB := Aside0.mk (below_step HB.out hb); clear hb FW)
  | ((with_reducible refine gate_dst (N := 16) rfl ?_); refine wpList_load_row rfl 27 (.tmp 2) rfl gp rfl 27 _ (0, 0) _ GP.out Try.underlying27 rfl info_prod ?_)
  | (go_at_call 9; (with_reducible refine (NE.out _ HB.out).mono ?_); rintro e w8_ ⟨B1, d1, B2, d2, B3, d3, rfl, hk, hb⟩; have HK := Aside0.mk hk; have GP := Aside0.mk (Pd.blk_below GP.out hb); have GS := Aside0.mk (Pd.blk_below GS.out hb); have HB := Aside0.mk (below_step HB.out hb); clear hk hb NE)
  | ((with_reducible refine gate_store (t := 27) (p := 2) rfl ?_); refine row_event rfl (t := 27) (p := 2) (v := .tmp 17) rfl rfl (g := gp) (cs := pcs q B1 d1 B2 d2 B3 d3) (zs := pcs p A1 c1 A2 c2 A3 c3) rfl rfl GP.out info_prod rfl (pcs_one _ _ _ _ _ _ _) ?_; intro w9_ hb1 hbut; have GS := Aside0.mk ((hbut.block gs (blk_lt GS.out) (Ne.symm gps)).trans GS.out); have GP := Aside0.mk hb1; have HB := Aside0.mk (But.below HB.out HB.out.size gpge hbut); clear hb1 hbut)
  | ((with_reducible refine gate_dst (N := 19) rfl ?_); refine wpList_load_row rfl 27 (.tmp 2) rfl gp rfl 27 _ (0, 0) _ GP.out Try.underlying27 rfl info_prod ?_)
  | ((with_reducible refine gate_dst (N := 20) rfl ?_); refine wpList_load_row rfl 33 (.tmp 3) rfl gs rfl 33 _ (0, 0) _ GS.out Try.underlying33 rfl info_state ?_)
  | (go_at_call 12; (with_reducible refine (NX.out _ B1 d1 B2 d2 B3 d3 HB.out HK.out).mono ?_); rintro e w11_ ⟨L2, lc2, D2, dc2, rfl, hst, hb, -⟩; have SX := Aside0.mk hst; have GS := Aside0.mk (Pd.blk_below GS.out hb); have HB := Aside0.mk (below_step HB.out hb); clear hst hb NX GP)
  | ((with_reducible refine gate_dst (N := 5) rfl ?_); refine copy_event rfl (N := 5) rfl rfl rfl (t := 33) (v := .tmp 22) rfl (cs := scs (sN s 1 v v2 r r2) L2 lc2 D2 dc2) (zs := scs zeroS none 0 none 0) ?hr rfl rfl info_state ?hz (by simp [Value.oneCell']) ?_; (case hr => first | (go_simp; done) | (go_simp; rfl)); (case hz => rfl); intro gx hg w12_ hb1 hb; have GX := Aside0.mk hb1; have GS := Aside0.mk (Pd.blk_below GS.out hb); have SX := Aside0.mk (SX.out.below hb); have HB := Aside0.mk (below_step HB.out hb); clear hg hb1 hb)
  | (go_at_call 8; (with_reducible refine (AK.out _ HB.out).mono ?_); rintro e w7_ ⟨rfl, hb⟩; have GX := Aside0.mk (Pd.blk_below GX.out hb); have GS := Aside0.mk (Pd.blk_below GS.out hb); have SX := Aside0.mk (SX.out.below hb); have HB := Aside0.mk (below_step HB.out hb); clear hb))
 have L7 := Aside0.mk (Below.refl w7_.heap.size w7_)
 go_cut [7, 8] (fun av bv wx => ∃ ga gb, av = .pointer (some ⟨ga, 0, none⟩) ∧ bv = .pointer (some ⟨gb, 0, none⟩) ∧ Aside0 (wx.heap[ga]? = some (.cells (mcs s.m D dc) 31 (0, 0))) ∧ Aside0 (wx.heap[gb]? = some (.cells (mcs (mN s.m v v2) D2 dc2) 31 (0, 0))) ∧ Aside0 (Below w7_.heap.size w7_ wx))
 case first =>
  refine wp_region_held_drew (S := fun W => Below w7_.heap.size w7_ W) (by kernel_rfl) (Below.drew (Below.refl _ _)) (fun hHeld => ?_)
  refine wpAnyH_take (i := 0) (v := ?_) rfl (by kernel_rfl) (by kernel_rfl) (by kernel_rfl) (fun _ _ _ h => h) (Or.inl ⟨by rfl, ?_⟩) (by assumption) ?_
  rotate_left
  ·intro W hSw; (try dsimp only at hSw); clear hSw; go_simp; first | done | with_reducible rfl
  (try simp only [Act.put, List.setIfInBounds_toArray, List.set_cons_zero, List.set_cons_succ])
  refine wpAnyH_take (i := 1) (v := _) rfl (by kernel_rfl) (by kernel_rfl) (by kernel_rfl) (fun _ _ _ h => h) (yieldsIf_load_mid (by rfl) 31 _ rfl gs 6 rfl (mcs s.m D dc).toList _ (fun W hSw => mny_range (Pd.blk_below GS.out hSw)) Try.underlying31 rfl info_mny) (by assumption) ?_
  (try simp only [Act.put, List.setIfInBounds_toArray, List.set_cons_zero, List.set_cons_succ])
  refine wpAnyH_take (i := 2) (v := ?_) rfl (by kernel_rfl) (by kernel_rfl) (by kernel_rfl) (fun _ _ _ h => h) (Or.inl ⟨by rfl, ?_⟩) (by assumption) ?_
  rotate_left
  ·intro W hSw; (try dsimp only at hSw); clear hSw; go_simp; first | done | with_reducible rfl
  (try simp only [Act.put, List.setIfInBounds_toArray, List.set_cons_zero, List.set_cons_succ])
  refine wpAnyH_take (i := 3) (v := _) rfl (by kernel_rfl) (by kernel_rfl) (by kernel_rfl) (fun _ _ _ h => h) (yieldsIf_load_mid (by rfl) 31 _ rfl gx 6 rfl (mcs (mN s.m v v2) D2 dc2).toList _ (fun W hSw => mny_range (Pd.blk_below GX.out hSw)) Try.underlying31 rfl info_mny) (by assumption) ?_
  (try simp only [Act.put, List.setIfInBounds_toArray, List.set_cons_zero, List.set_cons_succ])
  refine wpAnyH_ready (rs := [4, 5]) (by kernel_rfl) (by simp) ?_
  refine AllReadyH.cons rfl (fun K hK => ?_) (AllReadyH.cons rfl (fun K hK => ?_) AllReadyH.nil)
  ·skip
   go_simp
   obtain ⟨ga, w8_, eqa, hw8⟩ : ∃ g w8_, g = w7_.heap.size ∧ w8_ = (w7_.alloc (.cells #[.int .i64 0, .int .i64 0, .slice none 0 0, .int .i64 0, .int .i64 0, .int .i64 0, .int .i64 0, .int .i64 0, .int .i64 0, .int .i64 0] 31)).drew := ⟨_, _, rfl, rfl⟩
   have hga : w8_.heap[ga]? = some (.cells #[.int .i64 0, .int .i64 0, .slice none 0 0, .int .i64 0, .int .i64 0, .int .i64 0, .int .i64 0, .int .i64 0, .int .i64 0, .int .i64 0] 31 (0, 0)) := by rw [eqa, hw8]; exact heap_alloc_new w7_ _
   have L8 : Below w7_.heap.size w7_ w8_ := by rw [hw8]; exact Below.drew ((Below.refl w7_.heap.size w7_).alloc (Nat.le_refl _) _)
   have lga : w7_.heap.size ≤ ga := by rw [eqa]; exact Nat.le_refl _
   rw [← eqa, ← hw8]
   clear eqa hw8
   refine hK.out _ _ L8 (fun hHeld => ?_)
   clear hK K
   (try simp only [Act.put, List.setIfInBounds_toArray, List.set_cons_zero, List.set_cons_succ])
   refine wpAnyH_ready (rs := [5]) (by kernel_rfl) (by simp) ?_
   refine AllReadyH.cons rfl (fun K hK => ?_) AllReadyH.nil
   go_simp
   obtain ⟨gb, w9_, eqb, hw9⟩ : ∃ g w9_, g = w8_.heap.size ∧ w9_ = w8_.alloc (.cells #[.int .i64 0, .int .i64 0, .slice none 0 0, .int .i64 0, .int .i64 0, .int .i64 0, .int .i64 0, .int .i64 0, .int .i64 0, .int .i64 0] 31) := ⟨_, _, rfl, rfl⟩
   have hgb : w9_.heap[gb]? = some (.cells #[.int .i64 0, .int .i64 0, .slice none 0 0, .int .i64 0, .int .i64 0, .int .i64 0, .int .i64 0, .int .i64 0, .int .i64 0, .int .i64 0] 31 (0, 0)) := by rw [eqb, hw9]; exact heap_alloc_new w8_ _
   have L9' : Below w8_.heap.size w8_ w9_ := by rw [hw9]; exact (Below.refl w8_.heap.size w8_).alloc (Nat.le_refl _) _
   have hne : ga ≠ gb := by have := blk_lt hga; omega
   replace hga := Pd.blk_below hga L9'
   have L9 := below_step L8 L9'
   have lgb : w7_.heap.size ≤ gb := by rw [eqb]; exact L8.size
   rw [← eqb, ← hw9]
   clear eqb hw9 L9' L8
   refine hK.out _ _ L9 (fun hHeld => ?_)
   clear hK K
   (try simp only [Act.put, List.setIfInBounds_toArray, List.set_cons_zero, List.set_cons_succ])
   refine wpAnyH_ready (rs := [6]) (by kernel_rfl) (by simp) ?_
   refine AllReadyH.cons rfl (fun K hK => ?_) AllReadyH.nil
   rw [if_pos (by rfl)]
   refine wp_store_mid _ _ _ rfl ga 0 (mcs s.m D dc) rfl rfl (thereN hga 0 10 (by decide)) info_mny (by simp [Value.oneCell']) ?_
   obtain ⟨w10_, hw⟩ : ∃ x, w9_.setCells ga 0 ((mcs s.m D dc) : Array Value).toList = x := ⟨_, rfl⟩
   have L10 := But.below L9 L9.size lga (but_setCells ((mcs s.m D dc) : Array Value).toList 0 (H.But.of (gb := ga) (Below.refl w9_.heap.size w9_)))
   replace hgb := ((but_setCells ((mcs s.m D dc) : Array Value).toList 0 (H.But.of (gb := ga) (Below.refl w9_.heap.size w9_))).block gb (blk_lt hgb) (Ne.symm hne)).trans hgb
   replace hga := blk_setCells ((mcs s.m D dc) : Array Value).toList 0 _ hga
   rw [putm] at hga
   rw [hw] at L10 hgb hga ⊢
   clear hw
   refine hK.out _ _ L10 (fun hHeld => ?_)
   clear hK K
   (try simp only [Act.put, List.setIfInBounds_toArray, List.set_cons_zero, List.set_cons_succ])
   refine wpAnyH_ready (rs := [7]) (by kernel_rfl) (by simp) ?_
   refine AllReadyH.cons rfl (fun K hK => ?_) AllReadyH.nil
   rw [if_pos (by rfl)]
   refine wp_store_mid _ _ _ rfl gb 0 (mcs (mN s.m v v2) D2 dc2) rfl rfl (thereN hgb 0 10 (by decide)) info_mny (by simp [Value.oneCell']) ?_
   obtain ⟨w11x_, hw⟩ : ∃ x, w10_.setCells gb 0 ((mcs (mN s.m v v2) D2 dc2) : Array Value).toList = x := ⟨_, rfl⟩
   have L11 := But.below L10 L10.size lgb (but_setCells ((mcs (mN s.m v v2) D2 dc2) : Array Value).toList 0 (H.But.of (gb := gb) (Below.refl w10_.heap.size w10_)))
   replace hga := ((but_setCells ((mcs (mN s.m v v2) D2 dc2) : Array Value).toList 0 (H.But.of (gb := gb) (Below.refl w10_.heap.size w10_))).block ga (blk_lt hga) hne).trans hga
   replace hgb := blk_setCells ((mcs (mN s.m v v2) D2 dc2) : Array Value).toList 0 _ hgb
   rw [putm] at hgb
   rw [hw] at L11 hga hgb ⊢
   clear hw
   refine hK.out _ _ L11 (fun hHeld => ?_)
   clear hK K
   (try simp only [Act.put, List.setIfInBounds_toArray, List.set_cons_zero, List.set_cons_succ])
   refine wpAnyH_done (by kernel_rfl) ?_ _
   clear hHeld
   try go_wp2_with fail
   go_meet
   case rel => exact ⟨ga, gb, rfl, rfl, ⟨hga⟩, ⟨hgb⟩, ⟨L11⟩⟩
  ·skip
   go_simp
   obtain ⟨gb, w8_, eqa, hw8⟩ : ∃ g w8_, g = w7_.heap.size ∧ w8_ = (w7_.alloc (.cells #[.int .i64 0, .int .i64 0, .slice none 0 0, .int .i64 0, .int .i64 0, .int .i64 0, .int .i64 0, .int .i64 0, .int .i64 0, .int .i64 0] 31)).drew := ⟨_, _, rfl, rfl⟩
   have hgb : w8_.heap[gb]? = some (.cells #[.int .i64 0, .int .i64 0, .slice none 0 0, .int .i64 0, .int .i64 0, .int .i64 0, .int .i64 0, .int .i64 0, .int .i64 0, .int .i64 0] 31 (0, 0)) := by rw [eqa, hw8]; exact heap_alloc_new w7_ _
   have L8 : Below w7_.heap.size w7_ w8_ := by rw [hw8]; exact Below.drew ((Below.refl w7_.heap.size w7_).alloc (Nat.le_refl _) _)
   have lgb : w7_.heap.size ≤ gb := by rw [eqa]; exact Nat.le_refl _
   rw [← eqa, ← hw8]
   clear eqa hw8
   refine hK.out _ _ L8 (fun hHeld => ?_)
   clear hK K
   (try simp only [Act.put, List.setIfInBounds_toArray, List.set_cons_zero, List.set_cons_succ])
   refine wpAnyH_ready (rs := [4]) (by kernel_rfl) (by simp) ?_
   refine AllReadyH.cons rfl (fun K hK => ?_) AllReadyH.nil
   go_simp
   obtain ⟨ga, w9_, eqb, hw9⟩ : ∃ g w9_, g = w8_.heap.size ∧ w9_ = w8_.alloc (.cells #[.int .i64 0, .int .i64 0, .slice none 0 0, .int .i64 0, .int .i64 0, .int .i64 0, .int .i64 0, .int .i64 0, .int .i64 0, .int .i64 0] 31) := ⟨_, _, rfl, rfl⟩
   have hga : w9_.heap[ga]? = some (.cells #[.int .i64 0, .int .i64 0, .slice none 0 0, .int .i64 0, .int .i64 0, .int .i64 0, .int .i64 0, .int .i64 0, .int .i64 0, .int .i64 0] 31 (0, 0)) := by rw [eqb, hw9]; exact heap_alloc_new w8_ _
   have L9' : Below w8_.heap.size w8_ w9_ := by rw [hw9]; exact (Below.refl w8_.heap.size w8_).alloc (Nat.le_refl _) _
   have hne : gb ≠ ga := by have := blk_lt hgb; omega
   replace hgb := Pd.blk_below hgb L9'
   have L9 := below_step L8 L9'
   have lga : w7_.heap.size ≤ ga := by rw [eqb]; exact L8.size
   rw [← eqb, ← hw9]
   clear eqb hw9 L9' L8
   refine hK.out _ _ L9 (fun hHeld => ?_)
   clear hK K
   (try simp only [Act.put, List.setIfInBounds_toArray, List.set_cons_zero, List.set_cons_succ])
   refine wpAnyH_ready (rs := [6]) (by kernel_rfl) (by simp) ?_
   refine AllReadyH.cons rfl (fun K hK => ?_) AllReadyH.nil
   rw [if_pos (by rfl)]
   refine wp_store_mid _ _ _ rfl ga 0 (mcs s.m D dc) rfl rfl (thereN hga 0 10 (by decide)) info_mny (by simp [Value.oneCell']) ?_
   obtain ⟨w10_, hw⟩ : ∃ x, w9_.setCells ga 0 ((mcs s.m D dc) : Array Value).toList = x := ⟨_, rfl⟩
   have L10 := But.below L9 L9.size lga (but_setCells ((mcs s.m D dc) : Array Value).toList 0 (H.But.of (gb := ga) (Below.refl w9_.heap.size w9_)))
   replace hgb := ((but_setCells ((mcs s.m D dc) : Array Value).toList 0 (H.But.of (gb := ga) (Below.refl w9_.heap.size w9_))).block gb (blk_lt hgb) hne).trans hgb
   replace hga := blk_setCells ((mcs s.m D dc) : Array Value).toList 0 _ hga
   rw [putm] at hga
   rw [hw] at L10 hgb hga ⊢
   clear hw
   refine hK.out _ _ L10 (fun hHeld => ?_)
   clear hK K
   (try simp only [Act.put, List.setIfInBounds_toArray, List.set_cons_zero, List.set_cons_succ])
   refine wpAnyH_ready (rs := [7]) (by kernel_rfl) (by simp) ?_
   refine AllReadyH.cons rfl (fun K hK => ?_) AllReadyH.nil
   rw [if_pos (by rfl)]
   refine wp_store_mid _ _ _ rfl gb 0 (mcs (mN s.m v v2) D2 dc2) rfl rfl (thereN hgb 0 10 (by decide)) info_mny (by simp [Value.oneCell']) ?_
   obtain ⟨w11x_, hw⟩ : ∃ x, w10_.setCells gb 0 ((mcs (mN s.m v v2) D2 dc2) : Array Value).toList = x := ⟨_, rfl⟩
   have L11 := But.below L10 L10.size lgb (but_setCells ((mcs (mN s.m v v2) D2 dc2) : Array Value).toList 0 (H.But.of (gb := gb) (Below.refl w10_.heap.size w10_)))
   replace hga := ((but_setCells ((mcs (mN s.m v v2) D2 dc2) : Array Value).toList 0 (H.But.of (gb := gb) (Below.refl w10_.heap.size w10_))).block ga (blk_lt hga) (Ne.symm hne)).trans hga
   replace hgb := blk_setCells ((mcs (mN s.m v v2) D2 dc2) : Array Value).toList 0 _ hgb
   rw [putm] at hgb
   rw [hw] at L11 hga hgb ⊢
   clear hw
   refine hK.out _ _ L11 (fun hHeld => ?_)
   clear hK K
   (try simp only [Act.put, List.setIfInBounds_toArray, List.set_cons_zero, List.set_cons_succ])
   refine wpAnyH_done (by kernel_rfl) ?_ _
   clear hHeld
   try go_wp2_with fail
   go_meet
   case rel => exact ⟨ga, gb, rfl, rfl, ⟨hga⟩, ⟨hgb⟩, ⟨L11⟩⟩
 case rest =>
  obtain ⟨ga, gb, rfl, rfl, GA, GB, L8⟩ := hcut
  have GA8 := GA
  have GB8 := GB
  have GX8 := Aside0.mk (Pd.blk_below GX.out L8.out)
  have GS8 := Aside0.mk (Pd.blk_below GS.out L8.out)
  have SS := Aside0.mk (SS0.out _ HB.out)
  have KS := Aside0.mk (fun (W : World) (hb : Below wc.heap.size wc W) => (show W.cell? ⟨ga, 0, none⟩ = some (.int .i64 s.m.p) ∧ W.cell? ⟨ga, 1, none⟩ = some (.int .i64 s.m.acc) ∧ W.cell? ⟨ga, 2, none⟩ = some (.slice D s.m.dues.length dc) ∧ W.cell? ⟨ga, 3, none⟩ = some (.int .i64 s.m.pen) ∧ W.cell? ⟨ga, 4, none⟩ = some (.int .i64 s.m.fees) ∧ W.cell? ⟨ga, 5, none⟩ = some (.int .i64 s.m.un) ∧ W.cell? ⟨ga, 6, none⟩ = some (.int .i64 s.m.cash) ∧ W.cell? ⟨ga, 7, none⟩ = some (.int .i64 s.m.earned) ∧ W.cell? ⟨ga, 8, none⟩ = some (.int .i64 s.m.fined) ∧ W.cell? ⟨ga, 9, none⟩ = some (.int .i64 s.m.charged) ∧ W.cell? ⟨gb, 0, none⟩ = some (.int .i64 s.m.p) ∧ W.cell? ⟨gb, 1, none⟩ = some (.int .i64 (s.m.acc + v)) ∧ W.cell? ⟨gb, 2, none⟩ = some (.slice D2 s.m.dues.length dc2) ∧ W.cell? ⟨gb, 3, none⟩ = some (.int .i64 (s.m.pen + v2)) ∧ W.cell? ⟨gb, 4, none⟩ = some (.int .i64 s.m.fees) ∧ W.cell? ⟨gb, 5, none⟩ = some (.int .i64 s.m.un) ∧ W.cell? ⟨gb, 6, none⟩ = some (.int .i64 s.m.cash) ∧ W.cell? ⟨gb, 7, none⟩ = some (.int .i64 (s.m.earned + v)) ∧ W.cell? ⟨gb, 8, none⟩ = some (.int .i64 (s.m.fined + v2)) ∧ W.cell? ⟨gb, 9, none⟩ = some (.int .i64 s.m.charged) ∧ W.cell? ⟨gx, 4, none⟩ = some (.int .i64 s.next) ∧ W.cell? ⟨gx, 5, none⟩ = some (.int .i64 s.rate) ∧ W.cell? ⟨gx, 1, none⟩ = some (.bool s.opn) ∧ W.cell? ⟨gx, 16, none⟩ = some (.int .i64 s.lateFees) ∧ W.cell? ⟨gx, 2, none⟩ = some (.int .i64 s.start) ∧ W.cell? ⟨gx, 3, none⟩ = some (.slice L2 s.plan.length lc2) ∧ W.cell? ⟨gs, 4, none⟩ = some (.int .i64 s.next) ∧ W.cell? ⟨gs, 5, none⟩ = some (.int .i64 s.rate) ∧ W.cell? ⟨gs, 1, none⟩ = some (.bool s.opn) ∧ W.cell? ⟨gs, 16, none⟩ = some (.int .i64 s.lateFees) ∧ W.cell? ⟨gs, 2, none⟩ = some (.int .i64 s.start) ∧ W.cell? ⟨gs, 3, none⟩ = some (.slice L s.plan.length lc) from ⟨(blk_cell (Pd.blk_below GA8.out hb) 0).trans rfl, (blk_cell (Pd.blk_below GA8.out hb) 1).trans rfl, (blk_cell (Pd.blk_below GA8.out hb) 2).trans rfl, (blk_cell (Pd.blk_below GA8.out hb) 3).trans rfl, (blk_cell (Pd.blk_below GA8.out hb) 4).trans rfl, (blk_cell (Pd.blk_below GA8.out hb) 5).trans rfl, (blk_cell (Pd.blk_below GA8.out hb) 6).trans rfl, (blk_cell (Pd.blk_below GA8.out hb) 7).trans rfl, (blk_cell (Pd.blk_below GA8.out hb) 8).trans rfl, (blk_cell (Pd.blk_below GA8.out hb) 9).trans rfl, (blk_cell (Pd.blk_below GB8.out hb) 0).trans rfl, (blk_cell (Pd.blk_below GB8.out hb) 1).trans rfl, (blk_cell (Pd.blk_below GB8.out hb) 2).trans rfl, (blk_cell (Pd.blk_below GB8.out hb) 3).trans rfl, (blk_cell (Pd.blk_below GB8.out hb) 4).trans rfl, (blk_cell (Pd.blk_below GB8.out hb) 5).trans rfl, (blk_cell (Pd.blk_below GB8.out hb) 6).trans rfl, (blk_cell (Pd.blk_below GB8.out hb) 7).trans rfl, (blk_cell (Pd.blk_below GB8.out hb) 8).trans rfl, (blk_cell (Pd.blk_below GB8.out hb) 9).trans rfl, (blk_cell (Pd.blk_below GX8.out hb) 4).trans rfl, (blk_cell (Pd.blk_below GX8.out hb) 5).trans rfl, (blk_cell (Pd.blk_below GX8.out hb) 1).trans rfl, (blk_cell (Pd.blk_below GX8.out hb) 16).trans rfl, (blk_cell (Pd.blk_below GX8.out hb) 2).trans rfl, (blk_cell (Pd.blk_below GX8.out hb) 3).trans rfl, (blk_cell (Pd.blk_below GS8.out hb) 4).trans rfl, (blk_cell (Pd.blk_below GS8.out hb) 5).trans rfl, (blk_cell (Pd.blk_below GS8.out hb) 1).trans rfl, (blk_cell (Pd.blk_below GS8.out hb) 16).trans rfl, (blk_cell (Pd.blk_below GS8.out hb) 2).trans rfl, (blk_cell (Pd.blk_below GS8.out hb) 3).trans rfl⟩))
  have RC := Aside0.mk (fun (W : World) (hb : Below wc.heap.size wc W) => RR.out W D2 dc2 ((SX.out.below (below_step L8.out hb)).m))
  have DC := Aside0.mk (fun (W : World) (hb : Below wc.heap.size wc W) => plainD D2 D dc2 dc s.m.dues W (SX.out.below (below_step L8.out hb)).rows (SS.out.below (below_step L8.out hb)).rows SS.out.dl)
  have IC := Aside0.mk (fun (W : World) (hb : Below wc.heap.size wc W) => plain_sameL L2 L lc2 lc s.plan W (SX.out.below (below_step L8.out hb)).plan SX.out.pc (SS.out.below (below_step L8.out hb)).plan SS.out.pc SS.out.pl)
  have HC := Aside0.mk (Below.refl wc.heap.size wc)
  go_wp2_with fail
  (try simp only [List.append])
  go_region_held3 (fun W => W.cell? ⟨ga, 0, none⟩ = some (.int .i64 s.m.p) ∧ W.cell? ⟨ga, 1, none⟩ = some (.int .i64 s.m.acc) ∧ W.cell? ⟨ga, 2, none⟩ = some (.slice D s.m.dues.length dc) ∧ W.cell? ⟨ga, 3, none⟩ = some (.int .i64 s.m.pen) ∧ W.cell? ⟨ga, 4, none⟩ = some (.int .i64 s.m.fees) ∧ W.cell? ⟨ga, 5, none⟩ = some (.int .i64 s.m.un) ∧ W.cell? ⟨ga, 6, none⟩ = some (.int .i64 s.m.cash) ∧ W.cell? ⟨ga, 7, none⟩ = some (.int .i64 s.m.earned) ∧ W.cell? ⟨ga, 8, none⟩ = some (.int .i64 s.m.fined) ∧ W.cell? ⟨ga, 9, none⟩ = some (.int .i64 s.m.charged) ∧ W.cell? ⟨gb, 0, none⟩ = some (.int .i64 s.m.p) ∧ W.cell? ⟨gb, 1, none⟩ = some (.int .i64 (s.m.acc + v)) ∧ W.cell? ⟨gb, 2, none⟩ = some (.slice D2 s.m.dues.length dc2) ∧ W.cell? ⟨gb, 3, none⟩ = some (.int .i64 (s.m.pen + v2)) ∧ W.cell? ⟨gb, 4, none⟩ = some (.int .i64 s.m.fees) ∧ W.cell? ⟨gb, 5, none⟩ = some (.int .i64 s.m.un) ∧ W.cell? ⟨gb, 6, none⟩ = some (.int .i64 s.m.cash) ∧ W.cell? ⟨gb, 7, none⟩ = some (.int .i64 (s.m.earned + v)) ∧ W.cell? ⟨gb, 8, none⟩ = some (.int .i64 (s.m.fined + v2)) ∧ W.cell? ⟨gb, 9, none⟩ = some (.int .i64 s.m.charged) ∧ W.cell? ⟨gx, 4, none⟩ = some (.int .i64 s.next) ∧ W.cell? ⟨gx, 5, none⟩ = some (.int .i64 s.rate) ∧ W.cell? ⟨gx, 1, none⟩ = some (.bool s.opn) ∧ W.cell? ⟨gx, 16, none⟩ = some (.int .i64 s.lateFees) ∧ W.cell? ⟨gx, 2, none⟩ = some (.int .i64 s.start) ∧ W.cell? ⟨gx, 3, none⟩ = some (.slice L2 s.plan.length lc2) ∧ W.cell? ⟨gs, 4, none⟩ = some (.int .i64 s.next) ∧ W.cell? ⟨gs, 5, none⟩ = some (.int .i64 s.rate) ∧ W.cell? ⟨gs, 1, none⟩ = some (.bool s.opn) ∧ W.cell? ⟨gs, 16, none⟩ = some (.int .i64 s.lateFees) ∧ W.cell? ⟨gs, 2, none⟩ = some (.int .i64 s.start) ∧ W.cell? ⟨gs, 3, none⟩ = some (.slice L s.plan.length lc)) (first | exact KS.out _ (by first | exact HC.out | exact Below.drew HC.out | exact pw_below_drewN HC.out _) | go_keep) (fail)
  have HC := Aside0.mk (show Below wc.heap.size wc wc.drew from Below.drew HC.out)
  obtain ⟨z0, z1, z2, z3, z4, z5, z6, z7, z8, z9, z10, z11, z12, z13, z14, z15, z16, z17, z18, z19, z20, z21, z22, z23, z24, z25, z26, z27, z28, z29, z30, z31⟩ := KS.out _ HC.out
  go_wp2_with (first
   | (go_at_call 13; (with_reducible refine (RC.out _ HC.out).mono ?_); rintro e v5 ⟨rfl, hb⟩; have HC := Aside0.mk (below_step HC.out hb); clear hb; clear z0 z1 z2 z3 z4 z5 z6 z7 z8 z9 z10 z11 z12 z13 z14 z15 z16 z17 z18 z19 z20 z21 z22 z23 z24 z25 z26 z27 z28 z29 z30 z31; obtain ⟨z0, z1, z2, z3, z4, z5, z6, z7, z8, z9, z10, z11, z12, z13, z14, z15, z16, z17, z18, z19, z20, z21, z22, z23, z24, z25, z26, z27, z28, z29, z30, z31⟩ := KS.out _ HC.out)
   | (go_at_call 14; (with_reducible refine (DC.out _ HC.out).mono ?_); rintro e v6 ⟨rfl, hb⟩; have HC := Aside0.mk (below_step HC.out hb); clear hb; clear z0 z1 z2 z3 z4 z5 z6 z7 z8 z9 z10 z11 z12 z13 z14 z15 z16 z17 z18 z19 z20 z21 z22 z23 z24 z25 z26 z27 z28 z29 z30 z31; obtain ⟨z0, z1, z2, z3, z4, z5, z6, z7, z8, z9, z10, z11, z12, z13, z14, z15, z16, z17, z18, z19, z20, z21, z22, z23, z24, z25, z26, z27, z28, z29, z30, z31⟩ := KS.out _ HC.out)
   | (go_at_call 15; (with_reducible refine (IC.out _ HC.out).mono ?_); rintro e v7 ⟨rfl, hb⟩; have HC := Aside0.mk (below_step HC.out hb); clear hb))
  go_ret
  exact ⟨by simp, below_step (below_step HB.out L8.out) (by first | exact HC.out | exact Below.drew HC.out | exact pw_below_drewN HC.out _)⟩
theorem nightlyMoney_walk (p : Pm.Prod) (A1 : Option Addr) (c1 : Nat) (A2 : Option Addr) (c2 : Nat) (A3 : Option Addr) (c3 : Nat) (s : St) (L : Option Addr) (lc : Nat) (D : Option Addr) (dc : Nat) (w : World) (hp : ProdAt w p A1 c1 A2 c2 A3 c3) (hz0 : p.name.size ≤ maxLen) (hz1 : c1 ≤ maxLen) (hz2 : c2 ≤ maxLen) (hz3 : c3 ≤ maxLen) (hcm : Comes w s L lc D dc) (hgv : GV w) (hd : Held p) :
  Calls Try.prog 4 #[pv p A1 c1 A2 c2 A3 c3, sv s L lc D dc] w fun e w' => e = .returned (.bool true) ∧ Below w.heap.size w w' := by
 by_cases hf : fewP p s
 ·have hne : ∀ W, Below w.heap.size w W → Calls Try.prog 9 #[pv p A1 c1 A2 c2 A3 c3, .int .i64 20] W (NearE p A1 c1 A2 c2 A3 c3 (nearP p 20) W) := fun W hb => near_any p A1 c1 A2 c2 A3 c3 20 W (hp.below hb) hd (by omega) (by omega)
  obtain ⟨oq, nt⟩ := near_valid p (n := 20) (by omega) (by omega)
  have hsm := ok_small oq
  generalize nearP p 20 = q at hne oq nt hsm
  by_cases hz : (nightsP q s 1).2 = 0
  ·exact money_right p A1 c1 A2 c2 A3 c3 s L lc D dc q w hp hgv hcm hf hne hsm hz
  ·exact money_wrong p A1 c1 A2 c2 A3 c3 s L lc D dc q w hp hgv hcm hf hne hsm hz
 ·exact money_not p A1 c1 A2 c2 A3 c3 s L lc D dc w hgv hf
end Go.Proofs.Ytbbbjjfecblhpaa.Nt
/- A product handed in is within the reach: its name, its rows. -/
namespace Go.Proofs.Ytbbbjjfecblhpaa.Pd
open Go.ChangeShapes Go.WideShapes Go.Deep Go.RowKit Go.Joins Go.ChangeAt Go.Proofs.YtbbbjjfecblhpaaW.PrintWords Go.Proofs.Ytbbbjjfecblhpaa.Op
open Pm
set_option linter.unusedVariables false
set_option linter.unusedSimpArgs false
section
variable {H : Type} {enc : TypeId × Value → H} {P : Program} {w : World} {base : Nat} {spare : Nat → Bool} {held : Bool}
theorem slice_weight {t e : TypeId} {fuel : Nat} {A : Option Addr} {n c : Nat} {y : DataW H × List MemPlace} (ht : P.underlying t = some (.slice e)) (h : DataW.trod enc P w base spare held fuel t [.slice A n c] = some y) (hb : 0 < P.bytesOf e)
  (hw : ∀ k ∈ y.1.weights P t, k ≤ reachBytes) : n ≤ reachBytes := by
 rcases open_slice ht h with ⟨h0, -⟩ | ⟨a, len, cap, m, n', D, Pl, hcs, -, -, -, -, hx, -⟩
 ·simp at h0
  omega
 ·simp at hcs
  obtain ⟨-, rfl, -⟩ := hcs
  subst hx
  have := hw ((((List.range n).map D).length + ((List.range (m - n)).map fun j => D (n + j)).length) * P.bytesOf e) (by simp [DataW.weights, ht])
  rw [List.length_map, List.length_range] at this
  have h2 : n * 1 ≤ (n + ((List.range (m - n)).map fun j => D (n + j)).length) * P.bytesOf e := Nat.mul_le_mul (by omega) hb
  omega
theorem string_weight {t : TypeId} {fuel : Nat} {s : ByteArray} {y : DataW H × List MemPlace} (ht : P.underlying t = some .string) (h : DataW.trod enc P w base spare held fuel t [.string s] = some y)
  (hw : ∀ k ∈ y.1.weights P t, k ≤ reachBytes) : s.size ≤ reachBytes := by
 cases fuel with
 | zero => simp [DataW.trod] at h
 | succ n =>
  simp [DataW.trod, ht] at h
  obtain ⟨-, rfl⟩ := h
  have := hw s.data.toList.length (by simp [DataW.weights])
  exact this
end
theorem prod_sized {H : Type} {enc : TypeId × Value → H} {w : World} {base : Nat} {held : Bool} {p : Prod} {A1 : Option Addr} {c1 : Nat} {A2 : Option Addr} {c2 : Nat} {A3 : Option Addr} {c3 : Nat} {d : DataW H} {q : List MemPlace}
  (h : DataW.Trod enc Try.prog w base (fun _ => true) held 27 (pv p A1 c1 A2 c2 A3 c3) d q) (hw : ∀ k ∈ d.weights Try.prog 27, k ≤ reachBytes) : Held p := by
 obtain ⟨fuel, hf⟩ := h
 obtain ⟨xs, n, _, hx, hl, hlen, hfl⟩ := DataW.trod_struct Try.underlying27 hf
 have hy : ∀ i, i < 16 → ∃ y, xs[i]? = some y := fun i hi => ⟨_, List.getElem?_eq_getElem (by rw [hlen]; exact hi)⟩
 obtain rfl : d = .agg (xs.map (·.1)) := (Prod.mk.inj hx).1
 have part : ∀ (i : Nat) (f : Field) (y : DataW H × List MemPlace), (Try.prog.underlying 27).bind (fun t => match t with | .struct fs => fs[i]? | _ => none) = some f → xs[i]? = some y → ∀ k ∈ y.1.weights Try.prog f.type, k ≤ reachBytes := by
  intro i f y hfi hyi k hk
  refine hw k ?_
  rw [Try.underlying27] at hfi
  simp only [DataW.weights, Try.underlying27]
  refine DataW.weights_mem_each (j := i) (t := f.type) (d := y.1) ?_ (by simp [hyi]) k hk
  simp only [Option.bind_some] at hfi
  rw [List.getElem?_map, Array.getElem?_toList, hfi]
  rfl
 have rb : reachBytes ≤ 140737488351232 := by decide
 obtain ⟨y0, e0⟩ := hy 0 (by decide)
 have g0 := (hfl 0 _ rfl).trans e0
 have k0 : DataW.trod enc Try.prog w base (fun _ => true) held n 9 [.string p.name] = some y0 := by rw [← g0]; show _ = DataW.trod _ _ _ _ _ _ _ 9 ((List.drop 0 _).take (Try.prog.cellsOf 9)); rw [cells_string]; rfl
 obtain ⟨y8, e8⟩ := hy 8 (by decide)
 have g8 := (hfl 8 _ rfl).trans e8
 have k8 : DataW.trod enc Try.prog w base (fun _ => true) held n 22 [.slice A1 p.resets.length c1] = some y8 := by rw [← g8]; show _ = DataW.trod _ _ _ _ _ _ _ 22 ((List.drop 8 _).take (Try.prog.cellsOf 22)); rw [cells_resets]; rfl
 obtain ⟨y12, e12⟩ := hy 12 (by decide)
 have g12 := (hfl 12 _ rfl).trans e12
 have k12 : DataW.trod enc Try.prog w base (fun _ => true) held n 24 [.slice A2 p.late.length c2] = some y12 := by rw [← g12]; show _ = DataW.trod _ _ _ _ _ _ _ 24 ((List.drop 15 _).take (Try.prog.cellsOf 24)); rw [cells_tiers]; rfl
 obtain ⟨y15, e15⟩ := hy 15 (by decide)
 have g15 := (hfl 15 _ rfl).trans e15
 have k15 : DataW.trod enc Try.prog w base (fun _ => true) held n 25 [.slice A3 p.hol.length c3] = some y15 := by rw [← g15]; show _ = DataW.trod _ _ _ _ _ _ _ 25 ((List.drop 18 _).take (Try.prog.cellsOf 25)); rw [cells_ints]; rfl
 have w0 := string_weight Try.underlying9 k0 (part 0 _ y0 (by rw [Try.underlying27]; rfl) e0)
 have w8 := slice_weight Try.underlying22 k8 (by decide +kernel) (part 8 _ y8 (by rw [Try.underlying27]; rfl) e8)
 have w12 := slice_weight Try.underlying24 k12 (by decide +kernel) (part 12 _ y12 (by rw [Try.underlying27]; rfl) e12)
 have w15 := slice_weight Try.underlying25 k15 (by decide +kernel) (part 15 _ y15 (by rw [Try.underlying27]; rfl) e15)
 exact ⟨by omega, by omega, by omega, by omega⟩
end Go.Proofs.Ytbbbjjfecblhpaa.Pd
