/- Texts of this claim, joined in build order. -/
import Derived.Test.YtfmkdledofbhdaaGreatProg
import Derived.Below
import Derived.Deep.Draws
import Derived.Deep.AppendLies
import Derived.Maps.AppendAt
import Derived.OwnWalk
import Derived.Laws.BytesArg
import Derived.Laws.MakeOwn
import Derived.Laws.OwnMore
import Derived.Tactics
import Derived.Lib.ConvBytes
import Derived.Laws.Slices
import Derived.WalkKit
import Derived.KernelRfl
import Derived.RowKit3
import Derived.Deep.LoopGhost
import Derived.Deep.QuietTactic
import Derived.BigQuiet
import Derived.WideLaws
import Derived.Deep.DeepCutAuto
import Derived.Deep.CutBlock
import Derived.Deep.RegionHeld3
import Derived.Lib.AppendStr
import Derived.ArgAppend
import Derived.Laws.IdiomCopy
import Derived.OrdersHeld
import Derived.Laws.BitsLemmas
import Derived.RowKit
import Derived.Laws.StructEq
import Derived.WalkLawsBesides
import Derived.WalkSpells
import Derived.Lib.IndexMore
import Derived.Deep.Slices
import Derived.Deep.Fields
import Derived.ChangeSame
import Derived.Lib.SmallJoins
import Derived.ProofKit
import Derived.Defers
import Derived.Laws.Tables
import Derived.Deep.WholeRow
import Derived.Recover
import Derived.StillTailTactics
import Derived.IntWalk
import Derived.Shelf.Small.Bits
import Derived.Shelf.Strconv.Itoa0
import Derived.Shelf.Strings.Search1
import Derived.Shelf.Strings.Search2
import Derived.Shelf.Strings.Search3
import Derived.Shelf.LaysM
import Derived.Shelf.Strings.Shaped
import Derived.Shelf.Bits.Mul64
import Derived.Lib.SlBytesConst
import Derived.Deep.RegionWith
import Derived.Lib.Hide
import Derived.BigFrame
import Derived.Lib.BitFns
import Derived.Laws.BitsAllLaws
import Derived.Laws.Externs
import Derived.RegionTactic
import Derived.Deep.MidRow
import Derived.OpenShut
import Derived.ShutString
import Derived.ChangeOld
import Derived.Laws.IdiomArrays
import Derived.SizedLaws
import Derived.HandedShaped
import Derived.Shelf.Vars
import Derived.Test.YtfmkdledofbhdaaGreatJT1
import Derived.Test.YtfmkdledofbhdaaGreatJT2
import Derived.Test.YtfmkdledofbhdaaGreatJT3
import Derived.Test.YtfmkdledofbhdaaGreatJT4
set_option linter.unusedVariables false
set_option linter.unusedSimpArgs false
/- quittanceref11.Days: the document's days. -/
namespace Go.Proofs.YtfmkdledofbhdaaGreat.Du
open Go.RowKit Go.Proofs.YtfmkdledofbhdaaGreatW.PrintWords Go.Proofs.YtfmkdledofbhdaaGreatW.PrintLast Go.Proofs.YtfmkdledofbhdaaGreatW.PrintMore Go.Proofs.YtfmkdledofbhdaaGreat.HW
open Go.Proofs.YtfmkdledofbhdaaGreat.Math Go.Proofs.YtfmkdledofbhdaaGreat.H Go.Proofs.YtfmkdledofbhdaaGreat.Pd Pm
set_option linter.unusedVariables false
set_option linter.unusedSimpArgs false
theorem RI_slice {W : World} {B : Nat} {ok : Nat → Prop} {v : Value} {l : List Int} (h : Kd.R (Kd.int .i64) 3 W B ok v l) (hl : l ≠ []) : ∃ g c, v = .slice (some ⟨g, 0, none⟩) l.length c := by
 rcases row_of_R h with ⟨-, e⟩ | ⟨g, c, t, e, -⟩
 ·exact absurd e hl
 ·exact ⟨g, c, e⟩
theorem rdates_any (n e t : Int) (w : World) : Calls Tryz.prog 49 #[.int .i64 n, .int .i64 e, .int .i64 t] w (Listed (datesP n e t) w) := by
 refine (PDA.quittanceref04_Dates.calls (t.toNat + 2) n e t _ _ w civ_dates.2.2).mono ?_
 rintro e w' ⟨v, he, hr, hb⟩
 exact ⟨v, he, row_of_R hr, hb⟩
theorem info_dateR : (Tryz.prog.info? 127).map (·.size) = some 3 := by kernel_rfl
set_option maxRecDepth 100000 in
set_option maxHeartbeats 8000000 in
theorem rroll_walk (A3 : Option Addr) (c3 : Nat) (l : List Int) (day how r1 r2 u v y1 m1 d1 k1 y2 m2 d2 k2 : Int) (ib ob ub vb : Bool) (w : World)
  (IS : Aside0 (∀ W, Calls Tryz.prog 53 #[.int .i64 day] W fun e w' => e = .returned (.bool ib) ∧ Drawn0 W w'))
  (OP : Aside0 (∀ W, Below w.heap.size w W → Calls Tryz.prog 74 #[.slice A3 l.length c3, .int .i64 day] W fun e w' => e = .returned (.bool ob) ∧ Drawn0 W w'))
  (SU : Aside0 (ib = true → ∀ W, Below w.heap.size w W → Calls Tryz.prog 75 #[.slice A3 l.length c3, .int .i64 day, .int .i64 1] W fun e w' => e = .returned (.tuple #[.int .i64 u, .bool ub]) ∧ Drawn0 W w'))
  (SD : Aside0 (ib = true → ∀ W, Below w.heap.size w W → Calls Tryz.prog 75 #[.slice A3 l.length c3, .int .i64 day, .int .i64 (-1)] W fun e w' => e = .returned (.tuple #[.int .i64 v, .bool vb]) ∧ Drawn0 W w'))
  (D1 : Aside0 (∀ W, Calls Tryz.prog 76 #[.int .i64 day] W fun e w' => e = .returned (.tuple #[.agg #[.int .i64 y1, .int .i64 m1, .int .i64 d1], .int .i64 k1]) ∧ Below W.heap.size W w'))
  (D2 : Aside0 (∀ W, Calls Tryz.prog 76 #[.int .i64 u] W fun e w' => e = .returned (.tuple #[.agg #[.int .i64 y2, .int .i64 m2, .int .i64 d2], .int .i64 k2]) ∧ Below W.heap.size W w'))
  (h : ib = false ∧ r1 = 0 ∧ r2 = 5 ∨ ib = true ∧ (how < 1 ∧ r1 = 0 ∧ r2 = 1 ∨ ¬ how < 1 ∧ 4 < how ∧ r1 = 0 ∧ r2 = 1 ∨ how = 1 ∧ r1 = day ∧ r2 = 0 ∨ (how = 2 ∨ how = 3 ∨ how = 4) ∧ ob = true ∧ r1 = day ∧ r2 = 0 ∨
   ob = false ∧ (how = 2 ∧ (ub = true ∧ r1 = u ∧ r2 = 0 ∨ ub = false ∧ r1 = 0 ∧ r2 = 5) ∨ how = 4 ∧ (vb = true ∧ r1 = v ∧ r2 = 0 ∨ vb = false ∧ r1 = 0 ∧ r2 = 5) ∨ how = 3 ∧ (ub = false ∧ (vb = true ∧ r1 = v ∧ r2 = 0 ∨ vb = false ∧ r1 = 0 ∧ r2 = 5) ∨ ub = true ∧ ((m1 != m2) = true ∧ (vb = true ∧ r1 = v ∧ r2 = 0 ∨ vb = false ∧ r1 = 0 ∧ r2 = 5) ∨ (m1 != m2) = false ∧ ((y1 != y2) = true ∧ (vb = true ∧ r1 = v ∧ r2 = 0 ∨ vb = false ∧ r1 = 0 ∧ r2 = 5) ∨ (y1 != y2) = false ∧ r1 = u ∧ r2 = 0)))))) :
  Calls Tryz.prog 50 #[.slice A3 l.length c3, .int .i64 day, .int .i64 how] w fun e w' => e = .returned (.tuple #[.int .i64 r1, .int .i64 r2]) ∧ Below w.heap.size w w' := by
 have HB := Aside0.mk (Below.refl w.heap.size w)
 rcases h with ⟨rfl, rfl, rfl⟩ | ⟨rfl, ⟨h, rfl, rfl⟩ | ⟨h, h2, rfl, rfl⟩ | ⟨rfl, rfl, rfl⟩ | ⟨rfl | rfl | rfl, rfl, rfl, rfl⟩ | ⟨rfl, ⟨rfl, (⟨rfl, rfl, rfl⟩ | ⟨rfl, rfl, rfl⟩)⟩ | ⟨rfl, (⟨rfl, rfl, rfl⟩ | ⟨rfl, rfl, rfl⟩)⟩ | ⟨rfl, ⟨rfl, (⟨rfl, rfl, rfl⟩ | ⟨rfl, rfl, rfl⟩)⟩ | ⟨rfl, ⟨h, (⟨rfl, rfl, rfl⟩ | ⟨rfl, rfl, rfl⟩)⟩ | ⟨h, ⟨h2, (⟨rfl, rfl, rfl⟩ | ⟨rfl, rfl, rfl⟩)⟩ | ⟨h2, rfl, rfl⟩⟩⟩⟩⟩⟩
 all_goals
  try replace SU := Aside0.mk (SU.out rfl)
  try replace SD := Aside0.mk (SD.out rfl)
  go_enter Tryz.func50, Tryz.ntmps50
  go_wp2_with (first
   | (go_at_call 53; (with_reducible refine (IS.out _).mono ?_); rintro e w1 ⟨rfl, hb⟩; have HB := Aside0.mk hb.below; clear hb)
   | (go_at_call 74; (with_reducible refine (OP.out _ HB.out).mono ?_); rintro e w1 ⟨rfl, hb⟩; have HB := Aside0.mk (below_step HB.out hb.below); clear hb)
   | (go_at_call 75; (first | (with_reducible refine (SU.out _ HB.out).mono ?_) | (with_reducible refine (SD.out _ HB.out).mono ?_)); rintro e w1 ⟨rfl, hb⟩; have HB := Aside0.mk (below_step HB.out hb.below); clear hb)
   | (go_at_call 76; (with_reducible refine (D1.out _).mono ?_); rintro e w1 ⟨rfl, hb⟩; have HB := Aside0.mk (below_step HB.out hb); clear hb)
   | (go_at_call 76; (with_reducible refine (D2.out _).mono ?_); rintro e w1 ⟨rfl, hb⟩; have HB := Aside0.mk (below_step HB.out hb); have GA := Aside0.mk (Pd.blk_below GA.out hb); clear hb)
   | ((with_reducible refine gate_dst (N := 12) rfl ?_); refine copy_event rfl (N := 12) rfl rfl rfl (t := 127) (v := .tmp 50) rfl (cs := #[.int .i64 y1, .int .i64 m1, .int .i64 d1]) (zs := #[.int .i64 0, .int .i64 0, .int .i64 0]) ?hr rfl rfl info_dateR ?hz (by simp [Value.oneCell']) ?_; (case hr => first | (go_simp; done) | (go_simp; rfl)); (case hz => rfl); intro ga hg w2 hb1 hb; clear hg; have GA := Aside0.mk hb1; have HB := Aside0.mk (below_step HB.out hb); clear hb1 hb)
   | ((with_reducible refine gate_dst (N := 14) rfl ?_); refine copy_event rfl (N := 14) rfl rfl rfl (t := 127) (v := .tmp 55) rfl (cs := #[.int .i64 y2, .int .i64 m2, .int .i64 d2]) (zs := #[.int .i64 0, .int .i64 0, .int .i64 0]) ?hr rfl rfl info_dateR ?hz (by simp [Value.oneCell']) ?_; (case hr => first | (go_simp; done) | (go_simp; rfl)); (case hz => rfl); intro gb hg w2 hb1 hb; clear hg; have HB := Aside0.mk (below_step HB.out hb); have GA := Aside0.mk (Pd.blk_below GA.out hb); have q0 := (show w2.cell? ⟨ga, 0, none⟩ = some (.int .i64 y1) from (blk_cell GA.out 0).trans rfl); have q1 := (show w2.cell? ⟨ga, 1, none⟩ = some (.int .i64 m1) from (blk_cell GA.out 1).trans rfl); have r0 := (show w2.cell? ⟨gb, 0, none⟩ = some (.int .i64 y2) from (blk_cell hb1 0).trans rfl); have r1 := (show w2.cell? ⟨gb, 1, none⟩ = some (.int .i64 m2) from (blk_cell hb1 1).trans rfl); clear hb1 hb))
  go_ret2
  exact ⟨rfl, HB.out⟩
theorem rroll_any (A3 : Option Addr) (c3 : Nat) (l : List Int) (day how r1 r2 : Int) (w : World) (hr : Kd.C (Kd.int .i64) w A3 l.length l) (hc : l.length ≤ c3) (hm : l.length ≤ 1000000) (h : rollS l day how = (r1, r2)) :
  Calls Tryz.prog 50 #[.slice A3 l.length c3, .int .i64 day, .int .i64 how] w fun e w' => e = .returned (.tuple #[.int .i64 r1, .int .i64 r2]) ∧ Below w.heap.size w w' := by
 have sk : ∀ (s : Int), ∃ u ub, (isDay day → (s = 1 ∨ s = -1) → (∀ W, Below w.heap.size w W → Calls Tryz.prog 75 #[.slice A3 l.length c3, .int .i64 day, .int .i64 s] W fun e w' => e = .returned (.tuple #[.int .i64 u, .bool ub]) ∧ Drawn0 W w') ∧ (ub = true ∧ seekS l s 200000 day = (u, 0) ∧ isDay u ∨ ub = false ∧ seekS l s 200000 day = (0, 5) ∧ u = 0)) := by
  intro s
  refine ⟨(seekR (seekS l s 200000 day)).1, (seekR (seekS l s 200000 day)).2, fun hd hs => ⟨fun W hb => ?_, ?_⟩⟩
  ·rcases hs with rfl | rfl
   ·exact PBU.quittanceref05_seek.calls 200010 A3 c3 l day 1 _ _ W (Kd.C_below hr hb) hc (rSeek_up l (by omega) 200010 (by omega) hd)
   ·exact PBU.quittanceref05_seek.calls 200010 A3 c3 l day (-1) _ _ W (Kd.C_below hr hb) hc (rSeek_down l (by omega) 200010 (by omega) hd)
  ·rcases seekS_form l s 200000 day with hp | ⟨y, hp, hy⟩
   ·rw [hp]; exact .inr ⟨rfl, rfl, rfl⟩
   ·rw [hp]; exact .inl ⟨rfl, rfl, hy⟩
 have dt : ∀ (n : Int) (W : World), Calls Tryz.prog 76 #[.int .i64 n] W fun e w' => e = .returned (.tuple #[.agg #[.int .i64 (date n).1, .int .i64 (date n).2.1, .int .i64 (date n).2.2.1], .int .i64 (date n).2.2.2]) ∧ Below W.heap.size W w' := fun n W => quittanceref03_Date.calls n _ _ _ _ W rfl
 obtain ⟨u, ub, hu⟩ := sk 1
 obtain ⟨v, vb, hv⟩ := sk (-1)
 by_cases hd : isDay day
 ·obtain ⟨SU, cu⟩ := hu hd (.inl rfl)
  obtain ⟨SD, cv⟩ := hv hd (.inr rfl)
  refine rroll_walk A3 c3 l day how r1 r2 u v _ _ _ _ _ _ _ _ true (openB l day) ub vb w ⟨fun W => quittanceref03_Is.calls day true W (congrArg some (decide_eq_true hd))⟩ ⟨fun W hb => PBU.quittanceref05_Open.calls A3 c3 l day (openB l day) W (Kd.C_below hr hb) hc (rOpen l (by omega) day)⟩ ⟨fun _ => SU⟩ ⟨fun _ => SD⟩ ⟨dt day⟩ ⟨dt u⟩ (.inr ⟨rfl, ?_⟩)
  have hq : seekS l (-1) 200000 day = (r1, r2) → (vb = true ∧ r1 = v ∧ r2 = 0 ∨ vb = false ∧ r1 = 0 ∧ r2 = 5) := fun e => by
   rcases cv with ⟨a, b, -⟩ | ⟨a, b, -⟩
   ·obtain ⟨rfl, rfl⟩ := Prod.mk.inj (b.symm.trans e); exact .inl ⟨a, rfl, rfl⟩
   ·obtain ⟨rfl, rfl⟩ := Prod.mk.inj (b.symm.trans e); exact .inr ⟨a, rfl, rfl⟩
  unfold rollS at h
  rw [if_neg (fun g => g hd)] at h
  by_cases h1 : how < 1 ∨ 4 < how
  ·rw [if_pos h1] at h
   obtain ⟨rfl, rfl⟩ := Prod.mk.inj h
   rcases (by omega : how < 1 ∨ ¬ how < 1 ∧ 4 < how) with h2 | ⟨h2, h3⟩
   ·exact .inl ⟨h2, rfl, rfl⟩
   ·exact .inr (.inl ⟨h2, h3, rfl, rfl⟩)
  ·rw [if_neg h1] at h
   refine .inr (.inr ?_)
   by_cases h2 : how = 1
   ·rw [if_pos h2] at h
    obtain ⟨rfl, rfl⟩ := Prod.mk.inj h
    exact .inl ⟨h2, rfl, rfl⟩
   ·rw [if_neg h2] at h
    refine .inr ?_
    by_cases ho : openB l day = true
    ·rw [seek_self ho, seek_self ho] at h
     have e : (day, (0 : Int)) = (r1, r2) := by
      rw [← h]
      split
      ·rfl
      ·split <;> rfl
     obtain ⟨rfl, rfl⟩ := Prod.mk.inj e
     exact .inl ⟨by omega, ho, rfl, rfl⟩
    ·refine .inr ⟨by simpa using ho, ?_⟩
     by_cases h4 : how = 4
     ·rw [if_pos h4] at h
      exact .inr (.inl ⟨h4, hq h⟩)
     ·rw [if_neg h4] at h
      by_cases h3 : how = 3
      ·refine .inr (.inr ⟨h3, ?_⟩)
       rcases cu with ⟨a, b, hy⟩ | ⟨a, b, -⟩
       ·refine .inr ⟨a, ?_⟩
        rw [b] at h
        have hmon := mon_eq hy hd
        by_cases hmm : mon u = mon day
        ·rw [if_neg (by rintro ⟨-, g | g⟩ <;> exact g (by first | rfl | exact hmm))] at h
         obtain ⟨rfl, rfl⟩ := Prod.mk.inj h
         obtain ⟨g1, g2⟩ := hmon.1 hmm
         exact .inr ⟨by rw [g1]; simp, .inr ⟨by rw [g2]; simp, rfl, rfl⟩⟩
        ·rw [if_pos ⟨h3, .inr hmm⟩] at h
         by_cases g : (date day).2.1 = (date u).2.1
         ·exact .inr ⟨by rw [g]; simp, .inl ⟨by simpa using fun g2 => hmm (hmon.2 ⟨g.symm, Eq.symm g2⟩), hq h⟩⟩
         ·exact .inl ⟨by simpa using g, hq h⟩
       ·rw [b, if_pos ⟨h3, .inl (by decide)⟩] at h
        exact .inl ⟨a, hq h⟩
      ·rw [if_neg (fun g => h3 g.1)] at h
       refine .inl ⟨by omega, ?_⟩
       rcases cu with ⟨a, b, -⟩ | ⟨a, b, -⟩
       ·obtain ⟨rfl, rfl⟩ := Prod.mk.inj (b.symm.trans h); exact .inl ⟨a, rfl, rfl⟩
       ·obtain ⟨rfl, rfl⟩ := Prod.mk.inj (b.symm.trans h); exact .inr ⟨a, rfl, rfl⟩
 ·have e : rollS l day how = (0, 5) := by unfold rollS; rw [if_pos hd]
  obtain ⟨rfl, rfl⟩ := Prod.mk.inj (e.symm.trans h)
  exact rroll_walk A3 c3 l day how 0 5 u v _ _ _ _ _ _ _ _ false (openB l day) ub vb w ⟨fun W => quittanceref03_Is.calls day false W (congrArg some (decide_eq_false hd))⟩ ⟨fun W hb => PBU.quittanceref05_Open.calls A3 c3 l day (openB l day) W (Kd.C_below hr hb) hc (rOpen l (by omega) day)⟩ ⟨fun g => by cases g⟩ ⟨fun g => by cases g⟩ ⟨dt day⟩ ⟨dt u⟩ (.inl ⟨rfl, rfl, rfl⟩)
set_option maxRecDepth 100000 in
set_option maxHeartbeats 2000000 in
theorem rdays_refused (p : Prod) (A1 : Option Addr) (c1 : Nat) (A2 : Option Addr) (c2 : Nat) (A3 : Option Addr) (c3 : Nat) (start : Int) (w : World) (hp : ProdAt w p A1 c1 A2 c2 A3 c3) (hs : Held p) (ho : ok p = false) :
  Calls Tryz.prog 20 #[pv p A1 c1 A2 c2 A3 c3, .int .i64 start] w (Listed (daysP p start) w) := by
 have er : err p = 9 := by unfold err; rw [ho]; rfl
 have ed : daysP p start = ([], 9) := by unfold daysP; rw [ho]; rfl
 rw [ed]
 have HP := Aside0.mk hp
 have CK := Aside0.mk (fun w1 (hb : Below w.heap.size w w1) => rcheck_any p A1 c1 A2 c2 A3 c3 w1 (HP.out.below hb) hs)
 rw [er] at CK
 clear hp ed er ho hs
 go_enter Tryz.func20, Tryz.ntmps20
 go_wp2_with ((with_reducible refine gate_dst (N := 2) rfl ?_); refine box_event ?hg (N := 2) ?hd (cs := pcs p A1 c1 A2 c2 A3 c3) (t := 27) ?hr ?_; (case hd => rfl); (case hg => rfl); (case hr => first | (go_simp; done) | (go_simp; rfl)); intro g2 hg v0 hb1 hbl1; clear hg; have G2 := Aside0.mk hb1; have HB := Aside0.mk hbl1; clear hb1 hbl1; refine Hid.out ?_)
 refine Lib.hid ?_
 go_wp2_with (first
  | ((with_reducible refine gate_dst (N := 14) rfl ?_); refine wpList_load_row rfl 27 (.tmp 2) rfl g2 rfl 27 _ (0, 0) _ G2.out Tryz.underlying27 rfl info_prod ?_)
  | (go_at_call 14; (with_reducible refine (CK.out _ HB.out).mono ?_); rintro e w2 ⟨rfl, hb⟩; have HB := Aside0.mk (below_step HB.out hb); have G2 := Aside0.mk (Pd.blk_below G2.out hb); clear hb; obtain ⟨-, -, -, -, q4, q5, -, -, -, -, -, -, -, -, -, -, -, q17, q18⟩ := pc_cells G2.out))
 go_ret2
 exact ⟨_, rfl, Or.inl ⟨rfl, rfl⟩, HB.out⟩
set_option maxRecDepth 100000 in
set_option maxHeartbeats 2000000 in
theorem rdays_none (p : Prod) (A1 : Option Addr) (c1 : Nat) (A2 : Option Addr) (c2 : Nat) (A3 : Option Addr) (c3 : Nat) (start : Int) (w : World) (hp : ProdAt w p A1 c1 A2 c2 A3 c3) (hs : Held p) (ho : ok p = true) (hd : (datesP start p.every p.times).2 ≠ 0) :
  Calls Tryz.prog 20 #[pv p A1 c1 A2 c2 A3 c3, .int .i64 start] w (Listed (daysP p start) w) := by
 have er : err p = 0 := by unfold err; rw [ho]; rfl
 have ed : daysP p start = ([], (datesP start p.every p.times).2) := by unfold daysP; rw [if_pos ho, if_neg hd]
 rw [ed]
 have HP := Aside0.mk hp
 have CK := Aside0.mk (fun w1 (hb : Below w.heap.size w w1) => rcheck_any p A1 c1 A2 c2 A3 c3 w1 (HP.out.below hb) hs)
 rw [er] at CK
 have dt := fun w => rdates_any start p.every p.times w
 generalize datesP start p.every p.times = D at dt hd ⊢
 obtain ⟨l, e0⟩ := D
 have DT := Aside0.mk dt
 have he : (e0 != 0) = true := by simpa using hd
 clear hp ed er ho hs dt hd
 go_enter Tryz.func20, Tryz.ntmps20
 go_wp2_with ((with_reducible refine gate_dst (N := 2) rfl ?_); refine box_event ?hg (N := 2) ?hd (cs := pcs p A1 c1 A2 c2 A3 c3) (t := 27) ?hr ?_; (case hd => rfl); (case hg => rfl); (case hr => first | (go_simp; done) | (go_simp; rfl)); intro g2 hg v0 hb1 hbl1; clear hg; have G2 := Aside0.mk hb1; have HB := Aside0.mk hbl1; clear hb1 hbl1; refine Hid.out ?_)
 refine Lib.hid ?_
 go_wp2_with (first
  | ((with_reducible refine gate_dst (N := 14) rfl ?_); refine wpList_load_row rfl 27 (.tmp 2) rfl g2 rfl 27 _ (0, 0) _ G2.out Tryz.underlying27 rfl info_prod ?_)
  | (go_at_call 14; (with_reducible refine (CK.out _ HB.out).mono ?_); rintro e w2 ⟨rfl, hb⟩; have HB := Aside0.mk (below_step HB.out hb); have G2 := Aside0.mk (Pd.blk_below G2.out hb); clear hb; obtain ⟨-, -, -, -, q4, q5, -, -, -, -, -, -, -, -, -, -, -, q17, q18⟩ := pc_cells G2.out)
  | (go_at_call 49; (with_reducible refine (DT.out _).mono ?_); rintro e w3 ⟨v, rfl, hr, hb⟩; have RW := Aside0.mk hr; have HB := Aside0.mk (below_step HB.out hb); have G2 := Aside0.mk (Pd.blk_below G2.out hb); clear hr hb; obtain ⟨-, -, -, -, q4, q5, -, -, -, -, -, -, -, -, -, -, -, q17, q18⟩ := pc_cells G2.out))
 go_ret2
 exact ⟨_, rfl, Or.inl ⟨rfl, rfl⟩, HB.out⟩
set_option maxRecDepth 100000 in
set_option maxHeartbeats 8000000 in
theorem rdays_main (p : Prod) (A1 : Option Addr) (c1 : Nat) (A2 : Option Addr) (c2 : Nat) (A3 : Option Addr) (c3 : Nat) (start : Int) (w : World) (hp : ProdAt w p A1 c1 A2 c2 A3 c3) (hs : Held p) (hh : p.hol.length ≤ 1000000) (ho : ok p = true) (l : List Int) (hd : datesP start p.every p.times = (l, 0)) :
  Calls Tryz.prog 20 #[pv p A1 c1 A2 c2 A3 c3, .int .i64 start] w (Listed (risen start (rollAll p.hol p.roll l)) w) := by
 generalize hR : risen start (rollAll p.hol p.roll l) = R
 have RR := Aside0.mk hR
 clear hR
 have er : err p = 0 := by unfold err; rw [ho]; rfl
 have hfull := datesP_full (n := start) (e := p.every) (t := p.times) (by rw [hd])
 rw [hd] at hfull
 have hne : l ≠ [] := fun e => by rw [e] at hfull; have := hfull.1; simp at this; omega
 have hln : l.length ≤ 600 := by have := hfull.1; simp only [] at this; omega
 have HP := Aside0.mk hp
 have HH := Aside0.mk hh
 have CK := Aside0.mk (fun w1 (hb : Below w.heap.size w w1) => rcheck_any p A1 c1 A2 c2 A3 c3 w1 (HP.out.below hb) hs)
 rw [er] at CK
 have DT := Aside0.mk (fun w => show Calls Tryz.prog 49 #[.int .i64 start, .int .i64 p.every, .int .i64 p.times] w (Listed1 l w) from (rdates_any start p.every p.times w).mono fun e w' h => by rw [hd] at h; exact h.one hne)
 have hlp : 0 < l.length := by cases l with | nil => exact absurd rfl hne | cons a r => simp
 clear hp er ho hs hd hfull hne hh
 go_enter Tryz.func20, Tryz.ntmps20
 go_wp2_with ((with_reducible refine gate_dst (N := 2) rfl ?_); refine box_event ?hg (N := 2) ?hd (cs := pcs p A1 c1 A2 c2 A3 c3) (t := 27) ?hr ?_; (case hd => rfl); (case hg => rfl); (case hr => first | (go_simp; done) | (go_simp; rfl)); intro g2 hg v0 hb1 hbl1; clear hg; have G2 := Aside0.mk hb1; have HB := Aside0.mk hbl1; clear hb1 hbl1; refine Hid.out ?_)
 refine Lib.hid ?_
 go_wp2_with (first
  | ((with_reducible refine gate_dst (N := 14) rfl ?_); refine wpList_load_row rfl 27 (.tmp 2) rfl g2 rfl 27 _ (0, 0) _ G2.out Tryz.underlying27 rfl info_prod ?_)
  | (go_at_call 14; (with_reducible refine (CK.out _ HB.out).mono ?_); rintro e w2 ⟨rfl, hb⟩; have HB := Aside0.mk (below_step HB.out hb); have G2 := Aside0.mk (Pd.blk_below G2.out hb); clear hb; obtain ⟨-, -, -, -, q4, q5, -, -, -, -, -, -, -, -, -, -, -, q17, q18⟩ := pc_cells G2.out)
  | (go_at_call 49; (with_reducible refine (DT.out _).mono ?_); rintro e w3 ⟨g, c, t, rfl, hge, hc, hbk, hb⟩; have gne := (show g2 ≠ g by have := blk_lt G2.out; omega); have hgw := Nat.le_trans HB.out.size hge; have BK := Aside0.mk hbk; have HB := Aside0.mk (below_step HB.out hb); have G2 := Aside0.mk (Pd.blk_below G2.out hb); clear hb hbk; obtain ⟨-, -, -, -, q4, q5, -, -, -, -, -, -, -, -, -, -, -, q17, q18⟩ := pc_cells G2.out))
 go_loopg [8, 9] (l.length + 1) (fun gq ov iv w' => ∃ (k : Nat) (A : Option Addr) (cw : Nat) (ls : List Int), k ≤ l.length ∧ iv = .int .i64 (k : Int) ∧ ov = .slice A ls.length cw ∧ Aside0 (ls.length = k) ∧ Aside0 (gq = l.length + 1 - k) ∧ Aside0 (rollAll p.hol p.roll l = after ls (rollAll p.hol p.roll (l.drop k))) ∧ Aside0 (Kd.R (Kd.int .i64) 3 w' w.heap.size (fun b => b ≠ g ∧ b ≠ g2) (.slice A ls.length cw) ls) ∧ Aside0 (H.Blk w' g 3 (nums .i64 l ++ t)) ∧ Aside0 (w'.heap[g2]? = some (.cells (pcs p A1 c1 A2 c2 A3 c3) 27 (0, 0))) ∧ Aside0 (Below w.heap.size w w'))
 case atStart => exact ⟨0, none, 0, [], by omega, rfl, rfl, ⟨rfl⟩, ⟨rfl⟩, ⟨(after_nil (rollAll_err _ _ _)).symm⟩, ⟨Kd.R_nil _ _ _ _ _⟩, BK, G2, HB⟩
 case round =>
  obtain ⟨k, A, cw, ls, kn, rfl, rfl, hlen, hgq, hra, hr, hbk, G2, hbel⟩ := hrel
  have gszr := Blk.lt hbk.out
  have g2lt := blk_lt G2.out
  have gsz0 := hbel.out.size
  by_cases hlt : k < l.length
  ·have hdr : l.drop k = l[k] :: l.drop (k + 1) := List.drop_eq_getElem_cons hlt
   rw [hdr] at hra
   have HAT := Aside0.mk (show (nums .i64 l ++ t)[k]? = some (.int .i64 l[k]) by rw [List.getElem?_append_left (by simp [nums]; omega)]; simp [nums] <;> omega)
   have hcl := (hbk.out.cell k).trans HAT.out
   have hsz : (k : Int) < (l.length : Int) := by omega
   obtain ⟨v, e1, hx⟩ : ∃ v e1, rollS p.hol l[k] p.roll = (v, e1) := ⟨_, _, rfl⟩
   have RO := Aside0.mk (fun W (hb : Below w.heap.size w W) => rroll_any A3 c3 p.hol _ _ _ _ W (HP.out.below hb).r3 HP.out.l3 HH.out hx)
   by_cases he1 : e1 = 0
   ·subst he1
    have hra2 := Aside0.mk (show rollAll p.hol p.roll l = after (ls ++ [v]) (rollAll p.hol p.roll (l.drop (k + 1))) by
     have e := hra.out
     rw [rollAll, hx, if_pos rfl] at e
     rw [e, after_after])
    clear hra hx hdr
    have U := Aside0.mk (Below.refl wr.heap.size wr)
    obtain ⟨-, -, -, -, -, -, -, -, -, -, -, -, -, -, -, -, -, q17, q18⟩ := pc_cells G2.out
    go_wp2_with fail
    go_region_held3 (fun W => W.cell? ⟨g2, 17, none⟩ = some (.int .i64 p.roll) ∧ W.cell? ⟨g2, 18, none⟩ = some (.slice A3 p.hol.length c3) ∧ W.cell? ⟨g, k, none⟩ = some (.int .i64 l[k])) (first | exact ⟨q17, q18, hcl⟩ | go_keep) (first
     | (go_at_call 50; (with_reducible refine (RO.out _ (below_step hbel.out (by first | exact pw_below_drewN U.out _ | exact Below.drew U.out | exact U.out))).mono ?_); rintro e w9 ⟨rfl, hb⟩; have U := Aside0.mk (below_step (by first | exact pw_below_drewN U.out _ | exact Below.drew U.out | exact U.out) hb); obtain ⟨-, -, -, -, -, -, -, -, -, -, -, -, -, -, -, -, -, q17, q18⟩ := pc_cells (Pd.blk_below G2.out U.out); have hcl := ((hbk.out.below U.out).cell k).trans HAT.out; clear hb))
    have HO := Aside0.mk (Kd.R_below hr.out U.out)
    have BK9 := Aside0.mk (hbk.out.below U.out)
    have G9 := Aside0.mk (Pd.blk_below G2.out U.out)
    have HB9 := Aside0.mk (below_step hbel.out U.out)
    have gs9 := Blk.lt BK9.out
    have g29 := blk_lt G9.out
    have gw9 := HB9.out.size
    go_wp2_with ((with_reducible refine gate_builtin (b := .append) (xs := #[.tmp 52, .tmp 54]) rfl ?_); at_builtin; refine Kd.R_append (Kd.int .i64) (w0 := w) w.heap.size rfl (.tmp 52) (.tmp 54) 25 3 (.int .i64 0) 8 rfl Tryz.underlying25 info_int rfl (by decide) (by omega) (.slice A ls.length cw) ls v [.int .i64 v] (fun b => b ≠ g ∧ b ≠ g2) (fun _ => False) rfl rfl ?aP (fun _ hk => hk.elim) ?aF ?aO ?aB ?aS ?aL ?_; (case aP => exact rfl); (case aF => exact fun b hb => ⟨by omega, by omega⟩); (case aO => exact HO.out); (case aB => exact HB9.out); (case aS => exact gw9); (case aL => have := hlen.out; omega); intro v1 w11 hr1 hb1 hg1 hat1; obtain ⟨l2, hl2⟩ : ∃ l2, l2 = ls ++ [v] := ⟨_, rfl⟩; rw [← hl2] at hr1; obtain ⟨gn, cn, rfl⟩ := RI_slice hr1 (by rw [hl2]; simp); have L2 := Aside0.mk hl2; clear hl2; have R1 := Aside0.mk hr1; have HB1 := Aside0.mk hb1; have HK := Aside0.mk ((hg1.block g gs9 (fun e => (HO.out.1 g e.symm).1 rfl)).trans BK9.out); have HK2 := Aside0.mk ((hg1.block g2 g29 (fun e => (HO.out.1 g2 e.symm).2 rfl)).trans G9.out); clear hr1 hb1 hg1 hat1)
    have hlen2 : l2.length = k + 1 := by rw [L2.out, List.length_append, hlen.out]; rfl
    have L3 := Aside0.mk hlen2
    clear hlen2
    go_roundg (l.length + 1 - (k + 1))
    case measure => have := hgq.out; omega
    case rel => exact ⟨k + 1, some ⟨gn, 0, none⟩, cn, l2, by omega, by simp, rfl, L3, ⟨rfl⟩, ⟨by rw [hra2.out, L2.out]⟩, R1, HK, HK2, HB1⟩
   ·have he : (e1 != 0) = true := by simpa using he1
    have fin := Aside0.mk (show R = ([], e1) by
     have e := hra.out
     rw [rollAll, hx, if_neg he1, after_err ls he1] at e
     rw [← RR.out]
     unfold risen
     rw [e, if_neg he1])
    clear hra hx hdr he1
    have U := Aside0.mk (Below.refl wr.heap.size wr)
    obtain ⟨-, -, -, -, -, -, -, -, -, -, -, -, -, -, -, -, -, q17, q18⟩ := pc_cells G2.out
    go_wp2_with fail
    go_region_held3 (fun W => W.cell? ⟨g2, 17, none⟩ = some (.int .i64 p.roll) ∧ W.cell? ⟨g2, 18, none⟩ = some (.slice A3 p.hol.length c3) ∧ W.cell? ⟨g, k, none⟩ = some (.int .i64 l[k])) (first | exact ⟨q17, q18, hcl⟩ | go_keep) (first
     | (go_at_call 50; (with_reducible refine (RO.out _ (below_step hbel.out (by first | exact pw_below_drewN U.out _ | exact Below.drew U.out | exact U.out))).mono ?_); rintro e w9 ⟨rfl, hb⟩; have U := Aside0.mk (below_step (by first | exact pw_below_drewN U.out _ | exact Below.drew U.out | exact U.out) hb); obtain ⟨-, -, -, -, -, -, -, -, -, -, -, -, -, -, -, -, -, q17, q18⟩ := pc_cells (Pd.blk_below G2.out U.out); have hcl := ((hbk.out.below U.out).cell k).trans HAT.out; clear hb))
    go_wp2_with fail
    go_ret2
    rw [fin.out]
    exact ⟨_, rfl, Or.inl ⟨rfl, rfl⟩, below_step hbel.out (by first | exact pw_below_drewN U.out _ | exact Below.drew U.out | exact U.out)⟩
  ·obtain rfl : k = l.length := by omega
   have hra2 := hra.out
   rw [List.drop_length, rollAll, after, if_pos rfl, List.append_nil] at hra2
   have RR2 := Aside0.mk (show R = (if rise start ls = true then (ls, 0) else ([], 11)) by rw [← RR.out, hra2]; rfl)
   have hl0 : ls ≠ [] := fun e => by have := hlen.out; rw [e] at this; simp at this; omega
   have hln2 : ls.length ≤ 600 := by have := hlen.out; omega
   rcases row_of_R hr.out with ⟨-, e⟩ | ⟨gn, cn, tn, e, hgn, hcn, hkn⟩
   ·exact absurd e hl0
   injection e with e1 e2 e3
   subst e1; subst e3
   have BK2 := Aside0.mk hkn
   clear hra hra2 hr hbk CK DT HP RR hkn hl0 e2 G2
   go_wp2_with fail
   go_loopg [12, 13] (ls.length + 1) (fun gq pvv iv w' => ∃ (k : Nat) (pv : Int), k ≤ ls.length ∧ iv = .int .i64 (k : Int) ∧ pvv = .int .i64 pv ∧ Aside0 (gq = ls.length + 1 - k) ∧ Aside0 (rise start ls = rise pv (ls.drop k)) ∧ Aside0 (H.Blk w' gn 3 (nums .i64 ls ++ tn)) ∧ Aside0 (Below w.heap.size w w'))
   case atStart => exact ⟨0, start, by omega, rfl, rfl, ⟨rfl⟩, ⟨rfl⟩, BK2, hbel⟩
   case round =>
    obtain ⟨k, pv, kn, rfl, rfl, hgq2, hri, hbk, hbel2⟩ := hrel
    by_cases hlt : k < ls.length
    ·have hdr : ls.drop k = ls[k] :: ls.drop (k + 1) := List.drop_eq_getElem_cons (by omega)
     have hcl := (hbk.out.cell k).trans (show (nums .i64 ls ++ tn)[k]? = some (.int .i64 (ls[k]'(by omega))) by rw [List.getElem?_append_left (by simp [nums]; omega)]; simp [nums] <;> omega)
     have hsz : (k : Int) < (ls.length : Int) := by omega
     have hri2 := hri.out
     rw [hdr, rise] at hri2
     generalize hd : ls[k]'(by omega) = d at *
     clear hd hdr
     by_cases hle : d ≤ pv
     ·have fin := Aside0.mk (show R = ([], 11) by rw [RR2.out, hri2, decide_eq_false (by omega)]; rfl)
      have tl : decide (d ≤ pv) = true := decide_eq_true hle
      clear hri hri2 hle
      go_wp2_with fail
      go_ret2
      rw [fin.out]
      exact ⟨_, rfl, Or.inl ⟨rfl, rfl⟩, hbel2.out⟩
     ·have tl : decide (d ≤ pv) = false := decide_eq_false hle
      have hri3 := Aside0.mk (show rise start ls = rise d (ls.drop (k + 1)) by rw [hri2, decide_eq_true (by omega)]; simp)
      clear hri hri2 hle
      go_wp2_with fail
      go_roundg (ls.length + 1 - (k + 1))
      case measure => have := hgq2.out; omega
      case rel => exact ⟨k + 1, d, by omega, by simp, rfl, ⟨rfl⟩, hri3, hbk, hbel2⟩
    ·obtain rfl : k = ls.length := by omega
     have hri2 := hri.out
     rw [List.drop_eq_nil_of_le (by omega), rise] at hri2
     have fin := Aside0.mk (show R = (ls, 0) by rw [RR2.out, hri2]; rfl)
     clear hri hri2
     go_wp2_with fail
     go_ret2
     rw [fin.out]
     exact ⟨_, rfl, Or.inr ⟨gn, cw, tn, rfl, hgn, hcn, hbk.out⟩, hbel2.out⟩
theorem rdays_any (p : Prod) (A1 : Option Addr) (c1 : Nat) (A2 : Option Addr) (c2 : Nat) (A3 : Option Addr) (c3 : Nat) (start : Int) (w : World) (hp : ProdAt w p A1 c1 A2 c2 A3 c3) (hs : Held p) (hh : p.hol.length ≤ 1000000) :
  Calls Tryz.prog 20 #[pv p A1 c1 A2 c2 A3 c3, .int .i64 start] w (Listed (daysP p start) w) := by
 cases ho : ok p with
 | false => exact rdays_refused p A1 c1 A2 c2 A3 c3 start w hp hs ho
 | true =>
  by_cases hd : (datesP start p.every p.times).2 = 0
  ·have e : daysP p start = risen start (rollAll p.hol p.roll (datesP start p.every p.times).1) := by
    unfold daysP risen
    rw [if_pos ho, if_pos hd]
   rw [e]
   exact rdays_main p A1 c1 A2 c2 A3 c3 start w hp hs hh ho _ (by rw [← hd])
  ·exact rdays_none p A1 c1 A2 c2 A3 c3 start w hp hs ho hd
end Go.Proofs.YtfmkdledofbhdaaGreat.Du
/- quittanceref11.Parts: the document's parts between days; both parts are one where all may be. -/
namespace Go.Proofs.YtfmkdledofbhdaaGreat.Du
open Go.RowKit Go.Proofs.YtfmkdledofbhdaaGreatW.PrintWords Go.Proofs.YtfmkdledofbhdaaGreatW.PrintLast Go.Proofs.YtfmkdledofbhdaaGreatW.PrintMore Go.Proofs.YtfmkdledofbhdaaGreat.HW
open Go.Proofs.YtfmkdledofbhdaaGreat.Math Go.Proofs.YtfmkdledofbhdaaGreat.H Go.Proofs.YtfmkdledofbhdaaGreat.Pd Pm
set_option linter.unusedVariables false
set_option linter.unusedSimpArgs false
def rpartsL (c : Int) : Int → List Int → List Int
 | _, [] => []
 | s, d :: r => (between c s d).1 :: rpartsL c d r
theorem rbetween_any (c a b v e : Int) (h : between c a b = (v, e)) (w : World) : Calls Tryz.prog 25 #[.int .i64 c, .int .i64 a, .int .i64 b] w fun en w' => en = .returned (.tuple #[.int .i64 v, .int .i64 e]) ∧ Below w.heap.size w w' :=
 quittanceref06_Between.calls c a b v e w (by unfold quittanceref06_Between.f; rw [h])
set_option maxRecDepth 100000 in
set_option maxHeartbeats 2000000 in
theorem rparts_err (p : Prod) (A1 : Option Addr) (c1 : Nat) (A2 : Option Addr) (c2 : Nat) (A3 : Option Addr) (c3 : Nat) (start : Int) (w : World) (hp : ProdAt w p A1 c1 A2 c2 A3 c3) (hs : Held p) (hh : p.hol.length ≤ 1000000) (l : List Int) (e0 : Int) (h0 : e0 ≠ 0) (hd : daysP p start = (l, e0)) :
  Calls Tryz.prog 10 #[pv p A1 c1 A2 c2 A3 c3, .int .i64 start] w (ListedL ([], e0) w) := by
 have HP := Aside0.mk hp
 have DA := Aside0.mk (fun w1 (hb : Below w.heap.size w w1) => show Calls Tryz.prog 20 #[pv p A1 c1 A2 c2 A3 c3, .int .i64 start] w1 fun e w' => (∃ v, e = .returned (.tuple #[v, .int .i64 e0])) ∧ Below w1.heap.size w1 w' from (rdays_any p A1 c1 A2 c2 A3 c3 start w1 (HP.out.below hb) hs hh).mono fun e w' h => by rw [hd] at h; obtain ⟨v, he, -, hb⟩ := h; exact ⟨⟨v, he⟩, hb⟩)
 have hn : (e0 != 0) = true := by simpa using h0
 clear hp hd h0 hs hh
 go_enter Tryz.func10, Tryz.ntmps10
 go_wp2_with ((with_reducible refine gate_dst (N := 2) rfl ?_); refine box_event ?hg (N := 2) ?hd (cs := pcs p A1 c1 A2 c2 A3 c3) (t := 27) ?hr ?_; (case hd => rfl); (case hg => rfl); (case hr => first | (go_simp; done) | (go_simp; rfl)); intro g2 hg v0 hb1 hbl1; clear hg; have G2 := Aside0.mk hb1; have HB := Aside0.mk hbl1; clear hb1 hbl1; refine Hid.out ?_)
 refine Lib.hid ?_
 go_wp2_with (first
  | ((with_reducible refine gate_dst (N := 14) rfl ?_); refine wpList_load_row rfl 27 (.tmp 2) rfl g2 rfl 27 _ (0, 0) _ G2.out Tryz.underlying27 rfl info_prod ?_)
  | (go_at_call 20; (with_reducible refine (DA.out _ HB.out).mono ?_); rintro e w2 ⟨⟨v, rfl⟩, hb⟩; have HB := Aside0.mk (below_step HB.out hb); have G2 := Aside0.mk (Pd.blk_below G2.out hb); clear hb))
 go_ret2
 exact ⟨_, rfl, Or.inl ⟨rfl, rfl⟩, HB.out⟩
set_option maxRecDepth 100000 in
set_option maxHeartbeats 8000000 in
theorem rparts_main (p : Prod) (A1 : Option Addr) (c1 : Nat) (A2 : Option Addr) (c2 : Nat) (A3 : Option Addr) (c3 : Nat) (start : Int) (w : World) (hp : ProdAt w p A1 c1 A2 c2 A3 c3) (hs : Held p) (hh : p.hol.length ≤ 1000000) (l : List Int) (hl0 : l ≠ []) (hln : l.length ≤ 600) (hd : daysP p start = (l, 0)) :
  Calls Tryz.prog 10 #[pv p A1 c1 A2 c2 A3 c3, .int .i64 start] w (ListedL (rpartsL p.count start l, 0) w) := by
 generalize hR : rpartsL p.count start l = R
 have RR := Aside0.mk hR
 clear hR
 have HP := Aside0.mk hp
 have DA := Aside0.mk (fun w1 (hb : Below w.heap.size w w1) => show Calls Tryz.prog 20 #[pv p A1 c1 A2 c2 A3 c3, .int .i64 start] w1 (Listed1 l w1) from (rdays_any p A1 c1 A2 c2 A3 c3 start w1 (HP.out.below hb) hs hh).mono fun e w' h => by rw [hd] at h; exact h.one hl0)
 have hlp : 0 < l.length := by cases l with | nil => exact absurd rfl hl0 | cons a r => simp
 clear hp hd hs hl0 hh
 go_enter Tryz.func10, Tryz.ntmps10
 go_wp2_with ((with_reducible refine gate_dst (N := 2) rfl ?_); refine box_event ?hg (N := 2) ?hd (cs := pcs p A1 c1 A2 c2 A3 c3) (t := 27) ?hr ?_; (case hd => rfl); (case hg => rfl); (case hr => first | (go_simp; done) | (go_simp; rfl)); intro g2 hg v0 hb1 hbl1; clear hg; have G2 := Aside0.mk hb1; have HB := Aside0.mk hbl1; clear hb1 hbl1; refine Hid.out ?_)
 refine Lib.hid ?_
 have g2lt0 := blk_lt G2.out
 go_wp2_with (first
  | ((with_reducible refine gate_dst (N := 14) rfl ?_); refine wpList_load_row rfl 27 (.tmp 2) rfl g2 rfl 27 _ (0, 0) _ G2.out Tryz.underlying27 rfl info_prod ?_)
  | (go_at_call 20; (with_reducible refine (DA.out _ HB.out).mono ?_); rintro e w3 ⟨g, c, t, rfl, hge, hc, hbk, hb⟩; have gne := (show g2 ≠ g by omega); have BK := Aside0.mk hbk; have gsz := Blk.lt hbk; have hgw := Nat.le_trans HB.out.size hge; have HB := Aside0.mk (below_step HB.out hb); have G2 := Aside0.mk (Pd.blk_below G2.out hb); clear hb hbk))
 go_loopg [8, 9, 10] (l.length + 1) (fun gq ov sv iv w' => ∃ (k : Nat) (s : Int) (A : Option Addr) (cw : Nat) (ls : List Int), k ≤ l.length ∧ iv = .int .i64 (k : Int) ∧ sv = .int .i64 s ∧ ov = .slice A ls.length cw ∧ Aside0 (ls.length = k) ∧ Aside0 (gq = l.length + 1 - k) ∧ Aside0 (R = ls ++ rpartsL p.count s (l.drop k)) ∧ Aside0 (Kd.R (Kd.int .i64) 2 w' w.heap.size (fun b => b ≠ g ∧ b ≠ g2) (.slice A ls.length cw) ls) ∧ Aside0 (H.Blk w' g 3 (nums .i64 l ++ t)) ∧ Aside0 (w'.heap[g2]? = some (.cells (pcs p A1 c1 A2 c2 A3 c3) 27 (0, 0))) ∧ Aside0 (Below w.heap.size w w'))
 case atStart => exact ⟨0, start, none, 0, [], by omega, rfl, rfl, rfl, ⟨rfl⟩, ⟨rfl⟩, ⟨RR.out.symm⟩, ⟨Kd.R_nil _ _ _ _ _⟩, BK, G2, HB⟩
 case round =>
  obtain ⟨k, s, A, cw, ls, kn, rfl, rfl, rfl, hlen, hgq, hra, hr, hbk, G2, hbel⟩ := hrel
  have gszr := Blk.lt hbk.out
  have g2lt := blk_lt G2.out
  have gsz0 := hbel.out.size
  by_cases hlt : k < l.length
  ·have hdr : l.drop k = l[k] :: l.drop (k + 1) := List.drop_eq_getElem_cons hlt
   rw [hdr] at hra
   have HAT := Aside0.mk (show (nums .i64 l ++ t)[k]? = some (.int .i64 l[k]) by rw [List.getElem?_append_left (by simp [nums]; omega)]; simp [nums] <;> omega)
   have hcl := (hbk.out.cell k).trans HAT.out
   have hsz : (k : Int) < (l.length : Int) := by omega
   obtain ⟨v, e1, hx⟩ : ∃ v e1, between p.count s l[k] = (v, e1) := ⟨_, _, rfl⟩
   have BT := Aside0.mk (fun w => rbetween_any _ _ _ _ _ hx w)
   have hra2 := Aside0.mk (show R = (ls ++ [v]) ++ rpartsL p.count l[k] (l.drop (k + 1)) by
    have e := hra.out
    rw [rpartsL, hx] at e
    rw [e, List.append_assoc]; rfl)
   clear hra hx hdr
   have U := Aside0.mk (Below.refl wr.heap.size wr)
   obtain ⟨-, q1, -, -, -, -, -, -, -, -, -, -, -, -, -, -, -, -, -⟩ := pc_cells G2.out
   go_wp2_with fail
   go_region_held3 (fun W => W.cell? ⟨g2, 1, none⟩ = some (.int .i64 p.count) ∧ W.cell? ⟨g, k, none⟩ = some (.int .i64 l[k])) (first | exact ⟨q1, hcl⟩ | go_keep) (first
    | (go_at_call 25; (with_reducible refine (BT.out _).mono ?_); rintro e w9 ⟨rfl, hb⟩; have U := Aside0.mk (below_step (by first | exact pw_below_drewN U.out _ | exact Below.drew U.out | exact U.out) hb); obtain ⟨-, q1, -, -, -, -, -, -, -, -, -, -, -, -, -, -, -, -, -⟩ := pc_cells (Pd.blk_below G2.out U.out); have hcl := ((hbk.out.below U.out).cell k).trans HAT.out; clear hb))
   have HO := Aside0.mk (Kd.R_below hr.out U.out)
   have BK9 := Aside0.mk (hbk.out.below U.out)
   have G9 := Aside0.mk (Pd.blk_below G2.out U.out)
   have HB9 := Aside0.mk (below_step hbel.out U.out)
   have gs9 := Blk.lt BK9.out
   have g29 := blk_lt G9.out
   have gw9 := HB9.out.size
   go_wp2_with ((with_reducible refine gate_builtin (b := .append) (xs := #[.tmp 40, .tmp 42]) rfl ?_); at_builtin; refine Kd.R_append (Kd.int .i64) (w0 := w) w.heap.size rfl (.tmp 40) (.tmp 42) 40 2 (.int .i64 0) 8 rfl Tryz.underlying40 info_l rfl (by decide) (by omega) (.slice A ls.length cw) ls v [.int .i64 v] (fun b => b ≠ g ∧ b ≠ g2) (fun _ => False) rfl rfl ?aP (fun _ hk => hk.elim) ?aF ?aO ?aB ?aS ?aL ?_; (case aP => exact rfl); (case aF => exact fun b hb => ⟨by omega, by omega⟩); (case aO => exact HO.out); (case aB => exact HB9.out); (case aS => exact gw9); (case aL => have := hlen.out; omega); intro v1 w11 hr1 hb1 hg1 hat1; obtain ⟨l2, hl2⟩ : ∃ l2, l2 = ls ++ [v] := ⟨_, rfl⟩; rw [← hl2] at hr1; obtain ⟨gn, cn, rfl⟩ := RL_slice hr1 (by rw [hl2]; simp); have L2 := Aside0.mk hl2; clear hl2; have R1 := Aside0.mk hr1; have HB1 := Aside0.mk hb1; have HK := Aside0.mk ((hg1.block g gs9 (fun e => (HO.out.1 g e.symm).1 rfl)).trans BK9.out); have HK2 := Aside0.mk ((hg1.block g2 g29 (fun e => (HO.out.1 g2 e.symm).2 rfl)).trans G9.out); have hcl := (Blk.cell HK.out k).trans HAT.out; clear hr1 hb1 hg1 hat1)
   have hlen2 : l2.length = k + 1 := by rw [L2.out, List.length_append, hlen.out]; rfl
   have L3 := Aside0.mk hlen2
   clear hlen2
   go_roundg (l.length + 1 - (k + 1))
   case measure => have := hgq.out; omega
   case rel => exact ⟨k + 1, l[k], some ⟨gn, 0, none⟩, cn, l2, by omega, by simp, rfl, rfl, L3, ⟨rfl⟩, ⟨by rw [hra2.out, L2.out]⟩, R1, HK, HK2, HB1⟩
  ·obtain rfl : k = l.length := by omega
   have fin := Aside0.mk (show R = ls by
    have e := hra.out
    rw [List.drop_length, rpartsL, List.append_nil] at e
    exact e)
   clear hra
   go_wp2_with fail
   go_ret2
   rw [fin.out]
   exact ⟨_, rfl, rowL_of_R hr.out, hbel.out⟩
end Go.Proofs.YtfmkdledofbhdaaGreat.Du
/- Plain: days behind the last year; holidays that leave no day between two instalments. -/
namespace Go.Proofs.YtfmkdledofbhdaaGreat.Du
open Go.RowKit Go.Proofs.YtfmkdledofbhdaaGreatW.PrintWords Go.Proofs.YtfmkdledofbhdaaGreatW.PrintLast Go.Proofs.YtfmkdledofbhdaaGreatW.PrintMore Go.Proofs.YtfmkdledofbhdaaGreat.HW
open Go.Proofs.YtfmkdledofbhdaaGreat.Math Go.Proofs.YtfmkdledofbhdaaGreat.H Go.Proofs.YtfmkdledofbhdaaGreat.Pd Pm
set_option linter.unusedVariables false
set_option linter.unusedSimpArgs false
theorem dates_zero : ∀ (m : Nat) (n e i : Int) (l : List Int), (dates m n e i l).2 = 0 → ∀ j : Int, i < j → j ≤ i + m → (add n (j * e)).2 = 0
 | 0, n, e, i, l => fun _ j h1 h2 => by omega
 | m + 1, n, e, i, l => by
  unfold dates
  split
  ·rename_i h
   intro h0 j h1 h2
   by_cases hj : j = i + 1
   ·rw [hj]; exact h
   ·exact dates_zero m n e (i + 1) _ h0 j (by omega) (by omega)
  ·rename_i h; intro h0; exact absurd h0 h
end Go.Proofs.YtfmkdledofbhdaaGreat.Du
/- Both parts between days are one. -/
namespace Go.Proofs.YtfmkdledofbhdaaGreat.Du
open Go.RowKit Go.Proofs.YtfmkdledofbhdaaGreatW.PrintWords Go.Proofs.YtfmkdledofbhdaaGreatW.PrintLast Go.Proofs.YtfmkdledofbhdaaGreatW.PrintMore Go.Proofs.YtfmkdledofbhdaaGreat.HW
open Go.Proofs.YtfmkdledofbhdaaGreat.Math Go.Proofs.YtfmkdledofbhdaaGreat.H Go.Proofs.YtfmkdledofbhdaaGreat.Pd Pm
set_option linter.unusedVariables false
set_option linter.unusedSimpArgs false
theorem seekS_day (l : List Int) (step : Int) : ∀ (k : Nat) (day : Int), (seekS l step k day).2 = 0 → isDay (seekS l step k day).1
 | 0, day => by intro h; simp [seekS] at h
 | k + 1, day => by
  rw [seekS_succ]
  split
  ·rename_i hd
   split
   ·intro; exact hd
   ·exact seekS_day l step k (day + step)
  ·intro h; simp at h
theorem rollS_day {l : List Int} {day how : Int} (h : (rollS l day how).2 = 0) : isDay (rollS l day how).1 := by
 unfold rollS at h ⊢
 split
 ·rename_i hd; rw [if_pos hd] at h; simp at h
 ·rename_i hd
  rw [if_neg hd] at h
  split
  ·rename_i hb; rw [if_pos hb] at h; simp at h
  ·rename_i hb
   rw [if_neg hb] at h
   split
   ·exact Classical.not_not.1 hd
   ·rename_i h1
    rw [if_neg h1] at h
    split
    ·rename_i h4; rw [if_pos h4] at h; exact seekS_day _ _ _ _ h
    ·rename_i h4
     rw [if_neg h4] at h
     split
     ·rename_i h3; rw [if_pos h3] at h; exact seekS_day _ _ _ _ h
     ·rename_i h3; rw [if_neg h3] at h; exact seekS_day _ _ _ _ h
theorem rollAll_day (hol : List Int) (how : Int) (l : List Int) : (rollAll hol how l).2 = 0 → ∀ d ∈ (rollAll hol how l).1, isDay d := by
 induction l with
 | nil => intro _ d hd; simp [rollAll] at hd
 | cons a r ih =>
  rw [rollAll]
  split
  ·rename_i h0
   unfold after
   split
   ·rename_i h
    intro _ d hd
    rcases List.mem_append.1 hd with h1 | h1
    ·rw [List.mem_singleton.1 h1]; exact rollS_day h0
    ·exact ih h d h1
   ·rename_i h; intro e; exact absurd e h
  ·rename_i h; intro e; exact absurd e h
theorem between_ok {c a b : Int} (hc : c = 1 ∨ c = 2 ∨ c = 3) (ha : isDay a) (hb : isDay b) : between c a b = (place c b - place c a, 0) := by
 unfold between
 rw [if_pos hc, if_pos ⟨ha, hb⟩]
theorem partsAll_ok {c : Int} (hc : c = 1 ∨ c = 2 ∨ c = 3) : ∀ (l : List Int) (s : Int), isDay s → (∀ d ∈ l, isDay d) → partsAll c s l = (rpartsL c s l, 0)
 | [], s, _, _ => rfl
 | d :: r, s, hs, hd => by
  rw [partsAll, between_ok hc hs (hd d (by simp)), if_pos rfl, partsAll_ok hc r d (hd d (by simp)) (fun x hx => hd x (by simp [hx])), rpartsL, between_ok hc hs (hd d (by simp))]
  rfl
theorem dates_start {n e t : Int} (h : (datesP n e t).2 = 0) : isDay n := by
 have hf := datesP_full h
 unfold datesP at h
 split at h
 ·rename_i hc
  have := dates_zero t.toNat n e 0 [] h 1 (by omega) (by omega)
  by_cases hd : isDay n
  ·exact hd
  ·unfold add at this; rw [if_neg hd] at this; simp at this
 ·simp at h
theorem days_known {p : Prod} {start : Int} {l : List Int} (h : daysP p start = (l, 0)) : ok p = true ∧ isDay start ∧ (∀ d ∈ l, isDay d) ∧ (l.length : Int) = p.times ∧ 1 ≤ p.times ∧ p.times ≤ 600 ∧ rise start l = true ∧ l = (rollAll p.hol p.roll (datesP start p.every p.times).1).1 ∧ (rollAll p.hol p.roll (datesP start p.every p.times).1).2 = 0 ∧ (datesP start p.every p.times).2 = 0 := by
 unfold daysP at h
 split at h
 ·rename_i ho
  split at h
  ·rename_i hd
   split at h
   ·rename_i hr
    split at h
    ·rename_i hi
     obtain ⟨rfl, -⟩ := Prod.mk.inj h
     obtain ⟨f1, f2, f3⟩ := datesP_full hd
     have hl := rollAll_len p.hol p.roll _ hr
     exact ⟨ho, dates_start hd, rollAll_day _ _ _ hr, by rw [hl]; exact f1, f2, f3, hi, rfl, hr, hd⟩
    ·simp at h
   ·rename_i hr; exact absurd (Prod.mk.inj h).2 hr
  ·rename_i hd; exact absurd (Prod.mk.inj h).2 hd
 ·simp at h
theorem count_known {p : Prod} (h : ok p = true) : p.count = 1 ∨ p.count = 2 ∨ p.count = 3 := by
 simp only [ok, shapeOk, Bool.and_eq_true, decide_eq_true_eq] at h
 omega
def partsP (p : Prod) (start : Int) : List Int × Int := if (daysP p start).2 = 0 then (rpartsL p.count start (daysP p start).1, 0) else ([], (daysP p start).2)
theorem daysP_err (p : Prod) (start : Int) : (daysP p start).2 ≠ 0 → (daysP p start).1 = [] := by
 unfold daysP
 repeat' split
 all_goals first | (intro; rfl) | (intro h; exact absurd rfl h)
theorem parts_any (p : Prod) (A1 : Option Addr) (c1 : Nat) (A2 : Option Addr) (c2 : Nat) (A3 : Option Addr) (c3 : Nat) (start : Int) (w : World) (hg : GV w) (hp : ProdAt w p A1 c1 A2 c2 A3 c3) (hs : Small p) :
  Calls Tryz.prog 16 #[pv p A1 c1 A2 c2 A3 c3, .int .i64 start] w (ListedL (partsP p start) w) := by
 by_cases h : (daysP p start).2 = 0
 ·have hd : daysP p start = ((daysP p start).1, 0) := by rw [← h]
  obtain ⟨ho, hs0, hds, hl, t1, t2, -⟩ := days_known hd
  have e : partsP p start = partsAll p.count start (daysP p start).1 := by
   rw [partsAll_ok (count_known ho) _ _ hs0 hds]; unfold partsP; rw [if_pos h]
  rw [e]
  exact parts_main p A1 c1 A2 c2 A3 c3 start w hg hp hs _ (fun e => by rw [e] at hl; simp at hl; omega) (by omega) hd
 ·have e : partsP p start = ([], (daysP p start).2) := by unfold partsP; rw [if_neg h]
  rw [e]
  refine (parts_err p A1 c1 A2 c2 A3 c3 start w hg hp hs _ h (by rw [← daysP_err p start h])).mono ?_
  rintro en w' ⟨he, hb⟩
  exact ⟨_, he, Or.inl ⟨rfl, rfl⟩, hb⟩
theorem rparts_any (p : Prod) (A1 : Option Addr) (c1 : Nat) (A2 : Option Addr) (c2 : Nat) (A3 : Option Addr) (c3 : Nat) (start : Int) (w : World) (hp : ProdAt w p A1 c1 A2 c2 A3 c3) (hs : Held p) (hh : p.hol.length ≤ 1000000) :
  Calls Tryz.prog 10 #[pv p A1 c1 A2 c2 A3 c3, .int .i64 start] w (ListedL (partsP p start) w) := by
 by_cases h : (daysP p start).2 = 0
 ·have hd : daysP p start = ((daysP p start).1, 0) := by rw [← h]
  obtain ⟨ho, hs0, hds, hl, t1, t2, -⟩ := days_known hd
  have e : partsP p start = (rpartsL p.count start (daysP p start).1, 0) := by unfold partsP; rw [if_pos h]
  rw [e]
  exact rparts_main p A1 c1 A2 c2 A3 c3 start w hp hs hh _ (fun e => by rw [e] at hl; simp at hl; omega) (by omega) hd
 ·have e : partsP p start = ([], (daysP p start).2) := by unfold partsP; rw [if_neg h]
  rw [e]
  exact rparts_err p A1 c1 A2 c2 A3 c3 start w hp hs hh [] _ h (by rw [← daysP_err p start h])
end Go.Proofs.YtfmkdledofbhdaaGreat.Du
/- quittanceplay.Product: this product, or one near it. -/
namespace Go.Proofs.YtfmkdledofbhdaaGreat.Du
open Go.RowKit Go.Proofs.YtfmkdledofbhdaaGreatW.PrintWords Go.Proofs.YtfmkdledofbhdaaGreatW.PrintLast Go.Proofs.YtfmkdledofbhdaaGreatW.PrintMore Go.Proofs.YtfmkdledofbhdaaGreat.HW
open Go.Proofs.YtfmkdledofbhdaaGreat.Math Go.Proofs.YtfmkdledofbhdaaGreat.H Go.Proofs.YtfmkdledofbhdaaGreat.Pd Pm
set_option linter.unusedVariables false
set_option linter.unusedSimpArgs false
section
variable {P : Program} {ops : Array Oper} {rest : List Oper} {a : Act} {Q : Exit → Act → World → Prop}
theorem But.setRow (g : Nat) (w : World) (cs : Array Value) : H.But g w (w.setRow g cs) := ⟨rfl, rfl, rfl, by rw [size_setRow]; exact Nat.le_refl _, fun k _ hk => setRow_other w g k cs hk⟩
theorem row_event {W : World} {o : Oper} (hgd : o.guard = none) {t : TypeId} {p : Tmp} {v : Operand} (ho : o.op = .store t (.tmp p) v) (hd : o.dst = none) {g : Nat} {cs zs : Array Value}
  (hp : a.eval (.tmp p) = .pointer (some ⟨g, 0, none⟩)) (hv : a.eval v = .agg cs) (hb : W.heap[g]? = some (.cells zs t (0, 0))) (hi : (P.info? t).map (·.size) = some cs.size) (hz : zs.size = cs.size) (h1 : cs.all (·.oneCell') = true)
  (h : ∀ w1, w1.heap[g]? = some (.cells cs t (0, 0)) → H.But g W w1 → wpList P ops Q rest a w1) : wpList P ops Q (o :: rest) a W := by
 refine wpList_store_row hgd t (.tmp p) v ho g cs hp hv t zs hb hi hz h1 ?_
 rw [hd]
 exact h _ (setRow_heap W g zs cs t (0, 0) hb) (But.setRow g W cs)
end
def U (x : Int) (m : Int) : Int := x % 18446744073709551616 % m
theorem U_bd (x : Int) {m : Int} (h : 0 < m) : 0 ≤ U x m ∧ U x m < m := ⟨Int.emod_nonneg _ (by omega), Int.emod_lt_of_pos _ h⟩
theorem U_is (x : Int) {m : Int} (h : 0 < m) (h2 : m ≤ 1000000000) : IntKind.i64.wrap (Int.tmod (IntKind.u64.wrap x) m) = U x m := by
 have e : IntKind.u64.wrap x = x % 18446744073709551616 := rfl
 have hn := Int.emod_nonneg x (show (18446744073709551616 : Int) ≠ 0 by omega)
 have hb := U_bd x h
 rw [e, Int.tmod_eq_emod_of_nonneg hn]
 show IntKind.i64.wrap (U x m) = U x m
 generalize U x m = j at *
 rw [i64_w]
 exact w64 (x := j) (by omega) (by omega)
def nearB (p : Prod) (n : Int) : Prod :=
 { plainP with count := 1 + U p.count 3, round := if U p.round 2 = 0 then 1 else 3, kind := 1 + U p.kind 3, every := if U p.every 6 = 0 then 1 else if U p.every 6 = 1 then 2 else if U p.every 6 = 2 then 3 else if U p.every 6 = 3 then 4 else if U p.every 6 = 4 then 6 else 12, times := 1 + U p.times n, rate := U p.rate 300000000, penalty := U p.penalty 500000000, over := 1 + U p.over 3 }
def nearD (q : Prod) : Prod := if q.times ≤ q.grace ∨ q.kind = 3 then { q with grace := 0 } else q
def nearP (p : Prod) (n : Int) : Prod := if ok p = true then nearD (if n < p.times then { p with times := n, resets := [] } else p) else nearD (nearB p n)
def NearE (p : Prod) (A1 : Option Addr) (c1 : Nat) (A2 : Option Addr) (c2 : Nat) (A3 : Option Addr) (c3 : Nat) (q : Prod) (w : World) (e : Ending) (w' : World) : Prop := ∃ B1 d1 B2 d2 B3 d3, e = .returned (pv q B1 d1 B2 d2 B3 d3) ∧ (∀ w0, ProdAt w0 p A1 c1 A2 c2 A3 c3 → ProdAt w0 q B1 d1 B2 d2 B3 d3) ∧ Below w.heap.size w w'
set_option maxRecDepth 100000 in
set_option maxHeartbeats 8000000 in
theorem near_ok (p : Prod) (A1 : Option Addr) (c1 : Nat) (A2 : Option Addr) (c2 : Nat) (A3 : Option Addr) (c3 : Nat) (n : Int) (w : World) (hp : ProdAt w p A1 c1 A2 c2 A3 c3) (hs : Held p) (ho : ok p = true) :
  Calls Tryz.prog 6 #[pv p A1 c1 A2 c2 A3 c3, .int .i64 n] w (NearE p A1 c1 A2 c2 A3 c3 (nearP p n) w) := by
 have er : err p = 0 := by unfold err; rw [ho]; rfl
 have en : nearP p n = nearD (if n < p.times then { p with times := n, resets := [] } else p) := by unfold nearP; rw [if_pos ho]
 have HP := Aside0.mk hp
 have CK := Aside0.mk (fun w1 (hb : Below w.heap.size w w1) => rcheck_any p A1 c1 A2 c2 A3 c3 w1 (HP.out.below hb) hs)
 rw [er] at CK
 rw [en]
 have EN : True := trivial
 clear hp er en ho hs
 by_cases hn : n < p.times
 ·have k1 : decide (n < p.times) = true := decide_eq_true hn
  rw [if_pos hn]
  unfold nearD
  dsimp only
  by_cases hg : n ≤ p.grace
  ·rw [if_pos (Or.inl hg)]
   have k2 : decide (n ≤ p.grace) = true := decide_eq_true hg
   clear hn hg
   go_enter Tryz.func6, Tryz.ntmps6
   go_wp2_with ((with_reducible refine gate_dst (N := 2) rfl ?_); refine box_event ?hg (N := 2) ?hd (cs := pcs p A1 c1 A2 c2 A3 c3) (t := 27) ?hr ?_; (case hd => rfl); (case hg => rfl); (case hr => first | (go_simp; done) | (go_simp; rfl)); intro g2 hg v0 hb1 hbl1; clear hg; have G2 := Aside0.mk hb1; have HB := Aside0.mk hbl1; clear hb1 hbl1; refine Hid.out ?_)
   refine Lib.hid ?_
   go_wp2_with (first
    | ((with_reducible refine gate_dst (N := 4) rfl ?_); refine box_event ?hg (N := 4) ?hd (cs := pzs) (t := 27) ?hr ?_; (case hd => rfl); (case hg => rfl); (case hr => first | (go_simp; done) | (go_simp; rfl)); intro g4 hg w4 hb1 hbl1; have ge4 := (show w.heap.size ≤ g4 by rw [hg]; exact HB.out.size); have ne42 := (show g4 ≠ g2 by have := blk_lt G2.out; omega); clear hg; have G2 := Aside0.mk (Pd.blk_below G2.out hbl1); have G4 := Aside0.mk hb1; have HB := Aside0.mk (below_step HB.out hbl1); clear hb1 hbl1)
    | (go_at_call 13; (with_reducible refine (plain_any _).mono ?_); rintro e w5 ⟨rfl, hb⟩; have G2 := Aside0.mk (Pd.blk_below G2.out hb); have G4 := Aside0.mk (Pd.blk_below G4.out hb); have HB := Aside0.mk (below_step HB.out hb); clear hb)
    | ((with_reducible refine gate_dst (N := 5) rfl ?_); refine copy_event rfl (N := 5) rfl rfl rfl (t := 27) (v := .tmp 6) rfl (cs := plainC) (zs := pzs) ?hr rfl rfl info_prod ?hz plainC_one ?_; (case hr => first | (go_simp; done) | (go_simp; rfl)); (case hz => rfl); intro g5 hg w6 hb0 hb; have ge5 := (show w.heap.size ≤ g5 by rw [hg]; exact HB.out.size); have ne52 := (show g5 ≠ g2 by have := blk_lt G2.out; omega); have ne54 := (show g5 ≠ g4 by have := blk_lt G4.out; omega); clear hg; have G2 := Aside0.mk (Pd.blk_below G2.out hb); have G4 := Aside0.mk (Pd.blk_below G4.out hb); have G5 := Aside0.mk hb0; have HB := Aside0.mk (below_step HB.out hb); clear hb0 hb)
    | ((with_reducible refine gate_dst (N := 7) rfl ?_); refine wpList_load_row rfl 27 (.tmp 2) rfl g2 rfl 27 _ (0, 0) _ G2.out Tryz.underlying27 rfl info_prod ?_)
    | (go_at_call 14; (with_reducible refine (CK.out _ HB.out).mono ?_); rintro e w7 ⟨rfl, hb⟩; have G2 := Aside0.mk (Pd.blk_below G2.out hb); have G4 := Aside0.mk (Pd.blk_below G4.out hb); have G5 := Aside0.mk (Pd.blk_below G5.out hb); have HB := Aside0.mk (below_step HB.out hb); clear hb)
    | ((with_reducible refine gate_dst (N := 10) rfl ?_); refine wpList_load_row rfl 27 (.tmp 2) rfl g2 rfl 27 _ (0, 0) _ G2.out Tryz.underlying27 rfl info_prod ?_)
    | ((with_reducible refine gate_store (t := 27) (p := 5) rfl ?_); refine row_event rfl (t := 27) (p := 5) (v := .tmp 10) rfl rfl (g := g5) (cs := pcs p A1 c1 A2 c2 A3 c3) (zs := plainC) rfl rfl G5.out info_prod rfl (pcs_one _ _ _ _ _ _ _) ?_; intro w8 hb8 hbut; have G5 := Aside0.mk hb8; have G2 := Aside0.mk ((hbut.block g2 (blk_lt G2.out) (Ne.symm ne52)).trans G2.out); have G4 := Aside0.mk ((hbut.block g4 (blk_lt G4.out) (Ne.symm ne54)).trans G4.out); have HB := Aside0.mk (But.below HB.out HB.out.size ge5 hbut); clear hb8 hbut; refine Hid.out ?_))
   refine Lib.hid ?_
   try go_frame
   obtain ⟨-, -, -, u3, -, u5, u6, -, u8, -, -, -, -, -, -, -, -, -, -⟩ := pc_cells G5.out
   have f5 := frozen_of_row w8 g5 5 _ _ G5.out
   have f6 := frozen_of_row w8 g5 6 _ _ G5.out
   have f8 := frozen_of_row w8 g5 8 _ _ G5.out
   have bfin : (((w8.setCell ⟨g5, 5, none⟩ (.int .i64 n)).setCell ⟨g5, 8, none⟩ (.slice none 0 0)).setCell ⟨g5, 6, none⟩ (.int .i64 0)).heap[g5]? = some (.cells (pcs { p with times := n, resets := [], grace := 0 } none 0 A2 c2 A3 c3) 27 (0, 0)) := (heap_setCell_same _ g5 6 _ _ _ (heap_setCell_same _ g5 8 _ _ _ (heap_setCell_same _ g5 5 _ _ _ G5.out))).trans rfl
   have hbut : H.But g5 w8 (((w8.setCell ⟨g5, 5, none⟩ (.int .i64 n)).setCell ⟨g5, 8, none⟩ (.slice none 0 0)).setCell ⟨g5, 6, none⟩ (.int .i64 0)) := ((((H.But.of (Below.refl w8.heap.size w8)).setCell (p := ⟨g5, 5, none⟩) (Or.inl rfl) (.int .i64 n)).setCell (p := ⟨g5, 8, none⟩) (Or.inl rfl) (.slice none 0 0)).setCell (p := ⟨g5, 6, none⟩) (Or.inl rfl) (.int .i64 0))
   have g4fin : (((w8.setCell ⟨g5, 5, none⟩ (.int .i64 n)).setCell ⟨g5, 8, none⟩ (.slice none 0 0)).setCell ⟨g5, 6, none⟩ (.int .i64 0)).heap[g4]? = some (.cells pzs 27 (0, 0)) := (hbut.block g4 (blk_lt G4.out) (Ne.symm ne54)).trans G4.out
   have hbfin : Below w.heap.size w (((w8.setCell ⟨g5, 5, none⟩ (.int .i64 n)).setCell ⟨g5, 8, none⟩ (.slice none 0 0)).setCell ⟨g5, 6, none⟩ (.int .i64 0)) := But.below HB.out HB.out.size ge5 hbut
   have F5 := Aside0.mk bfin
   have F4 := Aside0.mk g4fin
   have FB := Aside0.mk hbfin
   clear bfin hbut g4fin hbfin
   go_wp2_with (first
    | ((with_reducible refine gate_dst (N := 89) rfl ?_); refine wpList_load_row rfl 27 (.tmp 5) rfl g5 rfl 27 _ (0, 0) _ F5.out Tryz.underlying27 rfl info_prod ?_)
    | ((with_reducible refine gate_store (t := 27) (p := 4) rfl ?_); refine Hid.out ?_))
   refine Lib.hid ?_
   refine row_event rfl (t := 27) (p := 4) (v := .tmp 89) rfl rfl (g := g4) (cs := pcs { p with times := n, resets := [], grace := 0 } none 0 A2 c2 A3 c3) (zs := pzs) rfl rfl F4.out info_prod rfl (pcs_one _ _ _ _ _ _ _) ?_
   intro w20 hb20 hbut20
   have H20 := Aside0.mk hb20
   have HB20 := Aside0.mk (But.below FB.out FB.out.size ge4 hbut20)
   clear hb20 hbut20
   try go_frame
   go_wp2_with fail
   exact bodyPost_ret (v := pv { p with times := n, resets := [], grace := 0 } none 0 A2 c2 A3 c3) (results_cell_row (g := g4) Tryz.results6 _ _ _ _ _ _ rfl H20.out Tryz.underlying27 rfl info_prod) rfl ⟨none, 0, A2, c2, A3, c3, rfl, (fun w0 h => ⟨nilRows _, Nat.le_refl _, fun _ => rfl, h.r2, h.l2, h.n2, h.r3, h.l3, h.n3⟩), HB20.out⟩
  ·have k2 : decide (n ≤ p.grace) = false := decide_eq_false hg
   by_cases h3 : p.kind = 3
   ·rw [if_pos (Or.inr h3)]
    have k3 : (p.kind == 3) = true := by simpa using h3
    clear hn hg h3
    go_enter Tryz.func6, Tryz.ntmps6
    go_wp2_with ((with_reducible refine gate_dst (N := 2) rfl ?_); refine box_event ?hg (N := 2) ?hd (cs := pcs p A1 c1 A2 c2 A3 c3) (t := 27) ?hr ?_; (case hd => rfl); (case hg => rfl); (case hr => first | (go_simp; done) | (go_simp; rfl)); intro g2 hg v0 hb1 hbl1; clear hg; have G2 := Aside0.mk hb1; have HB := Aside0.mk hbl1; clear hb1 hbl1; refine Hid.out ?_)
    refine Lib.hid ?_
    go_wp2_with (first
     | ((with_reducible refine gate_dst (N := 4) rfl ?_); refine box_event ?hg (N := 4) ?hd (cs := pzs) (t := 27) ?hr ?_; (case hd => rfl); (case hg => rfl); (case hr => first | (go_simp; done) | (go_simp; rfl)); intro g4 hg w4 hb1 hbl1; have ge4 := (show w.heap.size ≤ g4 by rw [hg]; exact HB.out.size); have ne42 := (show g4 ≠ g2 by have := blk_lt G2.out; omega); clear hg; have G2 := Aside0.mk (Pd.blk_below G2.out hbl1); have G4 := Aside0.mk hb1; have HB := Aside0.mk (below_step HB.out hbl1); clear hb1 hbl1)
     | (go_at_call 13; (with_reducible refine (plain_any _).mono ?_); rintro e w5 ⟨rfl, hb⟩; have G2 := Aside0.mk (Pd.blk_below G2.out hb); have G4 := Aside0.mk (Pd.blk_below G4.out hb); have HB := Aside0.mk (below_step HB.out hb); clear hb)
     | ((with_reducible refine gate_dst (N := 5) rfl ?_); refine copy_event rfl (N := 5) rfl rfl rfl (t := 27) (v := .tmp 6) rfl (cs := plainC) (zs := pzs) ?hr rfl rfl info_prod ?hz plainC_one ?_; (case hr => first | (go_simp; done) | (go_simp; rfl)); (case hz => rfl); intro g5 hg w6 hb0 hb; have ge5 := (show w.heap.size ≤ g5 by rw [hg]; exact HB.out.size); have ne52 := (show g5 ≠ g2 by have := blk_lt G2.out; omega); have ne54 := (show g5 ≠ g4 by have := blk_lt G4.out; omega); clear hg; have G2 := Aside0.mk (Pd.blk_below G2.out hb); have G4 := Aside0.mk (Pd.blk_below G4.out hb); have G5 := Aside0.mk hb0; have HB := Aside0.mk (below_step HB.out hb); clear hb0 hb)
     | ((with_reducible refine gate_dst (N := 7) rfl ?_); refine wpList_load_row rfl 27 (.tmp 2) rfl g2 rfl 27 _ (0, 0) _ G2.out Tryz.underlying27 rfl info_prod ?_)
     | (go_at_call 14; (with_reducible refine (CK.out _ HB.out).mono ?_); rintro e w7 ⟨rfl, hb⟩; have G2 := Aside0.mk (Pd.blk_below G2.out hb); have G4 := Aside0.mk (Pd.blk_below G4.out hb); have G5 := Aside0.mk (Pd.blk_below G5.out hb); have HB := Aside0.mk (below_step HB.out hb); clear hb)
     | ((with_reducible refine gate_dst (N := 10) rfl ?_); refine wpList_load_row rfl 27 (.tmp 2) rfl g2 rfl 27 _ (0, 0) _ G2.out Tryz.underlying27 rfl info_prod ?_)
     | ((with_reducible refine gate_store (t := 27) (p := 5) rfl ?_); refine row_event rfl (t := 27) (p := 5) (v := .tmp 10) rfl rfl (g := g5) (cs := pcs p A1 c1 A2 c2 A3 c3) (zs := plainC) rfl rfl G5.out info_prod rfl (pcs_one _ _ _ _ _ _ _) ?_; intro w8 hb8 hbut; have G5 := Aside0.mk hb8; have G2 := Aside0.mk ((hbut.block g2 (blk_lt G2.out) (Ne.symm ne52)).trans G2.out); have G4 := Aside0.mk ((hbut.block g4 (blk_lt G4.out) (Ne.symm ne54)).trans G4.out); have HB := Aside0.mk (But.below HB.out HB.out.size ge5 hbut); clear hb8 hbut; refine Hid.out ?_))
    refine Lib.hid ?_
    try go_frame
    obtain ⟨-, -, -, u3, -, u5, u6, -, u8, -, -, -, -, -, -, -, -, -, -⟩ := pc_cells G5.out
    have f5 := frozen_of_row w8 g5 5 _ _ G5.out
    have f6 := frozen_of_row w8 g5 6 _ _ G5.out
    have f8 := frozen_of_row w8 g5 8 _ _ G5.out
    have bfin : (((w8.setCell ⟨g5, 5, none⟩ (.int .i64 n)).setCell ⟨g5, 8, none⟩ (.slice none 0 0)).setCell ⟨g5, 6, none⟩ (.int .i64 0)).heap[g5]? = some (.cells (pcs { p with times := n, resets := [], grace := 0 } none 0 A2 c2 A3 c3) 27 (0, 0)) := (heap_setCell_same _ g5 6 _ _ _ (heap_setCell_same _ g5 8 _ _ _ (heap_setCell_same _ g5 5 _ _ _ G5.out))).trans rfl
    have hbut : H.But g5 w8 (((w8.setCell ⟨g5, 5, none⟩ (.int .i64 n)).setCell ⟨g5, 8, none⟩ (.slice none 0 0)).setCell ⟨g5, 6, none⟩ (.int .i64 0)) := ((((H.But.of (Below.refl w8.heap.size w8)).setCell (p := ⟨g5, 5, none⟩) (Or.inl rfl) (.int .i64 n)).setCell (p := ⟨g5, 8, none⟩) (Or.inl rfl) (.slice none 0 0)).setCell (p := ⟨g5, 6, none⟩) (Or.inl rfl) (.int .i64 0))
    have g4fin : (((w8.setCell ⟨g5, 5, none⟩ (.int .i64 n)).setCell ⟨g5, 8, none⟩ (.slice none 0 0)).setCell ⟨g5, 6, none⟩ (.int .i64 0)).heap[g4]? = some (.cells pzs 27 (0, 0)) := (hbut.block g4 (blk_lt G4.out) (Ne.symm ne54)).trans G4.out
    have hbfin : Below w.heap.size w (((w8.setCell ⟨g5, 5, none⟩ (.int .i64 n)).setCell ⟨g5, 8, none⟩ (.slice none 0 0)).setCell ⟨g5, 6, none⟩ (.int .i64 0)) := But.below HB.out HB.out.size ge5 hbut
    have F5 := Aside0.mk bfin
    have F4 := Aside0.mk g4fin
    have FB := Aside0.mk hbfin
    clear bfin hbut g4fin hbfin
    go_wp2_with (first
     | ((with_reducible refine gate_dst (N := 89) rfl ?_); refine wpList_load_row rfl 27 (.tmp 5) rfl g5 rfl 27 _ (0, 0) _ F5.out Tryz.underlying27 rfl info_prod ?_)
     | ((with_reducible refine gate_store (t := 27) (p := 4) rfl ?_); refine Hid.out ?_))
    refine Lib.hid ?_
    refine row_event rfl (t := 27) (p := 4) (v := .tmp 89) rfl rfl (g := g4) (cs := pcs { p with times := n, resets := [], grace := 0 } none 0 A2 c2 A3 c3) (zs := pzs) rfl rfl F4.out info_prod rfl (pcs_one _ _ _ _ _ _ _) ?_
    intro w20 hb20 hbut20
    have H20 := Aside0.mk hb20
    have HB20 := Aside0.mk (But.below FB.out FB.out.size ge4 hbut20)
    clear hb20 hbut20
    try go_frame
    go_wp2_with fail
    exact bodyPost_ret (v := pv { p with times := n, resets := [], grace := 0 } none 0 A2 c2 A3 c3) (results_cell_row (g := g4) Tryz.results6 _ _ _ _ _ _ rfl H20.out Tryz.underlying27 rfl info_prod) rfl ⟨none, 0, A2, c2, A3, c3, rfl, (fun w0 h => ⟨nilRows _, Nat.le_refl _, fun _ => rfl, h.r2, h.l2, h.n2, h.r3, h.l3, h.n3⟩), HB20.out⟩
   ·rw [if_neg (fun h => h.elim hg h3)]
    have k3 : (p.kind == 3) = false := by simpa using h3
    clear hn hg h3
    go_enter Tryz.func6, Tryz.ntmps6
    go_wp2_with ((with_reducible refine gate_dst (N := 2) rfl ?_); refine box_event ?hg (N := 2) ?hd (cs := pcs p A1 c1 A2 c2 A3 c3) (t := 27) ?hr ?_; (case hd => rfl); (case hg => rfl); (case hr => first | (go_simp; done) | (go_simp; rfl)); intro g2 hg v0 hb1 hbl1; clear hg; have G2 := Aside0.mk hb1; have HB := Aside0.mk hbl1; clear hb1 hbl1; refine Hid.out ?_)
    refine Lib.hid ?_
    go_wp2_with (first
     | ((with_reducible refine gate_dst (N := 4) rfl ?_); refine box_event ?hg (N := 4) ?hd (cs := pzs) (t := 27) ?hr ?_; (case hd => rfl); (case hg => rfl); (case hr => first | (go_simp; done) | (go_simp; rfl)); intro g4 hg w4 hb1 hbl1; have ge4 := (show w.heap.size ≤ g4 by rw [hg]; exact HB.out.size); have ne42 := (show g4 ≠ g2 by have := blk_lt G2.out; omega); clear hg; have G2 := Aside0.mk (Pd.blk_below G2.out hbl1); have G4 := Aside0.mk hb1; have HB := Aside0.mk (below_step HB.out hbl1); clear hb1 hbl1)
     | (go_at_call 13; (with_reducible refine (plain_any _).mono ?_); rintro e w5 ⟨rfl, hb⟩; have G2 := Aside0.mk (Pd.blk_below G2.out hb); have G4 := Aside0.mk (Pd.blk_below G4.out hb); have HB := Aside0.mk (below_step HB.out hb); clear hb)
     | ((with_reducible refine gate_dst (N := 5) rfl ?_); refine copy_event rfl (N := 5) rfl rfl rfl (t := 27) (v := .tmp 6) rfl (cs := plainC) (zs := pzs) ?hr rfl rfl info_prod ?hz plainC_one ?_; (case hr => first | (go_simp; done) | (go_simp; rfl)); (case hz => rfl); intro g5 hg w6 hb0 hb; have ge5 := (show w.heap.size ≤ g5 by rw [hg]; exact HB.out.size); have ne52 := (show g5 ≠ g2 by have := blk_lt G2.out; omega); have ne54 := (show g5 ≠ g4 by have := blk_lt G4.out; omega); clear hg; have G2 := Aside0.mk (Pd.blk_below G2.out hb); have G4 := Aside0.mk (Pd.blk_below G4.out hb); have G5 := Aside0.mk hb0; have HB := Aside0.mk (below_step HB.out hb); clear hb0 hb)
     | ((with_reducible refine gate_dst (N := 7) rfl ?_); refine wpList_load_row rfl 27 (.tmp 2) rfl g2 rfl 27 _ (0, 0) _ G2.out Tryz.underlying27 rfl info_prod ?_)
     | (go_at_call 14; (with_reducible refine (CK.out _ HB.out).mono ?_); rintro e w7 ⟨rfl, hb⟩; have G2 := Aside0.mk (Pd.blk_below G2.out hb); have G4 := Aside0.mk (Pd.blk_below G4.out hb); have G5 := Aside0.mk (Pd.blk_below G5.out hb); have HB := Aside0.mk (below_step HB.out hb); clear hb)
     | ((with_reducible refine gate_dst (N := 10) rfl ?_); refine wpList_load_row rfl 27 (.tmp 2) rfl g2 rfl 27 _ (0, 0) _ G2.out Tryz.underlying27 rfl info_prod ?_)
     | ((with_reducible refine gate_store (t := 27) (p := 5) rfl ?_); refine row_event rfl (t := 27) (p := 5) (v := .tmp 10) rfl rfl (g := g5) (cs := pcs p A1 c1 A2 c2 A3 c3) (zs := plainC) rfl rfl G5.out info_prod rfl (pcs_one _ _ _ _ _ _ _) ?_; intro w8 hb8 hbut; have G5 := Aside0.mk hb8; have G2 := Aside0.mk ((hbut.block g2 (blk_lt G2.out) (Ne.symm ne52)).trans G2.out); have G4 := Aside0.mk ((hbut.block g4 (blk_lt G4.out) (Ne.symm ne54)).trans G4.out); have HB := Aside0.mk (But.below HB.out HB.out.size ge5 hbut); clear hb8 hbut; refine Hid.out ?_))
    refine Lib.hid ?_
    try go_frame
    obtain ⟨-, -, -, u3, -, u5, u6, -, u8, -, -, -, -, -, -, -, -, -, -⟩ := pc_cells G5.out
    have f5 := frozen_of_row w8 g5 5 _ _ G5.out
    have f6 := frozen_of_row w8 g5 6 _ _ G5.out
    have f8 := frozen_of_row w8 g5 8 _ _ G5.out
    have bfin : ((w8.setCell ⟨g5, 5, none⟩ (.int .i64 n)).setCell ⟨g5, 8, none⟩ (.slice none 0 0)).heap[g5]? = some (.cells (pcs { p with times := n, resets := [] } none 0 A2 c2 A3 c3) 27 (0, 0)) := (heap_setCell_same _ g5 8 _ _ _ (heap_setCell_same _ g5 5 _ _ _ G5.out)).trans rfl
    have hbut : H.But g5 w8 ((w8.setCell ⟨g5, 5, none⟩ (.int .i64 n)).setCell ⟨g5, 8, none⟩ (.slice none 0 0)) := (((H.But.of (Below.refl w8.heap.size w8)).setCell (p := ⟨g5, 5, none⟩) (Or.inl rfl) (.int .i64 n)).setCell (p := ⟨g5, 8, none⟩) (Or.inl rfl) (.slice none 0 0))
    have g4fin : ((w8.setCell ⟨g5, 5, none⟩ (.int .i64 n)).setCell ⟨g5, 8, none⟩ (.slice none 0 0)).heap[g4]? = some (.cells pzs 27 (0, 0)) := (hbut.block g4 (blk_lt G4.out) (Ne.symm ne54)).trans G4.out
    have hbfin : Below w.heap.size w ((w8.setCell ⟨g5, 5, none⟩ (.int .i64 n)).setCell ⟨g5, 8, none⟩ (.slice none 0 0)) := But.below HB.out HB.out.size ge5 hbut
    have F5 := Aside0.mk bfin
    have F4 := Aside0.mk g4fin
    have FB := Aside0.mk hbfin
    clear bfin hbut g4fin hbfin
    go_wp2_with (first
     | ((with_reducible refine gate_dst (N := 89) rfl ?_); refine wpList_load_row rfl 27 (.tmp 5) rfl g5 rfl 27 _ (0, 0) _ F5.out Tryz.underlying27 rfl info_prod ?_)
     | ((with_reducible refine gate_store (t := 27) (p := 4) rfl ?_); refine Hid.out ?_))
    refine Lib.hid ?_
    refine row_event rfl (t := 27) (p := 4) (v := .tmp 89) rfl rfl (g := g4) (cs := pcs { p with times := n, resets := [] } none 0 A2 c2 A3 c3) (zs := pzs) rfl rfl F4.out info_prod rfl (pcs_one _ _ _ _ _ _ _) ?_
    intro w20 hb20 hbut20
    have H20 := Aside0.mk hb20
    have HB20 := Aside0.mk (But.below FB.out FB.out.size ge4 hbut20)
    clear hb20 hbut20
    try go_frame
    go_wp2_with fail
    exact bodyPost_ret (v := pv { p with times := n, resets := [] } none 0 A2 c2 A3 c3) (results_cell_row (g := g4) Tryz.results6 _ _ _ _ _ _ rfl H20.out Tryz.underlying27 rfl info_prod) rfl ⟨none, 0, A2, c2, A3, c3, rfl, (fun w0 h => ⟨nilRows _, Nat.le_refl _, fun _ => rfl, h.r2, h.l2, h.n2, h.r3, h.l3, h.n3⟩), HB20.out⟩
 ·have k1 : decide (n < p.times) = false := decide_eq_false hn
  rw [if_neg hn]
  unfold nearD
  by_cases hg : p.times ≤ p.grace
  ·rw [if_pos (Or.inl hg)]
   have k2 : decide (p.times ≤ p.grace) = true := decide_eq_true hg
   clear hn hg
   go_enter Tryz.func6, Tryz.ntmps6
   go_wp2_with ((with_reducible refine gate_dst (N := 2) rfl ?_); refine box_event ?hg (N := 2) ?hd (cs := pcs p A1 c1 A2 c2 A3 c3) (t := 27) ?hr ?_; (case hd => rfl); (case hg => rfl); (case hr => first | (go_simp; done) | (go_simp; rfl)); intro g2 hg v0 hb1 hbl1; clear hg; have G2 := Aside0.mk hb1; have HB := Aside0.mk hbl1; clear hb1 hbl1; refine Hid.out ?_)
   refine Lib.hid ?_
   go_wp2_with (first
    | ((with_reducible refine gate_dst (N := 4) rfl ?_); refine box_event ?hg (N := 4) ?hd (cs := pzs) (t := 27) ?hr ?_; (case hd => rfl); (case hg => rfl); (case hr => first | (go_simp; done) | (go_simp; rfl)); intro g4 hg w4 hb1 hbl1; have ge4 := (show w.heap.size ≤ g4 by rw [hg]; exact HB.out.size); have ne42 := (show g4 ≠ g2 by have := blk_lt G2.out; omega); clear hg; have G2 := Aside0.mk (Pd.blk_below G2.out hbl1); have G4 := Aside0.mk hb1; have HB := Aside0.mk (below_step HB.out hbl1); clear hb1 hbl1)
    | (go_at_call 13; (with_reducible refine (plain_any _).mono ?_); rintro e w5 ⟨rfl, hb⟩; have G2 := Aside0.mk (Pd.blk_below G2.out hb); have G4 := Aside0.mk (Pd.blk_below G4.out hb); have HB := Aside0.mk (below_step HB.out hb); clear hb)
    | ((with_reducible refine gate_dst (N := 5) rfl ?_); refine copy_event rfl (N := 5) rfl rfl rfl (t := 27) (v := .tmp 6) rfl (cs := plainC) (zs := pzs) ?hr rfl rfl info_prod ?hz plainC_one ?_; (case hr => first | (go_simp; done) | (go_simp; rfl)); (case hz => rfl); intro g5 hg w6 hb0 hb; have ge5 := (show w.heap.size ≤ g5 by rw [hg]; exact HB.out.size); have ne52 := (show g5 ≠ g2 by have := blk_lt G2.out; omega); have ne54 := (show g5 ≠ g4 by have := blk_lt G4.out; omega); clear hg; have G2 := Aside0.mk (Pd.blk_below G2.out hb); have G4 := Aside0.mk (Pd.blk_below G4.out hb); have G5 := Aside0.mk hb0; have HB := Aside0.mk (below_step HB.out hb); clear hb0 hb)
    | ((with_reducible refine gate_dst (N := 7) rfl ?_); refine wpList_load_row rfl 27 (.tmp 2) rfl g2 rfl 27 _ (0, 0) _ G2.out Tryz.underlying27 rfl info_prod ?_)
    | (go_at_call 14; (with_reducible refine (CK.out _ HB.out).mono ?_); rintro e w7 ⟨rfl, hb⟩; have G2 := Aside0.mk (Pd.blk_below G2.out hb); have G4 := Aside0.mk (Pd.blk_below G4.out hb); have G5 := Aside0.mk (Pd.blk_below G5.out hb); have HB := Aside0.mk (below_step HB.out hb); clear hb)
    | ((with_reducible refine gate_dst (N := 10) rfl ?_); refine wpList_load_row rfl 27 (.tmp 2) rfl g2 rfl 27 _ (0, 0) _ G2.out Tryz.underlying27 rfl info_prod ?_)
    | ((with_reducible refine gate_store (t := 27) (p := 5) rfl ?_); refine row_event rfl (t := 27) (p := 5) (v := .tmp 10) rfl rfl (g := g5) (cs := pcs p A1 c1 A2 c2 A3 c3) (zs := plainC) rfl rfl G5.out info_prod rfl (pcs_one _ _ _ _ _ _ _) ?_; intro w8 hb8 hbut; have G5 := Aside0.mk hb8; have G2 := Aside0.mk ((hbut.block g2 (blk_lt G2.out) (Ne.symm ne52)).trans G2.out); have G4 := Aside0.mk ((hbut.block g4 (blk_lt G4.out) (Ne.symm ne54)).trans G4.out); have HB := Aside0.mk (But.below HB.out HB.out.size ge5 hbut); clear hb8 hbut; refine Hid.out ?_))
   refine Lib.hid ?_
   try go_frame
   obtain ⟨-, -, -, u3, -, u5, u6, -, u8, -, -, -, -, -, -, -, -, -, -⟩ := pc_cells G5.out
   have f5 := frozen_of_row w8 g5 5 _ _ G5.out
   have f6 := frozen_of_row w8 g5 6 _ _ G5.out
   have f8 := frozen_of_row w8 g5 8 _ _ G5.out
   have bfin : (w8.setCell ⟨g5, 6, none⟩ (.int .i64 0)).heap[g5]? = some (.cells (pcs { p with grace := 0 } A1 c1 A2 c2 A3 c3) 27 (0, 0)) := (heap_setCell_same _ g5 6 _ _ _ G5.out).trans rfl
   have hbut : H.But g5 w8 (w8.setCell ⟨g5, 6, none⟩ (.int .i64 0)) := ((H.But.of (Below.refl w8.heap.size w8)).setCell (p := ⟨g5, 6, none⟩) (Or.inl rfl) (.int .i64 0))
   have g4fin : (w8.setCell ⟨g5, 6, none⟩ (.int .i64 0)).heap[g4]? = some (.cells pzs 27 (0, 0)) := (hbut.block g4 (blk_lt G4.out) (Ne.symm ne54)).trans G4.out
   have hbfin : Below w.heap.size w (w8.setCell ⟨g5, 6, none⟩ (.int .i64 0)) := But.below HB.out HB.out.size ge5 hbut
   have F5 := Aside0.mk bfin
   have F4 := Aside0.mk g4fin
   have FB := Aside0.mk hbfin
   clear bfin hbut g4fin hbfin
   go_wp2_with (first
    | ((with_reducible refine gate_dst (N := 89) rfl ?_); refine wpList_load_row rfl 27 (.tmp 5) rfl g5 rfl 27 _ (0, 0) _ F5.out Tryz.underlying27 rfl info_prod ?_)
    | ((with_reducible refine gate_store (t := 27) (p := 4) rfl ?_); refine Hid.out ?_))
   refine Lib.hid ?_
   refine row_event rfl (t := 27) (p := 4) (v := .tmp 89) rfl rfl (g := g4) (cs := pcs { p with grace := 0 } A1 c1 A2 c2 A3 c3) (zs := pzs) rfl rfl F4.out info_prod rfl (pcs_one _ _ _ _ _ _ _) ?_
   intro w20 hb20 hbut20
   have H20 := Aside0.mk hb20
   have HB20 := Aside0.mk (But.below FB.out FB.out.size ge4 hbut20)
   clear hb20 hbut20
   try go_frame
   go_wp2_with fail
   exact bodyPost_ret (v := pv { p with grace := 0 } A1 c1 A2 c2 A3 c3) (results_cell_row (g := g4) Tryz.results6 _ _ _ _ _ _ rfl H20.out Tryz.underlying27 rfl info_prod) rfl ⟨A1, c1, A2, c2, A3, c3, rfl, (fun w0 h => ⟨h.r1, h.l1, h.n1, h.r2, h.l2, h.n2, h.r3, h.l3, h.n3⟩), HB20.out⟩
  ·have k2 : decide (p.times ≤ p.grace) = false := decide_eq_false hg
   by_cases h3 : p.kind = 3
   ·rw [if_pos (Or.inr h3)]
    have k3 : (p.kind == 3) = true := by simpa using h3
    clear hn hg h3
    go_enter Tryz.func6, Tryz.ntmps6
    go_wp2_with ((with_reducible refine gate_dst (N := 2) rfl ?_); refine box_event ?hg (N := 2) ?hd (cs := pcs p A1 c1 A2 c2 A3 c3) (t := 27) ?hr ?_; (case hd => rfl); (case hg => rfl); (case hr => first | (go_simp; done) | (go_simp; rfl)); intro g2 hg v0 hb1 hbl1; clear hg; have G2 := Aside0.mk hb1; have HB := Aside0.mk hbl1; clear hb1 hbl1; refine Hid.out ?_)
    refine Lib.hid ?_
    go_wp2_with (first
     | ((with_reducible refine gate_dst (N := 4) rfl ?_); refine box_event ?hg (N := 4) ?hd (cs := pzs) (t := 27) ?hr ?_; (case hd => rfl); (case hg => rfl); (case hr => first | (go_simp; done) | (go_simp; rfl)); intro g4 hg w4 hb1 hbl1; have ge4 := (show w.heap.size ≤ g4 by rw [hg]; exact HB.out.size); have ne42 := (show g4 ≠ g2 by have := blk_lt G2.out; omega); clear hg; have G2 := Aside0.mk (Pd.blk_below G2.out hbl1); have G4 := Aside0.mk hb1; have HB := Aside0.mk (below_step HB.out hbl1); clear hb1 hbl1)
     | (go_at_call 13; (with_reducible refine (plain_any _).mono ?_); rintro e w5 ⟨rfl, hb⟩; have G2 := Aside0.mk (Pd.blk_below G2.out hb); have G4 := Aside0.mk (Pd.blk_below G4.out hb); have HB := Aside0.mk (below_step HB.out hb); clear hb)
     | ((with_reducible refine gate_dst (N := 5) rfl ?_); refine copy_event rfl (N := 5) rfl rfl rfl (t := 27) (v := .tmp 6) rfl (cs := plainC) (zs := pzs) ?hr rfl rfl info_prod ?hz plainC_one ?_; (case hr => first | (go_simp; done) | (go_simp; rfl)); (case hz => rfl); intro g5 hg w6 hb0 hb; have ge5 := (show w.heap.size ≤ g5 by rw [hg]; exact HB.out.size); have ne52 := (show g5 ≠ g2 by have := blk_lt G2.out; omega); have ne54 := (show g5 ≠ g4 by have := blk_lt G4.out; omega); clear hg; have G2 := Aside0.mk (Pd.blk_below G2.out hb); have G4 := Aside0.mk (Pd.blk_below G4.out hb); have G5 := Aside0.mk hb0; have HB := Aside0.mk (below_step HB.out hb); clear hb0 hb)
     | ((with_reducible refine gate_dst (N := 7) rfl ?_); refine wpList_load_row rfl 27 (.tmp 2) rfl g2 rfl 27 _ (0, 0) _ G2.out Tryz.underlying27 rfl info_prod ?_)
     | (go_at_call 14; (with_reducible refine (CK.out _ HB.out).mono ?_); rintro e w7 ⟨rfl, hb⟩; have G2 := Aside0.mk (Pd.blk_below G2.out hb); have G4 := Aside0.mk (Pd.blk_below G4.out hb); have G5 := Aside0.mk (Pd.blk_below G5.out hb); have HB := Aside0.mk (below_step HB.out hb); clear hb)
     | ((with_reducible refine gate_dst (N := 10) rfl ?_); refine wpList_load_row rfl 27 (.tmp 2) rfl g2 rfl 27 _ (0, 0) _ G2.out Tryz.underlying27 rfl info_prod ?_)
     | ((with_reducible refine gate_store (t := 27) (p := 5) rfl ?_); refine row_event rfl (t := 27) (p := 5) (v := .tmp 10) rfl rfl (g := g5) (cs := pcs p A1 c1 A2 c2 A3 c3) (zs := plainC) rfl rfl G5.out info_prod rfl (pcs_one _ _ _ _ _ _ _) ?_; intro w8 hb8 hbut; have G5 := Aside0.mk hb8; have G2 := Aside0.mk ((hbut.block g2 (blk_lt G2.out) (Ne.symm ne52)).trans G2.out); have G4 := Aside0.mk ((hbut.block g4 (blk_lt G4.out) (Ne.symm ne54)).trans G4.out); have HB := Aside0.mk (But.below HB.out HB.out.size ge5 hbut); clear hb8 hbut; refine Hid.out ?_))
    refine Lib.hid ?_
    try go_frame
    obtain ⟨-, -, -, u3, -, u5, u6, -, u8, -, -, -, -, -, -, -, -, -, -⟩ := pc_cells G5.out
    have f5 := frozen_of_row w8 g5 5 _ _ G5.out
    have f6 := frozen_of_row w8 g5 6 _ _ G5.out
    have f8 := frozen_of_row w8 g5 8 _ _ G5.out
    have bfin : (w8.setCell ⟨g5, 6, none⟩ (.int .i64 0)).heap[g5]? = some (.cells (pcs { p with grace := 0 } A1 c1 A2 c2 A3 c3) 27 (0, 0)) := (heap_setCell_same _ g5 6 _ _ _ G5.out).trans rfl
    have hbut : H.But g5 w8 (w8.setCell ⟨g5, 6, none⟩ (.int .i64 0)) := ((H.But.of (Below.refl w8.heap.size w8)).setCell (p := ⟨g5, 6, none⟩) (Or.inl rfl) (.int .i64 0))
    have g4fin : (w8.setCell ⟨g5, 6, none⟩ (.int .i64 0)).heap[g4]? = some (.cells pzs 27 (0, 0)) := (hbut.block g4 (blk_lt G4.out) (Ne.symm ne54)).trans G4.out
    have hbfin : Below w.heap.size w (w8.setCell ⟨g5, 6, none⟩ (.int .i64 0)) := But.below HB.out HB.out.size ge5 hbut
    have F5 := Aside0.mk bfin
    have F4 := Aside0.mk g4fin
    have FB := Aside0.mk hbfin
    clear bfin hbut g4fin hbfin
    go_wp2_with (first
     | ((with_reducible refine gate_dst (N := 89) rfl ?_); refine wpList_load_row rfl 27 (.tmp 5) rfl g5 rfl 27 _ (0, 0) _ F5.out Tryz.underlying27 rfl info_prod ?_)
     | ((with_reducible refine gate_store (t := 27) (p := 4) rfl ?_); refine Hid.out ?_))
    refine Lib.hid ?_
    refine row_event rfl (t := 27) (p := 4) (v := .tmp 89) rfl rfl (g := g4) (cs := pcs { p with grace := 0 } A1 c1 A2 c2 A3 c3) (zs := pzs) rfl rfl F4.out info_prod rfl (pcs_one _ _ _ _ _ _ _) ?_
    intro w20 hb20 hbut20
    have H20 := Aside0.mk hb20
    have HB20 := Aside0.mk (But.below FB.out FB.out.size ge4 hbut20)
    clear hb20 hbut20
    try go_frame
    go_wp2_with fail
    exact bodyPost_ret (v := pv { p with grace := 0 } A1 c1 A2 c2 A3 c3) (results_cell_row (g := g4) Tryz.results6 _ _ _ _ _ _ rfl H20.out Tryz.underlying27 rfl info_prod) rfl ⟨A1, c1, A2, c2, A3, c3, rfl, (fun w0 h => ⟨h.r1, h.l1, h.n1, h.r2, h.l2, h.n2, h.r3, h.l3, h.n3⟩), HB20.out⟩
   ·rw [if_neg (fun h => h.elim hg h3)]
    have k3 : (p.kind == 3) = false := by simpa using h3
    clear hn hg h3
    go_enter Tryz.func6, Tryz.ntmps6
    go_wp2_with ((with_reducible refine gate_dst (N := 2) rfl ?_); refine box_event ?hg (N := 2) ?hd (cs := pcs p A1 c1 A2 c2 A3 c3) (t := 27) ?hr ?_; (case hd => rfl); (case hg => rfl); (case hr => first | (go_simp; done) | (go_simp; rfl)); intro g2 hg v0 hb1 hbl1; clear hg; have G2 := Aside0.mk hb1; have HB := Aside0.mk hbl1; clear hb1 hbl1; refine Hid.out ?_)
    refine Lib.hid ?_
    go_wp2_with (first
     | ((with_reducible refine gate_dst (N := 4) rfl ?_); refine box_event ?hg (N := 4) ?hd (cs := pzs) (t := 27) ?hr ?_; (case hd => rfl); (case hg => rfl); (case hr => first | (go_simp; done) | (go_simp; rfl)); intro g4 hg w4 hb1 hbl1; have ge4 := (show w.heap.size ≤ g4 by rw [hg]; exact HB.out.size); have ne42 := (show g4 ≠ g2 by have := blk_lt G2.out; omega); clear hg; have G2 := Aside0.mk (Pd.blk_below G2.out hbl1); have G4 := Aside0.mk hb1; have HB := Aside0.mk (below_step HB.out hbl1); clear hb1 hbl1)
     | (go_at_call 13; (with_reducible refine (plain_any _).mono ?_); rintro e w5 ⟨rfl, hb⟩; have G2 := Aside0.mk (Pd.blk_below G2.out hb); have G4 := Aside0.mk (Pd.blk_below G4.out hb); have HB := Aside0.mk (below_step HB.out hb); clear hb)
     | ((with_reducible refine gate_dst (N := 5) rfl ?_); refine copy_event rfl (N := 5) rfl rfl rfl (t := 27) (v := .tmp 6) rfl (cs := plainC) (zs := pzs) ?hr rfl rfl info_prod ?hz plainC_one ?_; (case hr => first | (go_simp; done) | (go_simp; rfl)); (case hz => rfl); intro g5 hg w6 hb0 hb; have ge5 := (show w.heap.size ≤ g5 by rw [hg]; exact HB.out.size); have ne52 := (show g5 ≠ g2 by have := blk_lt G2.out; omega); have ne54 := (show g5 ≠ g4 by have := blk_lt G4.out; omega); clear hg; have G2 := Aside0.mk (Pd.blk_below G2.out hb); have G4 := Aside0.mk (Pd.blk_below G4.out hb); have G5 := Aside0.mk hb0; have HB := Aside0.mk (below_step HB.out hb); clear hb0 hb)
     | ((with_reducible refine gate_dst (N := 7) rfl ?_); refine wpList_load_row rfl 27 (.tmp 2) rfl g2 rfl 27 _ (0, 0) _ G2.out Tryz.underlying27 rfl info_prod ?_)
     | (go_at_call 14; (with_reducible refine (CK.out _ HB.out).mono ?_); rintro e w7 ⟨rfl, hb⟩; have G2 := Aside0.mk (Pd.blk_below G2.out hb); have G4 := Aside0.mk (Pd.blk_below G4.out hb); have G5 := Aside0.mk (Pd.blk_below G5.out hb); have HB := Aside0.mk (below_step HB.out hb); clear hb)
     | ((with_reducible refine gate_dst (N := 10) rfl ?_); refine wpList_load_row rfl 27 (.tmp 2) rfl g2 rfl 27 _ (0, 0) _ G2.out Tryz.underlying27 rfl info_prod ?_)
     | ((with_reducible refine gate_store (t := 27) (p := 5) rfl ?_); refine row_event rfl (t := 27) (p := 5) (v := .tmp 10) rfl rfl (g := g5) (cs := pcs p A1 c1 A2 c2 A3 c3) (zs := plainC) rfl rfl G5.out info_prod rfl (pcs_one _ _ _ _ _ _ _) ?_; intro w8 hb8 hbut; have G5 := Aside0.mk hb8; have G2 := Aside0.mk ((hbut.block g2 (blk_lt G2.out) (Ne.symm ne52)).trans G2.out); have G4 := Aside0.mk ((hbut.block g4 (blk_lt G4.out) (Ne.symm ne54)).trans G4.out); have HB := Aside0.mk (But.below HB.out HB.out.size ge5 hbut); clear hb8 hbut; refine Hid.out ?_))
    refine Lib.hid ?_
    try go_frame
    obtain ⟨-, -, -, u3, -, u5, u6, -, u8, -, -, -, -, -, -, -, -, -, -⟩ := pc_cells G5.out
    have f5 := frozen_of_row w8 g5 5 _ _ G5.out
    have f6 := frozen_of_row w8 g5 6 _ _ G5.out
    have f8 := frozen_of_row w8 g5 8 _ _ G5.out
    have bfin : w8.heap[g5]? = some (.cells (pcs p A1 c1 A2 c2 A3 c3) 27 (0, 0)) := G5.out
    have hbut : H.But g5 w8 w8 := (H.But.of (Below.refl w8.heap.size w8))
    have g4fin : w8.heap[g4]? = some (.cells pzs 27 (0, 0)) := (hbut.block g4 (blk_lt G4.out) (Ne.symm ne54)).trans G4.out
    have hbfin : Below w.heap.size w w8 := But.below HB.out HB.out.size ge5 hbut
    have F5 := Aside0.mk bfin
    have F4 := Aside0.mk g4fin
    have FB := Aside0.mk hbfin
    clear bfin hbut g4fin hbfin
    go_wp2_with (first
     | ((with_reducible refine gate_dst (N := 89) rfl ?_); refine wpList_load_row rfl 27 (.tmp 5) rfl g5 rfl 27 _ (0, 0) _ F5.out Tryz.underlying27 rfl info_prod ?_)
     | ((with_reducible refine gate_store (t := 27) (p := 4) rfl ?_); refine Hid.out ?_))
    refine Lib.hid ?_
    refine row_event rfl (t := 27) (p := 4) (v := .tmp 89) rfl rfl (g := g4) (cs := pcs p A1 c1 A2 c2 A3 c3) (zs := pzs) rfl rfl F4.out info_prod rfl (pcs_one _ _ _ _ _ _ _) ?_
    intro w20 hb20 hbut20
    have H20 := Aside0.mk hb20
    have HB20 := Aside0.mk (But.below FB.out FB.out.size ge4 hbut20)
    clear hb20 hbut20
    try go_frame
    go_wp2_with fail
    exact bodyPost_ret (v := pv p A1 c1 A2 c2 A3 c3) (results_cell_row (g := g4) Tryz.results6 _ _ _ _ _ _ rfl H20.out Tryz.underlying27 rfl info_prod) rfl ⟨A1, c1, A2, c2, A3, c3, rfl, (fun w0 h => ⟨h.r1, h.l1, h.n1, h.r2, h.l2, h.n2, h.r3, h.l3, h.n3⟩), HB20.out⟩
end Go.Proofs.YtfmkdledofbhdaaGreat.Du
/- quittanceplay.Product, where the product may not be: one that is near. -/
namespace Go.Proofs.YtfmkdledofbhdaaGreat.Du
open Go.RowKit Go.Proofs.YtfmkdledofbhdaaGreatW.PrintWords Go.Proofs.YtfmkdledofbhdaaGreatW.PrintLast Go.Proofs.YtfmkdledofbhdaaGreatW.PrintMore Go.Proofs.YtfmkdledofbhdaaGreat.HW
open Go.Proofs.YtfmkdledofbhdaaGreat.Math Go.Proofs.YtfmkdledofbhdaaGreat.H Go.Proofs.YtfmkdledofbhdaaGreat.Pd Pm
set_option linter.unusedVariables false
set_option linter.unusedSimpArgs false
section
variable {P : Program} {ops : Array Oper} {rest : List Oper} {a : Act} {Q : Exit → Act → World → Prop}
theorem But.one (g i : Nat) (W : World) (x : Value) : H.But g W (W.setCell ⟨g, i, none⟩ x) := (H.But.of (Below.refl W.heap.size W)).setCell (p := ⟨g, i, none⟩) (Or.inl rfl) x
theorem put_event {W : World} {o : Oper} (hgd : o.guard = none) {t : TypeId} {p : Tmp} {v : Operand} (_ho : o.op = .store t (.tmp p) v) (hd : o.dst = none) {g i : Nat} {cs cs' : Array Value} {T : TypeId} {x : Value}
  (hrun : (execOp a.eval o).run P W = .ok .skip (W.setCell ⟨g, i, none⟩ x)) (hb : W.heap[g]? = some (.cells cs T (0, 0))) (hc : cs.setIfInBounds i x = cs')
  (h : ∀ w1, w1.heap[g]? = some (.cells cs' T (0, 0)) → H.But g W w1 → wpList P ops Q rest a w1) : wpList P ops Q (o :: rest) a W := by
 refine store_event hgd _ho hd hrun ?_
 rintro w' rfl
 exact h _ (by rw [heap_setCell_same W g i cs T x hb, hc]) (But.one g i W x)
theorem lit_event {W : World} {o : Oper} (hgd : o.guard = none) {N : Tmp} (_hd : o.dst = some N) {cs : Array Value} {t : TypeId} {n : Nat}
  (hrun : (execOp a.eval o).run P W = .ok (.value (.slice (some ⟨W.heap.size, 0, none⟩) n n)) (W.alloc (.cells cs t (0, 0))))
  (h : ∀ g, g = W.heap.size → ∀ w1, w1.heap[g]? = some (.cells cs t (0, 0)) → Below W.heap.size W w1 → wpList P ops Q rest (a.put o.dst (.slice (some ⟨g, 0, none⟩) n n)) w1) : wpList P ops Q (o :: rest) a W :=
 Kd.event_run hgd hrun (h _ rfl _ (blk_new W _) (below_alloc (Below.refl _ _) _))
end
theorem U_nat (x : Int) (m : Nat) (h : 0 < m) (h2 : m ≤ 1000000000) : ∃ r : Nat, r < m ∧ U x m = (r : Int) := by
 have b := U_bd x (m := (m : Int)) (by omega)
 exact ⟨(U x m).toNat, by omega, by omega⟩
theorem pick2 (x : Int) : ∃ r : Nat, (r : Int) < 2 ∧ IntKind.i64.wrap (Int.tmod (IntKind.u64.wrap x) 2) = (r : Int) ∧ (#[Value.int .i64 1, .int .i64 3] : Array Value)[r]? = some (.int .i64 (if U x 2 = 0 then (1 : Int) else 3)) := by
 obtain ⟨r, hr, e⟩ := U_nat x 2 (by omega) (by omega)
 have e2 : U x 2 = (r : Int) := e
 refine ⟨r, by omega, (U_is x (m := 2) (by omega) (by omega)).trans e2, ?_⟩
 rw [e2]
 rcases (by omega : r = 0 ∨ r = 1) with rfl | rfl <;> rfl
theorem pick6 (x : Int) : ∃ r : Nat, (r : Int) < 6 ∧ IntKind.i64.wrap (Int.tmod (IntKind.u64.wrap x) 6) = (r : Int) ∧ (#[Value.int .i64 1, .int .i64 2, .int .i64 3, .int .i64 4, .int .i64 6, .int .i64 12] : Array Value)[r]? = some (.int .i64 (if U x 6 = 0 then (1 : Int) else if U x 6 = 1 then 2 else if U x 6 = 2 then 3 else if U x 6 = 3 then 4 else if U x 6 = 4 then 6 else 12)) := by
 obtain ⟨r, hr, e⟩ := U_nat x 6 (by omega) (by omega)
 have e2 : U x 6 = (r : Int) := e
 refine ⟨r, by omega, (U_is x (m := 6) (by omega) (by omega)).trans e2, ?_⟩
 rw [e2]
 rcases (by omega : r = 0 ∨ r = 1 ∨ r = 2 ∨ r = 3 ∨ r = 4 ∨ r = 5) with rfl | rfl | rfl | rfl | rfl | rfl <;> rfl
set_option maxRecDepth 100000 in
set_option maxHeartbeats 8000000 in
theorem near_not (p : Prod) (A1 : Option Addr) (c1 : Nat) (A2 : Option Addr) (c2 : Nat) (A3 : Option Addr) (c3 : Nat) (n : Int) (w : World) (hp : ProdAt w p A1 c1 A2 c2 A3 c3) (hs : Held p) (ho : ok p = false) (n1 : 1 ≤ n) (n2 : n ≤ 1000) :
  Calls Tryz.prog 6 #[pv p A1 c1 A2 c2 A3 c3, .int .i64 n] w (NearE p A1 c1 A2 c2 A3 c3 (nearP p n) w) := by
 have er : err p = 9 := by unfold err; rw [ho]; rfl
 have en : nearP p n = nearB p n := by unfold nearP; rw [if_neg (by rw [ho]; decide)]; unfold nearD; split <;> rfl
 have HP := Aside0.mk hp
 have CK := Aside0.mk (fun w1 (hb : Below w.heap.size w w1) => rcheck_any p A1 c1 A2 c2 A3 c3 w1 (HP.out.below hb) hs)
 rw [er] at CK
 obtain ⟨x2, hx2⟩ : ∃ x, x = (if U p.round 2 = 0 then (1 : Int) else 3) := ⟨_, rfl⟩
 obtain ⟨x6, hx6⟩ : ∃ x, x = (if U p.every 6 = 0 then (1 : Int) else if U p.every 6 = 1 then 2 else if U p.every 6 = 2 then 3 else if U p.every 6 = 3 then 4 else if U p.every 6 = 4 then 6 else 12) := ⟨_, rfl⟩
 obtain ⟨qf, hqf⟩ : ∃ q, q = (show Prod from { plainP with count := 1 + U p.count 3, kind := 1 + U p.kind 3, round := x2, every := x6, times := 1 + U p.times n, rate := U p.rate 300000000, penalty := U p.penalty 500000000, over := 1 + U p.over 3 }) := ⟨_, rfl⟩
 have en2 : nearB p n = qf := by rw [hqf, hx2, hx6]; rfl
 have HQ := Aside0.mk hqf
 clear hqf
 rw [en, en2]
 have m1 := U_is p.count (m := 3) (by omega) (by omega)
 obtain ⟨b1a, b1b⟩ := U_bd p.count (m := 3) (by omega)
 have m3 := U_is p.kind (m := 3) (by omega) (by omega)
 obtain ⟨b3a, b3b⟩ := U_bd p.kind (m := 3) (by omega)
 obtain ⟨r2, r2b, m2, p2⟩ := pick2 p.round
 obtain ⟨r6, r6b, m6, p6⟩ := pick6 p.every
 have m5 := U_is p.times (m := n) (by omega) (by omega)
 obtain ⟨b5a, b5b⟩ := U_bd p.times (m := n) (by omega)
 have m7 := U_is p.rate (m := 300000000) (by omega) (by omega)
 have m9 := U_is p.penalty (m := 500000000) (by omega) (by omega)
 have m14 := U_is p.over (m := 3) (by omega) (by omega)
 obtain ⟨b14a, b14b⟩ := U_bd p.over (m := 3) (by omega)
 have mn : IntKind.u64.wrap n = n := by show n % 18446744073709551616 = n; omega
 have nz : (n == 0) = false := by simp; omega
 rw [← hx2] at p2
 rw [← hx6] at p6
 clear hx2 hx6 en2
 have P2 := Aside0.mk p2
 have P6 := Aside0.mk p6
 clear hp er en ho hs p2 p6
 go_enter Tryz.func6, Tryz.ntmps6
 go_wp2_with ((with_reducible refine gate_dst (N := 2) rfl ?_); refine box_event ?hg (N := 2) ?hd (cs := pcs p A1 c1 A2 c2 A3 c3) (t := 27) ?hr ?_; (case hd => rfl); (case hg => rfl); (case hr => first | (go_simp; done) | (go_simp; rfl)); intro g2 hg v0 hb1 hbl1; clear hg; have G2 := Aside0.mk hb1; have HB := Aside0.mk hbl1; clear hb1 hbl1; refine Hid.out ?_)
 refine Lib.hid ?_
 go_wp2_with (first
  | ((with_reducible refine gate_dst (N := 4) rfl ?_); refine box_event ?hg (N := 4) ?hd (cs := pzs) (t := 27) ?hr ?_; (case hd => rfl); (case hg => rfl); (case hr => first | (go_simp; done) | (go_simp; rfl)); intro g4 hg w4 hb1 hbl1; have ge4 := (show w.heap.size ≤ g4 by rw [hg]; exact HB.out.size); have ne42 := (show g4 ≠ g2 by have := blk_lt G2.out; omega); clear hg; have G2 := Aside0.mk (Pd.blk_below G2.out hbl1); have G4 := Aside0.mk hb1; have HB := Aside0.mk (below_step HB.out hbl1); clear hb1 hbl1)
  | (go_at_call 13; (with_reducible refine (plain_any _).mono ?_); rintro e w5 ⟨rfl, hb⟩; have G2 := Aside0.mk (Pd.blk_below G2.out hb); have G4 := Aside0.mk (Pd.blk_below G4.out hb); have HB := Aside0.mk (below_step HB.out hb); clear hb)
  | ((with_reducible refine gate_dst (N := 5) rfl ?_); refine copy_event rfl (N := 5) rfl rfl rfl (t := 27) (v := .tmp 6) rfl (cs := plainC) (zs := pzs) ?hr rfl rfl info_prod ?hz plainC_one ?_; (case hr => first | (go_simp; done) | (go_simp; rfl)); (case hz => rfl); intro g5 hg w6 hb0 hb; have ge5 := (show w.heap.size ≤ g5 by rw [hg]; exact HB.out.size); have ne52 := (show g5 ≠ g2 by have := blk_lt G2.out; omega); have ne54 := (show g5 ≠ g4 by have := blk_lt G4.out; omega); clear hg; have G2 := Aside0.mk (Pd.blk_below G2.out hb); have G4 := Aside0.mk (Pd.blk_below G4.out hb); have G5 := Aside0.mk hb0; have HB := Aside0.mk (below_step HB.out hb); clear hb0 hb)
  | ((with_reducible refine gate_dst (N := 7) rfl ?_); refine wpList_load_row rfl 27 (.tmp 2) rfl g2 rfl 27 _ (0, 0) _ G2.out Tryz.underlying27 rfl info_prod ?_)
  | (go_at_call 14; (with_reducible refine (CK.out _ HB.out).mono ?_); rintro e w7 ⟨rfl, hb⟩; have G2 := Aside0.mk (Pd.blk_below G2.out hb); have G4 := Aside0.mk (Pd.blk_below G4.out hb); have G5 := Aside0.mk (Pd.blk_below G5.out hb); have HB := Aside0.mk (below_step HB.out hb); clear hb))
 obtain ⟨-, q1, q2, q3, q4, q5, -, q7, -, q9, -, -, -, -, q14, -, -, -, -⟩ := pc_cells G2.out
 obtain ⟨-, u1, -, u3, -, -, -, -, -, -, -, -, -, -, -, -, -, -, -⟩ := pc_cells (p := plainP) (A1 := none) (c1 := 0) (A2 := none) (c2 := 0) (A3 := none) (c3 := 0) G5.out
 have f1 := frozen_of_row w7 g5 1 _ _ G5.out
 have f3 := frozen_of_row w7 g5 3 _ _ G5.out
 go_region
 obtain ⟨W5, hW5⟩ : ∃ W, W = ((w7.setCell ⟨g5, 1, none⟩ (.int .i64 (1 + U p.count 3))).setCell ⟨g5, 3, none⟩ (.int .i64 (1 + U p.kind 3))).drew := ⟨_, rfl⟩
 rw [← hW5]
 have n5 : W5.heap[g5]? = some (.cells (pcs { plainP with count := 1 + U p.count 3, kind := 1 + U p.kind 3 } none 0 none 0 none 0) 27 (0, 0)) := by rw [hW5]; exact (heap_setCell_same _ g5 3 _ _ _ (heap_setCell_same _ g5 1 _ _ _ G5.out)).trans rfl
 have nb : H.But g5 w7 W5 := by rw [hW5]; exact (let h : H.But g5 w7 ((w7.setCell ⟨g5, 1, none⟩ (.int .i64 (1 + U p.count 3))).setCell ⟨g5, 3, none⟩ (.int .i64 (1 + U p.kind 3))) := (But.one g5 1 w7 _).setCell (p := ⟨g5, 3, none⟩) (Or.inl rfl) _; ⟨h.os, h.tape, h.output, h.size, h.block⟩)
 have n2 := (nb.block g2 (blk_lt G2.out) (Ne.symm ne52)).trans G2.out
 have n4 := (nb.block g4 (blk_lt G4.out) (Ne.symm ne54)).trans G4.out
 have nH := But.below HB.out HB.out.size ge5 nb
 have G5 := Aside0.mk n5
 have G2 := Aside0.mk n2
 have G4 := Aside0.mk n4
 have HB := Aside0.mk nH
 clear hW5 nb n5 n2 n4 nH q1 q2 q3 q4 q5 q7 q9 q14 u1 u3 f1 f3
 obtain ⟨-, q1, q2, q3, q4, q5, -, q7, -, q9, -, -, -, -, q14, -, -, -, -⟩ := pc_cells G2.out
 go_wp2_with (first
  | ((with_reducible refine gate_dst (N := 25) rfl ?_); refine lit_event rfl (N := 25) rfl (cs := #[.int .i64 1, .int .i64 3]) (t := 3) (n := 2) ?hr ?_; (case hr => first | (go_simp; done) | (go_simp; rfl)); intro gl25 hgl wl25 hbl hb; have cl := (blk_cell hbl r2).trans P2.out; have G2 := Aside0.mk (Pd.blk_below G2.out hb); have G4 := Aside0.mk (Pd.blk_below G4.out hb); have G5 := Aside0.mk (Pd.blk_below G5.out hb); have HB := Aside0.mk (below_step HB.out hb); clear hgl hbl hb; obtain ⟨-, q1, q2, q3, q4, q5, -, q7, -, q9, -, -, -, -, q14, -, -, -, -⟩ := pc_cells G2.out; obtain ⟨-, -, u2, -, u4, u5, -, u7, -, u9, -, -, -, -, u14, -, -, -, -⟩ := pc_cells (c1 := 0) (c2 := 0) (c3 := 0) G5.out; have f2 := frozen_of_row wl25 g5 2 _ _ G5.out; have f4 := frozen_of_row wl25 g5 4 _ _ G5.out)
  | ((with_reducible refine gate_store (t := 3) (p := 33) rfl ?_); refine put_event rfl (t := 3) (p := 33) (v := .tmp 32) rfl rfl (g := g5) (i := 2) (cs := pcs { plainP with count := 1 + U p.count 3, kind := 1 + U p.kind 3 } none 0 none 0 none 0) (cs' := pcs { plainP with count := 1 + U p.count 3, kind := 1 + U p.kind 3, round := x2 } none 0 none 0 none 0) (x := .int .i64 x2) ?hr G5.out ?hc ?_; (case hc => rfl); (case hr => go_simp); intro w31 hb8 hbut; have G5 := Aside0.mk hb8; have G2 := Aside0.mk ((hbut.block g2 (blk_lt G2.out) (Ne.symm ne52)).trans G2.out); have G4 := Aside0.mk ((hbut.block g4 (blk_lt G4.out) (Ne.symm ne54)).trans G4.out); have HB := Aside0.mk (But.below HB.out HB.out.size ge5 hbut); clear hb8 hbut; obtain ⟨-, q1, q2, q3, q4, q5, -, q7, -, q9, -, -, -, -, q14, -, -, -, -⟩ := pc_cells G2.out; obtain ⟨-, -, u2, u3, u4, u5, u6, u7, -, u9, -, -, -, -, u14, -, -, -, -⟩ := pc_cells (c1 := 0) (c2 := 0) (c3 := 0) G5.out; have f6 := frozen_of_row w31 g5 6 _ _ G5.out; have f2 := frozen_of_row w31 g5 2 _ _ G5.out; have f4 := frozen_of_row w31 g5 4 _ _ G5.out; have f5 := frozen_of_row w31 g5 5 _ _ G5.out; have f7 := frozen_of_row w31 g5 7 _ _ G5.out; have f9 := frozen_of_row w31 g5 9 _ _ G5.out)
  | ((with_reducible refine gate_dst (N := 34) rfl ?_); refine lit_event rfl (N := 34) rfl (cs := #[.int .i64 1, .int .i64 2, .int .i64 3, .int .i64 4, .int .i64 6, .int .i64 12]) (t := 3) (n := 6) ?hr ?_; (case hr => first | (go_simp; done) | (go_simp; rfl)); intro gl34 hgl wl34 hbl hb; have cl := (blk_cell hbl r6).trans P6.out; have G2 := Aside0.mk (Pd.blk_below G2.out hb); have G4 := Aside0.mk (Pd.blk_below G4.out hb); have G5 := Aside0.mk (Pd.blk_below G5.out hb); have HB := Aside0.mk (below_step HB.out hb); clear hgl hbl hb; obtain ⟨-, q1, q2, q3, q4, q5, -, q7, -, q9, -, -, -, -, q14, -, -, -, -⟩ := pc_cells G2.out; obtain ⟨-, -, u2, -, u4, u5, -, u7, -, u9, -, -, -, -, u14, -, -, -, -⟩ := pc_cells (c1 := 0) (c2 := 0) (c3 := 0) G5.out; have f2 := frozen_of_row wl34 g5 2 _ _ G5.out; have f4 := frozen_of_row wl34 g5 4 _ _ G5.out)
  | ((with_reducible refine gate_store (t := 3) (p := 42) rfl ?_); refine put_event rfl (t := 3) (p := 42) (v := .tmp 41) rfl rfl (g := g5) (i := 4) (cs := pcs { plainP with count := 1 + U p.count 3, kind := 1 + U p.kind 3, round := x2 } none 0 none 0 none 0) (cs' := pcs { plainP with count := 1 + U p.count 3, kind := 1 + U p.kind 3, round := x2, every := x6 } none 0 none 0 none 0) (x := .int .i64 x6) ?hr G5.out ?hc ?_; (case hc => rfl); (case hr => go_simp); intro w32 hb8 hbut; have G5 := Aside0.mk hb8; have G2 := Aside0.mk ((hbut.block g2 (blk_lt G2.out) (Ne.symm ne52)).trans G2.out); have G4 := Aside0.mk ((hbut.block g4 (blk_lt G4.out) (Ne.symm ne54)).trans G4.out); have HB := Aside0.mk (But.below HB.out HB.out.size ge5 hbut); clear hb8 hbut; obtain ⟨-, q1, q2, q3, q4, q5, -, q7, -, q9, -, -, -, -, q14, -, -, -, -⟩ := pc_cells G2.out; obtain ⟨-, -, u2, u3, u4, u5, u6, u7, -, u9, -, -, -, -, u14, -, -, -, -⟩ := pc_cells (c1 := 0) (c2 := 0) (c3 := 0) G5.out; have f6 := frozen_of_row w32 g5 6 _ _ G5.out; have f2 := frozen_of_row w32 g5 2 _ _ G5.out; have f4 := frozen_of_row w32 g5 4 _ _ G5.out; have f5 := frozen_of_row w32 g5 5 _ _ G5.out; have f7 := frozen_of_row w32 g5 7 _ _ G5.out; have f9 := frozen_of_row w32 g5 9 _ _ G5.out)
  | ((with_reducible refine gate_store (t := 3) (p := 51) rfl ?_); refine put_event rfl (t := 3) (p := 51) (v := .tmp 50) rfl rfl (g := g5) (i := 5) (cs := pcs { plainP with count := 1 + U p.count 3, kind := 1 + U p.kind 3, round := x2, every := x6 } none 0 none 0 none 0) (cs' := pcs { plainP with count := 1 + U p.count 3, kind := 1 + U p.kind 3, round := x2, every := x6, times := 1 + U p.times n } none 0 none 0 none 0) (x := .int .i64 (1 + U p.times n)) ?hr G5.out ?hc ?_; (case hc => rfl); (case hr => go_simp); intro w33 hb8 hbut; have G5 := Aside0.mk hb8; have G2 := Aside0.mk ((hbut.block g2 (blk_lt G2.out) (Ne.symm ne52)).trans G2.out); have G4 := Aside0.mk ((hbut.block g4 (blk_lt G4.out) (Ne.symm ne54)).trans G4.out); have HB := Aside0.mk (But.below HB.out HB.out.size ge5 hbut); clear hb8 hbut; obtain ⟨-, q1, q2, q3, q4, q5, -, q7, -, q9, -, -, -, -, q14, -, -, -, -⟩ := pc_cells G2.out; obtain ⟨-, -, u2, u3, u4, u5, u6, u7, -, u9, -, -, -, -, u14, -, -, -, -⟩ := pc_cells (c1 := 0) (c2 := 0) (c3 := 0) G5.out; have f6 := frozen_of_row w33 g5 6 _ _ G5.out; have f2 := frozen_of_row w33 g5 2 _ _ G5.out; have f4 := frozen_of_row w33 g5 4 _ _ G5.out; have f5 := frozen_of_row w33 g5 5 _ _ G5.out; have f7 := frozen_of_row w33 g5 7 _ _ G5.out; have f9 := frozen_of_row w33 g5 9 _ _ G5.out))
 go_region
 obtain ⟨W8, hW8⟩ : ∃ W, W = ((w33.setCell ⟨g5, 7, none⟩ (.int .i64 (U p.rate 300000000))).setCell ⟨g5, 9, none⟩ (.int .i64 (U p.penalty 500000000))).drew := ⟨_, rfl⟩
 rw [← hW8]
 have n5 : W8.heap[g5]? = some (.cells (pcs { plainP with count := 1 + U p.count 3, kind := 1 + U p.kind 3, round := x2, every := x6, times := 1 + U p.times n, rate := U p.rate 300000000, penalty := U p.penalty 500000000 } none 0 none 0 none 0) 27 (0, 0)) := by rw [hW8]; exact (heap_setCell_same _ g5 9 _ _ _ (heap_setCell_same _ g5 7 _ _ _ G5.out)).trans rfl
 have nb : H.But g5 w33 W8 := by rw [hW8]; exact (let h : H.But g5 w33 ((w33.setCell ⟨g5, 7, none⟩ (.int .i64 (U p.rate 300000000))).setCell ⟨g5, 9, none⟩ (.int .i64 (U p.penalty 500000000))) := (But.one g5 7 w33 _).setCell (p := ⟨g5, 9, none⟩) (Or.inl rfl) _; ⟨h.os, h.tape, h.output, h.size, h.block⟩)
 have n2 := (nb.block g2 (blk_lt G2.out) (Ne.symm ne52)).trans G2.out
 have n4 := (nb.block g4 (blk_lt G4.out) (Ne.symm ne54)).trans G4.out
 have nH := But.below HB.out HB.out.size ge5 nb
 have G5 := Aside0.mk n5
 have G2 := Aside0.mk n2
 have G4 := Aside0.mk n4
 have HB := Aside0.mk nH
 clear hW8 nb n5 n2 n4 nH q1 q2 q3 q4 q5 q7 q9 q14 u2 u4 u5 u7 u9 u14 f2 f4 f5 f7 f9
 obtain ⟨-, q1, q2, q3, q4, q5, -, q7, -, q9, -, -, -, -, q14, -, -, -, -⟩ := pc_cells G2.out
 obtain ⟨-, -, u2, -, u4, u5, -, u7, -, u9, -, -, -, -, u14, -, -, -, -⟩ := pc_cells (c1 := 0) (c2 := 0) (c3 := 0) G5.out
 have f14 := frozen_of_row W8 g5 14 _ _ G5.out
 have hgp : plainP.grace = 0 := rfl
 have tl : decide (n < 1 + U p.times n) = false := decide_eq_false (by omega)
 have tg : decide (1 + U p.times n ≤ 0) = false := decide_eq_false (by omega)
 cases hk : (1 + U p.kind 3 == 3) with
 | true =>
  go_wp2_with ((with_reducible refine gate_store (t := 3) (p := 70) rfl ?_); refine put_event rfl (t := 3) (p := 70) (v := .tmp 69) rfl rfl (g := g5) (i := 14) (cs := pcs { plainP with count := 1 + U p.count 3, kind := 1 + U p.kind 3, round := x2, every := x6, times := 1 + U p.times n, rate := U p.rate 300000000, penalty := U p.penalty 500000000 } none 0 none 0 none 0) (cs' := pcs { plainP with count := 1 + U p.count 3, kind := 1 + U p.kind 3, round := x2, every := x6, times := 1 + U p.times n, rate := U p.rate 300000000, penalty := U p.penalty 500000000, over := 1 + U p.over 3 } none 0 none 0 none 0) (x := .int .i64 (1 + U p.over 3)) ?hr G5.out ?hc ?_; (case hc => rfl); (case hr => go_simp); intro w34 hb8 hbut; have G5 := Aside0.mk hb8; have G2 := Aside0.mk ((hbut.block g2 (blk_lt G2.out) (Ne.symm ne52)).trans G2.out); have G4 := Aside0.mk ((hbut.block g4 (blk_lt G4.out) (Ne.symm ne54)).trans G4.out); have HB := Aside0.mk (But.below HB.out HB.out.size ge5 hbut); clear hb8 hbut; obtain ⟨-, q1, q2, q3, q4, q5, -, q7, -, q9, -, -, -, -, q14, -, -, -, -⟩ := pc_cells G2.out; obtain ⟨-, -, u2, u3, u4, u5, u6, u7, -, u9, -, -, -, -, u14, -, -, -, -⟩ := pc_cells (c1 := 0) (c2 := 0) (c3 := 0) G5.out; have f6 := frozen_of_row w34 g5 6 _ _ G5.out; have f2 := frozen_of_row w34 g5 2 _ _ G5.out; have f4 := frozen_of_row w34 g5 4 _ _ G5.out; have f5 := frozen_of_row w34 g5 5 _ _ G5.out; have f7 := frozen_of_row w34 g5 7 _ _ G5.out; have f9 := frozen_of_row w34 g5 9 _ _ G5.out; refine Hid.out ?_)
  refine Lib.hid ?_
  try go_frame
  have bfin : (w34.setCell ⟨g5, 6, none⟩ (.int .i64 0)).heap[g5]? = some (.cells (pcs qf none 0 none 0 none 0) 27 (0, 0)) := by rw [HQ.out]; exact (heap_setCell_same _ g5 6 _ _ _ G5.out).trans rfl
  have hbut : H.But g5 w34 (w34.setCell ⟨g5, 6, none⟩ (.int .i64 0)) := ((H.But.of (Below.refl w34.heap.size w34)).setCell (p := ⟨g5, 6, none⟩) (Or.inl rfl) (.int .i64 0))
  have g4fin : (w34.setCell ⟨g5, 6, none⟩ (.int .i64 0)).heap[g4]? = some (.cells pzs 27 (0, 0)) := (hbut.block g4 (blk_lt G4.out) (Ne.symm ne54)).trans G4.out
  have hbfin : Below w.heap.size w (w34.setCell ⟨g5, 6, none⟩ (.int .i64 0)) := But.below HB.out HB.out.size ge5 hbut
  have F5 := Aside0.mk bfin
  have F4 := Aside0.mk g4fin
  have FB := Aside0.mk hbfin
  clear bfin hbut g4fin hbfin
  go_wp2_with (first
   | ((with_reducible refine gate_dst (N := 89) rfl ?_); refine wpList_load_row rfl 27 (.tmp 5) rfl g5 rfl 27 _ (0, 0) _ F5.out Tryz.underlying27 rfl info_prod ?_)
   | ((with_reducible refine gate_store (t := 27) (p := 4) rfl ?_); refine Hid.out ?_))
  refine Lib.hid ?_
  refine row_event rfl (t := 27) (p := 4) (v := .tmp 89) rfl rfl (g := g4) (cs := pcs qf none 0 none 0 none 0) (zs := pzs) rfl rfl F4.out info_prod rfl (pcs_one _ _ _ _ _ _ _) ?_
  intro w20 hb20 hbut20
  have H20 := Aside0.mk hb20
  have HB20 := Aside0.mk (But.below FB.out FB.out.size ge4 hbut20)
  clear hb20 hbut20
  try go_frame
  go_wp2_with fail
  exact bodyPost_ret (v := pv qf none 0 none 0 none 0) (results_cell_row (g := g4) Tryz.results6 _ _ _ _ _ _ rfl H20.out Tryz.underlying27 rfl info_prod) rfl ⟨none, 0, none, 0, none, 0, rfl, fun w0 _ => nilAt (by rw [HQ.out]; rfl) (by rw [HQ.out]; rfl) (by rw [HQ.out]; rfl), HB20.out⟩
 | false =>
  go_wp2_with ((with_reducible refine gate_store (t := 3) (p := 70) rfl ?_); refine put_event rfl (t := 3) (p := 70) (v := .tmp 69) rfl rfl (g := g5) (i := 14) (cs := pcs { plainP with count := 1 + U p.count 3, kind := 1 + U p.kind 3, round := x2, every := x6, times := 1 + U p.times n, rate := U p.rate 300000000, penalty := U p.penalty 500000000 } none 0 none 0 none 0) (cs' := pcs { plainP with count := 1 + U p.count 3, kind := 1 + U p.kind 3, round := x2, every := x6, times := 1 + U p.times n, rate := U p.rate 300000000, penalty := U p.penalty 500000000, over := 1 + U p.over 3 } none 0 none 0 none 0) (x := .int .i64 (1 + U p.over 3)) ?hr G5.out ?hc ?_; (case hc => rfl); (case hr => go_simp); intro w34 hb8 hbut; have G5 := Aside0.mk hb8; have G2 := Aside0.mk ((hbut.block g2 (blk_lt G2.out) (Ne.symm ne52)).trans G2.out); have G4 := Aside0.mk ((hbut.block g4 (blk_lt G4.out) (Ne.symm ne54)).trans G4.out); have HB := Aside0.mk (But.below HB.out HB.out.size ge5 hbut); clear hb8 hbut; obtain ⟨-, q1, q2, q3, q4, q5, -, q7, -, q9, -, -, -, -, q14, -, -, -, -⟩ := pc_cells G2.out; obtain ⟨-, -, u2, u3, u4, u5, u6, u7, -, u9, -, -, -, -, u14, -, -, -, -⟩ := pc_cells (c1 := 0) (c2 := 0) (c3 := 0) G5.out; have f6 := frozen_of_row w34 g5 6 _ _ G5.out; have f2 := frozen_of_row w34 g5 2 _ _ G5.out; have f4 := frozen_of_row w34 g5 4 _ _ G5.out; have f5 := frozen_of_row w34 g5 5 _ _ G5.out; have f7 := frozen_of_row w34 g5 7 _ _ G5.out; have f9 := frozen_of_row w34 g5 9 _ _ G5.out; refine Hid.out ?_)
  refine Lib.hid ?_
  try go_frame
  have bfin : w34.heap[g5]? = some (.cells (pcs qf none 0 none 0 none 0) 27 (0, 0)) := by rw [HQ.out]; exact G5.out
  have hbut : H.But g5 w34 w34 := (H.But.of (Below.refl w34.heap.size w34))
  have g4fin : w34.heap[g4]? = some (.cells pzs 27 (0, 0)) := (hbut.block g4 (blk_lt G4.out) (Ne.symm ne54)).trans G4.out
  have hbfin : Below w.heap.size w w34 := But.below HB.out HB.out.size ge5 hbut
  have F5 := Aside0.mk bfin
  have F4 := Aside0.mk g4fin
  have FB := Aside0.mk hbfin
  clear bfin hbut g4fin hbfin
  go_wp2_with (first
   | ((with_reducible refine gate_dst (N := 89) rfl ?_); refine wpList_load_row rfl 27 (.tmp 5) rfl g5 rfl 27 _ (0, 0) _ F5.out Tryz.underlying27 rfl info_prod ?_)
   | ((with_reducible refine gate_store (t := 27) (p := 4) rfl ?_); refine Hid.out ?_))
  refine Lib.hid ?_
  refine row_event rfl (t := 27) (p := 4) (v := .tmp 89) rfl rfl (g := g4) (cs := pcs qf none 0 none 0 none 0) (zs := pzs) rfl rfl F4.out info_prod rfl (pcs_one _ _ _ _ _ _ _) ?_
  intro w20 hb20 hbut20
  have H20 := Aside0.mk hb20
  have HB20 := Aside0.mk (But.below FB.out FB.out.size ge4 hbut20)
  clear hb20 hbut20
  try go_frame
  go_wp2_with fail
  exact bodyPost_ret (v := pv qf none 0 none 0 none 0) (results_cell_row (g := g4) Tryz.results6 _ _ _ _ _ _ rfl H20.out Tryz.underlying27 rfl info_prod) rfl ⟨none, 0, none, 0, none, 0, rfl, fun w0 _ => nilAt (by rw [HQ.out]; rfl) (by rw [HQ.out]; rfl) (by rw [HQ.out]; rfl), HB20.out⟩
end Go.Proofs.YtfmkdledofbhdaaGreat.Du
/- What a law of days asks of lists that calls hand back. -/
namespace Go.Proofs.YtfmkdledofbhdaaGreat.Du
open Go.RowKit Go.Proofs.YtfmkdledofbhdaaGreatW.PrintWords Go.Proofs.YtfmkdledofbhdaaGreatW.PrintLast Go.Proofs.YtfmkdledofbhdaaGreatW.PrintMore Go.Proofs.YtfmkdledofbhdaaGreat.HW
open Go.Proofs.YtfmkdledofbhdaaGreat.Math Go.Proofs.YtfmkdledofbhdaaGreat.H Go.Proofs.YtfmkdledofbhdaaGreat.Pd Pm
set_option linter.unusedVariables false
set_option linter.unusedSimpArgs false
theorem near_any (p : Prod) (A1 : Option Addr) (c1 : Nat) (A2 : Option Addr) (c2 : Nat) (A3 : Option Addr) (c3 : Nat) (n : Int) (w : World) (hp : ProdAt w p A1 c1 A2 c2 A3 c3) (hs : Held p) (n1 : 1 ≤ n) (n2 : n ≤ 1000) :
  Calls Tryz.prog 6 #[pv p A1 c1 A2 c2 A3 c3, .int .i64 n] w (NearE p A1 c1 A2 c2 A3 c3 (nearP p n) w) := by
 cases ho : ok p with
 | false => exact near_not p A1 c1 A2 c2 A3 c3 n w hp hs ho n1 n2
 | true => exact near_ok p A1 c1 A2 c2 A3 c3 n w hp hs ho
theorem C_nil (w : World) : Kd.C (Kd.int .i64) w none 0 [] := Kd.C_of_reads (d := (0 : Int)) ⟨rfl, by omega, fun h => absurd h (by omega)⟩
theorem rparts_len (c : Int) : ∀ (l : List Int) (s : Int), (rpartsL c s l).length = l.length
 | [], s => rfl
 | d :: r, s => by rw [rpartsL, List.length_cons, rparts_len c r d]; rfl
end Go.Proofs.YtfmkdledofbhdaaGreat.Du
/- Plain: a product near another one may be, whatever its way of rolling, without holidays. -/
namespace Go.Proofs.YtfmkdledofbhdaaGreat.Du
open Go.RowKit Go.Proofs.YtfmkdledofbhdaaGreatW.PrintWords Go.Proofs.YtfmkdledofbhdaaGreatW.PrintLast Go.Proofs.YtfmkdledofbhdaaGreatW.PrintMore Go.Proofs.YtfmkdledofbhdaaGreat.HW
open Go.Proofs.YtfmkdledofbhdaaGreat.Math Go.Proofs.YtfmkdledofbhdaaGreat.H Go.Proofs.YtfmkdledofbhdaaGreat.Pd Pm
set_option linter.unusedVariables false
set_option linter.unusedSimpArgs false
theorem ok_iff (p : Prod) : ok p = true ↔ ((((nameOk p.name.data.toList = true ∧ (1 ≤ p.count ∧ p.count ≤ 3) ∧ (p.round = 1 ∨ p.round = 3) ∧ (1 ≤ p.kind ∧ p.kind ≤ 3) ∧ (p.every = 1 ∨ p.every = 2 ∨ p.every = 3 ∨ p.every = 4 ∨ p.every = 6 ∨ p.every = 12) ∧ (1 ≤ p.times ∧ p.times ≤ 600) ∧ (0 ≤ p.grace ∧ p.grace ≤ p.times - 1) ∧ (p.kind = 3 → p.grace = 0)) ∧
  ((0 ≤ p.rate ∧ p.rate ≤ 1000000000) ∧ (0 ≤ p.penalty ∧ p.penalty ≤ 1000000000) ∧ p.resets.length ≤ 20) ∧ resetsOk p.times 0 p.resets = true) ∧ orderOk p.o1 p.o2 p.o3 p.o4 = true ∧ 1 ≤ p.over ∧ p.over ≤ 3) ∧
  (p.late.length ≤ 8 ∧ (0 ≤ p.cap ∧ p.cap ≤ 10000000000000) ∧ (p.late = [] → p.cap = 0)) ∧ tiersOk 0 0 p.late = true) ∧ (p.hol.length ≤ 200 ∧ (1 ≤ p.roll ∧ p.roll ≤ 4) ∧ (p.roll = 1 → p.hol = [])) ∧ holsOk (-25568) p.hol = true := by
 simp only [ok, shapeOk, ratesOk, ordOk, lateOk, daysOk, Bool.and_eq_true, decide_eq_true_eq]
theorem ok_graced {q : Prod} (h : (ok { q with grace := 0 } = true)) (hg : ¬ (q.times ≤ q.grace ∨ q.kind = 3)) (g0 : 0 ≤ q.grace) : ok q = true := by
 have h' := (ok_iff _).1 h
 obtain ⟨⟨⟨⟨⟨a1, a2, a3, a4, a5, a6, a7, a8⟩, b⟩, c⟩, d⟩, e⟩ := h'
 exact (ok_iff _).2 ⟨⟨⟨⟨⟨a1, a2, a3, a4, a5, a6, ⟨g0, by omega⟩, fun h => absurd (Or.inr h) hg⟩, b⟩, c⟩, d⟩, e⟩
theorem ok_nearD {q : Prod} (h : (ok { q with grace := 0 } = true)) (g0 : 0 ≤ q.grace) : ok (nearD q) = true := by
 unfold nearD
 split
 ·exact h
 ·rename_i hg; exact ok_graced h hg g0
theorem nearD_times (q : Prod) : (nearD q).times = q.times ∧ (nearD q).count = q.count ∧ (nearD q).every = q.every := by
 unfold nearD
 split <;> exact ⟨rfl, rfl, rfl⟩
theorem plain_good : ok plainP = true := by decide +kernel
theorem near_valid (p : Prod) {n : Int} (n1 : 1 ≤ n) (n2 : n ≤ 600) : ok (nearP p n) = true ∧ (nearP p n).times ≤ n := by
 unfold nearP
 split
 ·rename_i h
  obtain ⟨⟨⟨⟨⟨a1, a2, a3, a4, a5, a6, a7, a8⟩, ⟨b1, b2, b3⟩, b4⟩, c⟩, d⟩, e⟩ := (ok_iff _).1 h
  split
  ·rename_i hn
   refine ⟨ok_nearD ((ok_iff _).2 ⟨⟨⟨⟨⟨a1, a2, a3, a4, a5, ⟨n1, n2⟩, ⟨by show (0 : Int) ≤ 0; omega, by show (0 : Int) ≤ n - 1; omega⟩, fun _ => rfl⟩, ⟨b1, b2, by show (0 : Nat) ≤ 20; omega⟩, rfl⟩, c⟩, d⟩, e⟩) a7.1, ?_⟩
   rw [(nearD_times _).1]
   exact Int.le_refl n
  ·rename_i hn
   refine ⟨ok_nearD ((ok_iff _).2 ⟨⟨⟨⟨⟨a1, a2, a3, a4, a5, a6, ⟨by show (0 : Int) ≤ 0; omega, by show (0 : Int) ≤ p.times - 1; omega⟩, fun _ => rfl⟩, ⟨b1, b2, b3⟩, b4⟩, c⟩, d⟩, e⟩) a7.1, ?_⟩
   rw [(nearD_times _).1]
   omega
 ·have u1 := U_bd p.count (m := 3) (by omega)
  have u2 := U_bd p.kind (m := 3) (by omega)
  have u3 := U_bd p.every (m := 6) (by omega)
  have u4 := U_bd p.times (m := n) (by omega)
  have u5 := U_bd p.rate (m := 300000000) (by omega)
  have u6 := U_bd p.penalty (m := 500000000) (by omega)
  have u7 := U_bd p.over (m := 3) (by omega)
  obtain ⟨⟨⟨⟨⟨a1, a2, a3, a4, a5, a6, a7, a8⟩, ⟨b1, b2, b3⟩, b4⟩, c⟩, d⟩, e⟩ := (ok_iff _).1 plain_good
  refine ⟨ok_nearD ((ok_iff _).2 ⟨⟨⟨⟨⟨a1, ⟨by show 1 ≤ 1 + U p.count 3; omega, by show 1 + U p.count 3 ≤ 3; omega⟩, ?_, ⟨by show 1 ≤ 1 + U p.kind 3; omega, by show 1 + U p.kind 3 ≤ 3; omega⟩, ?_, ⟨by show 1 ≤ 1 + U p.times n; omega, by show 1 + U p.times n ≤ 600; omega⟩, ⟨by show (0 : Int) ≤ 0; omega, by show (0 : Int) ≤ 1 + U p.times n - 1; omega⟩, fun _ => rfl⟩, ⟨⟨by show 0 ≤ U p.rate 300000000; omega, by show U p.rate 300000000 ≤ 1000000000; omega⟩, ⟨by show 0 ≤ U p.penalty 500000000; omega, by show U p.penalty 500000000 ≤ 1000000000; omega⟩, b3⟩, rfl⟩, ⟨c.1, by show 1 ≤ 1 + U p.over 3; omega, by show 1 + U p.over 3 ≤ 3; omega⟩⟩, d⟩, e⟩) (by show (0 : Int) ≤ 0; omega), ?_⟩
  ·show (if U p.round 2 = 0 then (1 : Int) else 3) = 1 ∨ (if U p.round 2 = 0 then (1 : Int) else 3) = 3
   split
   ·exact Or.inl rfl
   ·exact Or.inr rfl
  ·generalize hx : (nearB p n).every = x
   have hx' : (if U p.every 6 = 0 then (1 : Int) else if U p.every 6 = 1 then 2 else if U p.every 6 = 2 then 3 else if U p.every 6 = 3 then 4 else if U p.every 6 = 4 then 6 else 12) = x := hx
   show x = 1 ∨ x = 2 ∨ x = 3 ∨ x = 4 ∨ x = 6 ∨ x = 12
   repeat' split at hx'
   all_goals omega
  ·rw [(nearD_times _).1]
   show 1 + U p.times n ≤ n
   omega
end Go.Proofs.YtfmkdledofbhdaaGreat.Du
/- Plain: the days of a product near another one, from a day of thirty years: they are there, and lie far apart. -/
namespace Go.Proofs.YtfmkdledofbhdaaGreat.Du
open Go.RowKit Go.Proofs.YtfmkdledofbhdaaGreatW.PrintWords Go.Proofs.YtfmkdledofbhdaaGreatW.PrintLast Go.Proofs.YtfmkdledofbhdaaGreatW.PrintMore Go.Proofs.YtfmkdledofbhdaaGreat.HW
open Go.Proofs.YtfmkdledofbhdaaGreat.Math Go.Proofs.YtfmkdledofbhdaaGreat.H Go.Proofs.YtfmkdledofbhdaaGreat.Pd Pm
set_option linter.unusedVariables false
set_option linter.unusedSimpArgs false
def A (n k : Int) : Int := dayAt (idx n + k) (min (dayOf n) (ml (idx n + k)))
end Go.Proofs.YtfmkdledofbhdaaGreat.Du
/- Plain: parts between days far apart are above nothing; their sum is what lies between the first day and the last one. -/
namespace Go.Proofs.YtfmkdledofbhdaaGreat.Du
open Go.RowKit Go.Proofs.YtfmkdledofbhdaaGreatW.PrintWords Go.Proofs.YtfmkdledofbhdaaGreatW.PrintLast Go.Proofs.YtfmkdledofbhdaaGreatW.PrintMore Go.Proofs.YtfmkdledofbhdaaGreat.HW
open Go.Proofs.YtfmkdledofbhdaaGreat.Math Go.Proofs.YtfmkdledofbhdaaGreat.H Go.Proofs.YtfmkdledofbhdaaGreat.Pd Pm
set_option linter.unusedVariables false
set_option linter.unusedSimpArgs false
theorem actual_up : ∀ (k : Nat) {a : Int}, isDay a → isDay (a + k) → actual a + k ≤ actual (a + k)
 | 0, a, _, _ => by simp
 | k + 1, a, ha, hb => by
  obtain ⟨a1, a2⟩ := id ha
  obtain ⟨b1, b2⟩ := id hb
  have hm : isDay (a + k) := ⟨by omega, by omega⟩
  have hb' : isDay (a + k + 1) := ⟨by omega, by omega⟩
  have ih := actual_up k ha hm
  have hs := actual_succ hm hb'
  have hl := leap_01 (yearOf (a + k))
  rw [show a + ((k + 1 : Nat) : Int) = a + k + 1 by omega]
  omega
def prev (s : Int) (l : List Int) (k : Nat) : Int := if k = 0 then s else l.getD (k - 1) 0
end Go.Proofs.YtfmkdledofbhdaaGreat.Du
/- Plain arithmetic of what a balance bears: the rest, and the whole. -/
namespace Go.Proofs.YtfmkdledofbhdaaGreat.Gm
def gp (c : Int) : Int := if c = 1 then 360 else if c = 2 then 365 else 133590
def whole (c : Int) : Int := 1000000000 * gp c
def half (c r : Int) : Int := if r = 1 then whole c / 2 else 0
theorem whole_bd (c : Int) : 360000000000 ≤ whole c ∧ whole c ≤ 133590000000000 ∧ whole c % 2 = 0 := by
 unfold whole gp
 split
 ·decide
 ·split <;> decide
theorem half_bd (c r : Int) : 0 ≤ half c r ∧ 2 * half c r ≤ whole c := by
 have := whole_bd c
 unfold half
 split <;> omega
theorem half_one (c : Int) : 2 * half c 1 = whole c := by
 have := whole_bd c
 unfold half
 rw [if_pos rfl]; omega
theorem half_no {c r : Int} (h : r ≠ 1) : half c r = 0 := if_neg h
def q (W h rest x : Int) : Int := (x + (rest + h)) / W
def r (W h rest x : Int) : Int := (x + (rest + h)) % W - h
theorem step {W h rest x : Int} (hW : 0 < W) (hx : 0 ≤ x) (r0 : -h ≤ rest) : 0 ≤ q W h rest x ∧ -h ≤ r W h rest x ∧ r W h rest x < W - h ∧ r W h rest x = rest + x - q W h rest x * W := by
 unfold q r
 have e := Int.emod_add_mul_ediv (x + (rest + h)) W
 have h1 := Int.emod_nonneg (x + (rest + h)) (show W ≠ 0 by omega)
 have h2 := Int.emod_lt_of_pos (x + (rest + h)) hW
 have h3 : 0 ≤ (x + (rest + h)) / W := Int.ediv_nonneg (by omega) (by omega)
 rw [Int.mul_comm] at e
 refine ⟨h3, by omega, by omega, by omega⟩
theorem most {W h rest x M : Int} (hW : 0 < W) (r1 : rest < W - h) (hx : x ≤ M * W) : q W h rest x ≤ M := by
 unfold q
 have : (x + (rest + h)) / W < M + 1 := by
  refine Int.ediv_lt_of_lt_mul hW ?_
  rw [Int.add_mul, Int.one_mul]; omega
 omega
theorem uniq {W h x s : Int} (hW : 0 < W) (h1 : -h ≤ x - s * W) (h2 : x - s * W < W - h) : q W h 0 x = s ∧ r W h 0 x = x - s * W := by
 unfold q r
 have e : x + (0 + h) = (x - s * W + h) + s * W := by omega
 have a : (x + (0 + h)) / W = s := by
  rw [e, Int.add_mul_ediv_right _ _ (by omega), Int.ediv_eq_zero_of_lt (by omega) (by omega)]; omega
 have b : (x + (0 + h)) % W = x - s * W + h := by
  rw [e, Int.add_mul_emod_self_right, Int.emod_eq_of_lt (by omega) (by omega)]
 exact ⟨a, by omega⟩
theorem more {W h x y : Int} (hW : 0 < W) (hxy : x ≤ y) : q W h 0 x ≤ q W h 0 y := by
 unfold q
 exact Int.ediv_le_ediv hW (by omega)
theorem none {W h : Int} (hW : 0 < W) (h0 : 0 ≤ h) (h1 : h < W) : q W h 0 0 = 0 ∧ r W h 0 0 = 0 := by
 obtain ⟨a, b⟩ := uniq (W := W) (h := h) (x := 0) (s := 0) hW (by omega) (by omega)
 exact ⟨a, by omega⟩
theorem mul_le {a b A B : Int} (a0 : 0 ≤ a) (b0 : 0 ≤ b) (hA : a ≤ A) (hB : b ≤ B) : 0 ≤ a * b ∧ a * b ≤ A * B :=
 ⟨Int.mul_nonneg a0 b0, Int.mul_le_mul hA hB b0 (by omega)⟩
def may (bal rate n : Int) : Prop := 0 ≤ bal ∧ bal ≤ 1000000000000000 ∧ 0 ≤ rate ∧ rate ≤ 1000000000 ∧ 0 ≤ n ∧ n ≤ 53436000
instance (bal rate n : Int) : Decidable (may bal rate n) := by unfold may; exact inferInstance
def bear (W h rest bal rate n : Int) : Int × Int × Int :=
 if may bal rate n then (if q W h rest (bal * rate * n) ≤ 1000000000000000 then (q W h rest (bal * rate * n), 0, r W h rest (bal * rate * n)) else (0, 3, rest)) else (0, 1, rest)
end Go.Proofs.YtfmkdledofbhdaaGreat.Gm
/- Plain law of level: what an instalment leaves, and the least one that leaves nothing. -/
namespace Go.Proofs.YtfmkdledofbhdaaGreat.Lv
set_option linter.unusedVariables false
set_option linter.unusedSimpArgs false
def wk (W h rate gr inst : Int) : Int → List Int → Int → Int → Int
 | _, [], bal, _ => bal
 | i, n :: l, bal, rest =>
  if (Gm.bear W h rest bal rate n).2.1 ≠ 0 then 1000000000000001
  else if i < gr then wk W h rate gr inst (i + 1) l bal (Gm.bear W h rest bal rate n).2.2
  else if bal + ((Gm.bear W h rest bal rate n).1 - inst) ≤ 0 then bal + ((Gm.bear W h rest bal rate n).1 - inst)
  else if 1000000000000000 < bal + ((Gm.bear W h rest bal rate n).1 - inst) then 1000000000000001
  else wk W h rate gr inst (i + 1) l (bal + ((Gm.bear W h rest bal rate n).1 - inst)) (Gm.bear W h rest bal rate n).2.2
structure In (W h rest bal : Int) : Prop where
 w0 : 0 < W
 b0 : 0 < bal
 b1 : bal ≤ 1000000000000000
 r0 : -h ≤ rest
 r1 : rest < W - h
theorem bear_eq {W h rest bal rate n : Int} : Gm.bear W h rest bal rate n = if Gm.may bal rate n then (if Gm.q W h rest (bal * rate * n) ≤ 1000000000000000 then (Gm.q W h rest (bal * rate * n), 0, Gm.r W h rest (bal * rate * n)) else (0, 3, rest)) else (0, 1, rest) := rfl
theorem bear_ok {W h rest bal rate n : Int} (e : (Gm.bear W h rest bal rate n).2.1 = 0) : Gm.may bal rate n ∧ Gm.q W h rest (bal * rate * n) ≤ 1000000000000000 ∧ Gm.bear W h rest bal rate n = (Gm.q W h rest (bal * rate * n), 0, Gm.r W h rest (bal * rate * n)) := by
 rw [bear_eq] at e ⊢
 by_cases hm : Gm.may bal rate n
 ·rw [if_pos hm] at e ⊢
  by_cases hq : Gm.q W h rest (bal * rate * n) ≤ 1000000000000000
  ·rw [if_pos hq]; exact ⟨hm, hq, rfl⟩
  ·rw [if_neg hq] at e; simp at e
 ·rw [if_neg hm] at e; simp at e
theorem two {W h rate n b1 r1 b2 r2 : Int} (I1 : In W h r1 b1) (I2 : In W h r2 b2) (hb : b1 < b2 ∨ b1 = b2 ∧ r1 ≤ r2) (e : (Gm.bear W h r2 b2 rate n).2.1 = 0) :
  (Gm.bear W h r1 b1 rate n).2.1 = 0 ∧ (b1 + (Gm.bear W h r1 b1 rate n).1 < b2 + (Gm.bear W h r2 b2 rate n).1 ∨ b1 + (Gm.bear W h r1 b1 rate n).1 = b2 + (Gm.bear W h r2 b2 rate n).1 ∧ (Gm.bear W h r1 b1 rate n).2.2 ≤ (Gm.bear W h r2 b2 rate n).2.2) ∧
   0 ≤ (Gm.bear W h r1 b1 rate n).1 ∧ (Gm.bear W h r1 b1 rate n).1 ≤ 1000000000000000 := by
 obtain ⟨hm, hq, he⟩ := bear_ok e
 obtain ⟨w0, p0, p1, q0, q1⟩ := I1
 obtain ⟨_, s0, s1, t0, t1⟩ := I2
 obtain ⟨m0, m1, m2, m3, m4, m5⟩ := hm
 have hm1 : Gm.may b1 rate n := ⟨by omega, by omega, m2, m3, m4, m5⟩
 have rn0 := Int.mul_nonneg m2 m4
 have x1 := Int.mul_nonneg (Int.le_of_lt p0) rn0
 have x2 := Int.mul_nonneg (Int.le_of_lt s0) rn0
 have x12 : b1 * (rate * n) ≤ b2 * (rate * n) := Int.mul_le_mul_of_nonneg_right (by omega) rn0
 rw [← Int.mul_assoc] at x1 x2
 have g1 := Gm.step (W := W) (h := h) (rest := r1) (x := b1 * rate * n) w0 x1 q0
 have g2 := Gm.step (W := W) (h := h) (rest := r2) (x := b2 * rate * n) w0 x2 t0
 obtain ⟨a0, a1, a2, a3⟩ := g1
 obtain ⟨c0, c1, c2, c3⟩ := g2
 have hq1 : Gm.q W h r1 (b1 * rate * n) ≤ 1000000000000000 := by
  rcases hb with hb | ⟨rfl, hr⟩
  ·by_cases hw : rate * n ≤ W
   ·-- no more than the balance
    have : b1 * (rate * n) ≤ b1 * W := Int.mul_le_mul_of_nonneg_left hw (by omega)
    rw [← Int.mul_assoc] at this
    have := Gm.most (W := W) (h := h) (rest := r1) (x := b1 * rate * n) (M := b1) w0 q1 this
    omega
   ·refine Int.le_trans ?_ hq
    unfold Gm.q
    refine Int.ediv_le_ediv w0 ?_
    have : (b1 + 1) * (rate * n) ≤ b2 * (rate * n) := Int.mul_le_mul_of_nonneg_right (by omega) rn0
    rw [show (b1 + 1) * (rate * n) = b1 * rate * n + rate * n by rw [Int.add_mul, Int.one_mul, Int.mul_assoc], show b2 * (rate * n) = b2 * rate * n from (Int.mul_assoc ..).symm] at this
    omega
  ·refine Int.le_trans ?_ hq
   unfold Gm.q
   exact Int.ediv_le_ediv w0 (by omega)
 have h1 : Gm.bear W h r1 b1 rate n = (Gm.q W h r1 (b1 * rate * n), 0, Gm.r W h r1 (b1 * rate * n)) := by rw [bear_eq, if_pos hm1, if_pos hq1]
 rw [h1, he]
 refine ⟨rfl, ?_, a0, hq1⟩
 simp only []
 generalize Gm.q W h r1 (b1 * rate * n) = u1 at *
 generalize Gm.q W h r2 (b2 * rate * n) = u2 at *
 generalize Gm.r W h r1 (b1 * rate * n) = v1 at *
 generalize Gm.r W h r2 (b2 * rate * n) = v2 at *
 rw [← Int.mul_assoc, ← Int.mul_assoc] at x12
 generalize b1 * rate * n = y1 at *
 generalize b2 * rate * n = y2 at *
 have tot : (b1 + u1) * W + v1 ≤ (b2 + u2) * W + v2 := by
  have e1 : (b1 + u1) * W + v1 = b1 * W + r1 + y1 := by rw [Int.add_mul, a3]; omega
  have e2 : (b2 + u2) * W + v2 = b2 * W + r2 + y2 := by rw [Int.add_mul, c3]; omega
  rw [e1, e2]
  rcases hb with hb | ⟨rfl, hr⟩
  ·have : (b1 + 1) * W ≤ b2 * W := Int.mul_le_mul_of_nonneg_right (by omega) (by omega)
   rw [Int.add_mul] at this
   omega
  ·omega
 by_cases hlt : b1 + u1 < b2 + u2
 ·exact Or.inl hlt
 ·right
  have hge : (b2 + u2) * W ≤ (b1 + u1) * W := Int.mul_le_mul_of_nonneg_right (by omega) (by omega)
  have heq : b1 + u1 = b2 + u2 := by
   rcases (by omega : b1 + u1 = b2 + u2 ∨ b2 + u2 + 1 ≤ b1 + u1) with h | h
   ·exact h
   ·have : (b2 + u2 + 1) * W ≤ (b1 + u1) * W := Int.mul_le_mul_of_nonneg_right h (by omega)
    rw [Int.add_mul] at this
    omega
  rw [heq] at tot
  exact ⟨heq, by omega⟩
theorem bear_in {W h rest bal rate n : Int} (I : In W h rest bal) (e : (Gm.bear W h rest bal rate n).2.1 = 0) : 0 ≤ (Gm.bear W h rest bal rate n).1 ∧ -h ≤ (Gm.bear W h rest bal rate n).2.2 ∧ (Gm.bear W h rest bal rate n).2.2 < W - h := by
 obtain ⟨⟨m0, m1, m2, m3, m4, m5⟩, hq, he⟩ := bear_ok e
 rw [he]
 obtain ⟨a0, a1, a2, a3⟩ := Gm.step (W := W) (h := h) (rest := rest) (x := bal * rate * n) I.w0 (Int.mul_nonneg (Int.mul_nonneg m0 m2) m4) I.r0
 exact ⟨a0, a1, a2⟩
theorem wk_mono {W h rate gr x1 x2 : Int} (hx : x2 ≤ x1) : ∀ (l : List Int) (i b1 r1 b2 r2 : Int), In W h r1 b1 → In W h r2 b2 → (b1 < b2 ∨ b1 = b2 ∧ r1 ≤ r2) → (i < gr → b1 < b2 ∨ b1 = b2 ∧ r1 = r2) → wk W h rate gr x2 i l b2 r2 ≤ 0 → wk W h rate gr x1 i l b1 r1 ≤ 0
 | [], i, b1, r1, b2, r2, I1, I2, hb, hg, h0 => by
  have := I2.b0
  simp only [wk] at h0
  omega
 | n :: l, i, b1, r1, b2, r2, I1, I2, hb, hg, h0 => by
  rw [wk] at h0 ⊢
  by_cases e : (Gm.bear W h r2 b2 rate n).2.1 = 0
  ·obtain ⟨e1, ht, hq0, hq1⟩ := two I1 I2 hb e
   obtain ⟨k1, k2, k3⟩ := bear_in I1 e1
   obtain ⟨j1, j2, j3⟩ := bear_in I2 e
   rw [if_neg (by simpa using e)] at h0
   rw [if_neg (by simpa using e1)]
   by_cases hi : i < gr
   ·rw [if_pos hi] at h0 ⊢
    refine wk_mono hx l (i + 1) _ _ _ _ ⟨I1.w0, I1.b0, I1.b1, k2, k3⟩ ⟨I2.w0, I2.b0, I2.b1, j2, j3⟩ ?_ ?_ h0
    ·rcases hg hi with h | ⟨rfl, rfl⟩
     ·exact Or.inl h
     ·exact Or.inr ⟨rfl, Int.le_refl _⟩
    ·intro _
     rcases hg hi with h | ⟨rfl, rfl⟩
     ·exact Or.inl h
     ·exact Or.inr ⟨rfl, rfl⟩
   ·rw [if_neg hi] at h0 ⊢
    generalize Gm.bear W h r1 b1 rate n = z1 at *
    generalize Gm.bear W h r2 b2 rate n = z2 at *
    by_cases c2 : b2 + (z2.1 - x2) ≤ 0
    ·rw [if_pos (by omega)]; omega
    ·rw [if_neg c2] at h0
     by_cases d2 : 1000000000000000 < b2 + (z2.1 - x2)
     ·rw [if_pos d2] at h0; omega
     ·rw [if_neg d2] at h0
      by_cases c1 : b1 + (z1.1 - x1) ≤ 0
      ·rw [if_pos c1]; omega
      ·rw [if_neg c1, if_neg (by omega)]
       exact wk_mono hx l (i + 1) _ _ _ _ ⟨I1.w0, by omega, by omega, k2, k3⟩ ⟨I2.w0, by omega, by omega, j2, j3⟩ (by omega) (fun h => by omega) h0
  ·rw [if_pos (by simpa using e)] at h0
   omega
theorem wk_zero {W h rate gr : Int} : ∀ (l : List Int) (i b r : Int), In W h r b → 0 < wk W h rate gr 0 i l b r
 | [], i, b, r, I => by simp only [wk]; exact I.b0
 | n :: l, i, b, r, I => by
  rw [wk]
  by_cases e : (Gm.bear W h r b rate n).2.1 = 0
  ·obtain ⟨k1, k2, k3⟩ := bear_in I e
   have b0 := I.b0
   rw [if_neg (by simpa using e)]
   split
   ·exact wk_zero l _ _ _ ⟨I.w0, I.b0, I.b1, k2, k3⟩
   ·rw [if_neg (by omega)]
    split
    ·omega
    ·exact wk_zero l _ _ _ ⟨I.w0, by omega, by omega, k2, k3⟩
  ·rw [if_pos (by simpa using e)]; omega
def srch (f : Int → Int) : Nat → Int → Int → Int
 | 0, _, hi => hi
 | k + 1, lo, hi => if 1 < hi - lo then (if 0 < f (lo + Int.tdiv (hi - lo) 2) then srch f k (lo + Int.tdiv (hi - lo) 2) hi else srch f k lo (lo + Int.tdiv (hi - lo) 2)) else hi
def rsrch (f : Int → Int) : Nat → Int → Int → Int
 | 0, lo, _ => lo
 | k + 1, lo, hi => if lo < hi then (if f (lo + Int.tdiv (hi - lo) 2) ≤ 0 then rsrch f k lo (lo + Int.tdiv (hi - lo) 2) else rsrch f k (lo + Int.tdiv (hi - lo) 2 + 1) hi) else lo
structure Least (f : Int → Int) (v : Int) : Prop where
 yes : f v ≤ 0
 v1 : 1 ≤ v
 vm : v ≤ 1000000000000000
 no : 0 < f (v - 1)
theorem srch_least (f : Int → Int) : ∀ (k : Nat) (lo hi : Int), 0 ≤ lo → lo < hi → hi ≤ 1000000000000000 → hi - lo ≤ 2 ^ k → 0 < f lo → f hi ≤ 0 → Least f (srch f k lo hi)
 | 0, lo, hi, h0, h1, h2, h3, h4, h5 => by
  have : hi - lo = 1 := by simp at h3; omega
  exact ⟨h5, by simp only [srch]; omega, h2, by simp only [srch]; rw [show hi - 1 = lo by omega]; exact h4⟩
 | k + 1, lo, hi, h0, h1, h2, h3, h4, h5 => by
  rw [srch]
  have hp : (2 : Int) ^ (k + 1) = 2 ^ k * 2 := Int.pow_succ ..
  split
  ·rename_i hc
   have ht : Int.tdiv (hi - lo) 2 = (hi - lo) / 2 := Int.tdiv_eq_ediv_of_nonneg (by omega)
   rw [ht]
   split
   ·rename_i hf
    exact srch_least f k _ _ (by omega) (by omega) h2 (by omega) hf h5
   ·rename_i hf
    exact srch_least f k _ _ h0 (by omega) (by omega) (by omega) h4 (by omega)
  ·exact ⟨h5, by omega, h2, by rw [show hi - 1 = lo by omega]; exact h4⟩
theorem Least.uniq {f : Int → Int} (hm : ∀ x y, 0 ≤ x → x ≤ y → y ≤ 1000000000000000 → f x ≤ 0 → f y ≤ 0) {u v : Int} (hu : Least f u) (hv : Least f v) : u = v := by
 obtain ⟨a1, a2, a3, a4⟩ := hu
 obtain ⟨b1, b2, b3, b4⟩ := hv
 rcases (by omega : u = v ∨ u ≤ v - 1 ∨ v ≤ u - 1) with h | h | h
 ·exact h
 ·have := hm u (v - 1) (by omega) h (by omega) a1; omega
 ·have := hm v (u - 1) (by omega) h (by omega) b1; omega
theorem rsrch_least (f : Int → Int) (hm : ∀ x y, 0 ≤ x → x ≤ y → y ≤ 1000000000000000 → f x ≤ 0 → f y ≤ 0) : ∀ (k : Nat) (lo hi : Int), 0 ≤ lo → lo ≤ hi → hi ≤ 1000000000000000 → hi - lo < 2 ^ k → (∀ x, 0 ≤ x → x < lo → 0 < f x) → 0 < f 0 → f hi ≤ 0 → Least f (rsrch f k lo hi)
 | 0, lo, hi, h0, h1, h2, h3, h4, hz, h5 => by
  obtain rfl : lo = hi := by simp at h3; omega
  have : 1 ≤ lo := by
   rcases (by omega : lo = 0 ∨ 1 ≤ lo) with rfl | h
   ·omega
   ·exact h
  exact ⟨h5, by simp only [rsrch]; omega, h2, by simp only [rsrch]; exact h4 _ (by omega) (by omega)⟩
 | k + 1, lo, hi, h0, h1, h2, h3, h4, hz, h5 => by
  rw [rsrch]
  have hp : (2 : Int) ^ (k + 1) = 2 ^ k * 2 := Int.pow_succ ..
  split
  ·rename_i hc
   have ht : Int.tdiv (hi - lo) 2 = (hi - lo) / 2 := Int.tdiv_eq_ediv_of_nonneg (by omega)
   rw [ht]
   split
   ·rename_i hf
    exact rsrch_least f hm k _ _ h0 (by omega) (by omega) (by omega) h4 hz hf
   ·rename_i hf
    refine rsrch_least f hm k _ _ (by omega) (by omega) h2 (by omega) (fun x x0 hx => ?_) hz h5
    rcases (by omega : f x ≤ 0 ∨ 0 < f x) with h | h
    ·have := hm x _ x0 (show x ≤ lo + (hi - lo) / 2 by omega) (by omega) h; omega
    ·exact h
  ·obtain rfl : lo = hi := by omega
   have : 1 ≤ lo := by
    rcases (by omega : lo = 0 ∨ 1 ≤ lo) with rfl | h
    ·omega
    ·exact h
   exact ⟨h5, this, h2, h4 _ (by omega) (by omega)⟩
end Go.Proofs.YtfmkdledofbhdaaGreat.Lv
namespace Go.Proofs.YtfmkdledofbhdaaGreat.PRB
open Go.RowKit Go.Proofs.YtfmkdledofbhdaaGreatW.PrintWords Go.Proofs.YtfmkdledofbhdaaGreatW.PrintLast Go.Proofs.YtfmkdledofbhdaaGreatW.PrintMore Go.Proofs.YtfmkdledofbhdaaGreat.HW
attribute [local go_sem] run_makeFunc_ max2_int min2_int max_two min_two max_three min_three max_four min_four   -- for this text's walks alone
set_option linter.unusedVariables false
set_option linter.unusedSimpArgs false
def errW : Option Int → Value
 | none => .nilIface
 | some c => .iface 0 (.int .i64 c)
theorem errW_none : errW none = .nilIface := rfl
theorem errW_some (c : Int) : errW (some c) = .iface 0 (.int .i64 c) := rfl
theorem info2 : (Tryz.prog.info? 2).map (fun i => (i.zero, i.size, i.bytes)) = some (some (.int .i64 0), 1, 8) := by kernel_rfl
end Go.Proofs.YtfmkdledofbhdaaGreat.PRB
namespace Go.Proofs.YtfmkdledofbhdaaGreat.PRB
open Go.RowKit Go.Proofs.YtfmkdledofbhdaaGreatW.PrintWords Go.Proofs.YtfmkdledofbhdaaGreatW.PrintLast Go.Proofs.YtfmkdledofbhdaaGreatW.PrintMore Go.Proofs.YtfmkdledofbhdaaGreat.HW
attribute [local go_sem] run_makeFunc_ max2_int min2_int max_two min_two max_three min_three max_four min_four   -- for this text's walks alone
set_option linter.unusedVariables false
set_option linter.unusedSimpArgs false
/-! ### quittanceref12_times: function 27 -/
mutual
def quittanceref12_times.l0 : Nat → List Int → Int → List Int → Int → Int → Option (List Int)
 | 0, _, _, _, _, _ => none
 | k + 1, x0, x1, x5, x6, x7 => if x7 < (x0.length : Int) then (if 0 ≤ x7 then (if x5.length < 17592186044416 then (quittanceref12_times.l0 k x0 x1 (x5 ++ [Int.tmod (wrap64 ((wrap64 ((rd x0 x7) * x1)) + x6)) 1000000000]) (wrap64 (Int.tdiv (wrap64 ((wrap64 ((rd x0 x7) * x1)) + x6)) 1000000000)) (wrap64 (x7 + 1))) else (none)) else (none)) else (quittanceref12_times.l1 k x5 x6)
def quittanceref12_times.l1 : Nat → List Int → Int → Option (List Int)
 | 0, _, _ => none
 | k + 1, x5, x6 => if x6 > 0 then (if x5.length < 17592186044416 then (quittanceref12_times.l1 k (x5 ++ [Int.tmod x6 1000000000]) (wrap64 (Int.tdiv x6 1000000000))) else (none)) else (some x5)
end
def quittanceref12_times.f (k : Nat) (l0 : List Int) (a1 : Int) : Option (List Int) := quittanceref12_times.l0 k l0 a1 ([] : List Int) 0 0
theorem quittanceref12_times.mono_l : ∀ k, (∀ y0 y1 y2 y3 y4, LeO (quittanceref12_times.l0 k y0 y1 y2 y3 y4) (quittanceref12_times.l0 (k + 1) y0 y1 y2 y3 y4)) ∧ (∀ y0 y1, LeO (quittanceref12_times.l1 k y0 y1) (quittanceref12_times.l1 (k + 1) y0 y1))
 | 0 => ⟨fun _ _ _ _ _ r h => by simp [quittanceref12_times.l0] at h, fun _ _ r h => by simp [quittanceref12_times.l1] at h⟩
 | k + 1 => by
  obtain ⟨ih0, ih1⟩ := quittanceref12_times.mono_l k
  refine ⟨?_, ?_⟩
  ·intro y0 y1 y2 y3 y4
   unfold quittanceref12_times.l0
   repeat' first
   | (with_reducible exact ih0 _ _ _ _ _)
   | (with_reducible exact ih1 _ _)
   | (with_reducible exact LeO.refl _)
   | (with_reducible exact LeO.none _)
   | (with_reducible refine LeO.ite ?_ ?_)
   | (with_reducible refine LeO.bind ?_ (fun _ => ?_))
   | exact ih0 _ _ _ _ _
   | exact ih1 _ _
   | exact LeO.none _
   | refine LeO.ite ?_ ?_
   | refine LeO.bind ?_ (fun _ => ?_)
  ·intro y0 y1
   unfold quittanceref12_times.l1
   repeat' first
   | (with_reducible exact ih0 _ _ _ _ _)
   | (with_reducible exact ih1 _ _)
   | (with_reducible exact LeO.refl _)
   | (with_reducible exact LeO.none _)
   | (with_reducible refine LeO.ite ?_ ?_)
   | (with_reducible refine LeO.bind ?_ (fun _ => ?_))
   | exact ih0 _ _ _ _ _
   | exact ih1 _ _
   | exact LeO.none _
   | refine LeO.ite ?_ ?_
   | refine LeO.bind ?_ (fun _ => ?_)
theorem quittanceref12_times.mono : ∀ a0 a1 k, LeO (quittanceref12_times.f k a0 a1) (quittanceref12_times.f (k + 1) a0 a1) := by
 intro a0 a1 k
 obtain ⟨ih0, ih1⟩ := quittanceref12_times.mono_l k
 unfold quittanceref12_times.f
 repeat' first
   | (with_reducible exact ih0 _ _ _ _ _)
   | (with_reducible exact ih1 _ _)
   | (with_reducible exact LeO.refl _)
   | (with_reducible exact LeO.none _)
   | (with_reducible refine LeO.ite ?_ ?_)
   | (with_reducible refine LeO.bind ?_ (fun _ => ?_))
   | exact ih0 _ _ _ _ _
   | exact ih1 _ _
   | exact LeO.none _
   | refine LeO.ite ?_ ?_
   | refine LeO.bind ?_ (fun _ => ?_)
set_option maxHeartbeats 8000000 in
set_option maxRecDepth 100000 in
theorem quittanceref12_times.calls (k : Nat) (A0 : Option Addr) (c0 : Nat) (l0 : List Int) (a1 : Int) (r : List Int) (w : World) (hr0 : Kd.C (Kd.int .i64) w A0 l0.length l0) (hc0 : l0.length ≤ c0) (h : quittanceref12_times.f k l0 a1 = some r) :
  Calls Tryz.prog 27 #[.slice A0 l0.length c0, .int .i64 a1] w fun e w' => ∃ v0_ : Value, e = .returned (v0_) ∧ Kd.R (Kd.int .i64) 2 w' w.heap.size (fun _ => True) v0_ r ∧ Below w.heap.size w w' := by
 have HR0 := Aside0.mk hr0
 have HC0 := Aside0.mk hc0
 clear hr0 hc0
 have HB := Aside0.mk (Below.refl w.heap.size w)
 have H : (quittanceref12_times.l0 k l0 a1 ([] : List Int) 0 0) = some r := h
 clear h
 have H' := Aside0.mk H
 clear H
 go_enter Tryz.func27, Tryz.ntmps27
 go_wp2
 go_loopg [5, 6, 7] k (fun kq v5 v6 v7 w' => ∃ (x5_1 : List Int) (x6_1 : Int) (x7_1 : Int), v6 = .int .i64 x6_1 ∧ v7 = .int .i64 x7_1 ∧ Aside0 (quittanceref12_times.l0 kq l0 a1 x5_1 x6_1 x7_1 = some r) ∧ Aside0 (kq ≤ k) ∧ Aside0 (Kd.R (Kd.int .i64) 2 w' w.heap.size (fun _ => True) v5 x5_1) ∧ Aside0 (Below w.heap.size w w'))
 case atStart => exact ⟨(([] : List Int)), (0), (0), (by first | rfl | (simp; done) | (simp [*]; done)), (by first | rfl | (simp; done) | (simp [*]; done)), H', ⟨Nat.le_refl _⟩, ⟨by first | exact Kd.R_nil _ _ _ _ _ | exact Kd.N_nil _ _ _ _ _ | exact Kd.V_nil _ _ _ _ _ | exact Kd.Q_nil _ _ _ _ _ | exact Kd.S_nil _ _ _ _ _⟩, ⟨by repeat (first | (with_reducible first | exact HB.out | apply below_alloc | apply pw_below_drewN | apply below_drew1) | exact HB.out)⟩⟩
 case round =>
  clear H'
  obtain ⟨x5_1, x6_1, x7_1, rfl, rfl, HA, HK1, HO_5, HB⟩ := hrel
  cases gk with
  | zero => exact absurd HA.out (by simp [quittanceref12_times.l0])
  | succ k1 =>
   have H := HA.out
   clear HA
   simp only [quittanceref12_times.l0] at H
   by_cases c3 : x7_1 < (l0.length : Int)
   ·rw [if_pos c3] at H
    have c3b0 : decide (x7_1 < (l0.length : Int)) = true := decide_eq_true c3
    clear c3
    by_cases c4 : 0 ≤ x7_1
    ·rw [if_pos c4] at H
     have c4b0 : decide (0 ≤ x7_1) = true := decide_eq_true c4
     clear c4
     by_cases c5 : x5_1.length < 17592186044416
     ·rw [if_pos c5] at H
      have LMc5 := Aside0.mk c5
      clear c5
      obtain ⟨y102, hy102⟩ : ∃ y_ : List Int, y_ = (x5_1 ++ [Int.tmod (wrap64 ((wrap64 ((rd l0 x7_1) * a1)) + x6_1)) 1000000000]) := ⟨_, rfl⟩
      replace H : (quittanceref12_times.l0 k1 l0 a1 y102 (wrap64 (Int.tdiv (wrap64 ((wrap64 ((rd l0 x7_1) * a1)) + x6_1)) 1000000000)) (wrap64 (x7_1 + 1))) = some r := by first | (rw [hy102]; with_reducible exact H) | (have H2_ := (Option.bind_some _ _).symm.trans H; rw [hy102]; with_reducible exact H2_) | (have H2_ := (Option.bind_some _ _).symm.trans H; with_reducible exact H2_) | with_reducible exact H | (rw [hy102]; exact H) | exact H
      have Ny102 := Aside0.mk hy102
      clear hy102
      have H' := Aside0.mk H
      clear H
      have p101 : 0 ≤ (x7_1 : Int) := of_decide_eq_true (by first | (with_reducible assumption) | assumption)
      have q101 : x7_1 < (l0.length : Int) := of_decide_eq_true (by first | (with_reducible assumption) | assumption)
      obtain ⟨ad101, e101, hx101_0⟩ := Kd.at_int HR0.out x7_1 p101 q101
      cases e101
      replace hx101_0 := (HB.out.cell (World.block_lt_of_cell? w _ hx101_0)).trans hx101_0
      replace p101 := eq_true p101
      replace q101 := eq_true q101
      go_wp2_with (first | ((with_reducible refine gate_builtin (b := .append) (xs := #[.tmp 23, .tmp 26]) rfl ?_); at_builtin; refine Kd.R_append (Kd.int .i64) (w0 := w) w.heap.size rfl (.tmp 23) (.tmp 26) 40 2 (.int .i64 0) 8 rfl Tryz.underlying40 info2 rfl (by decide) (by omega) u5 x5_1 (Int.tmod (wrap64 ((wrap64 ((rd l0 x7_1) * a1)) + x6_1)) 1000000000) [.int .i64 (Int.tmod (wrap64 ((wrap64 ((rd l0 x7_1) * a1)) + x6_1)) 1000000000)] (fun _ => True) (fun _ => False) rfl rfl ?aP (fun _ hk => hk.elim) ?aF ?aO ?aB ?aS ?aL ?_; (case aP => exact rfl); (case aB => exact HB.out); (case aF => exact (fun _ _ => trivial)); (case aO => exact (by (with_reducible repeat (first | apply Kd.R_alloc | apply Kd.R_drewN | apply Kd.R_drew)); exact HO_5.out)); (case aS => exact (below_size HB.out)); (case aL => have := LMc5.out; omega); intro v103 w6 ho hb hg hat; rw [← Ny102.out] at ho; have n0_ := Aside0.mk (hb); have n1_ := Aside0.mk (ho); clear HB; clear HO_5; have HB := n0_; have HO104 := n1_; clear n0_ n1_; clear ho hb hg hat))
      go_roundg k1
      case measure => have := HK1.out; omega
      case rel => exact ⟨(y102), (wrap64 (Int.tdiv (wrap64 ((wrap64 ((rd l0 x7_1) * a1)) + x6_1)) 1000000000)), (wrap64 (x7_1 + 1)), (by first | rfl | (simp; done) | (simp [*]; done)), (by first | rfl | (simp; done) | (simp [*]; done)), H', ⟨by have := HK1.out; omega⟩, ⟨by (with_reducible repeat (first | apply Kd.R_alloc | apply Kd.R_drewN | apply Kd.R_drew)); exact HO104.out⟩, ⟨by repeat (first | (with_reducible first | exact HB.out | apply below_alloc | apply pw_below_drewN | apply below_drew1) | exact HB.out)⟩⟩
     ·rw [if_neg c5] at H
      exact absurd H (by simp)
    ·rw [if_neg c4] at H
     exact absurd H (by simp)
   ·rw [if_neg c3] at H
    have c3b0 : decide (x7_1 < (l0.length : Int)) = false := decide_eq_false c3
    clear c3
    have H' := Aside0.mk H
    clear H
    go_wp2
    go_loopg [5, 6] k1 (fun kq v5 v6 w' => ∃ (x5_2 : List Int) (x6_2 : Int), v6 = .int .i64 x6_2 ∧ Aside0 (quittanceref12_times.l1 kq x5_2 x6_2 = some r) ∧ Aside0 (kq ≤ k1) ∧ Aside0 (Kd.R (Kd.int .i64) 2 w' w.heap.size (fun _ => True) v5 x5_2) ∧ Aside0 (Below w.heap.size w w'))
    case atStart => exact ⟨(x5_1), (x6_1), (by first | rfl | (simp; done) | (simp [*]; done)), H', ⟨Nat.le_refl _⟩, ⟨by (with_reducible repeat (first | apply Kd.R_alloc | apply Kd.R_drewN | apply Kd.R_drew)); exact HO_5.out⟩, ⟨by repeat (first | (with_reducible first | exact HB.out | apply below_alloc | apply pw_below_drewN | apply below_drew1) | exact HB.out)⟩⟩
    case round =>
     clear H'
     try clear c3b0
     obtain ⟨x5_2, x6_2, rfl, HA, HK2, HO_5, HB⟩ := hrel
     cases gk with
     | zero => exact absurd HA.out (by simp [quittanceref12_times.l1])
     | succ k2 =>
      have H := HA.out
      clear HA
      simp only [quittanceref12_times.l1] at H
      by_cases c7 : x6_2 > 0
      ·rw [if_pos c7] at H
       have c7b0 : decide (0 < x6_2) = true := decide_eq_true c7
       clear c7
       by_cases c8 : x5_2.length < 17592186044416
       ·rw [if_pos c8] at H
        have LMc8 := Aside0.mk c8
        clear c8
        obtain ⟨y105, hy105⟩ : ∃ y_ : List Int, y_ = (x5_2 ++ [Int.tmod x6_2 1000000000]) := ⟨_, rfl⟩
        replace H : (quittanceref12_times.l1 k2 y105 (wrap64 (Int.tdiv x6_2 1000000000))) = some r := by first | (rw [hy105]; with_reducible exact H) | (have H2_ := (Option.bind_some _ _).symm.trans H; rw [hy105]; with_reducible exact H2_) | (have H2_ := (Option.bind_some _ _).symm.trans H; with_reducible exact H2_) | with_reducible exact H | (rw [hy105]; exact H) | exact H
        have Ny105 := Aside0.mk hy105
        clear hy105
        have H' := Aside0.mk H
        clear H
        go_wp2_with (first | ((with_reducible refine gate_builtin (b := .append) (xs := #[.tmp 32, .tmp 35]) rfl ?_); at_builtin; refine Kd.R_append (Kd.int .i64) (w0 := w) w.heap.size rfl (.tmp 32) (.tmp 35) 40 2 (.int .i64 0) 8 rfl Tryz.underlying40 info2 rfl (by decide) (by omega) u5 x5_2 (Int.tmod x6_2 1000000000) [.int .i64 (Int.tmod x6_2 1000000000)] (fun _ => True) (fun _ => False) rfl rfl ?aP (fun _ hk => hk.elim) ?aF ?aO ?aB ?aS ?aL ?_; (case aP => exact rfl); (case aB => exact HB.out); (case aF => exact (fun _ _ => trivial)); (case aO => exact (by (with_reducible repeat (first | apply Kd.R_alloc | apply Kd.R_drewN | apply Kd.R_drew)); exact HO_5.out)); (case aS => exact (below_size HB.out)); (case aL => have := LMc8.out; omega); intro v106 w9 ho hb hg hat; rw [← Ny105.out] at ho; have n0_ := Aside0.mk (hb); have n1_ := Aside0.mk (ho); clear HB; clear HO_5; have HB := n0_; have HO107 := n1_; clear n0_ n1_; clear ho hb hg hat))
        go_roundg k2
        case measure => have := HK1.out; have := HK2.out; omega
        case rel => exact ⟨(y105), (wrap64 (Int.tdiv x6_2 1000000000)), (by first | rfl | (simp; done) | (simp [*]; done)), H', ⟨by have := HK1.out; have := HK2.out; omega⟩, ⟨by (with_reducible repeat (first | apply Kd.R_alloc | apply Kd.R_drewN | apply Kd.R_drew)); exact HO107.out⟩, ⟨by repeat (first | (with_reducible first | exact HB.out | apply below_alloc | apply pw_below_drewN | apply below_drew1) | exact HB.out)⟩⟩
       ·rw [if_neg c8] at H
        exact absurd H (by simp)
      ·rw [if_neg c7] at H
       have c7b0 : decide (0 < x6_2) = false := decide_eq_false c7
       clear c7
       obtain rfl := Option.some.inj H
       go_wp2
       go_ret
       exact ⟨_, by first | rfl | (simp [errW_none, errW_some] <;> rfl) | (simp [*, errW_none, errW_some] <;> rfl), by (with_reducible repeat (first | apply Kd.R_alloc | apply Kd.R_drewN | apply Kd.R_drew)); exact HO_5.out, by repeat (first | (with_reducible first | exact HB.out | apply below_alloc | apply pw_below_drewN | apply below_drew1) | exact HB.out)⟩
end Go.Proofs.YtfmkdledofbhdaaGreat.PRB
/- Plain arithmetic: numbers as1 digits of a thousand million each. -/
namespace Go.Proofs.YtfmkdledofbhdaaGreat.Dg
def val : List Int → Int
 | [] => 0
 | d :: ds => d + 1000000000 * val ds
def Dig (l : List Int) : Prop := ∀ d ∈ l, 0 ≤ d ∧ d < 1000000000
theorem Dig.nil : Dig [] := fun d h => by simp at h
theorem Dig.cons {d : Int} {l : List Int} (h1 : 0 ≤ d) (h2 : d < 1000000000) (h : Dig l) : Dig (d :: l) := fun x hx => by
 rcases List.mem_cons.1 hx with rfl | hx
 ·exact ⟨h1, h2⟩
 ·exact h x hx
theorem Dig.tail {d : Int} {l : List Int} (h : Dig (d :: l)) : Dig l := fun x hx => h x (List.mem_cons_of_mem _ hx)
theorem Dig.head {d : Int} {l : List Int} (h : Dig (d :: l)) : 0 ≤ d ∧ d < 1000000000 := h d List.mem_cons_self
def tms (n : Int) : Int → List Int → List Int
 | c, [] => if 0 < c then [c] else []
 | c, d :: ds => (d * n + c) % 1000000000 :: tms n ((d * n + c) / 1000000000) ds
theorem step_bd {d n c : Int} (d0 : 0 ≤ d) (d1 : d < 1000000000) (n0 : 0 ≤ n) (n1 : n ≤ 1000000000) (c0 : 0 ≤ c) (c1 : c < 1000000000) : 0 ≤ d * n ∧ d * n ≤ 999999999000000000 ∧ 0 ≤ d * n + c ∧ d * n + c < 1000000000000000000 ∧ (d * n + c) / 1000000000 < 1000000000 := by
 obtain ⟨h1, h2⟩ := Gm.mul_le d0 n0 (show d ≤ 999999999 by omega) n1
 omega
theorem tms_spec {n : Int} (n0 : 0 ≤ n) (n1 : n ≤ 1000000000) (l : List Int) : ∀ c, 0 ≤ c → c < 1000000000 → Dig l → Dig (tms n c l) ∧ val (tms n c l) = val l * n + c ∧ (tms n c l).length ≤ l.length + 1 := by
 induction l with
 | nil =>
  intro c c0 c1 _
  simp only [tms]
  by_cases h : 0 < c
  ·rw [if_pos h]; exact ⟨Dig.cons c0 c1 Dig.nil, by simp [val], by simp⟩
  ·rw [if_neg h]; exact ⟨Dig.nil, by simp [val]; omega, by simp⟩
 | cons d ds ih =>
  intro c c0 c1 hd
  obtain ⟨h1, h2, h3, h4, h5⟩ := step_bd hd.head.1 hd.head.2 n0 n1 c0 c1
  obtain ⟨i1, i2, i3⟩ := ih ((d * n + c) / 1000000000) (by omega) h5 hd.tail
  simp only [tms]
  refine ⟨Dig.cons (by omega) (by omega) i1, ?_, by simp; omega⟩
  simp only [val]
  rw [i2, Int.add_mul, Int.mul_add, Int.mul_assoc]
  generalize val ds * n = z
  generalize d * n = y at *
  omega
def pls : Int → List Int → List Int
 | v, [] => if 0 < v then (if 0 < v / 1000000000 then [v % 1000000000, v / 1000000000] else [v % 1000000000]) else []
 | v, d :: ds => if 0 < v then (v + d) % 1000000000 :: pls ((v + d) / 1000000000) ds else d :: ds
theorem pls_zero (l : List Int) : pls 0 l = l := by cases l <;> simp [pls]
theorem pls_spec (l : List Int) : ∀ v, 0 ≤ v → v ≤ 1000000000000000 → Dig l → Dig (pls v l) ∧ val (pls v l) = val l + v ∧ (pls v l).length ≤ l.length + 2 := by
 induction l with
 | nil =>
  intro v v0 v1 _
  simp only [pls]
  by_cases h : 0 < v
  ·rw [if_pos h]
   by_cases h2 : 0 < v / 1000000000
   ·rw [if_pos h2]; exact ⟨Dig.cons (by omega) (by omega) (Dig.cons (by omega) (by omega) Dig.nil), by simp [val]; omega, by simp⟩
   ·rw [if_neg h2]; exact ⟨Dig.cons (by omega) (by omega) Dig.nil, by simp [val]; omega, by simp⟩
  ·rw [if_neg h]; exact ⟨Dig.nil, by simp [val]; omega, by simp⟩
 | cons d ds ih =>
  intro v v0 v1 hd
  simp only [pls]
  have := hd.head
  by_cases h : 0 < v
  ·rw [if_pos h]
   obtain ⟨i1, i2, i3⟩ := ih ((v + d) / 1000000000) (by omega) (by omega) hd.tail
   refine ⟨Dig.cons (by omega) (by omega) i1, ?_, by simp; omega⟩
   simp only [val]
   rw [i2]
   omega
  ·rw [if_neg h]; exact ⟨hd, by omega, by simp⟩
theorem div_step {P q r d y : Int} (hP : 0 < P) (hy : y = q * P + r) (r0 : 0 ≤ r) (r1 : r < P) (d0 : 0 ≤ d) (d1 : d < 1000000000) :
  d + 1000000000 * y = (q * 1000000000 + (r * 1000000000 + d) / P) * P + (r * 1000000000 + d) % P ∧ 0 ≤ (r * 1000000000 + d) / P ∧ (r * 1000000000 + d) / P < 1000000000 ∧ 0 ≤ (r * 1000000000 + d) % P ∧ (r * 1000000000 + d) % P < P := by
 have e := Int.emod_add_mul_ediv (r * 1000000000 + d) P
 rw [Int.mul_comm P] at e
 have h1 := Int.emod_nonneg (r * 1000000000 + d) (show P ≠ 0 by omega)
 have h2 := Int.emod_lt_of_pos (r * 1000000000 + d) hP
 have h3 : 0 ≤ (r * 1000000000 + d) / P := Int.ediv_nonneg (by omega) (by omega)
 have h4 : (r * 1000000000 + d) / P < 1000000000 := Int.ediv_lt_of_lt_mul hP (by omega)
 refine ⟨?_, h3, h4, h1, h2⟩
 rw [hy, Int.add_mul, Int.mul_add]
 have e2 : q * 1000000000 * P = 1000000000 * (q * P) := by rw [Int.mul_comm q, Int.mul_assoc]
 rw [e2]
 generalize q * P = z
 generalize (r * 1000000000 + d) / P * P = y at *
 omega
theorem val_drop {l : List Int} (h : Dig l) (i : Nat) (hi : i < l.length) : val (l.drop i) = l.getD i 0 + 1000000000 * val (l.drop (i + 1)) ∧ 0 ≤ l.getD i 0 ∧ l.getD i 0 < 1000000000 := by
 rw [List.drop_eq_getElem_cons hi]
 simp only [val]
 have := h _ (List.getElem_mem hi)
 simp [hi]
 exact this
theorem val_ge {l : List Int} (h : Dig l) (i : Nat) : i ≤ l.length → 1000000000 ^ i * val (l.drop i) ≤ val l := by
 induction i with
 | zero => intro _; simp
 | succ i ih =>
  intro hi
  obtain ⟨h1, h2, h3⟩ := val_drop h i (by omega)
  have := ih (by omega)
  have hp : (0 : Int) ≤ 1000000000 ^ i := Int.pow_nonneg (by decide)
  rw [h1, Int.mul_add] at this
  have h4 := Int.mul_nonneg hp h2
  rw [Int.pow_succ, Int.mul_assoc]
  omega
theorem ends {P W h rest x q r : Int} (hP : 0 < P) (hW : W = 1000000000 * P) (e : x + rest + W = q * W + r) (r0 : 0 ≤ r) (r1 : r < W) (up : Bool) (hh : up = true ∧ W = 2 * h ∨ up = false ∧ h = 0) :
  (up = true ∧ W - r ≤ r → Gm.q W h rest x = q ∧ Gm.r W h rest x = r - W) ∧ (¬ (up = true ∧ W - r ≤ r) → Gm.q W h rest x = q - 1 ∧ Gm.r W h rest x = r) := by
 have hW0 : 0 < W := by omega
 have key : ∀ (s t : Int), x + (rest + h) = s * W + t → 0 ≤ t → t < W → Gm.q W h rest x = s ∧ Gm.r W h rest x = t - h := by
  intro s t e t0 t1
  unfold Gm.q Gm.r
  rw [e, Int.add_comm (s * W), Int.add_mul_ediv_right _ _ (by omega), Int.add_mul_emod_self_right, Int.ediv_eq_zero_of_lt t0 t1, Int.emod_eq_of_lt t0 t1]
  exact ⟨by omega, rfl⟩
 have eq1 : (q - 1) * W = q * W - W := by rw [Int.sub_mul, Int.one_mul]
 constructor
 ·rintro ⟨hu, hr⟩
  have hwh : W = 2 * h := by rcases hh with h' | h'; exact h'.2; rw [hu] at h'; cases h'.1
  obtain ⟨g1, g2⟩ := key q (r + h - W) (by omega) (by omega) (by omega)
  exact ⟨g1, by omega⟩
 ·intro hn
  rcases hh with ⟨hu, hwh⟩ | ⟨hu, h0⟩
  ·have : r < W - r := by
    rcases Int.lt_or_le r (W - r) with h' | h'
    ·exact h'
    ·exact absurd ⟨hu, h'⟩ hn
   obtain ⟨g1, g2⟩ := key (q - 1) (r + h) (by omega) (by omega) (by omega)
   exact ⟨g1, by omega⟩
  ·obtain ⟨g1, g2⟩ := key (q - 1) (r + h) (by omega) (by omega) (by omega)
   exact ⟨g1, by omega⟩
end Go.Proofs.YtfmkdledofbhdaaGreat.Dg
/- The library's bits, as1 the printed callers ask them. -/
namespace Go.Proofs.YtfmkdledofbhdaaGreat.H
open Go.RowKit Go.Proofs.YtfmkdledofbhdaaGreatW.PrintWords Go.Proofs.YtfmkdledofbhdaaGreatW.PrintLast
set_option linter.unusedVariables false
set_option linter.unusedSimpArgs false
def bits_LeadingZeros64.f (x : Int) : Option Int := if 0 ≤ x ∧ x ≤ 18446744073709551615 then some (64 - (Lib.bitLen x.toNat : Int)) else none
theorem bits_LeadingZeros64.calls (a0 r : Int) (w : World) (h : bits_LeadingZeros64.f a0 = some r) : Calls Tryz.prog 101 #[.int .u64 a0] w fun e w' => e = .returned (.int .i64 r) ∧ Drawn0 w w' := by
 unfold bits_LeadingZeros64.f at h
 split at h
 ·rename_i hb
  obtain rfl := Option.some.inj h
  exact (Tryz.bits_LeadingZeros64 a0 w hb.1 hb.2).mono fun e w' ⟨h1, h2⟩ => ⟨h1, h2 ▸ Drawn0.refl _⟩
 ·cases h
def bits_Mul64.f (x y : Int) : Option (Int × Int) := if 0 ≤ x ∧ x ≤ 18446744073709551615 ∧ 0 ≤ y ∧ y ≤ 18446744073709551615 then some (x * y / 18446744073709551616, x * y % 18446744073709551616) else none
theorem bits_Mul64.calls (a0 a1 r1 r2 : Int) (w : World) (h : bits_Mul64.f a0 a1 = some (r1, r2)) : Calls Tryz.prog 89 #[.int .u64 a0, .int .u64 a1] w fun e w' => e = .returned (.tuple #[.int .u64 r1, .int .u64 r2]) ∧ Drawn0 w w' := by
 unfold bits_Mul64.f at h
 split at h
 ·rename_i hb
  obtain ⟨h1, h2, h3, h4⟩ := hb
  obtain ⟨x, rfl⟩ := Int.eq_ofNat_of_zero_le h1
  obtain ⟨y, rfl⟩ := Int.eq_ofNat_of_zero_le h3
  obtain ⟨rfl, rfl⟩ := Prod.mk.inj (Option.some.inj h)
  refine (Tryz.bits_Mul64 x y (by omega) (by omega) w).mono fun e w' ⟨h1, h2⟩ => ⟨?_, h2 ▸ Drawn0.refl _⟩
  rw [h1]
  simp
 ·cases h
end Go.Proofs.YtfmkdledofbhdaaGreat.H
/- Division of 128 bits by 64, digit by digit, in plain numbers. -/
namespace Go.Proofs.YtfmkdledofbhdaaGreat.Math64
def dig (y1 y0 u d : Int) : Int := (u * 4294967296 + d) / (y1 * 4294967296 + y0)
structure Inv (y1 y0 u d q r : Int) : Prop where
 q0 : 0 ≤ q
 q1 : q ≤ 4294967297
 r0 : 0 ≤ r
 hu : u = q * y1 + r
 hq : dig y1 y0 u d ≤ q
structure Base (y1 y0 u d : Int) : Prop where
 y1lo : 2147483648 ≤ y1
 y1hi : y1 < 4294967296
 y0lo : 0 ≤ y0
 y0hi : y0 < 4294967296
 ulo : 0 ≤ u
 uhi : u < y1 * 4294967296 + y0
 dlo : 0 ≤ d
 dhi : d < 4294967296
section
variable {y1 y0 u d q r : Int} (b : Base y1 y0 u d)
include b
theorem Base.pos : 0 < y1 * 4294967296 + y0 := by have := b.y1lo; have := b.y0lo; omega
theorem dig_lo : 0 ≤ dig y1 y0 u d := Int.ediv_nonneg (by have := b.ulo; have := b.dlo; omega) (by have := b.pos; omega)
theorem dig_hi : dig y1 y0 u d < 4294967296 := by
 refine Int.ediv_lt_of_lt_mul b.pos ?_
 have := b.uhi; have := b.dhi
 omega
theorem le_dig (q : Int) : q ≤ dig y1 y0 u d ↔ q * (y1 * 4294967296 + y0) ≤ u * 4294967296 + d := Int.le_ediv_iff_mul_le b.pos
set_option linter.unusedSectionVars false in
theorem cross (q : Int) : q * (y1 * 4294967296 + y0) = (q * y1) * 4294967296 + q * y0 := by rw [Int.mul_add, ← Int.mul_assoc]
theorem mul_bd {q : Int} (h0 : 0 ≤ q) (h1 : q ≤ 4294967297) : 0 ≤ q * y0 ∧ q * y0 ≤ 18446744073709551615 := by
 have a := b.y0lo
 have c := b.y0hi
 refine ⟨Int.mul_nonneg h0 a, ?_⟩
 have := Int.mul_le_mul h1 (show y0 ≤ 4294967295 by omega) a (by omega)
 omega
theorem Inv.big (h : Inv y1 y0 u d q r) (hb : 4294967296 ≤ q) : dig y1 y0 u d < q := by have := dig_hi b; omega
theorem Inv.more (h : Inv y1 y0 u d q r) (hb : 4294967296 * r + d < q * y0) : dig y1 y0 u d < q := by
 have h1 := le_dig b q
 have h2 := cross b q
 have h3 := h.hu
 have : ¬ q ≤ dig y1 y0 u d := by rw [h1, h2]; omega
 omega
theorem Inv.done (h : Inv y1 y0 u d q r) (hb : ¬ 4294967296 * r + d < q * y0) : q = dig y1 y0 u d := by
 have h1 := le_dig b q
 have h2 := cross b q
 have h3 := h.hu
 have h4 := h.hq
 have : q ≤ dig y1 y0 u d := by rw [h1, h2]; omega
 omega
theorem Inv.next (h : Inv y1 y0 u d q r) (hl : dig y1 y0 u d < q) : Inv y1 y0 u d (q - 1) (r + y1) := by
 have h0 := dig_lo b
 have h1 := h.q1
 have h2 := h.r0
 have h3 := h.hu
 have h4 := b.y1lo
 refine ⟨by omega, by omega, by omega, ?_, by omega⟩
 rw [Int.sub_mul]; omega
theorem Inv.last (h : Inv y1 y0 u d q r) (hl : dig y1 y0 u d < q) (hr : 4294967296 ≤ r + y1) : q - 1 = dig y1 y0 u d := by
 have n := h.next b hl
 refine n.done b ?_
 have h1 := h.q1
 have h0 := dig_lo b
 have a := b.y0lo
 have c := b.y0hi
 have e := b.dlo
 have := Int.mul_le_mul (show q - 1 ≤ 4294967296 by omega) (show y0 ≤ 4294967295 by omega) a (by omega)
 omega
theorem Inv.first : Inv y1 y0 u d (u / y1) (u - u / y1 * y1) := by
 have h1 := b.y1lo
 have h2 := b.y1hi
 have h3 := b.ulo
 have h4 := b.uhi
 have h5 := b.y0hi
 have h6 := b.dhi
 have h7 := b.y0lo
 have e := Int.emod_add_mul_ediv u y1
 have m0 := Int.emod_nonneg u (show y1 ≠ 0 by omega)
 have c := Int.mul_comm y1 (u / y1)
 refine ⟨Int.ediv_nonneg h3 (by omega), ?_, by omega, by omega, ?_⟩
 ·have : u / y1 < 4294967298 := Int.ediv_lt_of_lt_mul (by omega) (by omega)
  omega
 ·have q := (le_dig b (dig y1 y0 u d)).1 (Int.le_refl _)
  rw [cross b] at q
  have z := (mul_bd b (dig_lo b) (by have := dig_hi b; omega)).1
  exact (Int.le_ediv_iff_mul_le (by omega)).2 (by omega)
theorem first_lt : u - u / y1 * y1 < 4294967296 := by
 have h1 := b.y1lo
 have h2 := b.y1hi
 have e := Int.emod_add_mul_ediv u y1
 have m0 := Int.emod_lt_of_pos u (show 0 < y1 by omega)
 have c := Int.mul_comm y1 (u / y1)
 omega
theorem left_bd : 0 ≤ u * 4294967296 + d - dig y1 y0 u d * (y1 * 4294967296 + y0) ∧ u * 4294967296 + d - dig y1 y0 u d * (y1 * 4294967296 + y0) < y1 * 4294967296 + y0 := by
 have e := Int.emod_add_mul_ediv (u * 4294967296 + d) (y1 * 4294967296 + y0)
 have m0 := Int.emod_nonneg (u * 4294967296 + d) (show y1 * 4294967296 + y0 ≠ 0 by have := b.pos; omega)
 have m1 := Int.emod_lt_of_pos (u * 4294967296 + d) b.pos
 have c := Int.mul_comm (y1 * 4294967296 + y0) (dig y1 y0 u d)
 unfold dig at *
 omega
end
theorem two_digits {y u d e q1 q0 r : Int} (hy : 0 < y) (h1 : u * 4294967296 + d - q1 * y = r) (h2 : 0 ≤ r * 4294967296 + e - q0 * y) (h3 : r * 4294967296 + e - q0 * y < y) :
  (u * 18446744073709551616 + d * 4294967296 + e) / y = q1 * 4294967296 + q0 ∧ (u * 18446744073709551616 + d * 4294967296 + e) % y = r * 4294967296 + e - q0 * y := by
 have a : (q1 * 4294967296 + q0) * y = (q1 * y) * 4294967296 + q0 * y := by rw [Int.add_mul, Int.mul_assoc, Int.mul_comm 4294967296 y, ← Int.mul_assoc]
 have hd : (u * 18446744073709551616 + d * 4294967296 + e) / y = q1 * 4294967296 + q0 := by
  have l1 := (Int.le_ediv_iff_mul_le hy).2 (show (q1 * 4294967296 + q0) * y ≤ u * 18446744073709551616 + d * 4294967296 + e by rw [a]; omega)
  have l2 := Int.ediv_lt_of_lt_mul hy (show u * 18446744073709551616 + d * 4294967296 + e < (q1 * 4294967296 + q0 + 1) * y by rw [Int.add_mul, a]; omega)
  omega
 refine ⟨hd, ?_⟩
 have e1 := Int.emod_add_mul_ediv (u * 18446744073709551616 + d * 4294967296 + e) y
 rw [hd, Int.mul_comm y, a] at e1
 omega
theorem bitLen_aux : ∀ (f x : Nat), x < 2 ^ f → x ≠ 0 → 1 ≤ Lib.bitLenAux f x ∧ Lib.bitLenAux f x ≤ f ∧ 2 ^ (Lib.bitLenAux f x - 1) ≤ x ∧ x < 2 ^ (Lib.bitLenAux f x) := by
 intro f
 induction f with
 | zero => intro x h h0; simp at h; omega
 | succ f ih =>
  intro x h h0
  simp only [Lib.bitLenAux, if_neg h0]
  by_cases hx : x / 2 = 0
  ·have e : Lib.bitLenAux f (x / 2) = 0 := by rw [hx]; cases f <;> simp [Lib.bitLenAux]
   rw [e]
   refine ⟨by omega, by omega, ?_, ?_⟩ <;> simp <;> omega
  ·have hp : 2 ^ (f + 1) = 2 * 2 ^ f := by rw [Nat.pow_succ]; omega
   obtain ⟨a, b, c, d⟩ := ih (x / 2) (by omega) hx
   generalize Lib.bitLenAux f (x / 2) = L at *
   obtain ⟨L, rfl⟩ : ∃ m, L = m + 1 := ⟨L - 1, by omega⟩
   have e1 : 2 ^ (1 + (L + 1) - 1) = 2 * 2 ^ L := by rw [show 1 + (L + 1) - 1 = L + 1 by omega, Nat.pow_succ]; omega
   have e2 : 2 ^ (1 + (L + 1)) = 2 * 2 ^ (L + 1) := by rw [show 1 + (L + 1) = (L + 1) + 1 by omega, Nat.pow_succ]; omega
   rw [show L + 1 - 1 = L by omega] at c
   rw [e1, e2]
   exact ⟨by omega, by omega, by omega, by omega⟩
theorem bitLen_spec {x : Nat} (h : x < 18446744073709551616) (h0 : x ≠ 0) : 1 ≤ Lib.bitLen x ∧ Lib.bitLen x ≤ 64 ∧ 2 ^ (Lib.bitLen x - 1) ≤ x ∧ x < 2 ^ (Lib.bitLen x) := bitLen_aux 64 x h h0
end Go.Proofs.YtfmkdledofbhdaaGreat.Math64
namespace Go.Proofs.YtfmkdledofbhdaaGreat.PM
open Go.RowKit Go.Proofs.YtfmkdledofbhdaaGreatW.PrintWords Go.Proofs.YtfmkdledofbhdaaGreatW.PrintLast Go.Proofs.YtfmkdledofbhdaaGreatW.PrintMore Go.Proofs.YtfmkdledofbhdaaGreat.HW
attribute [local go_sem] run_makeFunc_ max2_int min2_int max_two min_two max_three min_three max_four min_four   -- for this text's walks alone
set_option linter.unusedVariables false
set_option linter.unusedSimpArgs false
def errW : Option Int → Value
 | none => .nilIface
 | some c => .iface 0 (.int .i64 c)
theorem errW_none : errW none = .nilIface := rfl
theorem errW_some (c : Int) : errW (some c) = .iface 0 (.int .i64 c) := rfl
end Go.Proofs.YtfmkdledofbhdaaGreat.PM
namespace Go.Proofs.YtfmkdledofbhdaaGreat.PM
open Go.RowKit Go.Proofs.YtfmkdledofbhdaaGreatW.PrintWords Go.Proofs.YtfmkdledofbhdaaGreatW.PrintLast Go.Proofs.YtfmkdledofbhdaaGreatW.PrintMore Go.Proofs.YtfmkdledofbhdaaGreat.HW Go.Proofs.YtfmkdledofbhdaaGreat.H
attribute [local go_sem] run_makeFunc_ max2_int min2_int max_two min_two max_three min_three max_four min_four   -- for this text's walks alone
set_option linter.unusedVariables false
set_option linter.unusedSimpArgs false
/-! ### bits_Div64: function 91 -/
mutual
def bits_Div64.j2 : Nat → Int → Int → Int → Int → Int → Int → Int → Int → Option (Int × Int)
 | 0, _, _, _, _, _, _, _, _ => none
 | k + 1, x2, x8, x9, x10, x11, x13, x14, x15 => if x9 = 0 then (none) else (bits_Div64.l1 k x2 x8 x9 x10 x14 x15 (IntKind.u64.wrap ((IntKind.u64.wrap ((IntKind.u64.wrap ((IntKind.u64.wrap (x11 * 4294967296)) + x13)) - (IntKind.u64.wrap (x15 * x2)))) - (IntKind.u64.wrap ((IntKind.u64.wrap (Int.tdiv (IntKind.u64.wrap ((IntKind.u64.wrap ((IntKind.u64.wrap (x11 * 4294967296)) + x13)) - (IntKind.u64.wrap (x15 * x2)))) x9)) * x9)))) (IntKind.u64.wrap ((IntKind.u64.wrap ((IntKind.u64.wrap (x11 * 4294967296)) + x13)) - (IntKind.u64.wrap (x15 * x2)))) (IntKind.u64.wrap (Int.tdiv (IntKind.u64.wrap ((IntKind.u64.wrap ((IntKind.u64.wrap (x11 * 4294967296)) + x13)) - (IntKind.u64.wrap (x15 * x2)))) x9)))
def bits_Div64.l1 : Nat → Int → Int → Int → Int → Int → Int → Int → Int → Int → Option (Int × Int)
 | 0, _, _, _, _, _, _, _, _, _ => none
 | k + 1, x2, x8, x9, x10, x14, x15, x16, x17, x18 => if x18 ≥ 4294967296 then (bits_Div64.j4 k x2 x8 x9 x10 x14 x15 x16 x17 x18 true) else (bits_Div64.j4 k x2 x8 x9 x10 x14 x15 x16 x17 x18 (decide ((IntKind.u64.wrap (x18 * x10)) > (IntKind.u64.wrap ((IntKind.u64.wrap (4294967296 * x16)) + x14)))))
def bits_Div64.j4 : Nat → Int → Int → Int → Int → Int → Int → Int → Int → Int → Bool → Option (Int × Int)
 | 0, _, _, _, _, _, _, _, _, _, _ => none
 | k + 1, x2, x8, x9, x10, x14, x15, x16, x17, x18, x113 => if x113 = true then (if (IntKind.u64.wrap (x16 + x9)) ≥ 4294967296 then (if 0 ≤ x8 then (some (IntKind.u64.wrap ((IntKind.u64.wrap (x15 * 4294967296)) + (IntKind.u64.wrap (x18 - 1))), shr .u64 (IntKind.u64.wrap ((IntKind.u64.wrap ((IntKind.u64.wrap (x17 * 4294967296)) + x14)) - (IntKind.u64.wrap ((IntKind.u64.wrap (x18 - 1)) * x2)))) x8)) else (none)) else (bits_Div64.l1 k x2 x8 x9 x10 x14 x15 (IntKind.u64.wrap (x16 + x9)) x17 (IntKind.u64.wrap (x18 - 1)))) else (if 0 ≤ x8 then (some (IntKind.u64.wrap ((IntKind.u64.wrap (x15 * 4294967296)) + x18), shr .u64 (IntKind.u64.wrap ((IntKind.u64.wrap ((IntKind.u64.wrap (x17 * 4294967296)) + x14)) - (IntKind.u64.wrap (x18 * x2)))) x8)) else (none))
def bits_Div64.l0 : Nat → Int → Int → Int → Int → Int → Int → Int → Int → Int → Option (Int × Int)
 | 0, _, _, _, _, _, _, _, _, _ => none
 | k + 1, x2, x8, x9, x10, x11, x13, x14, x15, x16 => if x15 ≥ 4294967296 then (bits_Div64.j1 k x2 x8 x9 x10 x11 x13 x14 x15 x16 true) else (bits_Div64.j1 k x2 x8 x9 x10 x11 x13 x14 x15 x16 (decide ((IntKind.u64.wrap (x15 * x10)) > (IntKind.u64.wrap ((IntKind.u64.wrap (4294967296 * x16)) + x13)))))
def bits_Div64.j1 : Nat → Int → Int → Int → Int → Int → Int → Int → Int → Int → Bool → Option (Int × Int)
 | 0, _, _, _, _, _, _, _, _, _, _ => none
 | k + 1, x2, x8, x9, x10, x11, x13, x14, x15, x16, x78 => if x78 = true then (if (IntKind.u64.wrap (x16 + x9)) ≥ 4294967296 then (bits_Div64.j2 k x2 x8 x9 x10 x11 x13 x14 (IntKind.u64.wrap (x15 - 1))) else (bits_Div64.l0 k x2 x8 x9 x10 x11 x13 x14 (IntKind.u64.wrap (x15 - 1)) (IntKind.u64.wrap (x16 + x9)))) else (bits_Div64.j2 k x2 x8 x9 x10 x11 x13 x14 x15)
end
def bits_Div64.f (k : Nat) (a0 : Int) (a1 : Int) (a2 : Int) : Option (Int × Int) := if a2 = 0 then (none) else (if a2 ≤ a0 then (none) else (if a0 = 0 then (some (IntKind.u64.wrap (Int.tdiv a1 a2), Int.tmod a1 a2)) else ((bits_LeadingZeros64.f a2).bind fun t101 => (if 0 ≤ (IntKind.u64.wrap (t101)) then (if 0 ≤ (IntKind.u64.wrap (64 - (IntKind.u64.wrap (t101)))) then (if ((shl .u64 a2 (IntKind.u64.wrap (t101))) / 4294967296) = 0 then (none) else (bits_Div64.l0 k (shl .u64 a2 (IntKind.u64.wrap (t101))) (IntKind.u64.wrap (t101)) ((shl .u64 a2 (IntKind.u64.wrap (t101))) / 4294967296) (Go.bits .and .u64 (shl .u64 a2 (IntKind.u64.wrap (t101))) 4294967295) (Go.bits .or .u64 (shl .u64 a0 (IntKind.u64.wrap (t101))) (shr .u64 a1 (IntKind.u64.wrap (64 - (IntKind.u64.wrap (t101)))))) ((shl .u64 a1 (IntKind.u64.wrap (t101))) / 4294967296) (Go.bits .and .u64 (shl .u64 a1 (IntKind.u64.wrap (t101))) 4294967295) (IntKind.u64.wrap (Int.tdiv (Go.bits .or .u64 (shl .u64 a0 (IntKind.u64.wrap (t101))) (shr .u64 a1 (IntKind.u64.wrap (64 - (IntKind.u64.wrap (t101)))))) ((shl .u64 a2 (IntKind.u64.wrap (t101))) / 4294967296))) (IntKind.u64.wrap ((Go.bits .or .u64 (shl .u64 a0 (IntKind.u64.wrap (t101))) (shr .u64 a1 (IntKind.u64.wrap (64 - (IntKind.u64.wrap (t101)))))) - (IntKind.u64.wrap ((IntKind.u64.wrap (Int.tdiv (Go.bits .or .u64 (shl .u64 a0 (IntKind.u64.wrap (t101))) (shr .u64 a1 (IntKind.u64.wrap (64 - (IntKind.u64.wrap (t101)))))) ((shl .u64 a2 (IntKind.u64.wrap (t101))) / 4294967296))) * ((shl .u64 a2 (IntKind.u64.wrap (t101))) / 4294967296))))))) else (none)) else (none)))))
theorem bits_Div64.mono_l : ∀ k, (∀ y0 y1 y2 y3 y4 y5 y6 y7, LeO (bits_Div64.j2 k y0 y1 y2 y3 y4 y5 y6 y7) (bits_Div64.j2 (k + 1) y0 y1 y2 y3 y4 y5 y6 y7)) ∧ (∀ y0 y1 y2 y3 y4 y5 y6 y7 y8, LeO (bits_Div64.l1 k y0 y1 y2 y3 y4 y5 y6 y7 y8) (bits_Div64.l1 (k + 1) y0 y1 y2 y3 y4 y5 y6 y7 y8)) ∧ (∀ y0 y1 y2 y3 y4 y5 y6 y7 y8 y9, LeO (bits_Div64.j4 k y0 y1 y2 y3 y4 y5 y6 y7 y8 y9) (bits_Div64.j4 (k + 1) y0 y1 y2 y3 y4 y5 y6 y7 y8 y9)) ∧ (∀ y0 y1 y2 y3 y4 y5 y6 y7 y8, LeO (bits_Div64.l0 k y0 y1 y2 y3 y4 y5 y6 y7 y8) (bits_Div64.l0 (k + 1) y0 y1 y2 y3 y4 y5 y6 y7 y8)) ∧ (∀ y0 y1 y2 y3 y4 y5 y6 y7 y8 y9, LeO (bits_Div64.j1 k y0 y1 y2 y3 y4 y5 y6 y7 y8 y9) (bits_Div64.j1 (k + 1) y0 y1 y2 y3 y4 y5 y6 y7 y8 y9))
 | 0 => ⟨fun _ _ _ _ _ _ _ _ r h => by simp [bits_Div64.j2] at h, fun _ _ _ _ _ _ _ _ _ r h => by simp [bits_Div64.l1] at h, fun _ _ _ _ _ _ _ _ _ _ r h => by simp [bits_Div64.j4] at h, fun _ _ _ _ _ _ _ _ _ r h => by simp [bits_Div64.l0] at h, fun _ _ _ _ _ _ _ _ _ _ r h => by simp [bits_Div64.j1] at h⟩
 | k + 1 => by
  obtain ⟨ih0, ih1, ih2, ih3, ih4⟩ := bits_Div64.mono_l k
  refine ⟨?_, ?_, ?_, ?_, ?_⟩
  ·intro y0 y1 y2 y3 y4 y5 y6 y7
   unfold bits_Div64.j2
   repeat' first
   | (with_reducible exact ih0 _ _ _ _ _ _ _ _)
   | (with_reducible exact ih1 _ _ _ _ _ _ _ _ _)
   | (with_reducible exact ih2 _ _ _ _ _ _ _ _ _ _)
   | (with_reducible exact ih3 _ _ _ _ _ _ _ _ _)
   | (with_reducible exact ih4 _ _ _ _ _ _ _ _ _ _)
   | (with_reducible exact LeO.refl _)
   | (with_reducible exact LeO.none _)
   | (with_reducible refine LeO.ite ?_ ?_)
   | (with_reducible refine LeO.bind ?_ (fun _ => ?_))
   | exact ih0 _ _ _ _ _ _ _ _
   | exact ih1 _ _ _ _ _ _ _ _ _
   | exact ih2 _ _ _ _ _ _ _ _ _ _
   | exact ih3 _ _ _ _ _ _ _ _ _
   | exact ih4 _ _ _ _ _ _ _ _ _ _
   | exact LeO.none _
   | refine LeO.ite ?_ ?_
   | refine LeO.bind ?_ (fun _ => ?_)
  ·intro y0 y1 y2 y3 y4 y5 y6 y7 y8
   unfold bits_Div64.l1
   repeat' first
   | (with_reducible exact ih0 _ _ _ _ _ _ _ _)
   | (with_reducible exact ih1 _ _ _ _ _ _ _ _ _)
   | (with_reducible exact ih2 _ _ _ _ _ _ _ _ _ _)
   | (with_reducible exact ih3 _ _ _ _ _ _ _ _ _)
   | (with_reducible exact ih4 _ _ _ _ _ _ _ _ _ _)
   | (with_reducible exact LeO.refl _)
   | (with_reducible exact LeO.none _)
   | (with_reducible refine LeO.ite ?_ ?_)
   | (with_reducible refine LeO.bind ?_ (fun _ => ?_))
   | exact ih0 _ _ _ _ _ _ _ _
   | exact ih1 _ _ _ _ _ _ _ _ _
   | exact ih2 _ _ _ _ _ _ _ _ _ _
   | exact ih3 _ _ _ _ _ _ _ _ _
   | exact ih4 _ _ _ _ _ _ _ _ _ _
   | exact LeO.none _
   | refine LeO.ite ?_ ?_
   | refine LeO.bind ?_ (fun _ => ?_)
  ·intro y0 y1 y2 y3 y4 y5 y6 y7 y8 y9
   unfold bits_Div64.j4
   repeat' first
   | (with_reducible exact ih0 _ _ _ _ _ _ _ _)
   | (with_reducible exact ih1 _ _ _ _ _ _ _ _ _)
   | (with_reducible exact ih2 _ _ _ _ _ _ _ _ _ _)
   | (with_reducible exact ih3 _ _ _ _ _ _ _ _ _)
   | (with_reducible exact ih4 _ _ _ _ _ _ _ _ _ _)
   | (with_reducible exact LeO.refl _)
   | (with_reducible exact LeO.none _)
   | (with_reducible refine LeO.ite ?_ ?_)
   | (with_reducible refine LeO.bind ?_ (fun _ => ?_))
   | exact ih0 _ _ _ _ _ _ _ _
   | exact ih1 _ _ _ _ _ _ _ _ _
   | exact ih2 _ _ _ _ _ _ _ _ _ _
   | exact ih3 _ _ _ _ _ _ _ _ _
   | exact ih4 _ _ _ _ _ _ _ _ _ _
   | exact LeO.none _
   | refine LeO.ite ?_ ?_
   | refine LeO.bind ?_ (fun _ => ?_)
  ·intro y0 y1 y2 y3 y4 y5 y6 y7 y8
   unfold bits_Div64.l0
   repeat' first
   | (with_reducible exact ih0 _ _ _ _ _ _ _ _)
   | (with_reducible exact ih1 _ _ _ _ _ _ _ _ _)
   | (with_reducible exact ih2 _ _ _ _ _ _ _ _ _ _)
   | (with_reducible exact ih3 _ _ _ _ _ _ _ _ _)
   | (with_reducible exact ih4 _ _ _ _ _ _ _ _ _ _)
   | (with_reducible exact LeO.refl _)
   | (with_reducible exact LeO.none _)
   | (with_reducible refine LeO.ite ?_ ?_)
   | (with_reducible refine LeO.bind ?_ (fun _ => ?_))
   | exact ih0 _ _ _ _ _ _ _ _
   | exact ih1 _ _ _ _ _ _ _ _ _
   | exact ih2 _ _ _ _ _ _ _ _ _ _
   | exact ih3 _ _ _ _ _ _ _ _ _
   | exact ih4 _ _ _ _ _ _ _ _ _ _
   | exact LeO.none _
   | refine LeO.ite ?_ ?_
   | refine LeO.bind ?_ (fun _ => ?_)
  ·intro y0 y1 y2 y3 y4 y5 y6 y7 y8 y9
   unfold bits_Div64.j1
   repeat' first
   | (with_reducible exact ih0 _ _ _ _ _ _ _ _)
   | (with_reducible exact ih1 _ _ _ _ _ _ _ _ _)
   | (with_reducible exact ih2 _ _ _ _ _ _ _ _ _ _)
   | (with_reducible exact ih3 _ _ _ _ _ _ _ _ _)
   | (with_reducible exact ih4 _ _ _ _ _ _ _ _ _ _)
   | (with_reducible exact LeO.refl _)
   | (with_reducible exact LeO.none _)
   | (with_reducible refine LeO.ite ?_ ?_)
   | (with_reducible refine LeO.bind ?_ (fun _ => ?_))
   | exact ih0 _ _ _ _ _ _ _ _
   | exact ih1 _ _ _ _ _ _ _ _ _
   | exact ih2 _ _ _ _ _ _ _ _ _ _
   | exact ih3 _ _ _ _ _ _ _ _ _
   | exact ih4 _ _ _ _ _ _ _ _ _ _
   | exact LeO.none _
   | refine LeO.ite ?_ ?_
   | refine LeO.bind ?_ (fun _ => ?_)
theorem bits_Div64.mono : ∀ a0 a1 a2 k, LeO (bits_Div64.f k a0 a1 a2) (bits_Div64.f (k + 1) a0 a1 a2) := by
 intro a0 a1 a2 k
 obtain ⟨ih0, ih1, ih2, ih3, ih4⟩ := bits_Div64.mono_l k
 unfold bits_Div64.f
 repeat' first
   | (with_reducible exact ih0 _ _ _ _ _ _ _ _)
   | (with_reducible exact ih1 _ _ _ _ _ _ _ _ _)
   | (with_reducible exact ih2 _ _ _ _ _ _ _ _ _ _)
   | (with_reducible exact ih3 _ _ _ _ _ _ _ _ _)
   | (with_reducible exact ih4 _ _ _ _ _ _ _ _ _ _)
   | (with_reducible exact LeO.refl _)
   | (with_reducible exact LeO.none _)
   | (with_reducible refine LeO.ite ?_ ?_)
   | (with_reducible refine LeO.bind ?_ (fun _ => ?_))
   | exact ih0 _ _ _ _ _ _ _ _
   | exact ih1 _ _ _ _ _ _ _ _ _
   | exact ih2 _ _ _ _ _ _ _ _ _ _
   | exact ih3 _ _ _ _ _ _ _ _ _
   | exact ih4 _ _ _ _ _ _ _ _ _ _
   | exact LeO.none _
   | refine LeO.ite ?_ ?_
   | refine LeO.bind ?_ (fun _ => ?_)
set_option maxHeartbeats 8000000 in
set_option maxRecDepth 100000 in
theorem bits_Div64.calls (k : Nat) (a0 : Int) (a1 : Int) (a2 : Int) (r1 : Int) (r2 : Int) (w : World) (h : bits_Div64.f k a0 a1 a2 = some (r1, r2)) :
  Calls Tryz.prog 91 #[.int .u64 a0, .int .u64 a1, .int .u64 a2] w fun e w' => e = .returned (.tuple #[.int .u64 r1, .int .u64 r2]) ∧ Drawn0 w w' := by
 have H : (if a2 = 0 then (none) else (if a2 ≤ a0 then (none) else (if a0 = 0 then (some (IntKind.u64.wrap (Int.tdiv a1 a2), Int.tmod a1 a2)) else ((bits_LeadingZeros64.f a2).bind fun t101 => (if 0 ≤ (IntKind.u64.wrap (t101)) then (if 0 ≤ (IntKind.u64.wrap (64 - (IntKind.u64.wrap (t101)))) then (if ((shl .u64 a2 (IntKind.u64.wrap (t101))) / 4294967296) = 0 then (none) else (bits_Div64.l0 k (shl .u64 a2 (IntKind.u64.wrap (t101))) (IntKind.u64.wrap (t101)) ((shl .u64 a2 (IntKind.u64.wrap (t101))) / 4294967296) (Go.bits .and .u64 (shl .u64 a2 (IntKind.u64.wrap (t101))) 4294967295) (Go.bits .or .u64 (shl .u64 a0 (IntKind.u64.wrap (t101))) (shr .u64 a1 (IntKind.u64.wrap (64 - (IntKind.u64.wrap (t101)))))) ((shl .u64 a1 (IntKind.u64.wrap (t101))) / 4294967296) (Go.bits .and .u64 (shl .u64 a1 (IntKind.u64.wrap (t101))) 4294967295) (IntKind.u64.wrap (Int.tdiv (Go.bits .or .u64 (shl .u64 a0 (IntKind.u64.wrap (t101))) (shr .u64 a1 (IntKind.u64.wrap (64 - (IntKind.u64.wrap (t101)))))) ((shl .u64 a2 (IntKind.u64.wrap (t101))) / 4294967296))) (IntKind.u64.wrap ((Go.bits .or .u64 (shl .u64 a0 (IntKind.u64.wrap (t101))) (shr .u64 a1 (IntKind.u64.wrap (64 - (IntKind.u64.wrap (t101)))))) - (IntKind.u64.wrap ((IntKind.u64.wrap (Int.tdiv (Go.bits .or .u64 (shl .u64 a0 (IntKind.u64.wrap (t101))) (shr .u64 a1 (IntKind.u64.wrap (64 - (IntKind.u64.wrap (t101)))))) ((shl .u64 a2 (IntKind.u64.wrap (t101))) / 4294967296))) * ((shl .u64 a2 (IntKind.u64.wrap (t101))) / 4294967296))))))) else (none)) else (none)))))) = some (r1, r2) := h
 clear h
 by_cases c4 : a2 = 0
 ·rw [if_pos c4] at H
  exact absurd H (by simp)
 ·rw [if_neg c4] at H
  have c4b0 : (a2 == 0) = false := beq_eq_false_iff_ne.mpr c4
  have c4b1 : (a2 != 0) = true := bne_iff_ne.mpr c4
  by_cases c5 : a2 ≤ a0
  ·rw [if_pos c5] at H
   exact absurd H (by simp)
  ·rw [if_neg c5] at H
   have c5b0 : decide (a2 ≤ a0) = false := decide_eq_false c5
   clear c5
   by_cases c6 : a0 = 0
   ·rw [if_pos c6] at H
    have c6b0 : (a0 == 0) = true := beq_iff_eq.mpr c6
    have c6b1 : (a0 != 0) = false := bne_eq_false_iff_eq.mpr c6
    clear c6
    simp only [Option.some.injEq, Prod.mk.injEq] at H
    obtain ⟨rfl, rfl⟩ := H
    go_enter Tryz.func91, Tryz.ntmps91
    go_wp2
    repeat (go_quiet (fail); try go_wp2)
    go_ret2
    exact ⟨by first | rfl | (simp; done) | (simp [*]; done), by repeat (first | exact Drawn0.refl _ | apply Drawn0.step)⟩
   ·rw [if_neg c6] at H
    have c6b0 : (a0 == 0) = false := beq_eq_false_iff_ne.mpr c6
    have c6b1 : (a0 != 0) = true := bne_iff_ne.mpr c6
    replace H := Option.bind_eq_some_iff.mp H
    obtain ⟨t101, A70, H⟩ := H
    replace H : (if 0 ≤ (IntKind.u64.wrap (t101)) then (if 0 ≤ (IntKind.u64.wrap (64 - (IntKind.u64.wrap (t101)))) then (if ((shl .u64 a2 (IntKind.u64.wrap (t101))) / 4294967296) = 0 then (none) else (bits_Div64.l0 k (shl .u64 a2 (IntKind.u64.wrap (t101))) (IntKind.u64.wrap (t101)) ((shl .u64 a2 (IntKind.u64.wrap (t101))) / 4294967296) (Go.bits .and .u64 (shl .u64 a2 (IntKind.u64.wrap (t101))) 4294967295) (Go.bits .or .u64 (shl .u64 a0 (IntKind.u64.wrap (t101))) (shr .u64 a1 (IntKind.u64.wrap (64 - (IntKind.u64.wrap (t101)))))) ((shl .u64 a1 (IntKind.u64.wrap (t101))) / 4294967296) (Go.bits .and .u64 (shl .u64 a1 (IntKind.u64.wrap (t101))) 4294967295) (IntKind.u64.wrap (Int.tdiv (Go.bits .or .u64 (shl .u64 a0 (IntKind.u64.wrap (t101))) (shr .u64 a1 (IntKind.u64.wrap (64 - (IntKind.u64.wrap (t101)))))) ((shl .u64 a2 (IntKind.u64.wrap (t101))) / 4294967296))) (IntKind.u64.wrap ((Go.bits .or .u64 (shl .u64 a0 (IntKind.u64.wrap (t101))) (shr .u64 a1 (IntKind.u64.wrap (64 - (IntKind.u64.wrap (t101)))))) - (IntKind.u64.wrap ((IntKind.u64.wrap (Int.tdiv (Go.bits .or .u64 (shl .u64 a0 (IntKind.u64.wrap (t101))) (shr .u64 a1 (IntKind.u64.wrap (64 - (IntKind.u64.wrap (t101)))))) ((shl .u64 a2 (IntKind.u64.wrap (t101))) / 4294967296))) * ((shl .u64 a2 (IntKind.u64.wrap (t101))) / 4294967296))))))) else (none)) else (none)) = some (r1, r2) := H
    have A7 := Aside0.mk A70
    clear A70
    obtain ⟨ji8, hji8⟩ : ∃ j_ : Int, (IntKind.u64.wrap (t101)) = j_ := ⟨_, rfl⟩
    replace H : (if 0 ≤ (ji8) then (if 0 ≤ (IntKind.u64.wrap (64 - (ji8))) then (if ((shl .u64 a2 (ji8)) / 4294967296) = 0 then (none) else (bits_Div64.l0 k (shl .u64 a2 (ji8)) ji8 ((shl .u64 a2 (ji8)) / 4294967296) (Go.bits .and .u64 (shl .u64 a2 (ji8)) 4294967295) (Go.bits .or .u64 (shl .u64 a0 (ji8)) (shr .u64 a1 (IntKind.u64.wrap (64 - (ji8))))) ((shl .u64 a1 (ji8)) / 4294967296) (Go.bits .and .u64 (shl .u64 a1 (ji8)) 4294967295) (IntKind.u64.wrap (Int.tdiv (Go.bits .or .u64 (shl .u64 a0 (ji8)) (shr .u64 a1 (IntKind.u64.wrap (64 - (ji8))))) ((shl .u64 a2 (ji8)) / 4294967296))) (IntKind.u64.wrap ((Go.bits .or .u64 (shl .u64 a0 (ji8)) (shr .u64 a1 (IntKind.u64.wrap (64 - (ji8))))) - (IntKind.u64.wrap ((IntKind.u64.wrap (Int.tdiv (Go.bits .or .u64 (shl .u64 a0 (ji8)) (shr .u64 a1 (IntKind.u64.wrap (64 - (ji8))))) ((shl .u64 a2 (ji8)) / 4294967296))) * ((shl .u64 a2 (ji8)) / 4294967296))))))) else (none)) else (none)) = some (r1, r2) := by first | (rw [hji8] at H; exact H) | (simp only [hji8] at H ⊢; exact H)
    (try rw [hji8] at A7)
    by_cases c9 : 0 ≤ (ji8)
    ·rw [if_pos c9] at H
     have c9b0 := eq_true c9
     have c9b1 : decide (0 ≤ (ji8)) = true := decide_eq_true c9
     clear c9
     obtain ⟨ji10, hji10⟩ : ∃ j_ : Int, (shl .u64 a2 (ji8)) = j_ := ⟨_, rfl⟩
     replace H : (if 0 ≤ (IntKind.u64.wrap (64 - (ji8))) then (if ((ji10) / 4294967296) = 0 then (none) else (bits_Div64.l0 k ji10 ji8 ((ji10) / 4294967296) (Go.bits .and .u64 (ji10) 4294967295) (Go.bits .or .u64 (shl .u64 a0 (ji8)) (shr .u64 a1 (IntKind.u64.wrap (64 - (ji8))))) ((shl .u64 a1 (ji8)) / 4294967296) (Go.bits .and .u64 (shl .u64 a1 (ji8)) 4294967295) (IntKind.u64.wrap (Int.tdiv (Go.bits .or .u64 (shl .u64 a0 (ji8)) (shr .u64 a1 (IntKind.u64.wrap (64 - (ji8))))) ((ji10) / 4294967296))) (IntKind.u64.wrap ((Go.bits .or .u64 (shl .u64 a0 (ji8)) (shr .u64 a1 (IntKind.u64.wrap (64 - (ji8))))) - (IntKind.u64.wrap ((IntKind.u64.wrap (Int.tdiv (Go.bits .or .u64 (shl .u64 a0 (ji8)) (shr .u64 a1 (IntKind.u64.wrap (64 - (ji8))))) ((ji10) / 4294967296))) * ((ji10) / 4294967296))))))) else (none)) = some (r1, r2) := by first | (rw [hji10] at H; exact H) | (simp only [hji10] at H ⊢; exact H)
     (try rw [hji10] at A7)
     have hji10_ : (IntKind.u64.wrap (a2 * 2 ^ min (ji8).toNat 64)) = ji10 := hji10
     have hji10z : (ji8) ≤ 64 → (IntKind.u64.wrap (a2 * 2 ^ (ji8).toNat)) = ji10 := shl_small hji10
     have c11b0 := eq_true (of_decide_eq_true (by first | (with_reducible assumption) | assumption) : 0 ≤ (ji8))
     obtain ⟨ji12, hji12⟩ : ∃ j_ : Int, (shl .u64 a0 (ji8)) = j_ := ⟨_, rfl⟩
     replace H : (if 0 ≤ (IntKind.u64.wrap (64 - (ji8))) then (if ((ji10) / 4294967296) = 0 then (none) else (bits_Div64.l0 k ji10 ji8 ((ji10) / 4294967296) (Go.bits .and .u64 (ji10) 4294967295) (Go.bits .or .u64 (ji12) (shr .u64 a1 (IntKind.u64.wrap (64 - (ji8))))) ((shl .u64 a1 (ji8)) / 4294967296) (Go.bits .and .u64 (shl .u64 a1 (ji8)) 4294967295) (IntKind.u64.wrap (Int.tdiv (Go.bits .or .u64 (ji12) (shr .u64 a1 (IntKind.u64.wrap (64 - (ji8))))) ((ji10) / 4294967296))) (IntKind.u64.wrap ((Go.bits .or .u64 (ji12) (shr .u64 a1 (IntKind.u64.wrap (64 - (ji8))))) - (IntKind.u64.wrap ((IntKind.u64.wrap (Int.tdiv (Go.bits .or .u64 (ji12) (shr .u64 a1 (IntKind.u64.wrap (64 - (ji8))))) ((ji10) / 4294967296))) * ((ji10) / 4294967296))))))) else (none)) = some (r1, r2) := by first | (rw [hji12] at H; exact H) | (simp only [hji12] at H ⊢; exact H)
     (try rw [hji12] at A7)
     have hji12_ : (IntKind.u64.wrap (a0 * 2 ^ min (ji8).toNat 64)) = ji12 := hji12
     have hji12z : (ji8) ≤ 64 → (IntKind.u64.wrap (a0 * 2 ^ (ji8).toNat)) = ji12 := shl_small hji12
     obtain ⟨ji13, hji13⟩ : ∃ j_ : Int, (IntKind.u64.wrap (64 - (ji8))) = j_ := ⟨_, rfl⟩
     replace H : (if 0 ≤ (ji13) then (if ((ji10) / 4294967296) = 0 then (none) else (bits_Div64.l0 k ji10 ji8 ((ji10) / 4294967296) (Go.bits .and .u64 (ji10) 4294967295) (Go.bits .or .u64 (ji12) (shr .u64 a1 (ji13))) ((shl .u64 a1 (ji8)) / 4294967296) (Go.bits .and .u64 (shl .u64 a1 (ji8)) 4294967295) (IntKind.u64.wrap (Int.tdiv (Go.bits .or .u64 (ji12) (shr .u64 a1 (ji13))) ((ji10) / 4294967296))) (IntKind.u64.wrap ((Go.bits .or .u64 (ji12) (shr .u64 a1 (ji13))) - (IntKind.u64.wrap ((IntKind.u64.wrap (Int.tdiv (Go.bits .or .u64 (ji12) (shr .u64 a1 (ji13))) ((ji10) / 4294967296))) * ((ji10) / 4294967296))))))) else (none)) = some (r1, r2) := by first | (rw [hji13] at H; exact H) | (simp only [hji13] at H ⊢; exact H)
     (try rw [hji13] at A7)
     by_cases c14 : 0 ≤ (ji13)
     ·rw [if_pos c14] at H
      have c14b0 := eq_true c14
      have c14b1 : decide (0 ≤ (ji13)) = true := decide_eq_true c14
      clear c14
      obtain ⟨ji15, hji15⟩ : ∃ j_ : Int, (shr .u64 a1 (ji13)) = j_ := ⟨_, rfl⟩
      replace H : (if ((ji10) / 4294967296) = 0 then (none) else (bits_Div64.l0 k ji10 ji8 ((ji10) / 4294967296) (Go.bits .and .u64 (ji10) 4294967295) (Go.bits .or .u64 (ji12) (ji15)) ((shl .u64 a1 (ji8)) / 4294967296) (Go.bits .and .u64 (shl .u64 a1 (ji8)) 4294967295) (IntKind.u64.wrap (Int.tdiv (Go.bits .or .u64 (ji12) (ji15)) ((ji10) / 4294967296))) (IntKind.u64.wrap ((Go.bits .or .u64 (ji12) (ji15)) - (IntKind.u64.wrap ((IntKind.u64.wrap (Int.tdiv (Go.bits .or .u64 (ji12) (ji15)) ((ji10) / 4294967296))) * ((ji10) / 4294967296))))))) = some (r1, r2) := by first | (rw [hji15] at H; exact H) | (simp only [hji15] at H ⊢; exact H)
      (try rw [hji15] at A7)
      have hji15_ : (a1 / 2 ^ min (ji13).toNat 64) = ji15 := hji15
      have hji15z : (ji13) ≤ 64 → (a1 / 2 ^ (ji13).toNat) = ji15 := shr_small hji15
      have c16b0 := eq_true (of_decide_eq_true (by first | (with_reducible assumption) | assumption) : 0 ≤ (ji8))
      obtain ⟨ji17, hji17⟩ : ∃ j_ : Int, (shl .u64 a1 (ji8)) = j_ := ⟨_, rfl⟩
      replace H : (if ((ji10) / 4294967296) = 0 then (none) else (bits_Div64.l0 k ji10 ji8 ((ji10) / 4294967296) (Go.bits .and .u64 (ji10) 4294967295) (Go.bits .or .u64 (ji12) (ji15)) ((ji17) / 4294967296) (Go.bits .and .u64 (ji17) 4294967295) (IntKind.u64.wrap (Int.tdiv (Go.bits .or .u64 (ji12) (ji15)) ((ji10) / 4294967296))) (IntKind.u64.wrap ((Go.bits .or .u64 (ji12) (ji15)) - (IntKind.u64.wrap ((IntKind.u64.wrap (Int.tdiv (Go.bits .or .u64 (ji12) (ji15)) ((ji10) / 4294967296))) * ((ji10) / 4294967296))))))) = some (r1, r2) := by first | (rw [hji17] at H; exact H) | (simp only [hji17] at H ⊢; exact H)
      (try rw [hji17] at A7)
      have hji17_ : (IntKind.u64.wrap (a1 * 2 ^ min (ji8).toNat 64)) = ji17 := hji17
      have hji17z : (ji8) ≤ 64 → (IntKind.u64.wrap (a1 * 2 ^ (ji8).toNat)) = ji17 := shl_small hji17
      by_cases c18 : ((ji10) / 4294967296) = 0
      ·rw [if_pos c18] at H
       exact absurd H (by simp)
      ·rw [if_neg c18] at H
       have c18b0 : (((ji10) / 4294967296) == 0) = false := beq_eq_false_iff_ne.mpr c18
       have c18b1 : (((ji10) / 4294967296) != 0) = true := bne_iff_ne.mpr c18
       have HC19 := Aside0.mk H
       clear H
       go_enter Tryz.func91, Tryz.ntmps91
       go_upto_block 0 with (first | (go_at_call 101; (with_reducible refine (bits_LeadingZeros64.calls a2 t101 _ A7.out).mono ?_); rintro e w' ⟨rfl, ⟨nd, rfl⟩⟩; (try first | exact ⟨rfl, _, World.drewN_drewN _ _ _⟩ | exact ⟨rfl, _, Eq.trans (World.drewN_drewN _ _ _) (congrArg (World.drewN _) (Nat.add_assoc _ _ _))⟩)))
       (try simp only [Act.put, List.setIfInBounds_toArray, List.set_cons_zero, List.set_cons_succ])
       go_cut [15] (fun v15 wc => ∃ (kq : Nat) (x15_18 : Int), v15 = .int .u64 x15_18 ∧ Aside0 (bits_Div64.j2 kq ji10 ji8 ((ji10) / 4294967296) (Go.bits .and .u64 (ji10) 4294967295) (Go.bits .or .u64 (ji12) (ji15)) ((ji17) / 4294967296) (Go.bits .and .u64 (ji17) 4294967295) x15_18 = some (r1, r2)) ∧ Aside0 (kq ≤ k) ∧ Drawn0 w wc)
       case first =>
        have H := HC19.out
        clear HC19
        have H' := Aside0.mk H
        clear H
        go_wp2
        repeat (go_quiet (fail); try go_wp2)
        go_loopg [15, 16] k (fun kq v15 v16 w' => ∃ (x15_1 : Int) (x16_1 : Int), v15 = .int .u64 x15_1 ∧ v16 = .int .u64 x16_1 ∧ Aside0 (bits_Div64.l0 kq ji10 ji8 ((ji10) / 4294967296) (Go.bits .and .u64 (ji10) 4294967295) (Go.bits .or .u64 (ji12) (ji15)) ((ji17) / 4294967296) (Go.bits .and .u64 (ji17) 4294967295) x15_1 x16_1 = some (r1, r2)) ∧ Aside0 (kq ≤ k) ∧ Drawn0 w w')
        case atStart => exact ⟨(IntKind.u64.wrap (Int.tdiv (Go.bits .or .u64 (ji12) (ji15)) ((ji10) / 4294967296))), (IntKind.u64.wrap ((Go.bits .or .u64 (ji12) (ji15)) - (IntKind.u64.wrap ((IntKind.u64.wrap (Int.tdiv (Go.bits .or .u64 (ji12) (ji15)) ((ji10) / 4294967296))) * ((ji10) / 4294967296))))), (by first | rfl | (simp; done) | (simp only [← hji10, ← hji12, ← hji15] <;> (first | rfl | simp)) | (simp [*]; done)), (by first | rfl | (simp; done) | (simp only [← hji10, ← hji12, ← hji15] <;> (first | rfl | simp)) | (simp [*]; done)), H', ⟨Nat.le_refl _⟩, by repeat (first | exact Drawn0.refl _ | apply Drawn0.step)⟩
        case round =>
         clear H'
         try clear c4
         try clear c4b0
         try clear c4b1
         try clear c5b0
         try clear c6
         try clear c6b0
         try clear c6b1
         try clear c9b0
         try clear c9b1
         try clear c11b0
         try clear c14b0
         try clear c14b1
         try clear c16b0
         try clear c18
         try clear c18b0
         try clear c18b1
         obtain ⟨x15_1, x16_1, rfl, rfl, HA, HK1, ⟨m1, rfl⟩⟩ := hrel
         cases gk with
         | zero => exact absurd HA.out (by simp [bits_Div64.l0])
         | succ k1 =>
          have H := HA.out
          clear HA
          simp only [bits_Div64.l0] at H
          have HC20 := Aside0.mk H
          clear H
          go_upto_region 17 with (fail)
          go_cut [78] (fun v78 wc => ∃ (kq : Nat) (x78_19 : Bool), v78 = .bool x78_19 ∧ Aside0 (bits_Div64.j1 kq ji10 ji8 ((ji10) / 4294967296) (Go.bits .and .u64 (ji10) 4294967295) (Go.bits .or .u64 (ji12) (ji15)) ((ji17) / 4294967296) (Go.bits .and .u64 (ji17) 4294967295) x15_1 x16_1 x78_19 = some (r1, r2)) ∧ Aside0 (kq ≤ k1) ∧ Drawn0 w wc)
          case first =>
           have H := HC20.out
           clear HC20
           by_cases c21 : x15_1 ≥ 4294967296
           ·rw [if_pos c21] at H
            have c21b0 : decide (4294967296 ≤ x15_1) = true := decide_eq_true c21
            clear c21
            (first | rw [c21b0] | (simp only [i64_w, i32_w]; rw [c21b0]) | skip)
            have H' := Aside0.mk H
            clear H
            go_wp2
            repeat (go_quiet (fail); try go_wp2)
            go_meet
            case rel => exact ⟨_, (true), (by first | rfl | (simp; done) | (simp [*]; done)), H', ⟨by have := HK1.out; first | omega | exact Nat.le_refl _⟩, by repeat (first | exact Drawn0.refl _ | apply Drawn0.step)⟩
           ·rw [if_neg c21] at H
            have c21b0 : decide (4294967296 ≤ x15_1) = false := decide_eq_false c21
            clear c21
            (first | rw [c21b0] | (simp only [i64_w, i32_w]; rw [c21b0]) | skip)
            have H' := Aside0.mk H
            clear H
            go_wp2
            repeat (go_quiet (fail); try go_wp2)
            go_meet
            case rel => exact ⟨_, (decide ((IntKind.u64.wrap (x15_1 * (Go.bits .and .u64 (ji10) 4294967295))) > (IntKind.u64.wrap ((IntKind.u64.wrap (4294967296 * x16_1)) + ((ji17) / 4294967296))))), (by first | rfl | (simp; done) | (simp only [← hji10, ← hji17] <;> (first | rfl | simp)) | (simp [*]; done)), H', ⟨by have := HK1.out; first | omega | exact Nat.le_refl _⟩, by repeat (first | exact Drawn0.refl _ | apply Drawn0.step)⟩
          case rest =>
           clear HC20
           obtain ⟨kq, x78_19, rfl, HA, HJ19, ⟨mc19, rfl⟩⟩ := hcut
           cases kq with
           | zero => exact absurd HA.out (by simp [bits_Div64.j1])
           | succ kj19 =>
            have H := HA.out
            clear HA
            simp only [bits_Div64.j1] at H
            by_cases c22 : x78_19 = true
            ·subst c22
             have H1 : (if (IntKind.u64.wrap (x16_1 + ((ji10) / 4294967296))) ≥ 4294967296 then (bits_Div64.j2 kj19 ji10 ji8 ((ji10) / 4294967296) (Go.bits .and .u64 (ji10) 4294967295) (Go.bits .or .u64 (ji12) (ji15)) ((ji17) / 4294967296) (Go.bits .and .u64 (ji17) 4294967295) (IntKind.u64.wrap (x15_1 - 1))) else (bits_Div64.l0 kj19 ji10 ji8 ((ji10) / 4294967296) (Go.bits .and .u64 (ji10) 4294967295) (Go.bits .or .u64 (ji12) (ji15)) ((ji17) / 4294967296) (Go.bits .and .u64 (ji17) 4294967295) (IntKind.u64.wrap (x15_1 - 1)) (IntKind.u64.wrap (x16_1 + ((ji10) / 4294967296))))) = some (r1, r2) := by rw [if_pos rfl] at H; exact H
             clear H
             have H := H1
             clear H1
             by_cases c23 : (IntKind.u64.wrap (x16_1 + ((ji10) / 4294967296))) ≥ 4294967296
             ·rw [if_pos c23] at H
              have c23b0 : decide (4294967296 ≤ (IntKind.u64.wrap (x16_1 + ((ji10) / 4294967296)))) = true := decide_eq_true c23
              clear c23
              have H' := Aside0.mk H
              clear H
              go_wp2
              repeat (go_quiet (fail); try go_wp2)
              go_meet
              case rel => exact ⟨_, (IntKind.u64.wrap (x15_1 - 1)), (by first | rfl | (simp; done) | (simp [*]; done)), H', ⟨by have := HK1.out; have := HJ19.out; first | omega | exact Nat.le_refl _⟩, by repeat (first | exact Drawn0.refl _ | apply Drawn0.step)⟩
             ·rw [if_neg c23] at H
              have c23b0 : decide (4294967296 ≤ (IntKind.u64.wrap (x16_1 + ((ji10) / 4294967296)))) = false := decide_eq_false c23
              clear c23
              have H' := Aside0.mk H
              clear H
              go_wp2
              repeat (go_quiet (fail); try go_wp2)
              go_roundg kj19
              case measure => have := HK1.out; have := HJ19.out; omega
              case rel => exact ⟨(IntKind.u64.wrap (x15_1 - 1)), (IntKind.u64.wrap (x16_1 + ((ji10) / 4294967296))), (by first | rfl | (simp; done) | (simp [*]; done)), (by first | rfl | (simp; done) | (simp only [← hji10] <;> (first | rfl | simp)) | (simp [*]; done)), H', ⟨by have := HK1.out; have := HJ19.out; omega⟩, by repeat (first | exact Drawn0.refl _ | apply Drawn0.step)⟩
            ·replace c22 := Bool.eq_false_iff.mpr c22
             subst c22
             have H1 : (bits_Div64.j2 kj19 ji10 ji8 ((ji10) / 4294967296) (Go.bits .and .u64 (ji10) 4294967295) (Go.bits .or .u64 (ji12) (ji15)) ((ji17) / 4294967296) (Go.bits .and .u64 (ji17) 4294967295) x15_1) = some (r1, r2) := by rw [if_neg (show ¬ (false = true) by decide)] at H; exact H
             clear H
             have H := H1
             clear H1
             have H' := Aside0.mk H
             clear H
             go_wp2
             repeat (go_quiet (fail); try go_wp2)
             go_meet
             case rel => exact ⟨_, (x15_1), (by first | rfl | (simp; done) | (simp [*]; done)), H', ⟨by have := HK1.out; have := HJ19.out; first | omega | exact Nat.le_refl _⟩, by repeat (first | exact Drawn0.refl _ | apply Drawn0.step)⟩
       case rest =>
        clear HC19
        try clear c4
        try clear c4b0
        try clear c4b1
        try clear c5b0
        try clear c6
        try clear c6b0
        try clear c6b1
        try clear c9b0
        try clear c9b1
        try clear c11b0
        try clear c14b0
        try clear c14b1
        try clear c16b0
        try clear c18
        try clear c18b0
        try clear c18b1
        obtain ⟨kq, x15_18, rfl, HA, HJ18, ⟨mc18, rfl⟩⟩ := hcut
        cases kq with
        | zero => exact absurd HA.out (by simp [bits_Div64.j2])
        | succ kj18 =>
         have H := HA.out
         clear HA
         simp only [bits_Div64.j2] at H
         by_cases c24 : ((ji10) / 4294967296) = 0
         ·rw [if_pos c24] at H
          exact absurd H (by simp)
         ·rw [if_neg c24] at H
          have c24b0 : (((ji10) / 4294967296) == 0) = false := beq_eq_false_iff_ne.mpr c24
          have c24b1 : (((ji10) / 4294967296) != 0) = true := bne_iff_ne.mpr c24
          have H' := Aside0.mk H
          clear H
          go_wp2
          repeat (go_quiet (fail); try go_wp2)
          go_loopg [16, 18] kj18 (fun kq v16 v18 w' => ∃ (x16_2 : Int) (x18_2 : Int), v16 = .int .u64 x16_2 ∧ v18 = .int .u64 x18_2 ∧ Aside0 (bits_Div64.l1 kq ji10 ji8 ((ji10) / 4294967296) (Go.bits .and .u64 (ji10) 4294967295) (Go.bits .and .u64 (ji17) 4294967295) x15_18 x16_2 (IntKind.u64.wrap ((IntKind.u64.wrap ((IntKind.u64.wrap ((Go.bits .or .u64 (ji12) (ji15)) * 4294967296)) + ((ji17) / 4294967296))) - (IntKind.u64.wrap (x15_18 * ji10)))) x18_2 = some (r1, r2)) ∧ Aside0 (kq ≤ kj18) ∧ Drawn0 w w')
          case atStart => exact ⟨(IntKind.u64.wrap ((IntKind.u64.wrap ((IntKind.u64.wrap ((IntKind.u64.wrap ((Go.bits .or .u64 (ji12) (ji15)) * 4294967296)) + ((ji17) / 4294967296))) - (IntKind.u64.wrap (x15_18 * ji10)))) - (IntKind.u64.wrap ((IntKind.u64.wrap (Int.tdiv (IntKind.u64.wrap ((IntKind.u64.wrap ((IntKind.u64.wrap ((Go.bits .or .u64 (ji12) (ji15)) * 4294967296)) + ((ji17) / 4294967296))) - (IntKind.u64.wrap (x15_18 * ji10)))) ((ji10) / 4294967296))) * ((ji10) / 4294967296))))), (IntKind.u64.wrap (Int.tdiv (IntKind.u64.wrap ((IntKind.u64.wrap ((IntKind.u64.wrap ((Go.bits .or .u64 (ji12) (ji15)) * 4294967296)) + ((ji17) / 4294967296))) - (IntKind.u64.wrap (x15_18 * ji10)))) ((ji10) / 4294967296))), (by first | rfl | (simp; done) | (simp only [← hji10, ← hji12, ← hji15, ← hji17] <;> (first | rfl | simp)) | (simp [*]; done)), (by first | rfl | (simp; done) | (simp only [← hji10, ← hji12, ← hji15, ← hji17] <;> (first | rfl | simp)) | (simp [*]; done)), H', ⟨Nat.le_refl _⟩, by repeat (first | exact Drawn0.refl _ | apply Drawn0.step)⟩
          case round =>
           clear H'
           try clear c24
           try clear c24b0
           try clear c24b1
           obtain ⟨x16_2, x18_2, rfl, rfl, HA, HK2, ⟨m2, rfl⟩⟩ := hrel
           cases gk with
           | zero => exact absurd HA.out (by simp [bits_Div64.l1])
           | succ k2 =>
            have H := HA.out
            clear HA
            simp only [bits_Div64.l1] at H
            have HC25 := Aside0.mk H
            clear H
            go_upto_region 24 with (fail)
            go_cut [113] (fun v113 wc => ∃ (kq : Nat) (x113_24 : Bool), v113 = .bool x113_24 ∧ Aside0 (bits_Div64.j4 kq ji10 ji8 ((ji10) / 4294967296) (Go.bits .and .u64 (ji10) 4294967295) (Go.bits .and .u64 (ji17) 4294967295) x15_18 x16_2 (IntKind.u64.wrap ((IntKind.u64.wrap ((IntKind.u64.wrap ((Go.bits .or .u64 (ji12) (ji15)) * 4294967296)) + ((ji17) / 4294967296))) - (IntKind.u64.wrap (x15_18 * ji10)))) x18_2 x113_24 = some (r1, r2)) ∧ Aside0 (kq ≤ k2) ∧ Drawn0 w wc)
            case first =>
             have H := HC25.out
             clear HC25
             by_cases c26 : x18_2 ≥ 4294967296
             ·rw [if_pos c26] at H
              have c26b0 : decide (4294967296 ≤ x18_2) = true := decide_eq_true c26
              clear c26
              (first | rw [c26b0] | (simp only [i64_w, i32_w]; rw [c26b0]) | skip)
              have H' := Aside0.mk H
              clear H
              go_wp2
              repeat (go_quiet (fail); try go_wp2)
              go_meet
              case rel => exact ⟨_, (true), (by first | rfl | (simp; done) | (simp [*]; done)), H', ⟨by have := HJ18.out; have := HK2.out; first | omega | exact Nat.le_refl _⟩, by repeat (first | exact Drawn0.refl _ | apply Drawn0.step)⟩
             ·rw [if_neg c26] at H
              have c26b0 : decide (4294967296 ≤ x18_2) = false := decide_eq_false c26
              clear c26
              (first | rw [c26b0] | (simp only [i64_w, i32_w]; rw [c26b0]) | skip)
              have H' := Aside0.mk H
              clear H
              go_wp2
              repeat (go_quiet (fail); try go_wp2)
              go_meet
              case rel => exact ⟨_, (decide ((IntKind.u64.wrap (x18_2 * (Go.bits .and .u64 (ji10) 4294967295))) > (IntKind.u64.wrap ((IntKind.u64.wrap (4294967296 * x16_2)) + (Go.bits .and .u64 (ji17) 4294967295))))), (by first | rfl | (simp; done) | (simp only [← hji10, ← hji17] <;> (first | rfl | simp)) | (simp [*]; done)), H', ⟨by have := HJ18.out; have := HK2.out; first | omega | exact Nat.le_refl _⟩, by repeat (first | exact Drawn0.refl _ | apply Drawn0.step)⟩
            case rest =>
             clear HC25
             obtain ⟨kq, x113_24, rfl, HA, HJ24, ⟨mc24, rfl⟩⟩ := hcut
             cases kq with
             | zero => exact absurd HA.out (by simp [bits_Div64.j4])
             | succ kj24 =>
              have H := HA.out
              clear HA
              simp only [bits_Div64.j4] at H
              by_cases c27 : x113_24 = true
              ·subst c27
               have H1 : (if (IntKind.u64.wrap (x16_2 + ((ji10) / 4294967296))) ≥ 4294967296 then (if 0 ≤ ji8 then (some (IntKind.u64.wrap ((IntKind.u64.wrap (x15_18 * 4294967296)) + (IntKind.u64.wrap (x18_2 - 1))), shr .u64 (IntKind.u64.wrap ((IntKind.u64.wrap ((IntKind.u64.wrap ((IntKind.u64.wrap ((IntKind.u64.wrap ((IntKind.u64.wrap ((Go.bits .or .u64 (ji12) (ji15)) * 4294967296)) + ((ji17) / 4294967296))) - (IntKind.u64.wrap (x15_18 * ji10)))) * 4294967296)) + (Go.bits .and .u64 (ji17) 4294967295))) - (IntKind.u64.wrap ((IntKind.u64.wrap (x18_2 - 1)) * ji10)))) ji8)) else (none)) else (bits_Div64.l1 kj24 ji10 ji8 ((ji10) / 4294967296) (Go.bits .and .u64 (ji10) 4294967295) (Go.bits .and .u64 (ji17) 4294967295) x15_18 (IntKind.u64.wrap (x16_2 + ((ji10) / 4294967296))) (IntKind.u64.wrap ((IntKind.u64.wrap ((IntKind.u64.wrap ((Go.bits .or .u64 (ji12) (ji15)) * 4294967296)) + ((ji17) / 4294967296))) - (IntKind.u64.wrap (x15_18 * ji10)))) (IntKind.u64.wrap (x18_2 - 1)))) = some (r1, r2) := by rw [if_pos rfl] at H; exact H
               clear H
               have H := H1
               clear H1
               by_cases c28 : (IntKind.u64.wrap (x16_2 + ((ji10) / 4294967296))) ≥ 4294967296
               ·rw [if_pos c28] at H
                have c28b0 : decide (4294967296 ≤ (IntKind.u64.wrap (x16_2 + ((ji10) / 4294967296)))) = true := decide_eq_true c28
                clear c28
                by_cases c29 : 0 ≤ ji8
                ·rw [if_pos c29] at H
                 have c29b0 := eq_true c29
                 have c29b1 : decide (0 ≤ ji8) = true := decide_eq_true c29
                 clear c29
                 obtain ⟨ji30, hji30⟩ : ∃ j_ : Int, (shr .u64 (IntKind.u64.wrap ((IntKind.u64.wrap ((IntKind.u64.wrap ((IntKind.u64.wrap ((IntKind.u64.wrap ((IntKind.u64.wrap ((Go.bits .or .u64 (ji12) (ji15)) * 4294967296)) + ((ji17) / 4294967296))) - (IntKind.u64.wrap (x15_18 * ji10)))) * 4294967296)) + (Go.bits .and .u64 (ji17) 4294967295))) - (IntKind.u64.wrap ((IntKind.u64.wrap (x18_2 - 1)) * ji10)))) ji8) = j_ := ⟨_, rfl⟩
                 replace H : (some (IntKind.u64.wrap ((IntKind.u64.wrap (x15_18 * 4294967296)) + (IntKind.u64.wrap (x18_2 - 1))), ji30)) = some (r1, r2) := by first | (rw [hji30] at H; exact H) | (simp only [hji30] at H ⊢; exact H)
                 have hji30_ : ((IntKind.u64.wrap ((IntKind.u64.wrap ((IntKind.u64.wrap ((IntKind.u64.wrap ((IntKind.u64.wrap ((IntKind.u64.wrap ((Go.bits .or .u64 (ji12) (ji15)) * 4294967296)) + ((ji17) / 4294967296))) - (IntKind.u64.wrap (x15_18 * ji10)))) * 4294967296)) + (Go.bits .and .u64 (ji17) 4294967295))) - (IntKind.u64.wrap ((IntKind.u64.wrap (x18_2 - 1)) * ji10)))) / 2 ^ min ji8.toNat 64) = ji30 := hji30
                 have hji30z : ji8 ≤ 64 → ((IntKind.u64.wrap ((IntKind.u64.wrap ((IntKind.u64.wrap ((IntKind.u64.wrap ((IntKind.u64.wrap ((IntKind.u64.wrap ((Go.bits .or .u64 (ji12) (ji15)) * 4294967296)) + ((ji17) / 4294967296))) - (IntKind.u64.wrap (x15_18 * ji10)))) * 4294967296)) + (Go.bits .and .u64 (ji17) 4294967295))) - (IntKind.u64.wrap ((IntKind.u64.wrap (x18_2 - 1)) * ji10)))) / 2 ^ ji8.toNat) = ji30 := shr_small hji30
                 simp only [Option.some.injEq, Prod.mk.injEq] at H
                 obtain ⟨rfl, rfl⟩ := H
                 go_wp2
                 repeat (go_quiet (fail); try go_wp2)
                 go_ret2
                 exact ⟨by first | rfl | (simp; done) | (simp only [← hji8, ← hji10, ← hji12, ← hji13, ← hji15, ← hji17, ← hji30] <;> (first | rfl | simp)) | (simp [*]; done), by repeat (first | exact Drawn0.refl _ | apply Drawn0.step)⟩
                ·rw [if_neg c29] at H
                 exact absurd H (by simp)
               ·rw [if_neg c28] at H
                have c28b0 : decide (4294967296 ≤ (IntKind.u64.wrap (x16_2 + ((ji10) / 4294967296)))) = false := decide_eq_false c28
                clear c28
                have H' := Aside0.mk H
                clear H
                go_wp2
                repeat (go_quiet (fail); try go_wp2)
                go_roundg kj24
                case measure => have := HJ18.out; have := HK2.out; have := HJ24.out; omega
                case rel => exact ⟨(IntKind.u64.wrap (x16_2 + ((ji10) / 4294967296))), (IntKind.u64.wrap (x18_2 - 1)), (by first | rfl | (simp; done) | (simp only [← hji10] <;> (first | rfl | simp)) | (simp [*]; done)), (by first | rfl | (simp; done) | (simp [*]; done)), H', ⟨by have := HJ18.out; have := HK2.out; have := HJ24.out; omega⟩, by repeat (first | exact Drawn0.refl _ | apply Drawn0.step)⟩
              ·replace c27 := Bool.eq_false_iff.mpr c27
               subst c27
               have H1 : (if 0 ≤ ji8 then (some (IntKind.u64.wrap ((IntKind.u64.wrap (x15_18 * 4294967296)) + x18_2), shr .u64 (IntKind.u64.wrap ((IntKind.u64.wrap ((IntKind.u64.wrap ((IntKind.u64.wrap ((IntKind.u64.wrap ((IntKind.u64.wrap ((Go.bits .or .u64 (ji12) (ji15)) * 4294967296)) + ((ji17) / 4294967296))) - (IntKind.u64.wrap (x15_18 * ji10)))) * 4294967296)) + (Go.bits .and .u64 (ji17) 4294967295))) - (IntKind.u64.wrap (x18_2 * ji10)))) ji8)) else (none)) = some (r1, r2) := by rw [if_neg (show ¬ (false = true) by decide)] at H; exact H
               clear H
               have H := H1
               clear H1
               by_cases c31 : 0 ≤ ji8
               ·rw [if_pos c31] at H
                have c31b0 := eq_true c31
                have c31b1 : decide (0 ≤ ji8) = true := decide_eq_true c31
                clear c31
                obtain ⟨ji32, hji32⟩ : ∃ j_ : Int, (shr .u64 (IntKind.u64.wrap ((IntKind.u64.wrap ((IntKind.u64.wrap ((IntKind.u64.wrap ((IntKind.u64.wrap ((IntKind.u64.wrap ((Go.bits .or .u64 (ji12) (ji15)) * 4294967296)) + ((ji17) / 4294967296))) - (IntKind.u64.wrap (x15_18 * ji10)))) * 4294967296)) + (Go.bits .and .u64 (ji17) 4294967295))) - (IntKind.u64.wrap (x18_2 * ji10)))) ji8) = j_ := ⟨_, rfl⟩
                replace H : (some (IntKind.u64.wrap ((IntKind.u64.wrap (x15_18 * 4294967296)) + x18_2), ji32)) = some (r1, r2) := by first | (rw [hji32] at H; exact H) | (simp only [hji32] at H ⊢; exact H)
                have hji32_ : ((IntKind.u64.wrap ((IntKind.u64.wrap ((IntKind.u64.wrap ((IntKind.u64.wrap ((IntKind.u64.wrap ((IntKind.u64.wrap ((Go.bits .or .u64 (ji12) (ji15)) * 4294967296)) + ((ji17) / 4294967296))) - (IntKind.u64.wrap (x15_18 * ji10)))) * 4294967296)) + (Go.bits .and .u64 (ji17) 4294967295))) - (IntKind.u64.wrap (x18_2 * ji10)))) / 2 ^ min ji8.toNat 64) = ji32 := hji32
                have hji32z : ji8 ≤ 64 → ((IntKind.u64.wrap ((IntKind.u64.wrap ((IntKind.u64.wrap ((IntKind.u64.wrap ((IntKind.u64.wrap ((IntKind.u64.wrap ((Go.bits .or .u64 (ji12) (ji15)) * 4294967296)) + ((ji17) / 4294967296))) - (IntKind.u64.wrap (x15_18 * ji10)))) * 4294967296)) + (Go.bits .and .u64 (ji17) 4294967295))) - (IntKind.u64.wrap (x18_2 * ji10)))) / 2 ^ ji8.toNat) = ji32 := shr_small hji32
                simp only [Option.some.injEq, Prod.mk.injEq] at H
                obtain ⟨rfl, rfl⟩ := H
                go_wp2
                repeat (go_quiet (fail); try go_wp2)
                go_ret2
                exact ⟨by first | rfl | (simp; done) | (simp only [← hji8, ← hji10, ← hji12, ← hji13, ← hji15, ← hji17, ← hji32] <;> (first | rfl | simp)) | (simp [*]; done), by repeat (first | exact Drawn0.refl _ | apply Drawn0.step)⟩
               ·rw [if_neg c31] at H
                exact absurd H (by simp)
     ·rw [if_neg c14] at H
      exact absurd H (by simp)
    ·rw [if_neg c9] at H
     exact absurd H (by simp)
end Go.Proofs.YtfmkdledofbhdaaGreat.PM
/- bits.Div64, as1 it is printed, is division. -/
namespace Go.Proofs.YtfmkdledofbhdaaGreat.H
open Go.RowKit Go.Proofs.YtfmkdledofbhdaaGreatW.PrintWords Go.Proofs.YtfmkdledofbhdaaGreatW.PrintLast
open Go.Proofs.YtfmkdledofbhdaaGreat.Math64
set_option linter.unusedVariables false
set_option linter.unusedSimpArgs false
theorem u64w (x : Int) : IntKind.u64.wrap x = x % 18446744073709551616 := by simp [IntKind.wrap, IntKind.signed, IntKind.bits]
theorem u64s {x : Int} (h0 : 0 ≤ x) (h1 : x < 18446744073709551616) : IntKind.u64.wrap x = x := by rw [u64w]; omega
theorem loop1 {y1 y0 u d : Int} (b : Base y1 y0 u d) (x2 x8 x14 : Int) (n : Nat) : ∀ (k : Nat) (q r : Int), 2 * n + 2 ≤ k → Inv y1 y0 u d q r → r < 4294967296 → 4294967296 ≤ r + n * 2147483648 →
  ∃ j, k ≤ j + 2 * n + 2 ∧ PM.bits_Div64.l0 k x2 x8 y1 y0 u d x14 q r = PM.bits_Div64.j2 j x2 x8 y1 y0 u d x14 (dig y1 y0 u d) := by
 induction n with
 | zero => intro k q r hk h hr hn; omega
 | succ n ih =>
  intro k q r hk h hr hn
  obtain ⟨k, rfl⟩ : ∃ m, k = m + 2 := ⟨k - 2, by omega⟩
  have hb := mul_bd b h.q0 h.q1
  have h0 := dig_lo b
  have a1 := h.q1
  have a2 := h.r0
  have a3 := b.y1lo
  have a4 := b.y1hi
  have a5 := b.dlo
  have a6 := b.dhi
  have e1 : IntKind.u64.wrap (q * y0) = q * y0 := u64s hb.1 (by omega)
  have e2 : IntKind.u64.wrap (IntKind.u64.wrap (4294967296 * r) + d) = 4294967296 * r + d := by rw [u64s (x := 4294967296 * r) (by omega) (by omega), u64s (by omega) (by omega)]
  have e3 : IntKind.u64.wrap (r + y1) = r + y1 := u64s (by omega) (by omega)
  have down : dig y1 y0 u d < q → ∃ j, k + 2 ≤ j + 2 * (n + 1) + 2 ∧ PM.bits_Div64.j1 (k + 1) x2 x8 y1 y0 u d x14 q r true = PM.bits_Div64.j2 j x2 x8 y1 y0 u d x14 (dig y1 y0 u d) := by
   intro hl
   have e4 : IntKind.u64.wrap (q - 1) = q - 1 := u64s (by omega) (by omega)
   simp only [PM.bits_Div64.j1, if_true]
   rw [e3, e4]
   by_cases hr2 : r + y1 ≥ 4294967296
   ·rw [if_pos hr2, h.last b hl hr2]
    exact ⟨k, by omega, rfl⟩
   ·rw [if_neg hr2]
    obtain ⟨j, hj, e⟩ := ih k (q - 1) (r + y1) (by omega) (h.next b hl) (by omega) (by omega)
    exact ⟨j, by omega, e⟩
  simp only [PM.bits_Div64.l0]
  rw [e1, e2]
  by_cases c1 : q ≥ 4294967296
  ·rw [if_pos c1]; exact down (h.big b c1)
  ·rw [if_neg c1]
   by_cases c2 : q * y0 > 4294967296 * r + d
   ·rw [decide_eq_true c2]; exact down (h.more b c2)
   ·rw [decide_eq_false c2]
    simp only [PM.bits_Div64.j1, Bool.false_eq_true, if_false]
    rw [h.done b c2]
    exact ⟨k, by omega, rfl⟩
theorem loop2 {y1 y0 u d : Int} (b : Base y1 y0 u d) (x2 x8 x15 : Int) (h8 : 0 ≤ x8) (n : Nat) : ∀ (k : Nat) (q r : Int), 2 * n + 2 ≤ k → Inv y1 y0 u d q r → r < 4294967296 → 4294967296 ≤ r + n * 2147483648 →
  PM.bits_Div64.l1 k x2 x8 y1 y0 d x15 r u q = some (IntKind.u64.wrap (IntKind.u64.wrap (x15 * 4294967296) + dig y1 y0 u d), shr .u64 (IntKind.u64.wrap (IntKind.u64.wrap (IntKind.u64.wrap (u * 4294967296) + d) - IntKind.u64.wrap (dig y1 y0 u d * x2))) x8) := by
 induction n with
 | zero => intro k q r hk h hr hn; omega
 | succ n ih =>
  intro k q r hk h hr hn
  obtain ⟨k, rfl⟩ : ∃ m, k = m + 2 := ⟨k - 2, by omega⟩
  have hb := mul_bd b h.q0 h.q1
  have h0 := dig_lo b
  have a1 := h.q1
  have a2 := h.r0
  have a3 := b.y1lo
  have a4 := b.y1hi
  have a5 := b.dlo
  have a6 := b.dhi
  have e1 : IntKind.u64.wrap (q * y0) = q * y0 := u64s hb.1 (by omega)
  have e2 : IntKind.u64.wrap (IntKind.u64.wrap (4294967296 * r) + d) = 4294967296 * r + d := by rw [u64s (x := 4294967296 * r) (by omega) (by omega), u64s (by omega) (by omega)]
  have e3 : IntKind.u64.wrap (r + y1) = r + y1 := u64s (by omega) (by omega)
  have down : dig y1 y0 u d < q → PM.bits_Div64.j4 (k + 1) x2 x8 y1 y0 d x15 r u q true = some (IntKind.u64.wrap (IntKind.u64.wrap (x15 * 4294967296) + dig y1 y0 u d), shr .u64 (IntKind.u64.wrap (IntKind.u64.wrap (IntKind.u64.wrap (u * 4294967296) + d) - IntKind.u64.wrap (dig y1 y0 u d * x2))) x8) := by
   intro hl
   have e4 : IntKind.u64.wrap (q - 1) = q - 1 := u64s (by omega) (by omega)
   simp only [PM.bits_Div64.j4, if_true]
   rw [e3, e4]
   by_cases hr2 : r + y1 ≥ 4294967296
   ·rw [if_pos hr2, if_pos h8, h.last b hl hr2]
   ·rw [if_neg hr2]
    exact ih k (q - 1) (r + y1) (by omega) (h.next b hl) (by omega) (by omega)
  simp only [PM.bits_Div64.l1]
  rw [e1, e2]
  by_cases c1 : q ≥ 4294967296
  ·rw [if_pos c1]; exact down (h.big b c1)
  ·rw [if_neg c1]
   by_cases c2 : q * y0 > 4294967296 * r + d
   ·rw [decide_eq_true c2]; exact down (h.more b c2)
   ·rw [decide_eq_false c2]
    simp only [PM.bits_Div64.j4, Bool.false_eq_true, if_false]
    rw [if_pos h8, h.done b c2]
end Go.Proofs.YtfmkdledofbhdaaGreat.H
