/- The law GrowthBears, walked. -/
import Derived.Test.YtliapjhjofmliaaRb
import Derived.Test.YtliapjhjofmliaaL5
import Derived.Deep.RegionWith
import Derived.Deep.DrawnRows
import Derived.Deep.DeepCutAuto
namespace Go.Proofs.Ytliapjhjofmliaa.H
open Go.RowKit Go.Proofs.YtliapjhjofmliaaW.PrintWords Go.Proofs.YtliapjhjofmliaaW.PrintLast Go.Proofs.YtliapjhjofmliaaW.PrintMore Go.Proofs.Ytliapjhjofmliaa.HW
attribute [local go_sem ↓] Go.wp_at_zero Go.wp_at_succ
set_option linter.unusedVariables false
set_option linter.unusedSimpArgs false
theorem three_but {w0 W : World} {g : Nat} {a0 a1 a2 : Addr} {x y z : Value} (hb : But g w0 W) (n0 : a0.block ≠ g) (n1 : a1.block ≠ g) (n2 : a2.block ≠ g) (h0 : w0.cell? a0 = some x) (h1 : w0.cell? a1 = some y) (h2 : w0.cell? a2 = some z) : W.cell? a0 = some x ∧ W.cell? a1 = some y ∧ W.cell? a2 = some z :=
  ⟨by rw [hb.cell (cell_lt' h0) n0]; exact h0, by rw [hb.cell (cell_lt' h1) n1]; exact h1, by rw [hb.cell (cell_lt' h2) n2]; exact h2⟩
theorem But.trans {g : Nat} {a b c : World} (h : But g a b) (k : But g b c) : But g a c :=
  ⟨k.os.trans h.os, k.tape.trans h.tape, k.output.trans h.output, Nat.le_trans h.size k.size, fun i hi hn => (k.block i (Nat.lt_of_lt_of_le hi h.size) hn).trans (h.block i hi hn)⟩
/-- A fork. -/
def Forked (W h rest : Int) (w : World) (e : Ending) (w' : World) : Prop := ∃ gc, w.heap.size ≤ gc ∧ e = .returned (.pointer (some ⟨gc, 0, none⟩)) ∧ BearAt w' gc W h rest ∧ Below w.heap.size w w'
theorem bfork_any {gb : Nat} {W h rest : Int} {w : World} (A : BearAt w gb W h rest) : Calls Try.prog 36 #[.pointer (some ⟨gb, 0, none⟩)] w (Forked W h rest w) := by
  obtain ⟨c0, c1, c2, f2, lt⟩ := A
  go_enter Try.func36, Try.ntmps36
  go_wp2
  go_ret
  refine ⟨w.heap.size, Nat.le_refl _, rfl, ?_, (Below.refl _ _).alloc (Nat.le_refl _) _⟩
  constructor <;> simp [go_sem]
set_option maxHeartbeats 4000000 in
set_option maxRecDepth 100000 in
theorem growthBears_walk (a0 a1 : Int) (a2 : Option Addr) (c2 : Nat) (l : List (List Int)) (a3 : Int) (w : World) (w0 : (Lit.int .i64 a0).wf = true) (w1 : (Lit.int .i64 a1).wf = true) (hr2 : Op.IntRows w a2 3 l) (hc2 : l.length ≤ c2) (hn2 : a2 = none → c2 = 0) (hm : c2 ≤ maxLen) (w3 : (Lit.int .i64 a3).wf = true) :
    Calls Try.prog 15 #[.int .i64 a0, .int .i64 a1, .slice a2 l.length c2, .int .i64 a3] w fun e w' => e = .returned (.bool true) ∧ Below w.heap.size w w' := by
  have HR := Aside0.mk hr2
  clear hr2 hn2 w0 w1 w3
  unfold maxLen at hm
  by_cases hok : (a0 = 1 ∨ a0 = 2 ∨ a0 = 3) ∧ (a1 = 1 ∨ a1 = 3)
  · obtain ⟨hc, hr⟩ := hok
    have HC := Aside0.mk hc
    have HRR := Aside0.mk hr
    obtain ⟨W, hW⟩ : ∃ W, Gm.whole a0 = W := ⟨_, rfl⟩
    obtain ⟨h, hh⟩ : ∃ h, Gm.half a0 a1 = h := ⟨_, rfl⟩
    obtain ⟨P, hP⟩ : ∃ P, Gm.gp a0 = P := ⟨_, rfl⟩
    obtain ⟨up, hup, huh⟩ : ∃ up : Bool, (a1 = 1 ∧ up = true ∨ a1 = 3 ∧ up = false) ∧ (up = true ∧ W = 2 * h ∨ up = false ∧ h = 0) := by
      rcases hr with h1 | h3
      · refine ⟨true, Or.inl ⟨h1, rfl⟩, Or.inl ⟨rfl, ?_⟩⟩
        rw [← hW, ← hh, h1]; exact (Gm.half_one a0).symm
      · refine ⟨false, Or.inr ⟨h3, rfl⟩, Or.inr ⟨rfl, ?_⟩⟩
        rw [← hh, h3]; exact Gm.half_no (by decide)
    have HUP := Aside0.mk hup
    have HUH := Aside0.mk huh
    have GG := Aside0.mk (show Good W h 0 by rw [← hW, ← hh]; exact good_new a0 a1)
    have HWP := Aside0.mk (show W = 1000000000 * P by rw [← hW, ← hP]; rfl)
    obtain ⟨pp0, pp1⟩ : 360 ≤ P ∧ P ≤ 133590 := by rw [← hP]; exact gp_bd a0
    have HWW := Aside0.mk hW
    have HHH := Aside0.mk hh
    have HPP := Aside0.mk hP
    clear hc hr hW hh hP hup huh
    go_enter Try.func15, Try.ntmps15
    go_wp2_with fail
    refine (bnew_any HC.out HRR.out _).mono ?_
    rintro e w1 ⟨hb, ga, hga, rfl, A⟩
    rw [HWW.out, HHH.out] at A
    have AA := Aside0.mk A
    have HB := Aside0.mk hb
    clear A hb
    go_wp2_with fail
    refine (rnew_any HC.out HUP.out _).mono ?_
    rintro e w2 ⟨hb, gr, hgr, rfl, A⟩
    rw [HPP.out] at A
    have A2 := Aside0.mk A
    have AA2 := Aside0.mk (AA.out.below hb)
    have HB2 := Aside0.mk (below_step HB.out hb)
    have hne : ga ≠ gr := by have := AA.out.lt; omega
    have hgr2 : w.heap.size ≤ gr := Nat.le_trans HB.out.size hgr
    clear A hb AA HB hgr
    go_wp2_with fail
    refine (grow_awake _).mono ?_
    rintro e w3 ⟨rfl, hb⟩
    have R3 := Aside0.mk (A2.out.below hb)
    have B3 := Aside0.mk (AA2.out.below hb)
    have HB3 := Aside0.mk (below_step HB2.out hb)
    clear hb A2 AA2 HB2
    go_wp2_with fail
    go_loopg [9, 13] 41 (fun gq bv iv w' => ∃ (k : Nat) (g : Nat) (rest : Int), k ≤ 40 ∧ k ≤ l.length ∧ iv = .int .i64 k ∧ bv = .pointer (some ⟨g, 0, none⟩) ∧ g ≠ gr ∧ w.heap.size ≤ g ∧ Aside0 (Good W h rest) ∧ Aside0 (BearAt w' g W h rest) ∧ Aside0 (RefAt w' gr P up rest) ∧ Aside0 (Below w.heap.size w w') ∧ Aside0 (gq = 41 - k))
    case atStart => exact ⟨0, ga, 0, by omega, by omega, rfl, rfl, hne, hga, GG, B3, R3, HB3, ⟨rfl⟩⟩
    case round =>
      obtain ⟨k, g, rest, k40, kl, rfl, rfl, hng, hgw, hG, hA, hRf, hB, hg⟩ := hrel
      by_cases hlt : k < l.length ∧ k < 40
      · obtain ⟨hlt1, hlt2⟩ := hlt
        obtain ⟨ad, x0, y0, z0, e0, hrow, q0, q1, q2, wx, wy, wz⟩ := (HR.out.below hB.out).three k hlt1
        subst e0
        rw [add_field _ _ _ (by decide)] at q1 q2
        have hadlt : (ad.add (k * 3)).block < wr.heap.size := cell_lt' q0
        have hadlt0 : (ad.add (k * 3)).block < w.heap.size := by
          obtain ⟨ad', x', y', z', e0', _, q0', _⟩ := HR.out.three k hlt1
          injection e0' with e0'
          subst e0'
          exact cell_lt' q0'
        have kk0 : (0 : Int) ≤ (k : Int) := by omega
        have kk1 : (k : Int) < (l.length : Int) := by omega
        have q0' : wr.cell? (ad.add (k * 3)) = some (.int .i64 x0) := q0
        have Q := Aside0.mk (And.intro q0' (And.intro q1 q2))
        clear q0 hrow wx wy wz
        clear q0' q1 q2
        have hng0 : (ad.add (k * 3)).block ≠ g := by omega
        go_wp2_with fail
        obtain ⟨vx, ve, vr, hv⟩ : ∃ vx ve vr, Gm.bear W h rest x0 y0 z0 = (vx, ve, vr) := ⟨_, _, _, rfl⟩
        have HV := Aside0.mk hv
        have GN := Aside0.mk (show Good W h vr by have := good_bear (bal := x0) (rate := y0) (n := z0) hG.out; rw [hv] at this; exact this)
        clear hv
        go_cut [14, 15] (fun s14 s15 wx => s14 = .int .i64 vx ∧ s15 = .int .i64 ve ∧ Aside0 (BearAt wx g W h vr) ∧ Aside0 (But g wr wx))
        case first =>
          have qq0 := Q.out.1
          have qq1 := Q.out.2.1
          have qq2 := Q.out.2.2
          have HAD := Aside0.mk (hA.out.below (Below.drew (Below.refl wr.heap.size wr)))
          go_region_with ((go_at_call 30; refine (bear_any HAD.out hG.out).mono ?_; rw [HV.out]; rintro e w5 ⟨rfl, A, hbut⟩; have A5 := Aside0.mk A; have B5 := Aside0.mk hbut; clear A hbut))
          all_goals
            clear qq0 qq1 qq2
            go_wp2_with fail
            go_meet
            case rel => exact ⟨rfl, rfl, ⟨A5.out.below (by first | exact Below.refl _ _ | exact Below.drew (Below.refl _ _))⟩, ⟨(But.of (gb := g) (Below.drew (Below.refl wr.heap.size wr))).trans (B5.out.trans (But.of (by first | exact Below.refl _ _ | exact Below.drew (Below.refl _ _))))⟩⟩
        case rest =>
          obtain ⟨rfl, rfl, A5, B5⟩ := hcut
          have Q5 := Aside0.mk (three_but (a1 := ⟨(ad.add (k * 3)).block, (ad.add (k * 3)).off + 1, none⟩) (a2 := ⟨(ad.add (k * 3)).block, (ad.add (k * 3)).off + 2, none⟩) B5.out hng0 hng0 hng0 Q.out.1 Q.out.2.1 Q.out.2.2)
          have R5 := Aside0.mk (hRf.out.but B5.out (Ne.symm hng))
          have HB5 := Aside0.mk (B5.out.below hB.out hB.out.size hgw)
          have hadgr : (ad.add (k * 3)).block ≠ gr := by omega
          clear hA hRf hB
          go_wp2_with fail
          go_cut [16, 17] (fun s16 s17 wx => s16 = .int .i64 vx ∧ s17 = .int .i64 ve ∧ Aside0 (RefAt wx gr P up vr) ∧ Aside0 (But gr wc wx))
          case first =>
            have qq0 := Q5.out.1
            have qq1 := Q5.out.2.1
            have qq2 := Q5.out.2.2
            have HRD := Aside0.mk (R5.out.below (Below.drew (Below.refl wc.heap.size wc)))
            go_region_with ((go_at_call 35; refine (rbear_any HRD.out pp0 pp1 HWP.out HUH.out hG.out).mono ?_; rw [HV.out]; rintro e w6 ⟨rfl, A, hbut⟩; have A6 := Aside0.mk A; have B6 := Aside0.mk hbut; clear A hbut))
            all_goals
              clear qq0 qq1 qq2
              go_wp2_with fail
              go_meet
              case rel => exact ⟨rfl, rfl, ⟨A6.out.below (by first | exact Below.refl _ _ | exact Below.drew (Below.refl _ _))⟩, ⟨(But.of (gb := gr) (Below.drew (Below.refl wc.heap.size wc))).trans (B6.out.trans (But.of (by first | exact Below.refl _ _ | exact Below.drew (Below.refl _ _))))⟩⟩
          case rest =>
            obtain ⟨rfl, rfl, R6, B6⟩ := hcut
            have A6 := Aside0.mk (A5.out.but B6.out hng)
            have HB6 := Aside0.mk (B6.out.below HB5.out HB5.out.size hgr2)
            have rc2 := R6.out.c2
            clear A5 R5 B5 B6 Q Q5 hG HB5
            go_wp2_with fail
            go_quiet ((go_at_call 31; refine (brest_any (A6.out.below (by first | exact Below.refl _ _ | exact Below.drew (Below.refl _ _) | exact pw_below_drewN (Below.refl _ _) _))).mono ?_; rintro e w' ⟨rfl, rfl⟩; exact ⟨rfl, _, rfl⟩))
            by_cases hf : (k : Int) = a3
            · have hfd : decide ((k : Int) = a3) = true := decide_eq_true hf
              have A7 := A6
              have HB7 := HB6
              have R7 := R6
              go_wp2_with fail
              refine (bfork_any (A6.out.below (by first | exact Below.refl _ _ | exact Below.drew (Below.refl _ _) | exact pw_below_drewN (Below.refl _ _) _))).mono ?_
              rintro e w7 ⟨gc, hgc, rfl, Ac, hb⟩
              have hbw := Aside0.mk (below_step (pw_below_drewN (Below.refl wc.heap.size wc) _) hb)
              have C7 := Aside0.mk Ac
              have A8 := Aside0.mk (A6.out.below hbw.out)
              have R8 := Aside0.mk (R6.out.below hbw.out)
              have HB8 := Aside0.mk (below_step HB6.out hbw.out)
              have hgc2 : wc.heap.size ≤ gc := by simpa using hgc
              have hwc := HB6.out.size
              have hgcr : gc ≠ gr := by have := R6.out.lt; omega
              have hgcg : gc ≠ g := by have := A6.out.lt; omega
              clear Ac hb hgc A6 R6 HB6 hbw A7 HB7 R7
              go_wp2_with fail
              refine (bear_any A8.out GN.out).mono ?_
              rintro e w8 ⟨rfl, A, hbut⟩
              have C9 := Aside0.mk (C7.out.but hbut hgcg)
              have R9 := Aside0.mk (R8.out.but hbut (Ne.symm hng))
              have HB9 := Aside0.mk (hbut.below HB8.out HB8.out.size hgw)
              clear A hbut A8 R8 HB8 C7
              go_wp2_with fail
              go_roundg (41 - (k + 1))
              case measure => have := hg.out; omega
              case rel => exact ⟨k + 1, gc, vr, by omega, by omega, by simp; try omega, rfl, hgcr, by omega, GN, C9, R9, HB9, ⟨rfl⟩⟩
            · have hfd : decide ((k : Int) = a3) = false := decide_eq_false hf
              have hf2 : (a3 = (k : Int)) = False := eq_false (fun h => hf h.symm)
              have hf3 : ((k : Int) = a3) = False := eq_false hf
              have hf4 : ((k : Int) == a3) = false := by simpa using hf
              clear hf
              go_wp2_with fail
              go_roundg (41 - (k + 1))
              case measure => have := hg.out; omega
              case rel => exact ⟨k + 1, g, vr, by omega, by omega, by simp, rfl, hng, hgw, GN, ⟨A6.out.below (by first | exact Below.refl _ _ | exact Below.drew (Below.refl _ _) | exact pw_below_drewN (Below.refl _ _) _)⟩, ⟨R6.out.below (by first | exact Below.refl _ _ | exact Below.drew (Below.refl _ _) | exact pw_below_drewN (Below.refl _ _) _)⟩, ⟨below_step HB6.out (by first | exact Below.refl _ _ | exact Below.drew (Below.refl _ _) | exact pw_below_drewN (Below.refl _ _) _)⟩, ⟨rfl⟩⟩
      · rcases (by omega : l.length ≤ k ∨ (k < l.length ∧ 40 ≤ k)) with h1 | ⟨h1, h2⟩
        all_goals
          clear hlt
          have HBF := hB
          clear hA hG hRf hB
          go_wp2_with fail
          go_ret
          exact ⟨rfl, HBF.out⟩
  · by_cases hc : a0 = 1 ∨ a0 = 2 ∨ a0 = 3
    · have hr : ¬ (a1 = 1 ∨ a1 = 3) := fun h => hok ⟨hc, h⟩
      have HC := Aside0.mk hc
      have HRR := Aside0.mk hr
      have HOK := Aside0.mk hok
      clear hc hr hok
      go_enter Try.func15, Try.ntmps15
      go_wp2_with fail
      refine (bnew_no_round HC.out HRR.out _).mono ?_
      rintro e w1 ⟨rfl, hb⟩
      have HB := Aside0.mk hb
      clear hb
      go_wp2_with fail
      refine (rnew_no HOK.out _).mono ?_
      rintro e w2 ⟨rfl, ⟨m1, rfl⟩⟩
      go_wp2_with fail
      refine (grow_awake _).mono ?_
      rintro e w3 ⟨rfl, hb⟩
      have HB3 := Aside0.mk (below_step (pw_below_drewN HB.out m1) hb)
      clear hb
      go_wp2_with fail
      go_ret
      exact ⟨rfl, HB3.out⟩
    · have HC := Aside0.mk hc
      have HOK := Aside0.mk hok
      clear hc hok
      go_enter Try.func15, Try.ntmps15
      go_wp2_with fail
      refine (bnew_no_count HC.out _).mono ?_
      rintro e w1 ⟨rfl, hb⟩
      have HB := Aside0.mk hb
      clear hb
      go_wp2_with fail
      refine (rnew_no HOK.out _).mono ?_
      rintro e w2 ⟨rfl, ⟨m1, rfl⟩⟩
      go_wp2_with fail
      refine (grow_awake _).mono ?_
      rintro e w3 ⟨rfl, hb⟩
      have HB3 := Aside0.mk (below_step (pw_below_drewN HB.out m1) hb)
      clear hb
      go_wp2_with fail
      go_ret
      exact ⟨rfl, HB3.out⟩
end Go.Proofs.Ytliapjhjofmliaa.H
