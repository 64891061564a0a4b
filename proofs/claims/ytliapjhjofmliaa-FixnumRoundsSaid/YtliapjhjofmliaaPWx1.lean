-- Written by a program of this session (wip/tools/myprint.py) with the help of the printer of the kit; Lean checks it.
import Derived.Test.YtliapjhjofmliaaPWx0
namespace Go.Proofs.Ytliapjhjofmliaa.PW
open Go.RowKit Go.Proofs.YtliapjhjofmliaaW.PrintWords Go.Proofs.YtliapjhjofmliaaW.PrintLast Go.Proofs.YtliapjhjofmliaaW.PrintMore Go.Proofs.Ytliapjhjofmliaa.HW
attribute [local go_sem] run_makeFunc_ max2_int min2_int max_two min_two max_three min_three max_four min_four   -- for this text's walks alone
set_option linter.unusedVariables false
set_option linter.unusedSimpArgs false

/-! ### fixnum_Fits: function 26 -/
mutual
def fixnum_wide_whole.j0 : Nat → Int → Int → Int → Int → Option (Int)
  | 0, _, _, _, _ => none
  | k + 1, x1, x2, x9, x10 => if x2 = 1 then (fixnum_wide_whole.j1 k x2 x9 x10 (wrap64 (x1 - x10)) (decide (x10 ≥ (wrap64 (x1 - x10))))) else (fixnum_wide_whole.j1 k x2 x9 x10 (wrap64 (x1 - x10)) false)
def fixnum_wide_whole.j1 : Nat → Int → Int → Int → Int → Bool → Option (Int)
  | 0, _, _, _, _, _ => none
  | k + 1, x2, x9, x10, x11, x49 => if x49 = true then ((Go.Proofs.Ytliapjhjofmliaa.H.fixnum_fit.f (wrap64 (x9 + 1))).bind fun t106 => (some t106)) else (if x2 = 2 then (if x10 > x11 then ((Go.Proofs.Ytliapjhjofmliaa.H.fixnum_fit.f (wrap64 (x9 + 1))).bind fun t107 => (some t107)) else (if x10 = x11 then (if (Int.tmod x9 2) = 0 then ((Go.Proofs.Ytliapjhjofmliaa.H.fixnum_fit.f x9).bind fun t108 => (some t108)) else ((Go.Proofs.Ytliapjhjofmliaa.H.fixnum_fit.f (wrap64 (x9 + 1))).bind fun t109 => (some t109))) else ((Go.Proofs.Ytliapjhjofmliaa.H.fixnum_fit.f x9).bind fun t110 => (some t110)))) else ((Go.Proofs.Ytliapjhjofmliaa.H.fixnum_fit.f x9).bind fun t111 => (some t111)))
end
def fixnum_wide_whole.f (k : Nat) (a0_0 : Bool) (a0_1 : Int) (a0_2 : Int) (a1 : Int) (a2 : Int) : Option (Int) := (Go.Proofs.Ytliapjhjofmliaa.H.fixnum_size.f a1).bind fun t102 => ((Go.Proofs.Ytliapjhjofmliaa.H.fixnum_must.f (decide (a0_1 < t102)) 3).bind fun _ => ((Go.Proofs.Ytliapjhjofmliaa.H.fixnum_size.f a1).bind fun t103 => ((Go.Proofs.Ytliapjhjofmliaa.H.bits_Div64.f a0_1 a0_2 t103).bind fun bt104 => ((Go.Proofs.Ytliapjhjofmliaa.H.fixnum_must.f (decide (bt104.1 ≤ 1000000000000001)) 3).bind fun _ => (if a0_0 = true then (if (wrap64 (bt104.2)) > 0 then (fixnum_wide_whole.j0 k a1 a2 (wrap64 ((wrap64 (-(wrap64 (bt104.1)))) - 1)) (wrap64 (a1 - (wrap64 (bt104.2))))) else (fixnum_wide_whole.j0 k a1 a2 (wrap64 (-(wrap64 (bt104.1)))) (wrap64 (bt104.2)))) else (fixnum_wide_whole.j0 k a1 a2 (wrap64 (bt104.1)) (wrap64 (bt104.2))))))))
theorem fixnum_wide_whole.mono_l : ∀ k, (∀ y0 y1 y2 y3, LeO (fixnum_wide_whole.j0 k y0 y1 y2 y3) (fixnum_wide_whole.j0 (k + 1) y0 y1 y2 y3)) ∧ (∀ y0 y1 y2 y3 y4, LeO (fixnum_wide_whole.j1 k y0 y1 y2 y3 y4) (fixnum_wide_whole.j1 (k + 1) y0 y1 y2 y3 y4))
  | 0 => ⟨fun _ _ _ _ r h => by simp [fixnum_wide_whole.j0] at h, fun _ _ _ _ _ r h => by simp [fixnum_wide_whole.j1] at h⟩
  | k + 1 => by
    obtain ⟨ih0, ih1⟩ := fixnum_wide_whole.mono_l k
    refine ⟨?_, ?_⟩
    · intro y0 y1 y2 y3
      unfold fixnum_wide_whole.j0
      repeat' first
      | (with_reducible exact ih0 _ _ _ _)
      | (with_reducible exact ih1 _ _ _ _ _)
      | (with_reducible exact LeO.refl _)
      | (with_reducible exact LeO.none _)
      | (with_reducible refine LeO.ite ?_ ?_)
      | (with_reducible refine LeO.bind ?_ (fun _ => ?_))
      | exact ih0 _ _ _ _
      | exact ih1 _ _ _ _ _
      | exact LeO.none _
      | refine LeO.ite ?_ ?_
      | refine LeO.bind ?_ (fun _ => ?_)
    · intro y0 y1 y2 y3 y4
      unfold fixnum_wide_whole.j1
      repeat' first
      | (with_reducible exact ih0 _ _ _ _)
      | (with_reducible exact ih1 _ _ _ _ _)
      | (with_reducible exact LeO.refl _)
      | (with_reducible exact LeO.none _)
      | (with_reducible refine LeO.ite ?_ ?_)
      | (with_reducible refine LeO.bind ?_ (fun _ => ?_))
      | exact ih0 _ _ _ _
      | exact ih1 _ _ _ _ _
      | exact LeO.none _
      | refine LeO.ite ?_ ?_
      | refine LeO.bind ?_ (fun _ => ?_)
theorem fixnum_wide_whole.mono : ∀ a0 a1 a2 a3 a4 k, LeO (fixnum_wide_whole.f k a0 a1 a2 a3 a4) (fixnum_wide_whole.f (k + 1) a0 a1 a2 a3 a4) := by
  intro a0 a1 a2 a3 a4 k
  obtain ⟨ih0, ih1⟩ := fixnum_wide_whole.mono_l k
  unfold fixnum_wide_whole.f
  repeat' first
      | (with_reducible exact ih0 _ _ _ _)
      | (with_reducible exact ih1 _ _ _ _ _)
      | (with_reducible exact LeO.refl _)
      | (with_reducible exact LeO.none _)
      | (with_reducible refine LeO.ite ?_ ?_)
      | (with_reducible refine LeO.bind ?_ (fun _ => ?_))
      | exact ih0 _ _ _ _
      | exact ih1 _ _ _ _ _
      | exact LeO.none _
      | refine LeO.ite ?_ ?_
      | refine LeO.bind ?_ (fun _ => ?_)
set_option maxHeartbeats 8000000 in
set_option maxRecDepth 100000 in
theorem fixnum_wide_whole.calls (k : Nat) (a0_0 : Bool) (a0_1 : Int) (a0_2 : Int) (a1 : Int) (a2 : Int) (r : Int) (w : World) (h : fixnum_wide_whole.f k a0_0 a0_1 a0_2 a1 a2 = some r) :
    Calls Try.prog 40 #[.agg #[.bool a0_0, .int .u64 a0_1, .int .u64 a0_2], .int .i64 a1, .int .i64 a2] w fun e w' => e = .returned (.int .i64 r) ∧ Below w.heap.size w w' := by
  have hu68 := Try.underlying68
  have HB := Aside0.mk (Below.refl w.heap.size w)
  have H : ((Go.Proofs.Ytliapjhjofmliaa.H.fixnum_size.f a1).bind fun t102 => ((Go.Proofs.Ytliapjhjofmliaa.H.fixnum_must.f (decide (a0_1 < t102)) 3).bind fun _ => ((Go.Proofs.Ytliapjhjofmliaa.H.fixnum_size.f a1).bind fun t103 => ((Go.Proofs.Ytliapjhjofmliaa.H.bits_Div64.f a0_1 a0_2 t103).bind fun bt104 => ((Go.Proofs.Ytliapjhjofmliaa.H.fixnum_must.f (decide (bt104.1 ≤ 1000000000000001)) 3).bind fun _ => (if a0_0 = true then (if (wrap64 (bt104.2)) > 0 then (fixnum_wide_whole.j0 k a1 a2 (wrap64 ((wrap64 (-(wrap64 (bt104.1)))) - 1)) (wrap64 (a1 - (wrap64 (bt104.2))))) else (fixnum_wide_whole.j0 k a1 a2 (wrap64 (-(wrap64 (bt104.1)))) (wrap64 (bt104.2)))) else (fixnum_wide_whole.j0 k a1 a2 (wrap64 (bt104.1)) (wrap64 (bt104.2))))))))) = some r := h
  clear h
  replace H := Option.bind_eq_some_iff.mp H
  obtain ⟨t102, A40, H⟩ := H
  replace H : ((Go.Proofs.Ytliapjhjofmliaa.H.fixnum_must.f (decide (a0_1 < t102)) 3).bind fun _ => ((Go.Proofs.Ytliapjhjofmliaa.H.fixnum_size.f a1).bind fun t103 => ((Go.Proofs.Ytliapjhjofmliaa.H.bits_Div64.f a0_1 a0_2 t103).bind fun bt104 => ((Go.Proofs.Ytliapjhjofmliaa.H.fixnum_must.f (decide (bt104.1 ≤ 1000000000000001)) 3).bind fun _ => (if a0_0 = true then (if (wrap64 (bt104.2)) > 0 then (fixnum_wide_whole.j0 k a1 a2 (wrap64 ((wrap64 (-(wrap64 (bt104.1)))) - 1)) (wrap64 (a1 - (wrap64 (bt104.2))))) else (fixnum_wide_whole.j0 k a1 a2 (wrap64 (-(wrap64 (bt104.1)))) (wrap64 (bt104.2)))) else (fixnum_wide_whole.j0 k a1 a2 (wrap64 (bt104.1)) (wrap64 (bt104.2)))))))) = some r := H
  have A4 := Aside0.mk A40
  clear A40
  replace H := Option.bind_eq_some_iff.mp H
  obtain ⟨_, A50, H⟩ := H
  replace H : ((Go.Proofs.Ytliapjhjofmliaa.H.fixnum_size.f a1).bind fun t103 => ((Go.Proofs.Ytliapjhjofmliaa.H.bits_Div64.f a0_1 a0_2 t103).bind fun bt104 => ((Go.Proofs.Ytliapjhjofmliaa.H.fixnum_must.f (decide (bt104.1 ≤ 1000000000000001)) 3).bind fun _ => (if a0_0 = true then (if (wrap64 (bt104.2)) > 0 then (fixnum_wide_whole.j0 k a1 a2 (wrap64 ((wrap64 (-(wrap64 (bt104.1)))) - 1)) (wrap64 (a1 - (wrap64 (bt104.2))))) else (fixnum_wide_whole.j0 k a1 a2 (wrap64 (-(wrap64 (bt104.1)))) (wrap64 (bt104.2)))) else (fixnum_wide_whole.j0 k a1 a2 (wrap64 (bt104.1)) (wrap64 (bt104.2))))))) = some r := H
  have A5 := Aside0.mk A50
  clear A50
  replace H := Option.bind_eq_some_iff.mp H
  obtain ⟨t103, A60, H⟩ := H
  replace H : ((Go.Proofs.Ytliapjhjofmliaa.H.bits_Div64.f a0_1 a0_2 t103).bind fun bt104 => ((Go.Proofs.Ytliapjhjofmliaa.H.fixnum_must.f (decide (bt104.1 ≤ 1000000000000001)) 3).bind fun _ => (if a0_0 = true then (if (wrap64 (bt104.2)) > 0 then (fixnum_wide_whole.j0 k a1 a2 (wrap64 ((wrap64 (-(wrap64 (bt104.1)))) - 1)) (wrap64 (a1 - (wrap64 (bt104.2))))) else (fixnum_wide_whole.j0 k a1 a2 (wrap64 (-(wrap64 (bt104.1)))) (wrap64 (bt104.2)))) else (fixnum_wide_whole.j0 k a1 a2 (wrap64 (bt104.1)) (wrap64 (bt104.2)))))) = some r := H
  have A6 := Aside0.mk A60
  obtain rfl : t102 = t103 := Option.some.inj (A4.out.symm.trans A6.out)
  clear A60
  replace H := Option.bind_eq_some_iff.mp H
  obtain ⟨⟨t104, t105⟩, A70, H⟩ := H
  replace H : ((Go.Proofs.Ytliapjhjofmliaa.H.fixnum_must.f (decide (t104 ≤ 1000000000000001)) 3).bind fun _ => (if a0_0 = true then (if (wrap64 (t105)) > 0 then (fixnum_wide_whole.j0 k a1 a2 (wrap64 ((wrap64 (-(wrap64 (t104)))) - 1)) (wrap64 (a1 - (wrap64 (t105))))) else (fixnum_wide_whole.j0 k a1 a2 (wrap64 (-(wrap64 (t104)))) (wrap64 (t105)))) else (fixnum_wide_whole.j0 k a1 a2 (wrap64 (t104)) (wrap64 (t105))))) = some r := H
  have A7 := Aside0.mk A70
  clear A70
  replace H := Option.bind_eq_some_iff.mp H
  obtain ⟨_, A80, H⟩ := H
  replace H : (if a0_0 = true then (if (wrap64 (t105)) > 0 then (fixnum_wide_whole.j0 k a1 a2 (wrap64 ((wrap64 (-(wrap64 (t104)))) - 1)) (wrap64 (a1 - (wrap64 (t105))))) else (fixnum_wide_whole.j0 k a1 a2 (wrap64 (-(wrap64 (t104)))) (wrap64 (t105)))) else (fixnum_wide_whole.j0 k a1 a2 (wrap64 (t104)) (wrap64 (t105)))) = some r := H
  have A8 := Aside0.mk A80
  clear A80
  have HC9 := Aside0.mk H
  clear H
  go_enter Try.func40, Try.ntmps40
  go_upto_if 36 with (first | ((with_reducible refine gate_dst (N := 3) rfl ?_); refine box_event ?hg (N := 3) ?hd (cs := #[.bool a0_0, .int .u64 a0_1, .int .u64 a0_2]) (t := 68) ?hr ?_; (case hd => rfl); (case hg => rfl); (case hr => first | (go_simp; done) | (go_simp; rfl)); intro gb101 hg w10 hbox hb; have n0_ := Aside0.mk (below_step (by repeat (first | (with_reducible first | exact HB.out | apply below_alloc | apply pw_below_drewN | apply below_drew1) | exact HB.out)) hb); have n1_ := Aside0.mk (hbox); have n2_ := Aside0.mk ((by rw [hg]; exact (below_size (by repeat (first | (with_reducible first | exact HB.out | apply below_alloc | apply pw_below_drewN | apply below_drew1) | exact HB.out))) : w.heap.size ≤ gb101)); have n3_ := Aside0.mk ((by rw [hg]; exact (below_size (by repeat (first | (with_reducible first | exact HB.out | apply below_alloc | apply pw_below_drewN | apply below_drew1) | exact HB.out))) : w.heap.size ≤ gb101)); clear HB; have HB := n0_; have BK101 := n1_; have GW101 := n2_; have GE101 := n3_; clear n0_ n1_ n2_ n3_; clear hb hbox hg; (try have hu101_0 : w10.cell? ⟨gb101, 0, none⟩ = some (.bool a0_0) := (blk_cell BK101.out 0).trans rfl); (try have hu101_1 : w10.cell? ⟨gb101, 1, none⟩ = some (.int .u64 a0_1) := (blk_cell BK101.out 1).trans rfl); (try have hu101_2 : w10.cell? ⟨gb101, 2, none⟩ = some (.int .u64 a0_2) := (blk_cell BK101.out 2).trans rfl); (try have hv101_0 := blk_frozen BK101.out 0); (try have hv101_1 := blk_frozen BK101.out 1); (try have hv101_2 := blk_frozen BK101.out 2); have hcz11_0 : w10.cell? ⟨gb101, 0, none⟩ = some (.bool a0_0) := (blk_cell BK101.out 0).trans rfl; have hcz11_1 : w10.cell? ⟨gb101, 1, none⟩ = some (.int .u64 a0_1) := (blk_cell BK101.out 1).trans rfl; have hcz11_2 : w10.cell? ⟨gb101, 2, none⟩ = some (.int .u64 a0_2) := (blk_cell BK101.out 2).trans rfl; have hfz11_0 := blk_frozen BK101.out 0; have hfz11_1 := blk_frozen BK101.out 1; have hfz11_2 := blk_frozen BK101.out 2) | (go_at_call 51; (with_reducible refine (Go.Proofs.Ytliapjhjofmliaa.H.fixnum_size.calls a1 t102 _ A4.out).mono ?_); rintro e w' ⟨rfl, ⟨nd, rfl⟩⟩; (try first | exact ⟨rfl, _, World.drewN_drewN _ _ _⟩ | exact ⟨rfl, _, Eq.trans (World.drewN_drewN _ _ _) (congrArg (World.drewN _) (Nat.add_assoc _ _ _))⟩)) | (go_at_call 38; (with_reducible refine (Go.Proofs.Ytliapjhjofmliaa.H.fixnum_must.calls (decide (a0_1 < t102)) 3  _ A5.out).mono ?_); rintro e w' ⟨rfl, ⟨nd, rfl⟩⟩; (try first | exact ⟨rfl, _, World.drewN_drewN _ _ _⟩ | exact ⟨rfl, _, Eq.trans (World.drewN_drewN _ _ _) (congrArg (World.drewN _) (Nat.add_assoc _ _ _))⟩)) | (go_at_call 51; (with_reducible refine (Go.Proofs.Ytliapjhjofmliaa.H.fixnum_size.calls a1 t102 _ A6.out).mono ?_); rintro e w' ⟨rfl, ⟨nd, rfl⟩⟩; (try first | exact ⟨rfl, _, World.drewN_drewN _ _ _⟩ | exact ⟨rfl, _, Eq.trans (World.drewN_drewN _ _ _) (congrArg (World.drewN _) (Nat.add_assoc _ _ _))⟩)) | (go_at_call 52; (with_reducible refine (Go.Proofs.Ytliapjhjofmliaa.H.bits_Div64.calls a0_1 a0_2 t102 t104 t105 _ A7.out).mono ?_); rintro e w' ⟨rfl, ⟨nd, rfl⟩⟩; (try first | exact ⟨rfl, _, World.drewN_drewN _ _ _⟩ | exact ⟨rfl, _, Eq.trans (World.drewN_drewN _ _ _) (congrArg (World.drewN _) (Nat.add_assoc _ _ _))⟩)) | (go_at_call 38; (with_reducible refine (Go.Proofs.Ytliapjhjofmliaa.H.fixnum_must.calls (decide (t104 ≤ 1000000000000001)) 3  _ A8.out).mono ?_); rintro e w' ⟨rfl, ⟨nd, rfl⟩⟩; (try first | exact ⟨rfl, _, World.drewN_drewN _ _ _⟩ | exact ⟨rfl, _, Eq.trans (World.drewN_drewN _ _ _) (congrArg (World.drewN _) (Nat.add_assoc _ _ _))⟩)))
  repeat (go_quiet (first | ((with_reducible refine gate_dst (N := 3) rfl ?_); refine box_event ?hg (N := 3) ?hd (cs := #[.bool a0_0, .int .u64 a0_1, .int .u64 a0_2]) (t := 68) ?hr ?_; (case hd => rfl); (case hg => rfl); (case hr => first | (go_simp; done) | (go_simp; rfl)); intro gb101 hg w10 hbox hb; have n0_ := Aside0.mk (below_step (by repeat (first | (with_reducible first | exact HB.out | apply below_alloc | apply pw_below_drewN | apply below_drew1) | exact HB.out)) hb); have n1_ := Aside0.mk (hbox); have n2_ := Aside0.mk ((by rw [hg]; exact (below_size (by repeat (first | (with_reducible first | exact HB.out | apply below_alloc | apply pw_below_drewN | apply below_drew1) | exact HB.out))) : w.heap.size ≤ gb101)); have n3_ := Aside0.mk ((by rw [hg]; exact (below_size (by repeat (first | (with_reducible first | exact HB.out | apply below_alloc | apply pw_below_drewN | apply below_drew1) | exact HB.out))) : w.heap.size ≤ gb101)); clear HB; have HB := n0_; have BK101 := n1_; have GW101 := n2_; have GE101 := n3_; clear n0_ n1_ n2_ n3_; clear hb hbox hg; (try have hu101_0 : w10.cell? ⟨gb101, 0, none⟩ = some (.bool a0_0) := (blk_cell BK101.out 0).trans rfl); (try have hu101_1 : w10.cell? ⟨gb101, 1, none⟩ = some (.int .u64 a0_1) := (blk_cell BK101.out 1).trans rfl); (try have hu101_2 : w10.cell? ⟨gb101, 2, none⟩ = some (.int .u64 a0_2) := (blk_cell BK101.out 2).trans rfl); (try have hv101_0 := blk_frozen BK101.out 0); (try have hv101_1 := blk_frozen BK101.out 1); (try have hv101_2 := blk_frozen BK101.out 2); have hcz11_0 : w10.cell? ⟨gb101, 0, none⟩ = some (.bool a0_0) := (blk_cell BK101.out 0).trans rfl; have hcz11_1 : w10.cell? ⟨gb101, 1, none⟩ = some (.int .u64 a0_1) := (blk_cell BK101.out 1).trans rfl; have hcz11_2 : w10.cell? ⟨gb101, 2, none⟩ = some (.int .u64 a0_2) := (blk_cell BK101.out 2).trans rfl; have hfz11_0 := blk_frozen BK101.out 0; have hfz11_1 := blk_frozen BK101.out 1; have hfz11_2 := blk_frozen BK101.out 2) | (go_at_call 51; (with_reducible refine (Go.Proofs.Ytliapjhjofmliaa.H.fixnum_size.calls a1 t102 _ A4.out).mono ?_); rintro e w' ⟨rfl, ⟨nd, rfl⟩⟩; (try first | exact ⟨rfl, _, World.drewN_drewN _ _ _⟩ | exact ⟨rfl, _, Eq.trans (World.drewN_drewN _ _ _) (congrArg (World.drewN _) (Nat.add_assoc _ _ _))⟩)) | (go_at_call 38; (with_reducible refine (Go.Proofs.Ytliapjhjofmliaa.H.fixnum_must.calls (decide (a0_1 < t102)) 3  _ A5.out).mono ?_); rintro e w' ⟨rfl, ⟨nd, rfl⟩⟩; (try first | exact ⟨rfl, _, World.drewN_drewN _ _ _⟩ | exact ⟨rfl, _, Eq.trans (World.drewN_drewN _ _ _) (congrArg (World.drewN _) (Nat.add_assoc _ _ _))⟩)) | (go_at_call 51; (with_reducible refine (Go.Proofs.Ytliapjhjofmliaa.H.fixnum_size.calls a1 t102 _ A6.out).mono ?_); rintro e w' ⟨rfl, ⟨nd, rfl⟩⟩; (try first | exact ⟨rfl, _, World.drewN_drewN _ _ _⟩ | exact ⟨rfl, _, Eq.trans (World.drewN_drewN _ _ _) (congrArg (World.drewN _) (Nat.add_assoc _ _ _))⟩)) | (go_at_call 52; (with_reducible refine (Go.Proofs.Ytliapjhjofmliaa.H.bits_Div64.calls a0_1 a0_2 t102 t104 t105 _ A7.out).mono ?_); rintro e w' ⟨rfl, ⟨nd, rfl⟩⟩; (try first | exact ⟨rfl, _, World.drewN_drewN _ _ _⟩ | exact ⟨rfl, _, Eq.trans (World.drewN_drewN _ _ _) (congrArg (World.drewN _) (Nat.add_assoc _ _ _))⟩)) | (go_at_call 38; (with_reducible refine (Go.Proofs.Ytliapjhjofmliaa.H.fixnum_must.calls (decide (t104 ≤ 1000000000000001)) 3  _ A8.out).mono ?_); rintro e w' ⟨rfl, ⟨nd, rfl⟩⟩; (try first | exact ⟨rfl, _, World.drewN_drewN _ _ _⟩ | exact ⟨rfl, _, Eq.trans (World.drewN_drewN _ _ _) (congrArg (World.drewN _) (Nat.add_assoc _ _ _))⟩))); go_upto_if 36 with (first | ((with_reducible refine gate_dst (N := 3) rfl ?_); refine box_event ?hg (N := 3) ?hd (cs := #[.bool a0_0, .int .u64 a0_1, .int .u64 a0_2]) (t := 68) ?hr ?_; (case hd => rfl); (case hg => rfl); (case hr => first | (go_simp; done) | (go_simp; rfl)); intro gb101 hg w10 hbox hb; have n0_ := Aside0.mk (below_step (by repeat (first | (with_reducible first | exact HB.out | apply below_alloc | apply pw_below_drewN | apply below_drew1) | exact HB.out)) hb); have n1_ := Aside0.mk (hbox); have n2_ := Aside0.mk ((by rw [hg]; exact (below_size (by repeat (first | (with_reducible first | exact HB.out | apply below_alloc | apply pw_below_drewN | apply below_drew1) | exact HB.out))) : w.heap.size ≤ gb101)); have n3_ := Aside0.mk ((by rw [hg]; exact (below_size (by repeat (first | (with_reducible first | exact HB.out | apply below_alloc | apply pw_below_drewN | apply below_drew1) | exact HB.out))) : w.heap.size ≤ gb101)); clear HB; have HB := n0_; have BK101 := n1_; have GW101 := n2_; have GE101 := n3_; clear n0_ n1_ n2_ n3_; clear hb hbox hg; (try have hu101_0 : w10.cell? ⟨gb101, 0, none⟩ = some (.bool a0_0) := (blk_cell BK101.out 0).trans rfl); (try have hu101_1 : w10.cell? ⟨gb101, 1, none⟩ = some (.int .u64 a0_1) := (blk_cell BK101.out 1).trans rfl); (try have hu101_2 : w10.cell? ⟨gb101, 2, none⟩ = some (.int .u64 a0_2) := (blk_cell BK101.out 2).trans rfl); (try have hv101_0 := blk_frozen BK101.out 0); (try have hv101_1 := blk_frozen BK101.out 1); (try have hv101_2 := blk_frozen BK101.out 2); have hcz11_0 : w10.cell? ⟨gb101, 0, none⟩ = some (.bool a0_0) := (blk_cell BK101.out 0).trans rfl; have hcz11_1 : w10.cell? ⟨gb101, 1, none⟩ = some (.int .u64 a0_1) := (blk_cell BK101.out 1).trans rfl; have hcz11_2 : w10.cell? ⟨gb101, 2, none⟩ = some (.int .u64 a0_2) := (blk_cell BK101.out 2).trans rfl; have hfz11_0 := blk_frozen BK101.out 0; have hfz11_1 := blk_frozen BK101.out 1; have hfz11_2 := blk_frozen BK101.out 2) | (go_at_call 51; (with_reducible refine (Go.Proofs.Ytliapjhjofmliaa.H.fixnum_size.calls a1 t102 _ A4.out).mono ?_); rintro e w' ⟨rfl, ⟨nd, rfl⟩⟩; (try first | exact ⟨rfl, _, World.drewN_drewN _ _ _⟩ | exact ⟨rfl, _, Eq.trans (World.drewN_drewN _ _ _) (congrArg (World.drewN _) (Nat.add_assoc _ _ _))⟩)) | (go_at_call 38; (with_reducible refine (Go.Proofs.Ytliapjhjofmliaa.H.fixnum_must.calls (decide (a0_1 < t102)) 3  _ A5.out).mono ?_); rintro e w' ⟨rfl, ⟨nd, rfl⟩⟩; (try first | exact ⟨rfl, _, World.drewN_drewN _ _ _⟩ | exact ⟨rfl, _, Eq.trans (World.drewN_drewN _ _ _) (congrArg (World.drewN _) (Nat.add_assoc _ _ _))⟩)) | (go_at_call 51; (with_reducible refine (Go.Proofs.Ytliapjhjofmliaa.H.fixnum_size.calls a1 t102 _ A6.out).mono ?_); rintro e w' ⟨rfl, ⟨nd, rfl⟩⟩; (try first | exact ⟨rfl, _, World.drewN_drewN _ _ _⟩ | exact ⟨rfl, _, Eq.trans (World.drewN_drewN _ _ _) (congrArg (World.drewN _) (Nat.add_assoc _ _ _))⟩)) | (go_at_call 52; (with_reducible refine (Go.Proofs.Ytliapjhjofmliaa.H.bits_Div64.calls a0_1 a0_2 t102 t104 t105 _ A7.out).mono ?_); rintro e w' ⟨rfl, ⟨nd, rfl⟩⟩; (try first | exact ⟨rfl, _, World.drewN_drewN _ _ _⟩ | exact ⟨rfl, _, Eq.trans (World.drewN_drewN _ _ _) (congrArg (World.drewN _) (Nat.add_assoc _ _ _))⟩)) | (go_at_call 38; (with_reducible refine (Go.Proofs.Ytliapjhjofmliaa.H.fixnum_must.calls (decide (t104 ≤ 1000000000000001)) 3  _ A8.out).mono ?_); rintro e w' ⟨rfl, ⟨nd, rfl⟩⟩; (try first | exact ⟨rfl, _, World.drewN_drewN _ _ _⟩ | exact ⟨rfl, _, Eq.trans (World.drewN_drewN _ _ _) (congrArg (World.drewN _) (Nat.add_assoc _ _ _))⟩))))
  (try simp only [Act.put, List.setIfInBounds_toArray, List.set_cons_zero, List.set_cons_succ])
  go_cut [9, 10] (fun v9 v10 wc => ∃ (kq : Nat) (x9_8 : Int) (x10_8 : Int), v9 = .int .i64 x9_8 ∧ v10 = .int .i64 x10_8 ∧ Aside0 (fixnum_wide_whole.j0 kq a1 a2 x9_8 x10_8 = some r) ∧ Aside0 (kq ≤ k) ∧ Aside0 (wc.heap[gb101]? = some (.cells #[.bool a0_0, .int .u64 a0_1, .int .u64 a0_2] 68 (0, 0))) ∧ Aside0 (Below w.heap.size w wc))
  case first =>
    have H := HC9.out
    clear HC9
    by_cases c12 : a0_0 = true
    · subst c12
      have H1 : (if (wrap64 (t105)) > 0 then (fixnum_wide_whole.j0 k a1 a2 (wrap64 ((wrap64 (-(wrap64 (t104)))) - 1)) (wrap64 (a1 - (wrap64 (t105))))) else (fixnum_wide_whole.j0 k a1 a2 (wrap64 (-(wrap64 (t104)))) (wrap64 (t105)))) = some r := by rw [if_pos rfl] at H; exact H
      clear H
      have H := H1
      clear H1
      by_cases c13 : (wrap64 (t105)) > 0
      · rw [if_pos c13] at H
        have c13b0 : decide (0 < (wrap64 (t105))) = true := decide_eq_true c13
        clear c13
        (first | rw [c13b0] | (simp only [i64_w, i32_w]; rw [c13b0]) | skip)
        have H' := Aside0.mk H
        clear H
        go_wp2
        repeat (go_quiet (fail); try go_wp2)
        go_meet
        case rel => exact ⟨_, (wrap64 ((wrap64 (-(wrap64 (t104)))) - 1)), (wrap64 (a1 - (wrap64 (t105)))), (by first | rfl | (simp; done) | (simp [*]; done)), (by first | rfl | (simp; done) | (simp [*]; done)), H', ⟨by first | omega | exact Nat.le_refl _⟩, ⟨by (with_reducible repeat (first | refine blk_drewN ?_ _ | refine blk_drew ?_ | refine blk_alloc ?_ _)); exact BK101.out⟩, ⟨by repeat (first | (with_reducible first | exact HB.out | apply below_alloc | apply pw_below_drewN | apply below_drew1 | refine below_set ?_ GE101.out) | exact HB.out)⟩⟩
      · rw [if_neg c13] at H
        have c13b0 : decide (0 < (wrap64 (t105))) = false := decide_eq_false c13
        clear c13
        (first | rw [c13b0] | (simp only [i64_w, i32_w]; rw [c13b0]) | skip)
        have H' := Aside0.mk H
        clear H
        go_wp2
        repeat (go_quiet (fail); try go_wp2)
        go_meet
        case rel => exact ⟨_, (wrap64 (-(wrap64 (t104)))), (wrap64 (t105)), (by first | rfl | (simp; done) | (simp [*]; done)), (by first | rfl | (simp; done) | (simp [*]; done)), H', ⟨by first | omega | exact Nat.le_refl _⟩, ⟨by (with_reducible repeat (first | refine blk_drewN ?_ _ | refine blk_drew ?_ | refine blk_alloc ?_ _)); exact BK101.out⟩, ⟨by repeat (first | (with_reducible first | exact HB.out | apply below_alloc | apply pw_below_drewN | apply below_drew1 | refine below_set ?_ GE101.out) | exact HB.out)⟩⟩
    · replace c12 := Bool.eq_false_iff.mpr c12
      subst c12
      have H1 : (fixnum_wide_whole.j0 k a1 a2 (wrap64 (t104)) (wrap64 (t105))) = some r := by rw [if_neg (show ¬ (false = true) by decide)] at H; exact H
      clear H
      have H := H1
      clear H1
      have H' := Aside0.mk H
      clear H
      go_wp2
      repeat (go_quiet (fail); try go_wp2)
      go_meet
      case rel => exact ⟨_, (wrap64 (t104)), (wrap64 (t105)), (by first | rfl | (simp; done) | (simp [*]; done)), (by first | rfl | (simp; done) | (simp [*]; done)), H', ⟨by first | omega | exact Nat.le_refl _⟩, ⟨by (with_reducible repeat (first | refine blk_drewN ?_ _ | refine blk_drew ?_ | refine blk_alloc ?_ _)); exact BK101.out⟩, ⟨by repeat (first | (with_reducible first | exact HB.out | apply below_alloc | apply pw_below_drewN | apply below_drew1 | refine below_set ?_ GE101.out) | exact HB.out)⟩⟩
  case rest =>
    clear HC9
    try clear c1
    try clear p2
    try clear c4
    try clear p6
    try clear c12
    try clear c13
    try clear c13b0
    try clear hcz11_0
    try clear hcz11_1
    try clear hcz11_2
    try clear hfz11_0
    try clear hfz11_1
    try clear hfz11_2
    obtain ⟨kq, x9_8, x10_8, rfl, rfl, HA, HJ8, BK101, HB⟩ := hcut
    cases kq with
    | zero => exact absurd HA.out (by simp [fixnum_wide_whole.j0])
    | succ kj8 =>
      have H := HA.out
      clear HA
      simp only [fixnum_wide_whole.j0] at H
      have HC14 := Aside0.mk H
      clear H
      go_upto_region 10 with (fail)
      repeat (go_quiet (fail); go_upto_region 10 with (fail))
      go_cut [49] (fun v49 wc => ∃ (kq : Nat) (x49_13 : Bool), v49 = .bool x49_13 ∧ Aside0 (fixnum_wide_whole.j1 kq a2 x9_8 x10_8 (wrap64 (a1 - x10_8)) x49_13 = some r) ∧ Aside0 (kq ≤ kj8) ∧ Aside0 (wc.heap[gb101]? = some (.cells #[.bool a0_0, .int .u64 a0_1, .int .u64 a0_2] 68 (0, 0))) ∧ Aside0 (Below w.heap.size w wc))
      case first =>
        have H := HC14.out
        clear HC14
        by_cases c15 : a2 = 1
        · rw [if_pos c15] at H
          have c15b0 : (a2 == 1) = true := beq_iff_eq.mpr c15
          have c15b1 : (a2 != 1) = false := bne_eq_false_iff_eq.mpr c15
          clear c15
          (first | rw [c15b0] | (simp only [i64_w, i32_w]; rw [c15b0]) | skip)
          have H' := Aside0.mk H
          clear H
          go_wp2
          repeat (go_quiet (fail); try go_wp2)
          go_meet
          case rel => exact ⟨_, (decide (x10_8 ≥ (wrap64 (a1 - x10_8)))), (by first | rfl | (simp; done) | (simp [*]; done)), H', ⟨by have := HJ8.out; first | omega | exact Nat.le_refl _⟩, ⟨by (with_reducible repeat (first | refine blk_drewN ?_ _ | refine blk_drew ?_ | refine blk_alloc ?_ _)); exact BK101.out⟩, ⟨by repeat (first | (with_reducible first | exact HB.out | apply below_alloc | apply pw_below_drewN | apply below_drew1 | refine below_set ?_ GE101.out) | exact HB.out)⟩⟩
        · rw [if_neg c15] at H
          have c15b0 : (a2 == 1) = false := beq_eq_false_iff_ne.mpr c15
          have c15b1 : (a2 != 1) = true := bne_iff_ne.mpr c15
          (first | rw [c15b0] | (simp only [i64_w, i32_w]; rw [c15b0]) | skip)
          have H' := Aside0.mk H
          clear H
          go_wp2
          repeat (go_quiet (fail); try go_wp2)
          go_meet
          case rel => exact ⟨_, (false), (by first | rfl | (simp; done) | (simp [*]; done)), H', ⟨by have := HJ8.out; first | omega | exact Nat.le_refl _⟩, ⟨by (with_reducible repeat (first | refine blk_drewN ?_ _ | refine blk_drew ?_ | refine blk_alloc ?_ _)); exact BK101.out⟩, ⟨by repeat (first | (with_reducible first | exact HB.out | apply below_alloc | apply pw_below_drewN | apply below_drew1 | refine below_set ?_ GE101.out) | exact HB.out)⟩⟩
      case rest =>
        clear HC14
        try clear c1
        try clear p2
        try clear c4
        try clear p6
        try clear c12
        try clear c13
        try clear c13b0
        try clear c15
        try clear c15b0
        try clear c15b1
        try clear hcz11_0
        try clear hcz11_1
        try clear hcz11_2
        try clear hfz11_0
        try clear hfz11_1
        try clear hfz11_2
        try clear p2
        try clear p6
        obtain ⟨kq, x49_13, rfl, HA, HJ13, BK101, HB⟩ := hcut
        cases kq with
        | zero => exact absurd HA.out (by simp [fixnum_wide_whole.j1])
        | succ kj13 =>
          have H := HA.out
          clear HA
          simp only [fixnum_wide_whole.j1] at H
          by_cases c16 : x49_13 = true
          · subst c16
            have H1 : ((Go.Proofs.Ytliapjhjofmliaa.H.fixnum_fit.f (wrap64 (x9_8 + 1))).bind fun t106 => (some t106)) = some r := by rw [if_pos rfl] at H; exact H
            clear H
            have H := H1
            clear H1
            replace H := Option.bind_eq_some_iff.mp H
            obtain ⟨t106, A170, H⟩ := H
            replace H : (some t106) = some r := H
            have A17 := Aside0.mk A170
            clear A170
            obtain rfl := Option.some.inj H
            go_wp2_with (first | (go_at_call 43; (with_reducible refine (Go.Proofs.Ytliapjhjofmliaa.H.fixnum_fit.calls (wrap64 (x9_8 + 1)) t106 _ A17.out).mono ?_); rintro e w' ⟨rfl, ⟨nd, rfl⟩⟩; (try first | exact ⟨rfl, _, World.drewN_drewN _ _ _⟩ | exact ⟨rfl, _, Eq.trans (World.drewN_drewN _ _ _) (congrArg (World.drewN _) (Nat.add_assoc _ _ _))⟩)))
            repeat (go_quiet (first | (go_at_call 43; (with_reducible refine (Go.Proofs.Ytliapjhjofmliaa.H.fixnum_fit.calls (wrap64 (x9_8 + 1)) t106 _ A17.out).mono ?_); rintro e w' ⟨rfl, ⟨nd, rfl⟩⟩; (try first | exact ⟨rfl, _, World.drewN_drewN _ _ _⟩ | exact ⟨rfl, _, Eq.trans (World.drewN_drewN _ _ _) (congrArg (World.drewN _) (Nat.add_assoc _ _ _))⟩))); try go_wp2_with (first | (go_at_call 43; (with_reducible refine (Go.Proofs.Ytliapjhjofmliaa.H.fixnum_fit.calls (wrap64 (x9_8 + 1)) t106 _ A17.out).mono ?_); rintro e w' ⟨rfl, ⟨nd, rfl⟩⟩; (try first | exact ⟨rfl, _, World.drewN_drewN _ _ _⟩ | exact ⟨rfl, _, Eq.trans (World.drewN_drewN _ _ _) (congrArg (World.drewN _) (Nat.add_assoc _ _ _))⟩))))
            go_ret
            exact ⟨by first | rfl | (simp [errW_none, errW_some] <;> rfl) | (simp [*, errW_none, errW_some] <;> rfl), by repeat (first | (with_reducible first | exact HB.out | apply below_alloc | apply pw_below_drewN | apply below_drew1 | refine below_set ?_ GE101.out) | exact HB.out)⟩
          · replace c16 := Bool.eq_false_iff.mpr c16
            subst c16
            have H1 : (if a2 = 2 then (if x10_8 > (wrap64 (a1 - x10_8)) then ((Go.Proofs.Ytliapjhjofmliaa.H.fixnum_fit.f (wrap64 (x9_8 + 1))).bind fun t107 => (some t107)) else (if x10_8 = (wrap64 (a1 - x10_8)) then (if (Int.tmod x9_8 2) = 0 then ((Go.Proofs.Ytliapjhjofmliaa.H.fixnum_fit.f x9_8).bind fun t108 => (some t108)) else ((Go.Proofs.Ytliapjhjofmliaa.H.fixnum_fit.f (wrap64 (x9_8 + 1))).bind fun t109 => (some t109))) else ((Go.Proofs.Ytliapjhjofmliaa.H.fixnum_fit.f x9_8).bind fun t110 => (some t110)))) else ((Go.Proofs.Ytliapjhjofmliaa.H.fixnum_fit.f x9_8).bind fun t111 => (some t111))) = some r := by rw [if_neg (show ¬ (false = true) by decide)] at H; exact H
            clear H
            have H := H1
            clear H1
            by_cases c18 : a2 = 2
            · rw [if_pos c18] at H
              have c18b0 : (a2 == 2) = true := beq_iff_eq.mpr c18
              have c18b1 : (a2 != 2) = false := bne_eq_false_iff_eq.mpr c18
              clear c18
              by_cases c19 : x10_8 > (wrap64 (a1 - x10_8))
              · rw [if_pos c19] at H
                have c19b0 : decide ((wrap64 (a1 - x10_8)) < x10_8) = true := decide_eq_true c19
                clear c19
                replace H := Option.bind_eq_some_iff.mp H
                obtain ⟨t107, A200, H⟩ := H
                replace H : (some t107) = some r := H
                have A20 := Aside0.mk A200
                clear A200
                obtain rfl := Option.some.inj H
                go_wp2_with (first | (go_at_call 43; (with_reducible refine (Go.Proofs.Ytliapjhjofmliaa.H.fixnum_fit.calls (wrap64 (x9_8 + 1)) t107 _ A20.out).mono ?_); rintro e w' ⟨rfl, ⟨nd, rfl⟩⟩; (try first | exact ⟨rfl, _, World.drewN_drewN _ _ _⟩ | exact ⟨rfl, _, Eq.trans (World.drewN_drewN _ _ _) (congrArg (World.drewN _) (Nat.add_assoc _ _ _))⟩)))
                repeat (go_quiet (first | (go_at_call 43; (with_reducible refine (Go.Proofs.Ytliapjhjofmliaa.H.fixnum_fit.calls (wrap64 (x9_8 + 1)) t107 _ A20.out).mono ?_); rintro e w' ⟨rfl, ⟨nd, rfl⟩⟩; (try first | exact ⟨rfl, _, World.drewN_drewN _ _ _⟩ | exact ⟨rfl, _, Eq.trans (World.drewN_drewN _ _ _) (congrArg (World.drewN _) (Nat.add_assoc _ _ _))⟩))); try go_wp2_with (first | (go_at_call 43; (with_reducible refine (Go.Proofs.Ytliapjhjofmliaa.H.fixnum_fit.calls (wrap64 (x9_8 + 1)) t107 _ A20.out).mono ?_); rintro e w' ⟨rfl, ⟨nd, rfl⟩⟩; (try first | exact ⟨rfl, _, World.drewN_drewN _ _ _⟩ | exact ⟨rfl, _, Eq.trans (World.drewN_drewN _ _ _) (congrArg (World.drewN _) (Nat.add_assoc _ _ _))⟩))))
                go_ret
                exact ⟨by first | rfl | (simp [errW_none, errW_some] <;> rfl) | (simp [*, errW_none, errW_some] <;> rfl), by repeat (first | (with_reducible first | exact HB.out | apply below_alloc | apply pw_below_drewN | apply below_drew1 | refine below_set ?_ GE101.out) | exact HB.out)⟩
              · rw [if_neg c19] at H
                have c19b0 : decide ((wrap64 (a1 - x10_8)) < x10_8) = false := decide_eq_false c19
                clear c19
                by_cases c21 : x10_8 = (wrap64 (a1 - x10_8))
                · rw [if_pos c21] at H
                  have c21b0 : (x10_8 == (wrap64 (a1 - x10_8))) = true := beq_iff_eq.mpr c21
                  have c21b1 : (x10_8 != (wrap64 (a1 - x10_8))) = false := bne_eq_false_iff_eq.mpr c21
                  clear c21
                  by_cases c22 : (Int.tmod x9_8 2) = 0
                  · rw [if_pos c22] at H
                    have c22b0 : ((Int.tmod x9_8 2) == 0) = true := beq_iff_eq.mpr c22
                    have c22b1 : ((Int.tmod x9_8 2) != 0) = false := bne_eq_false_iff_eq.mpr c22
                    clear c22
                    replace H := Option.bind_eq_some_iff.mp H
                    obtain ⟨t108, A230, H⟩ := H
                    replace H : (some t108) = some r := H
                    have A23 := Aside0.mk A230
                    clear A230
                    obtain rfl := Option.some.inj H
                    go_wp2_with (first | (go_at_call 43; (with_reducible refine (Go.Proofs.Ytliapjhjofmliaa.H.fixnum_fit.calls x9_8 t108 _ A23.out).mono ?_); rintro e w' ⟨rfl, ⟨nd, rfl⟩⟩; (try first | exact ⟨rfl, _, World.drewN_drewN _ _ _⟩ | exact ⟨rfl, _, Eq.trans (World.drewN_drewN _ _ _) (congrArg (World.drewN _) (Nat.add_assoc _ _ _))⟩)))
                    repeat (go_quiet (first | (go_at_call 43; (with_reducible refine (Go.Proofs.Ytliapjhjofmliaa.H.fixnum_fit.calls x9_8 t108 _ A23.out).mono ?_); rintro e w' ⟨rfl, ⟨nd, rfl⟩⟩; (try first | exact ⟨rfl, _, World.drewN_drewN _ _ _⟩ | exact ⟨rfl, _, Eq.trans (World.drewN_drewN _ _ _) (congrArg (World.drewN _) (Nat.add_assoc _ _ _))⟩))); try go_wp2_with (first | (go_at_call 43; (with_reducible refine (Go.Proofs.Ytliapjhjofmliaa.H.fixnum_fit.calls x9_8 t108 _ A23.out).mono ?_); rintro e w' ⟨rfl, ⟨nd, rfl⟩⟩; (try first | exact ⟨rfl, _, World.drewN_drewN _ _ _⟩ | exact ⟨rfl, _, Eq.trans (World.drewN_drewN _ _ _) (congrArg (World.drewN _) (Nat.add_assoc _ _ _))⟩))))
                    go_ret
                    exact ⟨by first | rfl | (simp [errW_none, errW_some] <;> rfl) | (simp [*, errW_none, errW_some] <;> rfl), by repeat (first | (with_reducible first | exact HB.out | apply below_alloc | apply pw_below_drewN | apply below_drew1 | refine below_set ?_ GE101.out) | exact HB.out)⟩
                  · rw [if_neg c22] at H
                    have c22b0 : ((Int.tmod x9_8 2) == 0) = false := beq_eq_false_iff_ne.mpr c22
                    have c22b1 : ((Int.tmod x9_8 2) != 0) = true := bne_iff_ne.mpr c22
                    replace H := Option.bind_eq_some_iff.mp H
                    obtain ⟨t109, A240, H⟩ := H
                    replace H : (some t109) = some r := H
                    have A24 := Aside0.mk A240
                    clear A240
                    obtain rfl := Option.some.inj H
                    go_wp2_with (first | (go_at_call 43; (with_reducible refine (Go.Proofs.Ytliapjhjofmliaa.H.fixnum_fit.calls (wrap64 (x9_8 + 1)) t109 _ A24.out).mono ?_); rintro e w' ⟨rfl, ⟨nd, rfl⟩⟩; (try first | exact ⟨rfl, _, World.drewN_drewN _ _ _⟩ | exact ⟨rfl, _, Eq.trans (World.drewN_drewN _ _ _) (congrArg (World.drewN _) (Nat.add_assoc _ _ _))⟩)))
                    repeat (go_quiet (first | (go_at_call 43; (with_reducible refine (Go.Proofs.Ytliapjhjofmliaa.H.fixnum_fit.calls (wrap64 (x9_8 + 1)) t109 _ A24.out).mono ?_); rintro e w' ⟨rfl, ⟨nd, rfl⟩⟩; (try first | exact ⟨rfl, _, World.drewN_drewN _ _ _⟩ | exact ⟨rfl, _, Eq.trans (World.drewN_drewN _ _ _) (congrArg (World.drewN _) (Nat.add_assoc _ _ _))⟩))); try go_wp2_with (first | (go_at_call 43; (with_reducible refine (Go.Proofs.Ytliapjhjofmliaa.H.fixnum_fit.calls (wrap64 (x9_8 + 1)) t109 _ A24.out).mono ?_); rintro e w' ⟨rfl, ⟨nd, rfl⟩⟩; (try first | exact ⟨rfl, _, World.drewN_drewN _ _ _⟩ | exact ⟨rfl, _, Eq.trans (World.drewN_drewN _ _ _) (congrArg (World.drewN _) (Nat.add_assoc _ _ _))⟩))))
                    go_ret
                    exact ⟨by first | rfl | (simp [errW_none, errW_some] <;> rfl) | (simp [*, errW_none, errW_some] <;> rfl), by repeat (first | (with_reducible first | exact HB.out | apply below_alloc | apply pw_below_drewN | apply below_drew1 | refine below_set ?_ GE101.out) | exact HB.out)⟩
                · rw [if_neg c21] at H
                  have c21b0 : (x10_8 == (wrap64 (a1 - x10_8))) = false := beq_eq_false_iff_ne.mpr c21
                  have c21b1 : (x10_8 != (wrap64 (a1 - x10_8))) = true := bne_iff_ne.mpr c21
                  replace H := Option.bind_eq_some_iff.mp H
                  obtain ⟨t110, A250, H⟩ := H
                  replace H : (some t110) = some r := H
                  have A25 := Aside0.mk A250
                  clear A250
                  obtain rfl := Option.some.inj H
                  go_wp2_with (first | (go_at_call 43; (with_reducible refine (Go.Proofs.Ytliapjhjofmliaa.H.fixnum_fit.calls x9_8 t110 _ A25.out).mono ?_); rintro e w' ⟨rfl, ⟨nd, rfl⟩⟩; (try first | exact ⟨rfl, _, World.drewN_drewN _ _ _⟩ | exact ⟨rfl, _, Eq.trans (World.drewN_drewN _ _ _) (congrArg (World.drewN _) (Nat.add_assoc _ _ _))⟩)))
                  repeat (go_quiet (first | (go_at_call 43; (with_reducible refine (Go.Proofs.Ytliapjhjofmliaa.H.fixnum_fit.calls x9_8 t110 _ A25.out).mono ?_); rintro e w' ⟨rfl, ⟨nd, rfl⟩⟩; (try first | exact ⟨rfl, _, World.drewN_drewN _ _ _⟩ | exact ⟨rfl, _, Eq.trans (World.drewN_drewN _ _ _) (congrArg (World.drewN _) (Nat.add_assoc _ _ _))⟩))); try go_wp2_with (first | (go_at_call 43; (with_reducible refine (Go.Proofs.Ytliapjhjofmliaa.H.fixnum_fit.calls x9_8 t110 _ A25.out).mono ?_); rintro e w' ⟨rfl, ⟨nd, rfl⟩⟩; (try first | exact ⟨rfl, _, World.drewN_drewN _ _ _⟩ | exact ⟨rfl, _, Eq.trans (World.drewN_drewN _ _ _) (congrArg (World.drewN _) (Nat.add_assoc _ _ _))⟩))))
                  go_ret
                  exact ⟨by first | rfl | (simp [errW_none, errW_some] <;> rfl) | (simp [*, errW_none, errW_some] <;> rfl), by repeat (first | (with_reducible first | exact HB.out | apply below_alloc | apply pw_below_drewN | apply below_drew1 | refine below_set ?_ GE101.out) | exact HB.out)⟩
            · rw [if_neg c18] at H
              have c18b0 : (a2 == 2) = false := beq_eq_false_iff_ne.mpr c18
              have c18b1 : (a2 != 2) = true := bne_iff_ne.mpr c18
              replace H := Option.bind_eq_some_iff.mp H
              obtain ⟨t111, A260, H⟩ := H
              replace H : (some t111) = some r := H
              have A26 := Aside0.mk A260
              clear A260
              obtain rfl := Option.some.inj H
              go_wp2_with (first | (go_at_call 43; (with_reducible refine (Go.Proofs.Ytliapjhjofmliaa.H.fixnum_fit.calls x9_8 t111 _ A26.out).mono ?_); rintro e w' ⟨rfl, ⟨nd, rfl⟩⟩; (try first | exact ⟨rfl, _, World.drewN_drewN _ _ _⟩ | exact ⟨rfl, _, Eq.trans (World.drewN_drewN _ _ _) (congrArg (World.drewN _) (Nat.add_assoc _ _ _))⟩)))
              repeat (go_quiet (first | (go_at_call 43; (with_reducible refine (Go.Proofs.Ytliapjhjofmliaa.H.fixnum_fit.calls x9_8 t111 _ A26.out).mono ?_); rintro e w' ⟨rfl, ⟨nd, rfl⟩⟩; (try first | exact ⟨rfl, _, World.drewN_drewN _ _ _⟩ | exact ⟨rfl, _, Eq.trans (World.drewN_drewN _ _ _) (congrArg (World.drewN _) (Nat.add_assoc _ _ _))⟩))); try go_wp2_with (first | (go_at_call 43; (with_reducible refine (Go.Proofs.Ytliapjhjofmliaa.H.fixnum_fit.calls x9_8 t111 _ A26.out).mono ?_); rintro e w' ⟨rfl, ⟨nd, rfl⟩⟩; (try first | exact ⟨rfl, _, World.drewN_drewN _ _ _⟩ | exact ⟨rfl, _, Eq.trans (World.drewN_drewN _ _ _) (congrArg (World.drewN _) (Nat.add_assoc _ _ _))⟩))))
              go_ret
              exact ⟨by first | rfl | (simp [errW_none, errW_some] <;> rfl) | (simp [*, errW_none, errW_some] <;> rfl), by repeat (first | (with_reducible first | exact HB.out | apply below_alloc | apply pw_below_drewN | apply below_drew1 | refine below_set ?_ GE101.out) | exact HB.out)⟩

end Go.Proofs.Ytliapjhjofmliaa.PW
