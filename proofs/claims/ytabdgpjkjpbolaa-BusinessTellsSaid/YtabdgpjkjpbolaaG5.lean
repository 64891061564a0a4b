/- Contracts by hand: business: awake. -/
import Derived.Test.YtabdgpjkjpbolaaH8
namespace Go.Proofs.Ytabdgpjkjpbolaa.H
open Go.RowKit Go.Proofs.YtabdgpjkjpbolaaW.PrintWords Go.Proofs.YtabdgpjkjpbolaaW.PrintLast Go.Proofs.YtabdgpjkjpbolaaW.PrintMore Go.Proofs.Ytabdgpjkjpbolaa.HW
open Go.Proofs.Ytabdgpjkjpbolaa.Math
set_option linter.unusedVariables false
set_option linter.unusedSimpArgs false
theorem new_any (A0 : Option Addr) (c0 : Nat) (l : List Int) (w : World) (hr0 : Kd.C (Kd.int .i64) w A0 l.length l) (hc0 : l.length ≤ c0) (hn : A0 = none → c0 = 0) (hm : l.length ≤ 1000000) :
    Calls Try.prog 46 #[.slice A0 l.length c0] w (Made l (rightB l) w) := by
  by_cases h : 200 < l.length
  · refine (new_many A0 c0 l w h hm).mono ?_
    rintro e w1 ⟨rfl, hd⟩
    exact ⟨hd.below, fun _ => rfl, fun hb => by
      unfold rightB at hb
      rw [decide_eq_false (show ¬ l.length ≤ 200 by omega), Bool.and_false] at hb
      cases hb⟩
  · have e : rightB l = rises (-25568) l := by unfold rightB; rw [decide_eq_true (show l.length ≤ 200 by omega), Bool.and_true]
    rw [e]
    exact new_few A0 c0 l _ w hr0 hc0 hn (by omega) rfl
theorem bus_awake (w : World) : Calls Try.prog 47 #[] w fun e w' => e = .returned (.bool true) ∧ Below w.heap.size w w' := by
  have hread : Kd.C (Kd.int .i64) (w.alloc (.cells #[.int .i64 19725] 3)) (some ⟨w.heap.size, 0, none⟩) [(19725 : Int)].length [19725] := by
    refine Kd.C_of_reads (d := (0 : Int)) ⟨rfl, by simp, fun _ => ⟨_, rfl, fun j hj => ?_⟩⟩
    obtain rfl : j = 0 := by simp at hj; exact hj
    simp [go_sem, Addr.add]
  have HRD := Aside0.mk hread
  clear hread
  go_enter Try.func47, Try.ntmps47
  go_wp2_with fail
  refine (new_any _ 1 [19725] _ HRD.out (by simp) (by simp) (by simp)).mono ?_
  rintro e w1 ⟨hb, _, h1⟩
  obtain ⟨gb, hg, rfl, hc⟩ := h1 (by decide)
  have HC := Aside0.mk hc
  have HB := Aside0.mk (((Below.refl w.heap.size w).alloc (Nat.le_refl _) (.cells #[.int .i64 19725] 3)).trans (hb.mono (by simp)))
  clear hb h1 hc
  go_wp2_with fail
  refine (roll_any HC.out (r1 := 19726) (r2 := 0) (by decide)).mono ?_
  rintro e w2 ⟨rfl, hb⟩
  have HC2 := Aside0.mk (HC.out.below hb)
  have HB2 := Aside0.mk (below_step HB.out hb)
  clear hb HC HB
  go_wp2_with fail
  refine (open_any HC2.out (r := true) (by decide)).mono ?_
  rintro e w3 ⟨rfl, ⟨m1, rfl⟩⟩
  go_wp2_with fail
  refine (open_any (HC2.out.drawn ⟨_, rfl⟩) (r := false) (by decide)).mono ?_
  rintro e w3 ⟨rfl, ⟨m2, rfl⟩⟩
  go_wp2_with fail
  go_ret
  exact ⟨rfl, pw_below_drewN HB2.out _⟩
end Go.Proofs.Ytabdgpjkjpbolaa.H
namespace Go.Proofs.Ytabdgpjkjpbolaa.H
open Go.RowKit Go.Proofs.YtabdgpjkjpbolaaW.PrintWords Go.Proofs.YtabdgpjkjpbolaaW.PrintLast Go.Proofs.YtabdgpjkjpbolaaW.PrintMore Go.Proofs.Ytabdgpjkjpbolaa.HW
open Go.Proofs.Ytabdgpjkjpbolaa.Math
theorem businessNil_walk (a0 a1 : Int) (w : World) (w0 : (Lit.int .i64 a0).wf = true) (w1 : (Lit.int .i64 a1).wf = true) : Calls Try.prog 17 #[.int .i64 a0, .int .i64 a1] w fun e w' => e = .returned (.bool true) ∧ Below w.heap.size w w' := by
  clear w0 w1
  go_enter Try.func17, Try.ntmps17
  go_wp2_with fail
  refine (roll_nil _ _ _).mono ?_
  rintro e w1 ⟨rfl, ⟨m1, rfl⟩⟩
  go_wp2_with fail
  refine (count_nil _ _ _).mono ?_
  rintro e w1 ⟨rfl, ⟨m2, rfl⟩⟩
  go_wp2_with fail
  refine (bus_awake _).mono ?_
  rintro e w2 ⟨rfl, hb⟩
  have HB := Aside0.mk (below_step (pw_below_drewN (Below.refl w.heap.size w) (m1 + m2)) hb)
  clear hb
  go_wp2_with fail
  refine (open_nil _ _).mono ?_
  rintro e w3 ⟨rfl, ⟨m3, rfl⟩⟩
  go_wp2_with fail
  go_ret
  exact ⟨rfl, pw_below_drewN HB.out _⟩
end Go.Proofs.Ytabdgpjkjpbolaa.H
