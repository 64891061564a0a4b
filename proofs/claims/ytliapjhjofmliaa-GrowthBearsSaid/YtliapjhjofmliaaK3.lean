/- Contracts by hand: growth: a bearer made, its rest, a fork. -/
import Derived.Test.YtliapjhjofmliaaK2
import Derived.Test.YtliapjhjofmliaaFr
namespace Go.Proofs.Ytliapjhjofmliaa.H
open Go.RowKit Go.Proofs.YtliapjhjofmliaaW.PrintWords Go.Proofs.YtliapjhjofmliaaW.PrintLast Go.Proofs.YtliapjhjofmliaaW.PrintMore Go.Proofs.Ytliapjhjofmliaa.HW
set_option linter.unusedVariables false
set_option linter.unusedSimpArgs false
theorem good_new (c r : Int) : Good (Gm.whole c) (Gm.half c r) 0 := by
  obtain ⟨h1, h2, h3⟩ := Gm.whole_bd c
  obtain ⟨h4, h5⟩ := Gm.half_bd c r
  exact ⟨h1, h2, h4, h5, by omega, by omega⟩
/-- A bearer, made new. -/
def Newly (c r : Int) (w : World) (e : Ending) (w' : World) : Prop := Below w.heap.size w w' ∧ ∃ gb, w.heap.size ≤ gb ∧ e = .returned (.tuple #[.pointer (some ⟨gb, 0, none⟩), .int .i64 0]) ∧ BearAt w' gb (Gm.whole c) (Gm.half c r) 0
theorem bnew_no_count {c r : Int} (hc : ¬ (c = 1 ∨ c = 2 ∨ c = 3)) (w : World) : Calls Try.prog 28 #[.int .i64 c, .int .i64 r] w fun e w' => e = .returned (.tuple #[.pointer none, .int .i64 1]) ∧ Below w.heap.size w w' := by
  have hp : Fr.parts c = (0, 1) := by
    rcases Fr.parts_cases c with ⟨v, _, h⟩ | ⟨h, _⟩
    · exact absurd h hc
    · exact h
  have HP := Aside0.mk (fun w => by have := Fr.parts_any c w; rw [hp] at this; exact this)
  clear hp hc
  go_enter Try.func28, Try.ntmps28
  go_wp2_with fail
  refine (HP.out _).mono ?_
  rintro e w1 ⟨rfl, hb⟩
  have HB := Aside0.mk hb
  clear hb
  go_wp2_with fail
  go_ret2
  exact ⟨rfl, HB.out⟩
theorem bnew_no_round {c r : Int} (hc : c = 1 ∨ c = 2 ∨ c = 3) (hr : ¬ (r = 1 ∨ r = 3)) (w : World) : Calls Try.prog 28 #[.int .i64 c, .int .i64 r] w fun e w' => e = .returned (.tuple #[.pointer none, .int .i64 1]) ∧ Below w.heap.size w w' := by
  obtain ⟨v, hp⟩ : ∃ v, Fr.parts c = (v, 0) := by
    rcases Fr.parts_cases c with ⟨v, h, _⟩ | ⟨_, h1, h2, h3⟩
    · exact ⟨v, h⟩
    · exfalso; rcases hc with rfl | rfl | rfl <;> simp_all
  have HP := Aside0.mk (fun w => by have := Fr.parts_any c w; rw [hp] at this; exact this)
  have q1 : (r != 1) = true := by simp; omega
  have q2 : (r != 3) = true := by simp; omega
  clear hp hc hr
  go_enter Try.func28, Try.ntmps28
  go_wp2_with fail
  refine (HP.out _).mono ?_
  rintro e w1 ⟨rfl, hb⟩
  have HB := Aside0.mk hb
  clear hb
  go_wp2_with fail
  go_ret2
  exact ⟨rfl, HB.out⟩
theorem bnew_any {c r : Int} (hc : c = 1 ∨ c = 2 ∨ c = 3) (hr : r = 1 ∨ r = 3) (w : World) : Calls Try.prog 28 #[.int .i64 c, .int .i64 r] w (Newly c r w) := by
  obtain ⟨v, hp, hw, v0, v1⟩ : ∃ v, Fr.parts c = (v, 0) ∧ Gm.whole c = 1000000000 * v ∧ 360 ≤ v ∧ v ≤ 133590 := by
    rcases hc with rfl | rfl | rfl <;> exact ⟨_, rfl, rfl, by decide, by decide⟩
  have HP := Aside0.mk (fun w => by have := Fr.parts_any c w; rw [hp] at this; exact this)
  have HW := Aside0.mk hw
  have HH := Aside0.mk (show Gm.half c 1 = 1000000000 * v / 2 by unfold Gm.half; rw [if_pos rfl, hw])
  have HH3 := Aside0.mk (show Gm.half c 3 = 0 from rfl)
  clear hp hc hw
  rcases hr with rfl | rfl
  · go_enter Try.func28, Try.ntmps28
    go_wp2_with fail
    refine (HP.out _).mono ?_
    rintro e w1 ⟨rfl, hb⟩
    have HB := Aside0.mk hb
    clear hb
    go_wp2_with fail
    go_ret2
    refine ⟨HB.out.alloc HB.out.size _, w1.heap.size, HB.out.size, rfl, ?_⟩
    rw [HW.out, HH.out]
    constructor <;> simp [go_sem]
  · go_enter Try.func28, Try.ntmps28
    go_wp2_with fail
    refine (HP.out _).mono ?_
    rintro e w1 ⟨rfl, hb⟩
    have HB := Aside0.mk hb
    clear hb
    go_wp2_with fail
    go_ret2
    refine ⟨HB.out.alloc HB.out.size _, w1.heap.size, HB.out.size, rfl, ?_⟩
    rw [HW.out, HH3.out]
    constructor <;> simp [go_sem]
theorem brest_nil (w : World) : Calls Try.prog 31 #[.pointer none] w fun e w' => e = .returned (.int .i64 0) ∧ w' = w := by
  go_enter Try.func31, Try.ntmps31
  go_wp2
  go_ret
  exact ⟨rfl, rfl⟩
theorem brest_any {gb : Nat} {W h rest : Int} {w : World} (A : BearAt w gb W h rest) : Calls Try.prog 31 #[.pointer (some ⟨gb, 0, none⟩)] w fun e w' => e = .returned (.int .i64 rest) ∧ w' = w := by
  obtain ⟨c0, c1, c2, f2, lt⟩ := A
  go_enter Try.func31, Try.ntmps31
  go_wp2
  go_ret
  exact ⟨rfl, rfl⟩
end Go.Proofs.Ytliapjhjofmliaa.H
