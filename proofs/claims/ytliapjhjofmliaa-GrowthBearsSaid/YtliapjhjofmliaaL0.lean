/- Contracts by hand: the document's bearer, made. -/
import Derived.Test.YtliapjhjofmliaaK4
namespace Go.Proofs.Ytliapjhjofmliaa.H
open Go.RowKit Go.Proofs.YtliapjhjofmliaaW.PrintWords Go.Proofs.YtliapjhjofmliaaW.PrintLast Go.Proofs.YtliapjhjofmliaaW.PrintMore Go.Proofs.Ytliapjhjofmliaa.HW
set_option linter.unusedVariables false
set_option linter.unusedSimpArgs false
/-- The document's bearer lies in block gb. -/
structure RefAt (w : World) (gb : Nat) (P : Int) (up : Bool) (rest : Int) : Prop where
  c0 : w.cell? ⟨gb, 0, none⟩ = some (.int .i64 P)
  c1 : w.cell? ⟨gb, 1, none⟩ = some (.bool up)
  c2 : w.cell? ⟨gb, 2, none⟩ = some (.int .i64 rest)
  f2 : w.frozen? ⟨gb, 2, none⟩ = false
  lt : gb < w.heap.size
theorem RefAt.below {w w1 : World} {gb : Nat} {P rest : Int} {up : Bool} (H : RefAt w gb P up rest) (hb : Below w.heap.size w w1) : RefAt w1 gb P up rest :=
  ⟨by rw [hb.cell (by exact H.lt)]; exact H.c0, by rw [hb.cell (by exact H.lt)]; exact H.c1, by rw [hb.cell (by exact H.lt)]; exact H.c2, by rw [hb.frozen (by exact H.lt)]; exact H.f2, Nat.lt_of_lt_of_le H.lt hb.size⟩
theorem RefAt.but {w w1 : World} {gb g2 : Nat} {P rest : Int} {up : Bool} (H : RefAt w g2 P up rest) (hb : But gb w w1) (hn : g2 ≠ gb) : RefAt w1 g2 P up rest :=
  ⟨by rw [hb.cell (by exact H.lt) (by exact hn)]; exact H.c0, by rw [hb.cell (by exact H.lt) (by exact hn)]; exact H.c1, by rw [hb.cell (by exact H.lt) (by exact hn)]; exact H.c2, by rw [hb.frozen (by exact H.lt) (by exact hn)]; exact H.f2, Nat.lt_of_lt_of_le H.lt hb.size⟩
theorem rparts_any (c : Int) (w : World) : Calls Try.prog 47 #[.int .i64 c] w fun e w' => e = .returned (.tuple #[.int .i64 (Fr.parts c).1, .int .i64 (Fr.parts c).2]) ∧ Drawn0 w w' := by
  have hcs : c = 1 ∨ c = 2 ∨ c = 3 ∨ (Fr.parts c = (0, 1) ∧ (c == 1) = false ∧ (c == 2) = false ∧ (c == 3) = false) := by
    rcases Fr.parts_cases c with ⟨v, _, rfl | rfl | rfl⟩ | h
    · exact Or.inl rfl
    · exact Or.inr (Or.inl rfl)
    · exact Or.inr (Or.inr (Or.inl rfl))
    · exact Or.inr (Or.inr (Or.inr h))
  rcases hcs with rfl | rfl | rfl | ⟨hp, h1, h2, h3⟩
  · go_enter Try.func47, Try.ntmps47
    go_wp2
    go_ret2
    exact ⟨rfl, Drawn0.refl _⟩
  · go_enter Try.func47, Try.ntmps47
    go_wp2
    go_ret2
    exact ⟨rfl, Drawn0.refl _⟩
  · go_enter Try.func47, Try.ntmps47
    go_wp2
    go_ret2
    exact ⟨rfl, Drawn0.refl _⟩
  · rw [hp]
    clear hp
    go_enter Try.func47, Try.ntmps47
    go_wp2
    go_ret2
    exact ⟨rfl, Drawn0.refl _⟩
/-- The document's bearer, made new. -/
def RNewly (c : Int) (up : Bool) (w : World) (e : Ending) (w' : World) : Prop := Below w.heap.size w w' ∧ ∃ gb, w.heap.size ≤ gb ∧ e = .returned (.tuple #[.pointer (some ⟨gb, 0, none⟩), .int .i64 0]) ∧ RefAt w' gb (Gm.gp c) up 0
theorem rnew_any {c r : Int} {up : Bool} (hc : c = 1 ∨ c = 2 ∨ c = 3) (hr : r = 1 ∧ up = true ∨ r = 3 ∧ up = false) (w : World) : Calls Try.prog 32 #[.int .i64 c, .int .i64 r] w (RNewly c up w) := by
  have hp : Fr.parts c = (Gm.gp c, 0) := by rcases hc with rfl | rfl | rfl <;> rfl
  have HP := Aside0.mk (fun w => by have := rparts_any c w; rw [hp] at this; exact this)
  clear hp hc
  generalize hv : Gm.gp c = v at *
  have HV := Aside0.mk hv
  clear hv
  rcases hr with ⟨rfl, rfl⟩ | ⟨rfl, rfl⟩
  all_goals
    go_enter Try.func32, Try.ntmps32
    go_wp2_with fail
    refine (HP.out _).mono ?_
    rintro e w1 ⟨rfl, ⟨m1, rfl⟩⟩
    go_wp2_with fail
    go_ret2
    refine ⟨(pw_below_drewN (Below.refl w.heap.size w) m1).alloc (by simp) _, w.heap.size, Nat.le_refl _, rfl, ?_⟩
    rw [HV.out]
    have e : w.heap.size = (w.drewN m1).heap.size := by simp
    rw [e]
    generalize w.drewN m1 = w1
    constructor <;> simp [go_sem]
theorem rnew_no {c r : Int} (h : ¬ ((c = 1 ∨ c = 2 ∨ c = 3) ∧ (r = 1 ∨ r = 3))) (w : World) : Calls Try.prog 32 #[.int .i64 c, .int .i64 r] w fun e w' => e = .returned (.tuple #[.pointer none, .int .i64 1]) ∧ Drawn0 w w' := by
  by_cases hc : c = 1 ∨ c = 2 ∨ c = 3
  · have hp : Fr.parts c = (Gm.gp c, 0) := by rcases hc with rfl | rfl | rfl <;> rfl
    have HP := Aside0.mk (fun w => by have := rparts_any c w; rw [hp] at this; exact this)
    have q1 : (r != 1) = true := by simp; exact fun h' => h ⟨hc, Or.inl h'⟩
    have q2 : (r != 3) = true := by simp; exact fun h' => h ⟨hc, Or.inr h'⟩
    clear hp hc h
    go_enter Try.func32, Try.ntmps32
    go_wp2_with fail
    refine (HP.out _).mono ?_
    rintro e w1 ⟨rfl, ⟨m1, rfl⟩⟩
    go_wp2_with fail
    go_ret2
    exact ⟨rfl, ⟨_, rfl⟩⟩
  · have hp : Fr.parts c = (0, 1) := by
      rcases Fr.parts_cases c with ⟨v, _, h⟩ | ⟨h, _⟩
      · exact absurd h hc
      · exact h
    have HP := Aside0.mk (fun w => by have := rparts_any c w; rw [hp] at this; exact this)
    clear hp hc h
    go_enter Try.func32, Try.ntmps32
    go_wp2_with fail
    refine (HP.out _).mono ?_
    rintro e w1 ⟨rfl, ⟨m1, rfl⟩⟩
    go_wp2_with fail
    go_ret2
    exact ⟨rfl, ⟨_, rfl⟩⟩
theorem rwhole_any {gb : Nat} {P rest : Int} {up : Bool} {w : World} (A : RefAt w gb P up rest) (p0 : 0 ≤ P) (p1 : P ≤ 133590) : Calls Try.prog 33 #[.pointer (some ⟨gb, 0, none⟩)] w fun e w' => e = .returned (.int .i64 (1000000000 * P)) ∧ w' = w := by
  obtain ⟨c0, c1, c2, f2, lt⟩ := A
  go_enter Try.func33, Try.ntmps33
  go_wp2
  go_ret
  exact ⟨rfl, rfl⟩
theorem gp_bd (c : Int) : 360 ≤ Gm.gp c ∧ Gm.gp c ≤ 133590 := by
  unfold Gm.gp
  split
  · decide
  · split <;> decide
end Go.Proofs.Ytliapjhjofmliaa.H
