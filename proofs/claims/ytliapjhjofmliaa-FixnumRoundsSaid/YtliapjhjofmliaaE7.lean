/- Contracts by hand: Ratio, Divide. -/
import Derived.Test.YtliapjhjofmliaaE6
import Derived.Deep.RegionHeld3
namespace Go.Proofs.Ytliapjhjofmliaa.H
open Go.RowKit Go.Proofs.YtliapjhjofmliaaW.PrintWords Go.Proofs.YtliapjhjofmliaaW.PrintLast Go.Proofs.YtliapjhjofmliaaW.PrintMore
open Go.Proofs.Ytliapjhjofmliaa.Math
set_option linter.unusedVariables false
set_option linter.unusedSimpArgs false

/-- A boxed receiver, and two result cells, new at w. -/
structure Res3 (w W : World) (m x y : Value) : Prop where
  below : Below w.heap.size w W
  c0 : W.cell? ⟨w.heap.size, 0, none⟩ = some m
  c1 : W.cell? ⟨w.heap.size + 1, 0, none⟩ = some x
  c2 : W.cell? ⟨w.heap.size + 1 + 1, 0, none⟩ = some y
  f1 : W.frozen? ⟨w.heap.size + 1, 0, none⟩ = false
  f2 : W.frozen? ⟨w.heap.size + 1 + 1, 0, none⟩ = false
  size : w.heap.size + 3 ≤ W.heap.size
theorem Res3.made (w : World) (m x y : Value) (s t u : TypeId) : Res3 w (((w.alloc (.cells #[m] s)).alloc (.cells #[x] t)).alloc (.cells #[y] u)) m x y := by
  refine ⟨(((Below.refl _ _).alloc (Nat.le_refl _) _).alloc (by simp) _).alloc (by simp; omega) _, ?_, ?_, ?_, ?_, ?_, ?_⟩ <;> simp [go_sem]
theorem Res3.step {w W W' : World} {m x y : Value} (h : Res3 w W m x y) (hb : Below W.heap.size W W') : Res3 w W' m x y := by
  have hs := h.size
  refine ⟨h.below.trans (hb.mono (by omega)), ?_, ?_, ?_, ?_, ?_, Nat.le_trans h.size hb.size⟩
  · rw [hb.cell (by simp; omega)]; exact h.c0
  · rw [hb.cell (by simp; omega)]; exact h.c1
  · rw [hb.cell (by simp; omega)]; exact h.c2
  · rw [hb.frozen (by simp; omega)]; exact h.f1
  · rw [hb.frozen (by simp; omega)]; exact h.f2
theorem Res3.drawn {w W W' : World} {m x y : Value} (h : Res3 w W m x y) (hb : Drawn0 W W') : Res3 w W' m x y := h.step hb.below
theorem Res3.drew {w W : World} {m x y : Value} (h : Res3 w W m x y) : Res3 w W.drew m x y := h.step ((Below.refl _ _).drew)
theorem Res3.put {w W : World} {m x y : Value} (h : Res3 w W m x y) (u v : Value) : Below w.heap.size w ((W.setCell ⟨w.heap.size + 1, 0, none⟩ u).setCell ⟨w.heap.size + 1 + 1, 0, none⟩ v) :=
  (h.below.setCell (by simp) _).setCell (by simp; omega) _

/-- The same, whatever the result cells hold. -/
def RS (w W : World) (m : Value) : Prop := W.cell? ⟨w.heap.size, 0, none⟩ = some m ∧ ∃ x y, Res3 w W m x y
theorem Res3.rs {w W : World} {m x y : Value} (h : Res3 w W m x y) : RS w W m := ⟨h.c0, _, _, h⟩
theorem Res3.put1 {w W : World} {m x y : Value} (h : Res3 w W m x y) (v : Value) : Res3 w (W.setCell ⟨w.heap.size + 1, 0, none⟩ v) m v y := by
  refine ⟨h.below.setCell (by simp) _, ?_, ?_, ?_, ?_, ?_, ?_⟩
  · rw [World.cell?_setCell_other _ _ _ _ (by simp)]; exact h.c0
  · have := h.c1; simp [World.cell?_setCell_same, this]
  · rw [World.cell?_setCell_other _ _ _ _ (by simp)]; exact h.c2
  · have := h.f1; simp [go_sem, this]
  · have := h.f2; simp [go_sem, this]
  · have := h.size; simp [go_sem]; omega
theorem Res3.put2 {w W : World} {m x y : Value} (h : Res3 w W m x y) (v : Value) : Res3 w (W.setCell ⟨w.heap.size + 1 + 1, 0, none⟩ v) m x v := by
  refine ⟨h.below.setCell (by simp; omega) _, ?_, ?_, ?_, ?_, ?_, ?_⟩
  · rw [World.cell?_setCell_other _ _ _ _ (by simp)]; exact h.c0
  · rw [World.cell?_setCell_other _ _ _ _ (by simp)]; exact h.c1
  · have := h.c2; simp [World.cell?_setCell_same, this]
  · have := h.f1; simp [go_sem, this]
  · have := h.f2; simp [go_sem, this]
  · have := h.size; simp [go_sem]; omega
theorem Ratio_yes {mode a b d : Int} (hm : mode ≠ 0) (a1 : -9223372036854775808 ≤ a) (a2 : a ≤ 9223372036854775807) (b1 : -9223372036854775808 ≤ b) (b2 : b ≤ 9223372036854775807) (d0 : 0 < d) (d1 : d ≤ 9223372036854775807) (hf : fits (rnd (a * b) d mode)) (w : World) :
    Calls Try.prog 18 #[.agg #[.int .i64 mode], .int .i64 a, .int .i64 b, .int .i64 d] w fun e w' => e = .returned (.tuple #[.int .i64 (rnd (a * b) d mode), .int .i64 0]) ∧ Below w.heap.size w w' := by
  have R0 := Aside0.mk (Res3.made w (.int .i64 mode) (.int .i64 0) (.int .i64 0) 23 2 24)
  have HR := Aside0.mk (fun w0 => ratio_yes a1 a2 b1 b2 d0 d1 hf w0)
  have HP := Aside0.mk (fun w0 => product_is a1 a2 b1 b2 w0)
  have hm1 : (mode != 0) = true := by simpa using hm
  have hd1 : decide (0 < d) = true := decide_eq_true d0
  clear hm a1 a2 b1 b2 d0 d1 hf
  generalize hrv : rnd (a * b) d mode = rv at *
  clear hrv
  go_enter_defers Try.func18, Try.ntmps18
  go_wp2_with fail
  refine (must_yes 1 _).mono ?_
  rintro e w1 ⟨rfl, rfl⟩
  go_wp2
  generalize hW : (((w.alloc (Obj.cells #[Value.int IntKind.i64 mode] 23)).alloc (Obj.cells #[Value.int IntKind.i64 0] 2)).alloc (Obj.cells #[Value.int IntKind.i64 0] 24)) = W at *
  clear hW
  have c0 := R0.out.c0
  have RES := R0.out
  clear R0
  go_region_held3 (fun w' => w'.cell? ⟨w.heap.size, 0, none⟩ = some (.int .i64 mode) ∧ ∃ x y, Res3 w w' (.int .i64 mode) x y)
    (first | (exact Res3.rs RES.drew) | assumption | (exact Res3.rs RX) | (exact Res3.rs (Res3.put1 RX _)) | (exact Res3.rs (Res3.put2 (Res3.put1 RX _) _)) | (obtain ⟨_, x, y, hx⟩ := ‹_ ∧ ∃ x y, Res3 _ _ _ x y›; exact Res3.rs (hx.step ‹Below _ _ _›)))
    (first
      | (go_at_call 39; refine (HP.out _).mono ?_; rintro e w1 ⟨rfl, hd⟩)
      | (go_at_call 40; refine (HR.out _).mono ?_; rintro e w1 ⟨rfl, hd⟩; obtain ⟨_, x, y, hx⟩ := ‹_ ∧ ∃ x y, Res3 _ _ _ x y›; have RX := hx.step hd; have c1 := RX.c1; have c2 := RX.c2; have f1 := RX.f1; have f2 := RX.f2))
  have RF := Res3.put2 (Res3.put1 RX (.int .i64 rv)) (.int .i64 0)
  clear RX c1 c2 f1 f2 hx
  generalize (w1.setCell ⟨w.heap.size + 1, 0, none⟩ (.int .i64 rv)).setCell ⟨w.heap.size + 1 + 1, 0, none⟩ (.int .i64 0) = WF at *
  have c1 := RF.c1
  have c2 := RF.c2
  have RR := Aside0.mk RF.below
  clear RF
  go_wp2
  refine leaves_cons (f := 37) (args := #[.pointer (some ⟨w.heap.size + 1, 0, none⟩), .pointer (some ⟨w.heap.size + 1 + 1, 0, none⟩)]) (by simp) (by simp [go_sem]) ?_
  refine (caught_idle _ _ _).mono ?_
  rintro e u' w'' ⟨rfl, rfl, rfl⟩
  simp [Leaves, settle, results, Try.results18, go_sem, c1, c2]
  exact RR.out
/-- What may not be asked. -/
theorem Ratio_arg {mode a b d : Int} (hm : ¬ (mode ≠ 0 ∧ 0 < d)) (w : World) :
    Calls Try.prog 18 #[.agg #[.int .i64 mode], .int .i64 a, .int .i64 b, .int .i64 d] w fun e w' => e = .returned (.tuple #[.int .i64 0, .int .i64 1]) ∧ Below w.heap.size w w' := by
  have R0 := Aside0.mk (Res3.made w (.int .i64 mode) (.int .i64 0) (.int .i64 0) 23 2 24)
  by_cases h0 : mode = 0
  · have hm1 : (mode != 0) = false := by simpa using h0
    clear hm h0
    go_enter_defers Try.func18, Try.ntmps18
    go_wp2_with fail
    refine (must_no 1 _).mono ?_
    rintro e w1 ⟨rfl, rfl⟩
    have RES := Aside0.mk R0.out
    refine leaves_cons (f := 37) (args := #[.pointer (some ⟨w.heap.size + 1, 0, none⟩), .pointer (some ⟨w.heap.size + 1 + 1, 0, none⟩)]) (by simp) (by simp [go_sem]) ?_
    refine (caught_thrown _ _ 0 0 1 [] _ (by simp) R0.out.c1 R0.out.c2 R0.out.f1 R0.out.f2).mono ?_
    rintro e u' w'' ⟨rfl, rfl, rfl⟩
    have RF := Res3.put2 (Res3.put1 R0.out (.int .i64 0)) (.int .i64 1)
    have c1 := RF.c1
    have c2 := RF.c2
    simp [Leaves, settle, results, Try.results18, go_sem, c1, c2]
    exact (Res3.made w (.int .i64 mode) (.int .i64 0) (.int .i64 1) 23 2 24).below
  · have hm1 : (mode != 0) = true := by simpa using h0
    have hd1 : decide (0 < d) = false := decide_eq_false (fun h => hm ⟨h0, h⟩)
    clear hm h0
    go_enter_defers Try.func18, Try.ntmps18
    go_wp2_with fail
    refine (must_no 1 _).mono ?_
    rintro e w1 ⟨rfl, rfl⟩
    refine leaves_cons (f := 37) (args := #[.pointer (some ⟨w.heap.size + 1, 0, none⟩), .pointer (some ⟨w.heap.size + 1 + 1, 0, none⟩)]) (by simp) (by simp [go_sem]) ?_
    refine (caught_thrown _ _ 0 0 1 [] _ (by simp) R0.out.c1 R0.out.c2 R0.out.f1 R0.out.f2).mono ?_
    rintro e u' w'' ⟨rfl, rfl, rfl⟩
    have RF := Res3.put2 (Res3.put1 R0.out (.int .i64 0)) (.int .i64 1)
    have c1 := RF.c1
    have c2 := RF.c2
    simp [Leaves, settle, results, Try.results18, go_sem, c1, c2]
    exact (Res3.made w (.int .i64 mode) (.int .i64 0) (.int .i64 1) 23 2 24).below
theorem Divide_is {mode a d r e0 : Int} (h : ∀ w0 : World, Calls Try.prog 18 #[.agg #[.int .i64 mode], .int .i64 a, .int .i64 1, .int .i64 d] w0 fun e w' => e = .returned (.tuple #[.int .i64 r, .int .i64 e0]) ∧ Below w0.heap.size w0 w') (w : World) :
    Calls Try.prog 17 #[.agg #[.int .i64 mode], .int .i64 a, .int .i64 d] w fun e w' => e = .returned (.tuple #[.int .i64 r, .int .i64 e0]) ∧ Below w.heap.size w w' := by
  have HH := Aside0.mk h
  clear h
  go_enter Try.func17, Try.ntmps17
  go_wp2_with fail
  refine (HH.out _).mono ?_
  rintro e w1 ⟨rfl, hd⟩
  have HB := Aside0.mk (((Below.refl w.heap.size w).alloc (Nat.le_refl _) (.cells #[.int .i64 mode] 23)).trans (hd.mono (by simp)))
  clear hd
  go_wp2
  go_ret2
  exact ⟨rfl, HB.out⟩
end Go.Proofs.Ytliapjhjofmliaa.H
