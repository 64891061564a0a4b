/- fixnum.Ratio where what comes out does not fit. -/
import Derived.Test.YtliapjhjofmliaaE8
import Derived.Deep.RegionWith
namespace Go.Proofs.Ytliapjhjofmliaa.H
open Go.RowKit Go.Proofs.YtliapjhjofmliaaW.PrintWords Go.Proofs.YtliapjhjofmliaaW.PrintLast Go.Proofs.YtliapjhjofmliaaW.PrintMore
open Go.Proofs.Ytliapjhjofmliaa.Math
set_option linter.unusedVariables false
set_option linter.unusedSimpArgs false
theorem leaves_same {P : Program} {fn : Func} {R : Ending → World → Prop} {t1 t2 : Array Value} (h : results fn t1 = results fn t2) : ∀ (ds : List Deferred) (u : FrameMode) (w : World), Leaves P fn t1 R ds u w → Leaves P fn t2 R ds u w
  | [], .returning, w, ⟨v, h1, h2⟩ => ⟨v, h ▸ h1, h2⟩
  | [], .panicking c, w, x => x
  | [], .run, w, x => x
  | d :: ds, u, w, ⟨hu, fv, cap, f, args, e1, e2, e3⟩ => ⟨hu, fv, cap, f, args, e1, e2, fun c cs hc => by
      obtain ⟨e, u', w', fr, hr, rest⟩ := e3 c cs hc
      refine ⟨e, u', w', fr, ?_, rest⟩
      cases e with
      | returned v => exact leaves_same h ds _ _ hr
      | panicked c => exact leaves_same h ds _ _ hr
      | outgrown => exact hr⟩
theorem res18 (t : Array Value) (s : Nat) (v : Value) (h : s ≠ 8 ∧ s ≠ 9) : results Try.f18 (t.setIfInBounds s v) = results Try.f18 t := by
  have e8 : (t.setIfInBounds s v)[8]? = t[8]? := Array.getElem?_setIfInBounds_ne h.1
  have e9 : (t.setIfInBounds s v)[9]? = t[9]? := Array.getElem?_setIfInBounds_ne h.2
  simp only [results, Try.results18]
  simp [e8, e9]
theorem Ratio_range {mode a b d : Int} (hm : mode ≠ 0) (a1 : -9223372036854775808 ≤ a) (a2 : a ≤ 9223372036854775807) (b1 : -9223372036854775808 ≤ b) (b2 : b ≤ 9223372036854775807) (d0 : 0 < d) (d1 : d ≤ 9223372036854775807) (hf : ¬ fits (rnd (a * b) d mode)) (w : World) :
    Calls Try.prog 18 #[.agg #[.int .i64 mode], .int .i64 a, .int .i64 b, .int .i64 d] w fun e w' => e = .returned (.tuple #[.int .i64 0, .int .i64 3]) ∧ Below w.heap.size w w' := by
  have R0 := Aside0.mk (Res3.made w (.int .i64 mode) (.int .i64 0) (.int .i64 0) 23 2 24)
  have HR := Aside0.mk (fun w0 => ratio_no a1 a2 b1 b2 d0 d1 hf w0)
  have HP := Aside0.mk (fun w0 => product_is a1 a2 b1 b2 w0)
  have hm1 : (mode != 0) = true := by simpa using hm
  have hd1 : decide (0 < d) = true := decide_eq_true d0
  clear hm a1 a2 b1 b2 d0 d1 hf
  go_enter_defers Try.func18, Try.ntmps18
  go_wp2_with fail
  refine (must_yes 1 _).mono ?_
  rintro e w1 ⟨rfl, rfl⟩
  go_wp2
  generalize hW : (((w.alloc (Obj.cells #[Value.int IntKind.i64 mode] 23)).alloc (Obj.cells #[Value.int IntKind.i64 0] 2)).alloc (Obj.cells #[Value.int IntKind.i64 0] 24)) = W at *
  clear hW
  have R1 := Aside0.mk R0.out.drew
  have cm := R1.out.c0
  clear R0
  refine wp_region_any (by kernel_rfl) ?_
  change wpAny _ _ _ _ _ _ _ (World.drew _)
  refine wpAny_take (i := 0) (v := ?_) rfl (by kernel_rfl) (by kernel_rfl) (by kernel_rfl) (fun _ _ _ h => leaves_same (res18 _ 18 _ (by decide)) _ _ _ h) (Or.inl ⟨by rfl, ?_⟩) ?_
  rotate_left
  · intro w; go_simp; try with_reducible rfl
  refine wpAny_take (i := 1) (v := ?_) rfl (by kernel_rfl) (by kernel_rfl) (by kernel_rfl) (fun _ _ _ h => leaves_same (res18 _ 19 _ (by decide)) _ _ _ h) (Or.inl ⟨by rfl, ?_⟩) ?_
  rotate_left
  · intro w; go_simp; try with_reducible rfl
  refine wpAny_take (i := 3) (v := ?_) rfl (by kernel_rfl) (by kernel_rfl) (by kernel_rfl) (fun _ _ _ h => leaves_same (res18 _ 21 _ (by decide)) _ _ _ h) (Or.inl ⟨by rfl, ?_⟩) ?_
  rotate_left
  · intro w; go_simp; try with_reducible rfl
  refine wpAny_take (i := 4) (v := ?_) rfl (by kernel_rfl) (by kernel_rfl) (by kernel_rfl) (fun _ _ _ h => leaves_same (res18 _ 22 _ (by decide)) _ _ _ h) (Or.inl ⟨by rfl, ?_⟩) ?_
  rotate_left
  · intro w; go_simp; try with_reducible rfl
  refine wpAny_ready (rs := [2, 5]) (by kernel_rfl) (by simp) ?_
  refine AllReady.cons rfl (fun K hK => ?_) (AllReady.cons rfl (fun K hK => ?_) AllReady.nil)
  · go_simp
    go_wp2_with ((go_at_call 39; refine (HP.out _).mono ?_; rintro e w1 ⟨rfl, hd⟩; have R2 := Aside0.mk (R1.out.step hd); have cm2 := R2.out.c0; clear hd))
    refine wpAny_ready (rs := [5]) (by kernel_rfl) (by simp) ?_
    refine AllReady.cons rfl (fun K hK => ?_) AllReady.nil
    go_simp
    refine hK _ _ ?_
    clear hK K
    refine wpAny_ready (rs := [6]) (by kernel_rfl) (by simp) ?_
    refine AllReady.cons rfl (fun K hK => ?_) AllReady.nil
    go_simp
    go_wp2_with fail
    refine (HR.out _).mono ?_
    rintro e w3 ⟨rfl, hd⟩
    have R3 := Aside0.mk (R2.out.step hd)
    clear hd
    refine leaves_cons (f := 37) (args := #[.pointer (some ⟨w.heap.size + 1, 0, none⟩), .pointer (some ⟨w.heap.size + 1 + 1, 0, none⟩)]) (by simp) (by simp [go_sem]) ?_
    refine (caught_thrown _ _ 0 0 3 [] _ (by simp) R3.out.c1 R3.out.c2 R3.out.f1 R3.out.f2).mono ?_
    rintro e u' w'' ⟨rfl, rfl, rfl⟩
    have c1 := R3.out.c1
    have c2 := R3.out.c2
    simp [Leaves, settle, results, Try.results18, go_sem, c1, c2]
    exact R3.out.put _ _
  · go_simp
    refine hK _ _ ?_
    clear hK K
    refine wpAny_ready (rs := [2]) (by kernel_rfl) (by simp) ?_
    refine AllReady.cons rfl (fun K hK => ?_) AllReady.nil
    go_simp
    go_wp2_with ((go_at_call 39; refine (HP.out _).mono ?_; rintro e w1 ⟨rfl, hd⟩; have R2 := Aside0.mk (R1.out.step hd); clear hd))
    refine wpAny_ready (rs := [6]) (by kernel_rfl) (by simp) ?_
    refine AllReady.cons rfl (fun K hK => ?_) AllReady.nil
    go_simp
    go_wp2_with fail
    refine (HR.out _).mono ?_
    rintro e w3 ⟨rfl, hd⟩
    have R3 := Aside0.mk (R2.out.step hd)
    clear hd
    refine leaves_cons (f := 37) (args := #[.pointer (some ⟨w.heap.size + 1, 0, none⟩), .pointer (some ⟨w.heap.size + 1 + 1, 0, none⟩)]) (by simp) (by simp [go_sem]) ?_
    refine (caught_thrown _ _ 0 0 3 [] _ (by simp) R3.out.c1 R3.out.c2 R3.out.f1 R3.out.f2).mono ?_
    rintro e u' w'' ⟨rfl, rfl, rfl⟩
    have c1 := R3.out.c1
    have c2 := R3.out.c2
    simp [Leaves, settle, results, Try.results18, go_sem, c1, c2]
    exact R3.out.put _ _
end Go.Proofs.Ytliapjhjofmliaa.H
