/- Contracts by hand: Plus, Times. -/
import Derived.Test.YtliapjhjofmliaaE5
namespace Go.Proofs.Ytliapjhjofmliaa.H
open Go.RowKit Go.Proofs.YtliapjhjofmliaaW.PrintWords Go.Proofs.YtliapjhjofmliaaW.PrintLast Go.Proofs.YtliapjhjofmliaaW.PrintMore
open Go.Proofs.Ytliapjhjofmliaa.Math
set_option linter.unusedVariables false
set_option linter.unusedSimpArgs false
theorem fit_sum_yes {a b : Int} (ha : fits a) (hb : fits b) (hs : fits (a + b)) (w : World) : Calls Try.prog 43 #[.int .i64 (wrap64 (a + b))] w fun e w' => e = .returned (.int .i64 (a + b)) ∧ Drawn0 w w' := by
  rw [w64 (by unfold fits at *; omega) (by unfold fits at *; omega)]
  exact fit_yes hs w
theorem fit_sum_no {a b : Int} (ha : fits a) (hb : fits b) (hs : ¬ fits (a + b)) (w : World) : Calls Try.prog 43 #[.int .i64 (wrap64 (a + b))] w fun e w' => e = .panicked [{ v := .iface 24 (.int .i64 3), recovered := false }] ∧ Drawn0 w w' := by
  rw [w64 (by unfold fits at *; omega) (by unfold fits at *; omega)]
  exact fit_no hs w
theorem Plus_yes {a b : Int} (ha : fits a) (hb : fits b) (hs : fits (a + b)) (w : World) :
    Calls Try.prog 22 #[.int .i64 a, .int .i64 b] w fun e w' => e = .returned (.tuple #[.int .i64 (a + b), .int .i64 0]) ∧ Below w.heap.size w w' := by
  have R0 := Aside0.mk (Res2.made w (.int .i64 0) (.int .i64 0) 2 24)
  have HA := Aside0.mk ha
  have HB := Aside0.mk hb
  have HS := Aside0.mk hs
  clear ha hb hs
  go_enter_defers Try.func22, Try.ntmps22
  go_wp2_with fail
  refine (fit_yes HA.out _).mono ?_
  rintro e w1 ⟨rfl, hd⟩
  have R1 := Aside0.mk (R0.out.drawn hd)
  clear hd R0
  go_wp2_with fail
  refine (fit_yes HB.out _).mono ?_
  rintro e w2 ⟨rfl, hd⟩
  have R2 := Aside0.mk (R1.out.drawn hd)
  clear hd R1
  go_wp2_with fail
  refine (fit_sum_yes HA.out HB.out HS.out _).mono ?_
  rintro e w3 ⟨rfl, hd⟩
  have RL := R2.out.drawn hd
  have c0 := RL.c0
  have c1 := RL.c1
  have f0 := RL.f0
  have f1 := RL.f1
  have RR := Aside0.mk RL
  clear hd RL R2
  go_wp2
  refine leaves_cons (f := 37) (args := #[.pointer (some ⟨w.heap.size, 0, none⟩), .pointer (some ⟨w.heap.size + 1, 0, none⟩)]) (by simp) (by simp [go_sem]) ?_
  refine (caught_idle _ _ _).mono ?_
  rintro e u' w'' ⟨rfl, rfl, rfl⟩
  simp [Leaves, settle, results, Try.results22, go_sem, c0, c1]
  exact RR.out.put _ _
theorem Plus_no0 {a b : Int} (ha : ¬ fits a) (w : World) :
    Calls Try.prog 22 #[.int .i64 a, .int .i64 b] w fun e w' => e = .returned (.tuple #[.int .i64 0, .int .i64 3]) ∧ Below w.heap.size w w' := by
  have R0 := Aside0.mk (Res2.made w (.int .i64 0) (.int .i64 0) 2 24)
  have HA := Aside0.mk ha
  clear ha
  go_enter_defers Try.func22, Try.ntmps22
  go_wp2_with fail
  refine (fit_no HA.out _).mono ?_
  rintro e w1 ⟨rfl, hd⟩
  have R1 := Aside0.mk (R0.out.drawn hd)
  clear hd R0
  refine leaves_cons (f := 37) (args := #[.pointer (some ⟨w.heap.size, 0, none⟩), .pointer (some ⟨w.heap.size + 1, 0, none⟩)]) (by simp) (by simp [go_sem]) ?_
  refine (caught_thrown _ _ 0 0 3 [] _ (by simp) R1.out.c0 R1.out.c1 R1.out.f0 R1.out.f1).mono ?_
  rintro e u' w'' ⟨rfl, rfl, rfl⟩
  have c0 := R1.out.c0
  have c1 := R1.out.c1
  simp [Leaves, settle, results, Try.results22, go_sem, c0, c1]
  exact R1.out.put _ _
theorem Plus_no1 {a b : Int} (ha : fits a) (hb : ¬ fits b) (w : World) :
    Calls Try.prog 22 #[.int .i64 a, .int .i64 b] w fun e w' => e = .returned (.tuple #[.int .i64 0, .int .i64 3]) ∧ Below w.heap.size w w' := by
  have R0 := Aside0.mk (Res2.made w (.int .i64 0) (.int .i64 0) 2 24)
  have HA := Aside0.mk ha
  have HB := Aside0.mk hb
  clear ha hb
  go_enter_defers Try.func22, Try.ntmps22
  go_wp2_with fail
  refine (fit_yes HA.out _).mono ?_
  rintro e w1 ⟨rfl, hd⟩
  have R1 := Aside0.mk (R0.out.drawn hd)
  clear hd R0
  go_wp2_with fail
  refine (fit_no HB.out _).mono ?_
  rintro e w2 ⟨rfl, hd⟩
  have R2 := Aside0.mk (R1.out.drawn hd)
  clear hd R1
  refine leaves_cons (f := 37) (args := #[.pointer (some ⟨w.heap.size, 0, none⟩), .pointer (some ⟨w.heap.size + 1, 0, none⟩)]) (by simp) (by simp [go_sem]) ?_
  refine (caught_thrown _ _ 0 0 3 [] _ (by simp) R2.out.c0 R2.out.c1 R2.out.f0 R2.out.f1).mono ?_
  rintro e u' w'' ⟨rfl, rfl, rfl⟩
  have c0 := R2.out.c0
  have c1 := R2.out.c1
  simp [Leaves, settle, results, Try.results22, go_sem, c0, c1]
  exact R2.out.put _ _
theorem Plus_no2 {a b : Int} (ha : fits a) (hb : fits b) (hs : ¬ fits (a + b)) (w : World) :
    Calls Try.prog 22 #[.int .i64 a, .int .i64 b] w fun e w' => e = .returned (.tuple #[.int .i64 0, .int .i64 3]) ∧ Below w.heap.size w w' := by
  have R0 := Aside0.mk (Res2.made w (.int .i64 0) (.int .i64 0) 2 24)
  have HA := Aside0.mk ha
  have HB := Aside0.mk hb
  have HS := Aside0.mk hs
  clear ha hb hs
  go_enter_defers Try.func22, Try.ntmps22
  go_wp2_with fail
  refine (fit_yes HA.out _).mono ?_
  rintro e w1 ⟨rfl, hd⟩
  have R1 := Aside0.mk (R0.out.drawn hd)
  clear hd R0
  go_wp2_with fail
  refine (fit_yes HB.out _).mono ?_
  rintro e w2 ⟨rfl, hd⟩
  have R2 := Aside0.mk (R1.out.drawn hd)
  clear hd R1
  go_wp2_with fail
  refine (fit_sum_no HA.out HB.out HS.out _).mono ?_
  rintro e w3 ⟨rfl, hd⟩
  have R3 := Aside0.mk (R2.out.drawn hd)
  clear hd R2
  refine leaves_cons (f := 37) (args := #[.pointer (some ⟨w.heap.size, 0, none⟩), .pointer (some ⟨w.heap.size + 1, 0, none⟩)]) (by simp) (by simp [go_sem]) ?_
  refine (caught_thrown _ _ 0 0 3 [] _ (by simp) R3.out.c0 R3.out.c1 R3.out.f0 R3.out.f1).mono ?_
  rintro e u' w'' ⟨rfl, rfl, rfl⟩
  have c0 := R3.out.c0
  have c1 := R3.out.c1
  simp [Leaves, settle, results, Try.results22, go_sem, c0, c1]
  exact R3.out.put _ _

theorem ratio1_yes {v n : Int} (ha : fits v) (hn : -9223372036854775808 ≤ n ∧ n ≤ 9223372036854775807) (hs : fits (v * n)) (w : World) :
    Calls Try.prog 40 #[.agg #[.bool (wide v n).1, .int .u64 (wide v n).2.1, .int .u64 (wide v n).2.2], .int .i64 1, .int .i64 0] w fun e w' => e = .returned (.int .i64 (v * n)) ∧ Below w.heap.size w w' := by
  have := ratio_yes (a := v) (b := n) (d := 1) (mode := 0) (by unfold fits at *; omega) (by unfold fits at *; omega) hn.1 hn.2 (by decide) (by decide) (by rw [rnd_one]; exact hs) w
  rw [rnd_one] at this
  exact this
theorem ratio1_no {v n : Int} (ha : fits v) (hn : -9223372036854775808 ≤ n ∧ n ≤ 9223372036854775807) (hs : ¬ fits (v * n)) (w : World) :
    Calls Try.prog 40 #[.agg #[.bool (wide v n).1, .int .u64 (wide v n).2.1, .int .u64 (wide v n).2.2], .int .i64 1, .int .i64 0] w fun e w' => e = .panicked [{ v := .iface 24 (.int .i64 3), recovered := false }] ∧ Below w.heap.size w w' :=
  ratio_no (a := v) (b := n) (d := 1) (mode := 0) (by unfold fits at *; omega) (by unfold fits at *; omega) hn.1 hn.2 (by decide) (by decide) (by rw [rnd_one]; exact hs) w
theorem product1 {v n : Int} (ha : fits v) (hn : -9223372036854775808 ≤ n ∧ n ≤ 9223372036854775807) (w : World) :
    Calls Try.prog 39 #[.int .i64 v, .int .i64 n] w fun e w' => e = .returned (.agg #[.bool (wide v n).1, .int .u64 (wide v n).2.1, .int .u64 (wide v n).2.2]) ∧ Below w.heap.size w w' :=
  product_is (by unfold fits at *; omega) (by unfold fits at *; omega) hn.1 hn.2 w
theorem Times_yes {v n : Int} (ha : fits v) (hn : -9223372036854775808 ≤ n ∧ n ≤ 9223372036854775807) (hs : fits (v * n)) (w : World) :
    Calls Try.prog 24 #[.int .i64 v, .int .i64 n] w fun e w' => e = .returned (.tuple #[.int .i64 (v * n), .int .i64 0]) ∧ Below w.heap.size w w' := by
  have R0 := Aside0.mk (Res2.made w (.int .i64 0) (.int .i64 0) 2 24)
  have HA := Aside0.mk ha
  have HN := Aside0.mk hn
  have HS := Aside0.mk hs
  clear ha hn hs
  go_enter_defers Try.func24, Try.ntmps24
  go_wp2_with fail
  refine (fit_yes HA.out _).mono ?_
  rintro e w1 ⟨rfl, hd⟩
  have R1 := Aside0.mk (R0.out.drawn hd)
  clear hd R0
  go_wp2_with fail
  refine (product1 HA.out HN.out _).mono ?_
  rintro e w2 ⟨rfl, hd⟩
  have R2 := Aside0.mk (R1.out.step hd)
  clear hd R1
  go_wp2_with fail
  refine (ratio1_yes HA.out HN.out HS.out _).mono ?_
  rintro e w3 ⟨rfl, hd⟩
  have RL := R2.out.step hd
  have c0 := RL.c0
  have c1 := RL.c1
  have f0 := RL.f0
  have f1 := RL.f1
  have RR := Aside0.mk RL
  clear hd RL R2
  go_wp2
  refine leaves_cons (f := 37) (args := #[.pointer (some ⟨w.heap.size, 0, none⟩), .pointer (some ⟨w.heap.size + 1, 0, none⟩)]) (by simp) (by simp [go_sem]) ?_
  refine (caught_idle _ _ _).mono ?_
  rintro e u' w'' ⟨rfl, rfl, rfl⟩
  simp [Leaves, settle, results, Try.results24, go_sem, c0, c1]
  exact RR.out.put _ _
theorem Times_no0 {v n : Int} (ha : ¬ fits v) (w : World) :
    Calls Try.prog 24 #[.int .i64 v, .int .i64 n] w fun e w' => e = .returned (.tuple #[.int .i64 0, .int .i64 3]) ∧ Below w.heap.size w w' := by
  have R0 := Aside0.mk (Res2.made w (.int .i64 0) (.int .i64 0) 2 24)
  have HA := Aside0.mk ha
  clear ha
  go_enter_defers Try.func24, Try.ntmps24
  go_wp2_with fail
  refine (fit_no HA.out _).mono ?_
  rintro e w1 ⟨rfl, hd⟩
  have R1 := Aside0.mk (R0.out.drawn hd)
  clear hd R0
  refine leaves_cons (f := 37) (args := #[.pointer (some ⟨w.heap.size, 0, none⟩), .pointer (some ⟨w.heap.size + 1, 0, none⟩)]) (by simp) (by simp [go_sem]) ?_
  refine (caught_thrown _ _ 0 0 3 [] _ (by simp) R1.out.c0 R1.out.c1 R1.out.f0 R1.out.f1).mono ?_
  rintro e u' w'' ⟨rfl, rfl, rfl⟩
  have c0 := R1.out.c0
  have c1 := R1.out.c1
  simp [Leaves, settle, results, Try.results24, go_sem, c0, c1]
  exact R1.out.put _ _
theorem Times_no1 {v n : Int} (ha : fits v) (hn : -9223372036854775808 ≤ n ∧ n ≤ 9223372036854775807) (hs : ¬ fits (v * n)) (w : World) :
    Calls Try.prog 24 #[.int .i64 v, .int .i64 n] w fun e w' => e = .returned (.tuple #[.int .i64 0, .int .i64 3]) ∧ Below w.heap.size w w' := by
  have R0 := Aside0.mk (Res2.made w (.int .i64 0) (.int .i64 0) 2 24)
  have HA := Aside0.mk ha
  have HN := Aside0.mk hn
  have HS := Aside0.mk hs
  clear ha hn hs
  go_enter_defers Try.func24, Try.ntmps24
  go_wp2_with fail
  refine (fit_yes HA.out _).mono ?_
  rintro e w1 ⟨rfl, hd⟩
  have R1 := Aside0.mk (R0.out.drawn hd)
  clear hd R0
  go_wp2_with fail
  refine (product1 HA.out HN.out _).mono ?_
  rintro e w2 ⟨rfl, hd⟩
  have R2 := Aside0.mk (R1.out.step hd)
  clear hd R1
  go_wp2_with fail
  refine (ratio1_no HA.out HN.out HS.out _).mono ?_
  rintro e w3 ⟨rfl, hd⟩
  have R3 := Aside0.mk (R2.out.step hd)
  clear hd R2
  refine leaves_cons (f := 37) (args := #[.pointer (some ⟨w.heap.size, 0, none⟩), .pointer (some ⟨w.heap.size + 1, 0, none⟩)]) (by simp) (by simp [go_sem]) ?_
  refine (caught_thrown _ _ 0 0 3 [] _ (by simp) R3.out.c0 R3.out.c1 R3.out.f0 R3.out.f1).mono ?_
  rintro e u' w'' ⟨rfl, rfl, rfl⟩
  have c0 := R3.out.c0
  have c1 := R3.out.c1
  simp [Leaves, settle, results, Try.results24, go_sem, c0, c1]
  exact R3.out.put _ _
end Go.Proofs.Ytliapjhjofmliaa.H
