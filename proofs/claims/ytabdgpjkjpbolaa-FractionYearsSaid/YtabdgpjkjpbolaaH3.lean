/- Contracts by hand: parts of a year: what is thrown, and caught. -/
import Derived.Test.YtabdgpjkjpbolaaC3
import Derived.Test.YtabdgpjkjpbolaaPGx1
import Derived.Defers
import Derived.Recover
import Derived.WalkLawsBesides
import Derived.WalkSpells
namespace Go.Proofs.Ytabdgpjkjpbolaa.H
open Go.RowKit Go.Proofs.YtabdgpjkjpbolaaW.PrintWords Go.Proofs.YtabdgpjkjpbolaaW.PrintLast Go.Proofs.YtabdgpjkjpbolaaW.PrintMore
open Go.Proofs.Ytabdgpjkjpbolaa.Math
set_option linter.unusedVariables false
set_option linter.unusedSimpArgs false

/-- What does not recover is walked as ever. -/
theorem rest_plain {P : Program} {c : Code} {Q0 : Exit → Act → List Frame → World → Prop} {a : Act} {cs : List Frame} {w : World}
    (h : ∀ Q : Exit → Act → World → Prop, Aside0 (∀ e a' w', Q0 e a' cs w' → Q e a' w') → c.wp P Q a w) : c.wpS P Q0 a cs w :=
  wpS_of_wp (h _ ⟨fun _ _ _ x => x⟩)

/-- Two result cells, new at w. -/
structure Res2 (w W : World) (x y : Value) : Prop where
  below : Below w.heap.size w W
  c0 : W.cell? ⟨w.heap.size, 0, none⟩ = some x
  c1 : W.cell? ⟨w.heap.size + 1, 0, none⟩ = some y
  f0 : W.frozen? ⟨w.heap.size, 0, none⟩ = false
  f1 : W.frozen? ⟨w.heap.size + 1, 0, none⟩ = false
  size : w.heap.size + 2 ≤ W.heap.size
theorem Res2.made (w : World) (x y : Value) (t u : TypeId) : Res2 w ((w.alloc (.cells #[x] t)).alloc (.cells #[y] u)) x y := by
  refine ⟨((Below.refl _ _).alloc (Nat.le_refl _) _).alloc (by simp) _, ?_, ?_, ?_, ?_, ?_⟩ <;> simp [go_sem]
theorem Res2.step {w W W' : World} {x y : Value} (h : Res2 w W x y) (hb : Below W.heap.size W W') : Res2 w W' x y := by
  have hs := h.size
  refine ⟨h.below.trans (hb.mono (by omega)), ?_, ?_, ?_, ?_, Nat.le_trans h.size hb.size⟩
  · rw [hb.cell (by simp; omega)]; exact h.c0
  · rw [hb.cell (by simp; omega)]; exact h.c1
  · rw [hb.frozen (by simp; omega)]; exact h.f0
  · rw [hb.frozen (by simp; omega)]; exact h.f1
theorem Res2.drawn {w W W' : World} {x y : Value} (h : Res2 w W x y) (hb : Drawn0 W W') : Res2 w W' x y := h.step hb.below
theorem Res2.put {w W : World} {x y : Value} (h : Res2 w W x y) (u v : Value) : Below w.heap.size w ((W.setCell ⟨w.heap.size, 0, none⟩ u).setCell ⟨w.heap.size + 1, 0, none⟩ v) :=
  (h.below.setCell (by simp) _).setCell (by simp) _

theorem frac_idle (pv pe : Addr) (w : World) :
    CallsD Try.prog 68 #[.pointer (some pv), .pointer (some pe)] .returning w fun e u' w' => e = .returned (.tuple #[]) ∧ u' = .returning ∧ w' = w := by
  refine callsD_of_wpS Try.func68 rfl fun c₀ cs hu => ?_
  simp only [Try.ntmps68, List.size_toArray, List.length_cons, List.length_nil, Nat.reduceAdd, Nat.reduceSub, Array.replicate_succ, Array.replicate_zero, List.push_toArray, List.append_toArray, List.nil_append, List.cons_append]
  apply wpS_seq
  apply wpS_region
  simp [wpOpsS, go_sem, recoverD, hu, Exit.thenS]
  refine rest_plain fun Q HQ => ?_
  go_wp2
  refine HQ.out _ _ _ ?_
  clear HQ
  simp [bodyPostS, results, Try.results68, hu]
  cases c₀
  simp_all
theorem frac_thrown (pv pe : Addr) (x y : Int) (c : Int) (older : List PanicEntry) (w : World) (hne : pv.block ≠ pe.block) (hx : w.cell? pv = some (.int .i64 x)) (hy : w.cell? pe = some (.int .i64 y)) (fx : w.frozen? pv = false) (fy : w.frozen? pe = false) :
    CallsD Try.prog 68 #[.pointer (some pv), .pointer (some pe)] (.panicking ({ v := .iface 83 (.int .i64 c), recovered := false } :: older)) w fun e u' w' =>
      e = .returned (.tuple #[]) ∧ u' = .panicking ({ v := .iface 83 (.int .i64 c), recovered := true } :: older) ∧ w' = (w.setCell pv (.int .i64 0)).setCell pe (.int .i64 c) := by
  refine callsD_of_wpS Try.func68 rfl fun c₀ cs hu => ?_
  simp only [Try.ntmps68, List.size_toArray, List.length_cons, List.length_nil, Nat.reduceAdd, Nat.reduceSub, Array.replicate_succ, Array.replicate_zero, List.push_toArray, List.append_toArray, List.nil_append, List.cons_append]
  apply wpS_seq
  apply wpS_region
  simp [wpOpsS, go_sem, recoverD, hu, Exit.thenS]
  refine rest_plain fun Q HQ => ?_
  have hta : ∀ w, (Instr.typeAssert (.iface 83 (.int .i64 c)) 20 83 true).run Try.prog w = .ok (.tuple #[.int .i64 c, .bool true]) w := fun _ => by kernel_rfl
  have hy2 : (w.setCell pv (.int .i64 0)).cell? pe = some (.int .i64 y) := by rw [World.cell?_setCell_other]; exact hy; exact fun e => hne (by rw [e])
  go_wp2
  refine HQ.out _ _ _ ?_
  clear HQ
  simp [bodyPostS, results, Try.results68, hu]

/-- How many parts a year has, or which error. -/
def parts (c : Int) : Int × Int := if c = 1 then (360, 0) else if c = 2 then (365, 0) else if c = 3 then (133590, 0) else (0, 1)
theorem year_yes {c v : Int} (h : parts c = (v, 0)) (w : World) : Calls Try.prog 69 #[.int .i64 c] w fun e w' => e = .returned (.int .i64 v) ∧ Drawn0 w w' := by
  refine PG.fraction_year.calls c v w ?_
  unfold parts at h
  unfold PG.fraction_year.f
  repeat' split at h
  all_goals simp_all
theorem year_no {c : Int} (h1 : (c == 1) = false) (h2 : (c == 2) = false) (h3 : (c == 3) = false) (w : World) : Calls Try.prog 69 #[.int .i64 c] w fun e w' => e = .panicked [{ v := .iface 83 (.int .i64 1), recovered := false }] ∧ w' = w := by
  go_enter Try.func69, Try.ntmps69
  go_wp2
  exact ⟨rfl, rfl, rfl⟩
theorem place_yes {c n : Int} (hc : c = 1 ∨ c = 2 ∨ c = 3) (h : isDay n) (w : World) : Calls Try.prog 70 #[.int .i64 c, .int .i64 n] w fun e w' => e = .returned (.int .i64 (place c n)) ∧ Below w.heap.size w w' := by
  refine PG.fraction_place.calls c n (place c n) w ?_
  obtain ⟨y1, y2, y3, y4⟩ := yearOf_spec h
  obtain ⟨_, _, m1, m2, d1, d2⟩ := date_bd h
  have hl := leap_01 (yearOf n)
  have ho := opens_succ (yearOf n)
  obtain ⟨n1, n2⟩ := id h
  have hob := opens_bd (y := yearOf n) (by omega) (by omega)
  unfold PG.fraction_place.f place
  simp only [civil_Date.f, civil_Long.f, civil_Opens.f, Option.bind_some]
  rw [date_yes h]
  simp only [if_true]
  rcases hc with rfl | rfl | rfl
  · simp only [if_true, mn_min]
    unfold thirty
    rw [if_pos h, w64 (x := 360 * yearOf n) (by omega) (by omega), w64 (x := 30 * monthOf n) (by omega) (by omega), w64 (x := 360 * yearOf n + 30 * monthOf n) (by omega) (by omega), w64 (by omega) (by omega)]
  · simp
  · simp only [show ¬ ((3 : Int) = 1) by decide, show ¬ ((3 : Int) = 2) by decide, if_false]
    rw [if_pos (show 1 ≤ yearOf n ∧ yearOf n ≤ 1000000 by omega)]
    simp only [Option.bind_some]
    unfold actual
    rw [w64 (x := yearOf n * 365) (by omega) (by omega), w64 (x := yearOf n * 365 * 366) (by omega) (by omega), w64 (x := n - opens (yearOf n)) (by omega) (by omega)]
    cases hb : long (yearOf n) with
    | true =>
      rw [leap_of_long hb]
      simp only [if_true]
      rw [w64 (x := (n - opens (yearOf n)) * 365) (by omega) (by omega), w64 (by omega) (by omega)]
      congr 1; omega
    | false =>
      rw [leap_of_not hb]
      simp only [Bool.false_eq_true, if_false]
      rw [w64 (x := (n - opens (yearOf n)) * 366) (by omega) (by omega), w64 (by omega) (by omega)]
      congr 1; omega
theorem place_no {c n : Int} (h : ¬ isDay n) (w : World) : Calls Try.prog 70 #[.int .i64 c, .int .i64 n] w fun e w' => e = .panicked [{ v := .iface 83 (.int .i64 5), recovered := false }] ∧ Below w.heap.size w w' := by
  have HD := Aside0.mk (show civil_Date.f n = some (0, 0, 0, 5) by unfold civil_Date.f; rw [date_no h])
  clear h
  go_enter Try.func70, Try.ntmps70
  go_wp2_with fail
  refine (civil_Date.calls n 0 0 0 5 _ HD.out).mono ?_
  rintro e w1 ⟨rfl, hb⟩
  have HB := Aside0.mk hb
  clear hb
  go_wp2
  exact ⟨rfl, rfl, by repeat (first | exact HB.out | (refine Below.alloc ?_ HB.out.size _) | (refine Below.setCell ?_ HB.out.size _))⟩

theorem Parts_yes {c v : Int} (h : parts c = (v, 0)) (w : World) : Calls Try.prog 37 #[.int .i64 c] w fun e w' => e = .returned (.tuple #[.int .i64 v, .int .i64 0]) ∧ Below w.heap.size w w' := by
  have R0 := Aside0.mk (Res2.made w (.int .i64 0) (.int .i64 0) 2 23)
  have HY := Aside0.mk h
  clear h
  go_enter_defers Try.func37, Try.ntmps37
  go_wp2_with fail
  refine (year_yes HY.out _).mono ?_
  rintro e w1 ⟨rfl, hd⟩
  have R1 := R0.out.drawn hd
  have c0 := R1.c0
  have c1 := R1.c1
  have f0 := R1.f0
  have f1 := R1.f1
  have RR := Aside0.mk R1
  clear hd R1 R0
  go_wp2
  refine leaves_cons (f := 68) (args := #[.pointer (some ⟨w.heap.size, 0, none⟩), .pointer (some ⟨w.heap.size + 1, 0, none⟩)]) (by simp) (by simp [go_sem]) ?_
  refine (frac_idle _ _ _).mono ?_
  rintro e u' w'' ⟨rfl, rfl, rfl⟩
  simp [Leaves, settle, results, Try.results37, go_sem, c0, c1]
  exact RR.out.put _ _
theorem Parts_no {c : Int} (h1 : (c == 1) = false) (h2 : (c == 2) = false) (h3 : (c == 3) = false) (w : World) : Calls Try.prog 37 #[.int .i64 c] w fun e w' => e = .returned (.tuple #[.int .i64 0, .int .i64 1]) ∧ Below w.heap.size w w' := by
  have R0 := Aside0.mk (Res2.made w (.int .i64 0) (.int .i64 0) 2 23)
  go_enter_defers Try.func37, Try.ntmps37
  go_wp2_with fail
  refine (year_no h1 h2 h3 _).mono ?_
  rintro e w1 ⟨rfl, rfl⟩
  refine leaves_cons (f := 68) (args := #[.pointer (some ⟨w.heap.size, 0, none⟩), .pointer (some ⟨w.heap.size + 1, 0, none⟩)]) (by simp) (by simp [go_sem]) ?_
  refine (frac_thrown _ _ 0 0 1 [] _ (by simp) R0.out.c0 R0.out.c1 R0.out.f0 R0.out.f1).mono ?_
  rintro e u' w'' ⟨rfl, rfl, rfl⟩
  have c0 := R0.out.c0
  have c1 := R0.out.c1
  simp [Leaves, settle, results, Try.results37, go_sem, c0, c1]
  first | exact R0.out.put _ _ | exact ((Below.refl _ _).alloc (Nat.le_refl _) _).alloc (by simp) _

theorem Between_yes {c a b v : Int} (h : parts c = (v, 0)) (hc : c = 1 ∨ c = 2 ∨ c = 3) (ha : isDay a) (hb : isDay b) (w : World) :
    Calls Try.prog 39 #[.int .i64 c, .int .i64 a, .int .i64 b] w fun e w' => e = .returned (.tuple #[.int .i64 (place c b - place c a), .int .i64 0]) ∧ Below w.heap.size w w' := by
  have R0 := Aside0.mk (Res2.made w (.int .i64 0) (.int .i64 0) 2 23)
  have HY := Aside0.mk h
  have HC := Aside0.mk hc
  have HA := Aside0.mk ha
  have HB := Aside0.mk hb
  obtain ⟨pa1, pa2⟩ := place_bd (c := c) ha
  obtain ⟨pb1, pb2⟩ := place_bd (c := c) hb
  clear h hc ha hb
  generalize hpa : place c a = pa at *
  generalize hpb : place c b = pb at *
  have HPA := Aside0.mk hpa
  have HPB := Aside0.mk hpb
  clear hpa hpb
  go_enter_defers Try.func39, Try.ntmps39
  go_wp2_with fail
  refine (year_yes HY.out _).mono ?_
  rintro e w1 ⟨rfl, hd⟩
  have R1 := Aside0.mk (R0.out.drawn hd)
  clear hd R0
  go_wp2_with fail
  refine (place_yes HC.out HA.out _).mono ?_
  rw [HPA.out]
  rintro e w2 ⟨rfl, hd⟩
  have R2 := Aside0.mk (R1.out.step hd)
  clear hd R1
  go_wp2_with fail
  refine (place_yes HC.out HB.out _).mono ?_
  rw [HPB.out]
  rintro e w3 ⟨rfl, hd⟩
  have R3 := R2.out.step hd
  have c0 := R3.c0
  have c1 := R3.c1
  have f0 := R3.f0
  have f1 := R3.f1
  have RR := Aside0.mk R3
  clear hd R2 R3
  go_wp2
  refine leaves_cons (f := 68) (args := #[.pointer (some ⟨w.heap.size, 0, none⟩), .pointer (some ⟨w.heap.size + 1, 0, none⟩)]) (by simp) (by simp [go_sem]) ?_
  refine (frac_idle _ _ _).mono ?_
  rintro e u' w'' ⟨rfl, rfl, rfl⟩
  simp [Leaves, settle, results, Try.results39, go_sem, c0, c1]
  exact RR.out.put _ _
theorem Between_count {c a b : Int} (h1 : (c == 1) = false) (h2 : (c == 2) = false) (h3 : (c == 3) = false) (w : World) :
    Calls Try.prog 39 #[.int .i64 c, .int .i64 a, .int .i64 b] w fun e w' => e = .returned (.tuple #[.int .i64 0, .int .i64 1]) ∧ Below w.heap.size w w' := by
  have R0 := Aside0.mk (Res2.made w (.int .i64 0) (.int .i64 0) 2 23)
  go_enter_defers Try.func39, Try.ntmps39
  go_wp2_with fail
  refine (year_no h1 h2 h3 _).mono ?_
  rintro e w1 ⟨rfl, rfl⟩
  refine leaves_cons (f := 68) (args := #[.pointer (some ⟨w.heap.size, 0, none⟩), .pointer (some ⟨w.heap.size + 1, 0, none⟩)]) (by simp) (by simp [go_sem]) ?_
  refine (frac_thrown _ _ 0 0 1 [] _ (by simp) R0.out.c0 R0.out.c1 R0.out.f0 R0.out.f1).mono ?_
  rintro e u' w'' ⟨rfl, rfl, rfl⟩
  have c0 := R0.out.c0
  have c1 := R0.out.c1
  simp [Leaves, settle, results, Try.results39, go_sem, c0, c1]
  first | exact R0.out.put _ _ | exact ((Below.refl _ _).alloc (Nat.le_refl _) _).alloc (by simp) _
theorem Between_from {c a b v : Int} (h : parts c = (v, 0)) (ha : ¬ isDay a) (w : World) :
    Calls Try.prog 39 #[.int .i64 c, .int .i64 a, .int .i64 b] w fun e w' => e = .returned (.tuple #[.int .i64 0, .int .i64 5]) ∧ Below w.heap.size w w' := by
  have R0 := Aside0.mk (Res2.made w (.int .i64 0) (.int .i64 0) 2 23)
  have HY := Aside0.mk h
  have HA := Aside0.mk ha
  clear h ha
  go_enter_defers Try.func39, Try.ntmps39
  go_wp2_with fail
  refine (year_yes HY.out _).mono ?_
  rintro e w1 ⟨rfl, hd⟩
  have R1 := Aside0.mk (R0.out.drawn hd)
  clear hd R0
  go_wp2_with fail
  refine (place_no HA.out _).mono ?_
  rintro e w2 ⟨rfl, hd⟩
  have R2 := Aside0.mk (R1.out.step hd)
  clear hd R1
  refine leaves_cons (f := 68) (args := #[.pointer (some ⟨w.heap.size, 0, none⟩), .pointer (some ⟨w.heap.size + 1, 0, none⟩)]) (by simp) (by simp [go_sem]) ?_
  refine (frac_thrown _ _ 0 0 5 [] _ (by simp) R2.out.c0 R2.out.c1 R2.out.f0 R2.out.f1).mono ?_
  rintro e u' w'' ⟨rfl, rfl, rfl⟩
  have c0 := R2.out.c0
  have c1 := R2.out.c1
  simp [Leaves, settle, results, Try.results39, go_sem, c0, c1]
  exact R2.out.put _ _
theorem Between_to {c a b v : Int} (h : parts c = (v, 0)) (hc : c = 1 ∨ c = 2 ∨ c = 3) (ha : isDay a) (hb : ¬ isDay b) (w : World) :
    Calls Try.prog 39 #[.int .i64 c, .int .i64 a, .int .i64 b] w fun e w' => e = .returned (.tuple #[.int .i64 0, .int .i64 5]) ∧ Below w.heap.size w w' := by
  have R0 := Aside0.mk (Res2.made w (.int .i64 0) (.int .i64 0) 2 23)
  have HY := Aside0.mk h
  have HC := Aside0.mk hc
  have HA := Aside0.mk ha
  have HB := Aside0.mk hb
  clear h hc ha hb
  go_enter_defers Try.func39, Try.ntmps39
  go_wp2_with fail
  refine (year_yes HY.out _).mono ?_
  rintro e w1 ⟨rfl, hd⟩
  have R1 := Aside0.mk (R0.out.drawn hd)
  clear hd R0
  go_wp2_with fail
  refine (place_yes HC.out HA.out _).mono ?_
  rintro e w2 ⟨rfl, hd⟩
  have R2 := Aside0.mk (R1.out.step hd)
  clear hd R1
  go_wp2_with fail
  refine (place_no HB.out _).mono ?_
  rintro e w3 ⟨rfl, hd⟩
  have R3 := Aside0.mk (R2.out.step hd)
  clear hd R2
  refine leaves_cons (f := 68) (args := #[.pointer (some ⟨w.heap.size, 0, none⟩), .pointer (some ⟨w.heap.size + 1, 0, none⟩)]) (by simp) (by simp [go_sem]) ?_
  refine (frac_thrown _ _ 0 0 5 [] _ (by simp) R3.out.c0 R3.out.c1 R3.out.f0 R3.out.f1).mono ?_
  rintro e u' w'' ⟨rfl, rfl, rfl⟩
  have c0 := R3.out.c0
  have c1 := R3.out.c1
  simp [Leaves, settle, results, Try.results39, go_sem, c0, c1]
  exact R3.out.put _ _

/-! ### The contracts, as the printed callers ask them -/
theorem parts_cases (c : Int) : (∃ v, parts c = (v, 0) ∧ (c = 1 ∨ c = 2 ∨ c = 3)) ∨ (parts c = (0, 1) ∧ (c == 1) = false ∧ (c == 2) = false ∧ (c == 3) = false) := by
  unfold parts
  by_cases h1 : c = 1
  · left; exact ⟨360, by simp [h1], Or.inl h1⟩
  by_cases h2 : c = 2
  · left; exact ⟨365, by simp [h2], Or.inr (Or.inl h2)⟩
  by_cases h3 : c = 3
  · left; exact ⟨133590, by simp [h3], Or.inr (Or.inr h3)⟩
  · right; simp [h1, h2, h3]
def fraction_Parts.f (c : Int) : Option (Int × Int) := some (parts c)
theorem fraction_Parts.calls (a0 r1 r2 : Int) (w : World) (h : fraction_Parts.f a0 = some (r1, r2)) :
    Calls Try.prog 37 #[.int .i64 a0] w fun e w' => e = .returned (.tuple #[.int .i64 r1, .int .i64 r2]) ∧ Below w.heap.size w w' := by
  have h' := Option.some.inj h
  rcases parts_cases a0 with ⟨v, hp, _⟩ | ⟨hp, h1, h2, h3⟩
  · rw [hp] at h'; obtain ⟨rfl, rfl⟩ := Prod.mk.inj h'; exact Parts_yes hp w
  · rw [hp] at h'; obtain ⟨rfl, rfl⟩ := Prod.mk.inj h'; exact Parts_no h1 h2 h3 w
def fraction_Between.f (c a b : Int) : Option (Int × Int) := some (between c a b)
theorem fraction_Between.calls (a0 a1 a2 r1 r2 : Int) (w : World) (h : fraction_Between.f a0 a1 a2 = some (r1, r2)) :
    Calls Try.prog 39 #[.int .i64 a0, .int .i64 a1, .int .i64 a2] w fun e w' => e = .returned (.tuple #[.int .i64 r1, .int .i64 r2]) ∧ Below w.heap.size w w' := by
  have h' := Option.some.inj h
  unfold between at h'
  rcases parts_cases a0 with ⟨v, hp, hc⟩ | ⟨hp, h1, h2, h3⟩
  · rw [if_pos hc] at h'
    by_cases ha : isDay a1
    · by_cases hb : isDay a2
      · rw [if_pos (show isDay a1 ∧ isDay a2 from ⟨ha, hb⟩)] at h'; obtain ⟨rfl, rfl⟩ := Prod.mk.inj h'; exact Between_yes hp hc ha hb w
      · rw [if_neg (show ¬ (isDay a1 ∧ isDay a2) from fun h => hb h.2)] at h'; obtain ⟨rfl, rfl⟩ := Prod.mk.inj h'; exact Between_to hp hc ha hb w
    · rw [if_neg (show ¬ (isDay a1 ∧ isDay a2) from fun h => ha h.1)] at h'; obtain ⟨rfl, rfl⟩ := Prod.mk.inj h'; exact Between_from hp ha w
  · rw [if_neg (by simpa using ⟨by simpa using h1, by simpa using h2, by simpa using h3⟩)] at h'; obtain ⟨rfl, rfl⟩ := Prod.mk.inj h'; exact Between_count h1 h2 h3 w
end Go.Proofs.Ytabdgpjkjpbolaa.H
