/- Contracts by hand: growth: what a balance bears, and the rest then; or why nothing. -/
import Derived.Test.YtliapjhjofmliaaK3
namespace Go.Proofs.Ytliapjhjofmliaa.H
open Go.RowKit Go.Proofs.YtliapjhjofmliaaW.PrintWords Go.Proofs.YtliapjhjofmliaaW.PrintLast Go.Proofs.YtliapjhjofmliaaW.PrintMore Go.Proofs.Ytliapjhjofmliaa.HW
set_option linter.unusedVariables false
set_option linter.unusedSimpArgs false
/-- All blocks but one are as they were. -/
structure But (gb : Nat) (w w' : World) : Prop where
  os : w'.os = w.os
  tape : w'.tape = w.tape
  output : w'.output = w.output
  size : w.heap.size ≤ w'.heap.size
  block : ∀ k, k < w.heap.size → k ≠ gb → w'.heap[k]? = w.heap[k]?
theorem But.of {gb : Nat} {w w' : World} (h : Below w.heap.size w w') : But gb w w' := ⟨h.os, h.tape, h.output, h.size, fun k hk _ => h.block k hk⟩
theorem But.below {B gb : Nat} {a w w' : World} (h : Below B a w) (hw : B ≤ w.heap.size) (hg : B ≤ gb) (hb : But gb w w') : Below B a w' :=
  h.trans ⟨hb.os, hb.tape, hb.output, hb.size, fun k hk => hb.block k (by omega) (by omega)⟩
theorem But.setCell {gb : Nat} {a w : World} (h : But gb a w) {p : Addr} (hp : p.block = gb ∨ a.heap.size ≤ p.block) (u : Value) : But gb a (w.setCell p u) :=
  ⟨h.os, h.tape, h.output, by have := h.size; simp [World.setCell]; omega, fun k hk hn => by rw [Below.heap_setCell _ _ _ _ (by omega)]; exact h.block k hk hn⟩
theorem But.cell {gb : Nat} {w w' : World} (h : But gb w w') {p : Addr} (hp : p.block < w.heap.size) (hn : p.block ≠ gb) : w'.cell? p = w.cell? p := World.cell?_of_block (w := w) (h.block p.block hp hn)
theorem But.frozen {gb : Nat} {w w' : World} (h : But gb w w') {p : Addr} (hp : p.block < w.heap.size) (hn : p.block ≠ gb) : w'.frozen? p = w.frozen? p := World.frozen?_of_block (w := w) (h.block p.block hp hn)
theorem BearAt.but {w w1 : World} {gb g2 : Nat} {W h rest : Int} (H : BearAt w g2 W h rest) (hb : But gb w w1) (hn : g2 ≠ gb) : BearAt w1 g2 W h rest :=
  ⟨by rw [hb.cell (by exact H.lt) (by exact hn)]; exact H.c0, by rw [hb.cell (by exact H.lt) (by exact hn)]; exact H.c1, by rw [hb.cell (by exact H.lt) (by exact hn)]; exact H.c2, by rw [hb.frozen (by exact H.lt) (by exact hn)]; exact H.f2, Nat.lt_of_lt_of_le H.lt hb.size⟩

theorem bcaught_idle (pv pe : Addr) (w : World) :
    CallsD Try.prog 45 #[.pointer (some pv), .pointer (some pe)] .returning w fun e u' w' => e = .returned (.tuple #[]) ∧ u' = .returning ∧ w' = w := by
  refine callsD_of_wpS Try.func45 rfl fun c₀ cs hu => ?_
  simp only [Try.ntmps45, List.size_toArray, List.length_cons, List.length_nil, Nat.reduceAdd, Nat.reduceSub, Array.replicate_succ, Array.replicate_zero, List.push_toArray, List.append_toArray, List.nil_append, List.cons_append]
  apply wpS_seq
  apply wpS_region
  simp [wpOpsS, go_sem, recoverD, hu, Exit.thenS]
  refine rest_plain fun Q HQ => ?_
  go_wp2
  refine HQ.out _ _ _ ?_
  clear HQ
  simp [bodyPostS, results, Try.results45, hu]
  cases c₀
  simp_all
theorem bcaught_thrown (pv pe : Addr) (x y : Int) (c : Int) (older : List PanicEntry) (w : World) (hne : pv.block ≠ pe.block) (hx : w.cell? pv = some (.int .i64 x)) (hy : w.cell? pe = some (.int .i64 y)) (fx : w.frozen? pv = false) (fy : w.frozen? pe = false) :
    CallsD Try.prog 45 #[.pointer (some pv), .pointer (some pe)] (.panicking ({ v := .iface 78 (.int .i64 c), recovered := false } :: older)) w fun e u' w' =>
      e = .returned (.tuple #[]) ∧ u' = .panicking ({ v := .iface 78 (.int .i64 c), recovered := true } :: older) ∧ w' = (w.setCell pv (.int .i64 0)).setCell pe (.int .i64 c) := by
  refine callsD_of_wpS Try.func45 rfl fun c₀ cs hu => ?_
  simp only [Try.ntmps45, List.size_toArray, List.length_cons, List.length_nil, Nat.reduceAdd, Nat.reduceSub, Array.replicate_succ, Array.replicate_zero, List.push_toArray, List.append_toArray, List.nil_append, List.cons_append]
  apply wpS_seq
  apply wpS_region
  simp [wpOpsS, go_sem, recoverD, hu, Exit.thenS]
  refine rest_plain fun Q HQ => ?_
  have hta : ∀ w, (Instr.typeAssert (.iface 78 (.int .i64 c)) 20 78 true).run Try.prog w = .ok (.tuple #[.int .i64 c, .bool true]) w := fun _ => by kernel_rfl
  have hy2 : (w.setCell pv (.int .i64 0)).cell? pe = some (.int .i64 y) := by rw [World.cell?_setCell_other]; exact hy; exact fun e => hne (by rw [e])
  go_wp2
  refine HQ.out _ _ _ ?_
  clear HQ
  simp [bodyPostS, results, Try.results45, hu]

theorem bear_nil {bal rate n : Int} (w : World) : Calls Try.prog 30 #[.pointer none, .int .i64 bal, .int .i64 rate, .int .i64 n] w fun e w' => e = .returned (.tuple #[.int .i64 0, .int .i64 2]) ∧ Below w.heap.size w w' := by
  have R0 := Aside0.mk (Fr.Res2.made w (.int .i64 0) (.int .i64 0) 2 24)
  have c0 := R0.out.c0
  have c1 := R0.out.c1
  have f0 := R0.out.f0
  have f1 := R0.out.f1
  go_enter_defers Try.func30, Try.ntmps30
  go_wp2_with fail
  simp [bodyPostD, Leaves, settle, results, Try.results30, go_sem, c0, c1]
  first | exact R0.out.put _ _ | exact ((Below.refl _ _).alloc (Nat.le_refl _) _).alloc (by simp) _
theorem bear_arg {gb : Nat} {bal rate n : Int} (hm : ¬ Gm.may bal rate n) (w : World) : Calls Try.prog 30 #[.pointer (some ⟨gb, 0, none⟩), .int .i64 bal, .int .i64 rate, .int .i64 n] w fun e w' => e = .returned (.tuple #[.int .i64 0, .int .i64 1]) ∧ Below w.heap.size w w' := by
  have R0 := Aside0.mk (Fr.Res2.made w (.int .i64 0) (.int .i64 0) 2 24)
  have hno : bal < 0 ∨ (0 ≤ bal ∧ 1000000000000000 < bal) ∨ (0 ≤ bal ∧ bal ≤ 1000000000000000 ∧ rate < 0) ∨ (0 ≤ bal ∧ bal ≤ 1000000000000000 ∧ 0 ≤ rate ∧ 1000000000 < rate) ∨ (0 ≤ bal ∧ bal ≤ 1000000000000000 ∧ 0 ≤ rate ∧ rate ≤ 1000000000 ∧ n < 0) ∨ (0 ≤ bal ∧ bal ≤ 1000000000000000 ∧ 0 ≤ rate ∧ rate ≤ 1000000000 ∧ 0 ≤ n ∧ 53436000 < n) := by
    unfold Gm.may at hm
    omega
  clear hm
  rcases hno with h1 | ⟨h1, h2⟩ | ⟨h1, h2, h3⟩ | ⟨h1, h2, h3, h4⟩ | ⟨h1, h2, h3, h4, h5⟩ | ⟨h1, h2, h3, h4, h5, h6⟩
  all_goals
    go_enter_defers Try.func30, Try.ntmps30
    go_wp2_with fail
    refine leaves_cons (f := 45) (args := #[.pointer (some ⟨w.heap.size, 0, none⟩), .pointer (some ⟨w.heap.size + 1, 0, none⟩)]) (by simp) (by simp [go_sem]) ?_
    refine (bcaught_thrown _ _ 0 0 1 [] _ (by simp) R0.out.c0 R0.out.c1 R0.out.f0 R0.out.f1).mono ?_
    rintro e u' w'' ⟨rfl, rfl, rfl⟩
    have c0 := R0.out.c0
    have c1 := R0.out.c1
    simp [Leaves, settle, results, Try.results30, go_sem, c0, c1]
    first | exact R0.out.put _ _ | exact ((Below.refl _ _).alloc (Nat.le_refl _) _).alloc (by simp) _
/-- What Bear does: it answers, and the bearer has another rest; no other block has turned. -/
def Bore (gb : Nat) (W h : Int) (x : Int × Int × Int) (w : World) (e : Ending) (w' : World) : Prop :=
  e = .returned (.tuple #[.int .i64 x.1, .int .i64 x.2.1]) ∧ BearAt w' gb W h x.2.2 ∧ But gb w w'
set_option maxHeartbeats 1000000 in
theorem bear_yes {gb : Nat} {W h rest bal rate n : Int} {w : World} (A : BearAt w gb W h rest) (G : Good W h rest) (hm : Gm.may bal rate n) (hq : Gm.q W h rest (bal * rate * n) ≤ 1000000000000000) :
    Calls Try.prog 30 #[.pointer (some ⟨gb, 0, none⟩), .int .i64 bal, .int .i64 rate, .int .i64 n] w (Bore gb W h (Gm.q W h rest (bal * rate * n), 0, Gm.r W h rest (bal * rate * n)) w) := by
  have R0 := Aside0.mk (Fr.Res2.made w (.int .i64 0) (.int .i64 0) 2 24)
  have HB := Aside0.mk (fun (w1 : World) (A1 : BearAt w1 gb W h rest) => borne_yes A1 G hm hq)
  have lt := A.lt
  have hne : ¬ gb = w.heap.size := by omega
  have hne1 : ¬ gb = w.heap.size + 1 := by omega
  obtain ⟨a0, a1, b0, b1, n0, n1⟩ := hm
  have u1 : IntKind.u64.wrap bal = bal := IntWalk.u64_in _ (by omega)
  have u2 : IntKind.u64.wrap rate = rate := IntWalk.u64_in _ (by omega)
  have u3 : IntKind.u64.wrap n = n := IntWalk.u64_in _ (by omega)
  have AA := Aside0.mk A
  clear hq G A
  generalize Gm.q W h rest (bal * rate * n) = q at *
  generalize Gm.r W h rest (bal * rate * n) = r at *
  go_enter_defers Try.func30, Try.ntmps30
  go_wp2_with fail
  refine (HB.out _ (AA.out.below R0.out.below)).mono ?_
  rintro e w1 ⟨rfl, hd⟩
  have R1 := R0.out.drawn hd
  have A1 := (AA.out.below R0.out.below).below hd.below
  have BU := Aside0.mk (But.of (gb := gb) R1.below)
  have c0 := R1.c0
  have c1 := R1.c1
  have f0 := R1.f0
  have f1 := R1.f1
  have g2 := A1.c2
  have gf := A1.f2
  have RR := Aside0.mk R1
  have AB := Aside0.mk A1
  clear hd R0 R1 A1
  go_wp2
  refine leaves_cons (f := 45) (args := #[.pointer (some ⟨w.heap.size, 0, none⟩), .pointer (some ⟨w.heap.size + 1, 0, none⟩)]) (by simp) (by simp [go_sem]) ?_
  refine (bcaught_idle _ _ _).mono ?_
  rintro e u' w'' ⟨rfl, rfl, rfl⟩
  simp [Leaves, settle, results, Try.results30, go_sem, c0, c1]
  obtain ⟨k0, k1, k2, k3, k4⟩ := AB.out
  refine ⟨rfl, ⟨?_, ?_, ?_, ?_, ?_⟩, (((BU.out.setCell (Or.inr (Nat.le_refl _)) _).setCell (Or.inl rfl) _).setCell (Or.inr (Nat.le_refl _)) _).setCell (Or.inr (by simp)) _⟩
  · rw [World.cell?_setCell_other _ _ _ _ (by first | (simp; done) | (simp; omega)), World.cell?_setCell_other _ _ _ _ (by first | (simp; done) | (simp; omega)), World.cell?_setCell_other _ _ _ _ (by simp), World.cell?_setCell_other _ _ _ _ (by first | (simp; done) | (simp; omega))]; exact k0
  · rw [World.cell?_setCell_other _ _ _ _ (by first | (simp; done) | (simp; omega)), World.cell?_setCell_other _ _ _ _ (by first | (simp; done) | (simp; omega)), World.cell?_setCell_other _ _ _ _ (by simp), World.cell?_setCell_other _ _ _ _ (by first | (simp; done) | (simp; omega))]; exact k1
  · rw [World.cell?_setCell_other _ _ _ _ (by first | (simp; done) | (simp; omega)), World.cell?_setCell_other _ _ _ _ (by first | (simp; done) | (simp; omega))]
    have k2' : (w1.setCell ⟨w.heap.size, 0, none⟩ (.int .i64 q)).cell? ⟨gb, 2, none⟩ = some (.int .i64 rest) := by rw [World.cell?_setCell_other _ _ _ _ (by first | (simp; done) | (simp; omega))]; exact k2
    simp [World.cell?_setCell_same, k2']
  · simp [go_sem, k3]
  · simp [go_sem]; exact k4
theorem bear_range {gb : Nat} {W h rest bal rate n : Int} {w : World} (A : BearAt w gb W h rest) (G : Good W h rest) (hm : Gm.may bal rate n) (hq : 1000000000000000 < Gm.q W h rest (bal * rate * n)) :
    Calls Try.prog 30 #[.pointer (some ⟨gb, 0, none⟩), .int .i64 bal, .int .i64 rate, .int .i64 n] w fun e w' => e = .returned (.tuple #[.int .i64 0, .int .i64 3]) ∧ Below w.heap.size w w' := by
  have R0 := Aside0.mk (Fr.Res2.made w (.int .i64 0) (.int .i64 0) 2 24)
  have HB := Aside0.mk (fun (w1 : World) (A1 : BearAt w1 gb W h rest) => borne_no A1 G hm hq)
  have lt := A.lt
  have hne : ¬ gb = w.heap.size := by omega
  have hne1 : ¬ gb = w.heap.size + 1 := by omega
  obtain ⟨a0, a1, b0, b1, n0, n1⟩ := hm
  have u1 : IntKind.u64.wrap bal = bal := IntWalk.u64_in _ (by omega)
  have u2 : IntKind.u64.wrap rate = rate := IntWalk.u64_in _ (by omega)
  have u3 : IntKind.u64.wrap n = n := IntWalk.u64_in _ (by omega)
  have AA := Aside0.mk A
  clear hq G A
  go_enter_defers Try.func30, Try.ntmps30
  go_wp2_with fail
  refine (HB.out _ (AA.out.below R0.out.below)).mono ?_
  rintro e w1 ⟨rfl, hd⟩
  have R1 := Aside0.mk (R0.out.drawn hd)
  clear hd R0
  refine leaves_cons (f := 45) (args := #[.pointer (some ⟨w.heap.size, 0, none⟩), .pointer (some ⟨w.heap.size + 1, 0, none⟩)]) (by simp) (by simp [go_sem]) ?_
  refine (bcaught_thrown _ _ 0 0 3 [] _ (by simp) R1.out.c0 R1.out.c1 R1.out.f0 R1.out.f1).mono ?_
  rintro e u' w'' ⟨rfl, rfl, rfl⟩
  have c0 := R1.out.c0
  have c1 := R1.out.c1
  simp [Leaves, settle, results, Try.results30, go_sem, c0, c1]
  exact R1.out.put _ _
theorem bear_any {gb : Nat} {W h rest bal rate n : Int} {w : World} (A : BearAt w gb W h rest) (G : Good W h rest) :
    Calls Try.prog 30 #[.pointer (some ⟨gb, 0, none⟩), .int .i64 bal, .int .i64 rate, .int .i64 n] w (Bore gb W h (Gm.bear W h rest bal rate n) w) := by
  unfold Gm.bear
  by_cases hm : Gm.may bal rate n
  · rw [if_pos hm]
    by_cases hq : Gm.q W h rest (bal * rate * n) ≤ 1000000000000000
    · rw [if_pos hq]; exact bear_yes A G hm hq
    · rw [if_neg hq]
      exact (bear_range A G hm (by omega)).mono fun e w' ⟨h1, h2⟩ => ⟨h1, A.below h2, But.of h2⟩
  · rw [if_neg hm]
    exact (bear_arg hm w).mono fun e w' ⟨h1, h2⟩ => ⟨h1, A.below h2, But.of h2⟩
theorem good_bear {W h rest bal rate n : Int} (G : Good W h rest) : Good W h (Gm.bear W h rest bal rate n).2.2 := by
  unfold Gm.bear
  by_cases hm : Gm.may bal rate n
  · rw [if_pos hm]
    obtain ⟨a0, a1, b0, b1, n0, n1⟩ := hm
    split
    · exact G.next (Int.mul_nonneg (Int.mul_nonneg a0 b0) n0)
    · exact G
  · rw [if_neg hm]; exact G
end Go.Proofs.Ytliapjhjofmliaa.H
