/- Texts of this claim, joined in build order. -/
import Derived.RowKit
import Derived.Below
import Derived.Deep.Draws
import Derived.Deep.AppendLies
import Derived.Maps.AppendAt
import Derived.OwnWalk
import Derived.Laws.BytesArg
import Derived.Laws.MakeOwn
import Derived.Laws.OwnMore
import Derived.Tactics
import Derived.Lib.ConvBytes
import Derived.Laws.Slices
import Derived.WalkKit
import Derived.KernelRfl
import Derived.RowKit3
import Derived.Deep.LoopGhost
import Derived.Deep.QuietTactic
import Derived.BigQuiet
import Derived.WideLaws
import Derived.Deep.DeepCutAuto
import Derived.Deep.CutBlock
import Derived.Deep.RegionHeld3
import Derived.Lib.AppendStr
import Derived.ArgAppend
import Derived.Laws.IdiomCopy
import Derived.OrdersHeld
import Derived.Laws.BitsLemmas
import Derived.Test.YtcfpkkgdofblfaaProg
import Derived.WalkLawsBesides
import Derived.WalkSpells
import Derived.Lib.IndexMore
import Derived.Deep.Slices
import Derived.Deep.Fields
import Derived.ChangeSame
import Derived.Lib.SmallJoins
import Derived.ProofKit
import Derived.Defers
import Derived.Laws.Tables
import Derived.Deep.WholeRow
import Derived.Recover
import Derived.StillTailTactics
import Derived.Shelf.Small.Bits
import Derived.Shelf.Strconv.Itoa0
import Derived.Shelf.Strings.Search1
import Derived.Shelf.Strings.Search2
import Derived.Shelf.Strings.Search3
import Derived.Shelf.LaysM
import Derived.Shelf.Strings.Shaped
import Derived.Shelf.Bits.Mul64
import Derived.Lib.SlBytesConst
import Derived.Deep.RegionWith
import Derived.IntWalk
import Derived.Lib.Hide
import Derived.BigFrame
import Derived.Laws.StructEq
import Derived.Lib.BitFns
import Derived.Laws.BitsAllLaws
import Derived.Laws.Externs
import Derived.RegionTactic
import Derived.Deep.MidRow
import Derived.OpenShut
import Derived.ShutString
import Derived.ChangeOld
import Derived.Laws.IdiomArrays
import Derived.SizedLaws
import Derived.HandedShaped
import Derived.Shelf.Vars
import Derived.Test.YtcfpkkgdofblfaaJT1
import Derived.Test.YtcfpkkgdofblfaaJT2
import Derived.Test.YtcfpkkgdofblfaaJT3
import Derived.Test.YtcfpkkgdofblfaaJT4
import Derived.Test.YtcfpkkgdofblfaaJT5
set_option linter.unusedVariables false
set_option linter.unusedSimpArgs false
/- Words: all blocks but one are as1 they were; a row of numbers of one's own. -/
namespace Go.Proofs.Ytcfpkkgdofblfaa.H
open Go.RowKit Go.Proofs.YtcfpkkgdofblfaaW.PrintWords Go.Proofs.YtcfpkkgdofblfaaW.PrintLast Go.Proofs.YtcfpkkgdofblfaaW.PrintMore
set_option linter.unusedVariables false
set_option linter.unusedSimpArgs false
structure But (gb : Nat) (w w' : World) : Prop where
 os : w'.os = w.os
 tape : w'.tape = w.tape
 output : w'.output = w.output
 size : w.heap.size ≤ w'.heap.size
 block : ∀ k, k < w.heap.size → k ≠ gb → w'.heap[k]? = w.heap[k]?
theorem But.of {gb : Nat} {w w' : World} (h : Below w.heap.size w w') : But gb w w' := ⟨h.os, h.tape, h.output, h.size, fun k hk _ => h.block k hk⟩
theorem But.below {B gb : Nat} {a w w' : World} (h : Below B a w) (hw : B ≤ w.heap.size) (hg : B ≤ gb) (hb : But gb w w') : Below B a w' :=
 h.trans ⟨hb.os, hb.tape, hb.output, hb.size, fun k hk => hb.block k (by omega) (by omega)⟩
theorem But.setCell {gb : Nat} {a w : World} (h : But gb a w) {p : Addr} (hp : p.block = gb ∨ a.heap.size ≤ p.block) (u : Value) : But gb a (w.setCell p u) :=
 ⟨h.os, h.tape, h.output, by have := h.size; simp [World.setCell]; omega, fun k hk hn => by rw [Below.heap_setCell _ _ _ _ (by omega)]; exact h.block k hk hn⟩
theorem But.cell {gb : Nat} {w w' : World} (h : But gb w w') {p : Addr} (hp : p.block < w.heap.size) (hn : p.block ≠ gb) : w'.cell? p = w.cell? p := World.cell?_of_block (w := w) (h.block p.block hp hn)
theorem But.frozen {gb : Nat} {w w' : World} (h : But gb w w') {p : Addr} (hp : p.block < w.heap.size) (hn : p.block ≠ gb) : w'.frozen? p = w.frozen? p := World.frozen?_of_block (w := w) (h.block p.block hp hn)
def Blk (w : World) (g : Nat) (e : TypeId) (vs : List Value) : Prop := w.heap[g]? = some (.cells vs.toArray e (0, 0))
theorem Blk.lt {w : World} {g : Nat} {e : TypeId} {vs : List Value} (h : Blk w g e vs) : g < w.heap.size := by
 rcases Nat.lt_or_ge g w.heap.size with h1 | h1
 ·exact h1
 ·unfold Blk at h; rw [Array.getElem?_eq_none h1] at h; cases h
theorem Blk.same {w w1 : World} {g : Nat} {e : TypeId} {vs : List Value} (h : Blk w g e vs) (hb : w1.heap[g]? = w.heap[g]?) : Blk w1 g e vs := hb.trans h
theorem Blk.below {w w1 : World} {g : Nat} {e : TypeId} {vs : List Value} (h : Blk w g e vs) (hb : Below w.heap.size w w1) : Blk w1 g e vs := h.same (hb.block g h.lt)
theorem Blk.but {w w1 : World} {g g2 : Nat} {e : TypeId} {vs : List Value} (h : Blk w g e vs) (hb : But g2 w w1) (hn : g ≠ g2) : Blk w1 g e vs := h.same (hb.block g h.lt hn)
theorem Blk.cell {w : World} {g : Nat} {e : TypeId} {vs : List Value} (h : Blk w g e vs) (j : Nat) : w.cell? ⟨g, j, none⟩ = vs[j]? := by
 rw [cell_of_row w g j _ e (0, 0) h]; simp
theorem Blk.frozen {w : World} {g : Nat} {e : TypeId} {vs : List Value} (h : Blk w g e vs) (j : Nat) : w.frozen? ⟨g, j, none⟩ = false := frozen_of_row w g j _ e h
theorem Blk.put {w : World} {g : Nat} {e : TypeId} {vs : List Value} (h : Blk w g e vs) (j : Nat) (u : Value) : Blk (w.setCell ⟨g, j, none⟩ u) g e (vs.set j u) := by
 have h1 := heap_setCell_same w g j _ e u h
 unfold Blk
 rw [h1]
 congr 2
 apply Array.ext'
 simp
theorem Blk.made (w : World) (e : TypeId) (vs : List Value) : Blk (w.alloc (.cells vs.toArray e)) w.heap.size e vs := heap_alloc_new w _
theorem Blk.ofOwn {w : World} {base B n cap : Nat} {e : TypeId} {size : Nat} {xs : List Value} (h : w.ownsRow base e size (.slice (some ⟨B, 0, none⟩) n cap) n xs) : ∃ t : List Value, t.length = (cap - n) * size ∧ Blk w B e (xs ++ t) ∧ n ≤ cap := by
 rcases h.2 with ⟨h, _⟩ | ⟨g', cap', cur, e', _, hh, h1, h2, h3, h4⟩
 ·cases h
 ·injection e' with e1 e2 e3
  injection e1 with e1
  injection e1 with e4
  subst e4
  subst e3
  have ee : cur.toList = xs ++ cur.toList.drop (n * size) := by rw [← h4, List.take_append_drop]
  refine ⟨cur.toList.drop (n * size), by rw [List.length_drop, Array.length_toList, h3, Nat.sub_mul], ?_, h1⟩
  unfold Blk
  rw [← ee, hh]
theorem Blk.reads {w : World} {g : Nat} {e : TypeId} {k : IntKind} {l : List Int} {t : List Value} (h : Blk w g e (nums k l ++ t)) (hm : l.length ≤ 9223372036854775807) : Kd.C (Kd.int k) w (some ⟨g, 0, none⟩) l.length l := by
 refine Kd.C_of_reads (d := (0 : Int)) ⟨rfl, hm, fun _ => ⟨_, rfl, fun j hj => ?_⟩⟩
 have e' : (⟨g, 0, none⟩ : Addr).add j = ⟨g, j, none⟩ := by simp [Addr.add]; try exact fun h => h.symm
 rw [e', h.cell j, List.getElem?_append_left (by rw [nums_length]; exact hj)]
 simp [nums, hj]
end Go.Proofs.Ytcfpkkgdofblfaa.H
/- Contracts by hand: growth: what a balance bears, and the rest then; or why nothing. -/
namespace Go.Proofs.Ytcfpkkgdofblfaa.H
open Go.RowKit Go.Proofs.YtcfpkkgdofblfaaW.PrintWords Go.Proofs.YtcfpkkgdofblfaaW.PrintLast Go.Proofs.YtcfpkkgdofblfaaW.PrintMore Go.Proofs.Ytcfpkkgdofblfaa.HW
set_option linter.unusedVariables false
set_option linter.unusedSimpArgs false
theorem BearAt.but {w w1 : World} {gb g2 : Nat} {W h rest : Int} (H : BearAt w g2 W h rest) (hb : But gb w w1) (hn : g2 ≠ gb) : BearAt w1 g2 W h rest :=
 ⟨by rw [hb.cell (by exact H.lt) (by exact hn)]; exact H.c0, by rw [hb.cell (by exact H.lt) (by exact hn)]; exact H.c1, by rw [hb.cell (by exact H.lt) (by exact hn)]; exact H.c2, by rw [hb.frozen (by exact H.lt) (by exact hn)]; exact H.f2, Nat.lt_of_lt_of_le H.lt hb.size⟩
theorem bcaught_idle (pv pe : Addr) (w : World) :
  CallsD Try.prog 96 #[.pointer (some pv), .pointer (some pe)] .returning w fun e u' w' => e = .returned (.tuple #[]) ∧ u' = .returning ∧ w' = w := by
 refine callsD_of_wpS Try.func96 rfl fun c₀ cs hu => ?_
 simp only [Try.ntmps96, List.size_toArray, List.length_cons, List.length_nil, Nat.reduceAdd, Nat.reduceSub, Array.replicate_succ, Array.replicate_zero, List.push_toArray, List.append_toArray, List.nil_append, List.cons_append]
 apply wpS_seq
 apply wpS_region
 simp [wpOpsS, go_sem, recoverD, hu, Exit.thenS]
 refine rest_plain fun Q HQ => ?_
 go_wp2
 refine HQ.out _ _ _ ?_
 clear HQ
 simp [bodyPostS, results, Try.results96, hu]
 cases c₀
 simp_all
theorem bcaught_thrown (pv pe : Addr) (x y : Int) (c : Int) (older : List PanicEntry) (w : World) (hne : pv.block ≠ pe.block) (hx : w.cell? pv = some (.int .i64 x)) (hy : w.cell? pe = some (.int .i64 y)) (fx : w.frozen? pv = false) (fy : w.frozen? pe = false) :
  CallsD Try.prog 96 #[.pointer (some pv), .pointer (some pe)] (.panicking ({ v := .iface 129 (.int .i64 c), recovered := false } :: older)) w fun e u' w' =>
   e = .returned (.tuple #[]) ∧ u' = .panicking ({ v := .iface 129 (.int .i64 c), recovered := true } :: older) ∧ w' = (w.setCell pv (.int .i64 0)).setCell pe (.int .i64 c) := by
 refine callsD_of_wpS Try.func96 rfl fun c₀ cs hu => ?_
 simp only [Try.ntmps96, List.size_toArray, List.length_cons, List.length_nil, Nat.reduceAdd, Nat.reduceSub, Array.replicate_succ, Array.replicate_zero, List.push_toArray, List.append_toArray, List.nil_append, List.cons_append]
 apply wpS_seq
 apply wpS_region
 simp [wpOpsS, go_sem, recoverD, hu, Exit.thenS]
 refine rest_plain fun Q HQ => ?_
 have hta : ∀ w, (Instr.typeAssert (.iface 129 (.int .i64 c)) 20 129 true).run Try.prog w = .ok (.tuple #[.int .i64 c, .bool true]) w := fun _ => by kernel_rfl
 have hy2 : (w.setCell pv (.int .i64 0)).cell? pe = some (.int .i64 y) := by rw [World.cell?_setCell_other]; exact hy; exact fun e => hne (by rw [e])
 go_wp2
 refine HQ.out _ _ _ ?_
 clear HQ
 simp [bodyPostS, results, Try.results96, hu]
theorem bear_arg {gb : Nat} {bal rate n : Int} (hm : ¬ Gm.may bal rate n) (w : World) : Calls Try.prog 76 #[.pointer (some ⟨gb, 0, none⟩), .int .i64 bal, .int .i64 rate, .int .i64 n] w fun e w' => e = .returned (.tuple #[.int .i64 0, .int .i64 1]) ∧ Below w.heap.size w w' := by
 have R0 := Aside0.mk (Fr.Res2.made w (.int .i64 0) (.int .i64 0) 2 32)
 have hno : bal < 0 ∨ (0 ≤ bal ∧ 1000000000000000 < bal) ∨ (0 ≤ bal ∧ bal ≤ 1000000000000000 ∧ rate < 0) ∨ (0 ≤ bal ∧ bal ≤ 1000000000000000 ∧ 0 ≤ rate ∧ 1000000000 < rate) ∨ (0 ≤ bal ∧ bal ≤ 1000000000000000 ∧ 0 ≤ rate ∧ rate ≤ 1000000000 ∧ n < 0) ∨ (0 ≤ bal ∧ bal ≤ 1000000000000000 ∧ 0 ≤ rate ∧ rate ≤ 1000000000 ∧ 0 ≤ n ∧ 53436000 < n) := by
  unfold Gm.may at hm
  omega
 clear hm
 rcases hno with h1 | ⟨h1, h2⟩ | ⟨h1, h2, h3⟩ | ⟨h1, h2, h3, h4⟩ | ⟨h1, h2, h3, h4, h5⟩ | ⟨h1, h2, h3, h4, h5, h6⟩
 all_goals
  go_enter_defers Try.func76, Try.ntmps76
  go_wp2_with fail
  refine leaves_cons (f := 96) (args := #[.pointer (some ⟨w.heap.size, 0, none⟩), .pointer (some ⟨w.heap.size + 1, 0, none⟩)]) (by simp) (by simp [go_sem]) ?_
  refine (bcaught_thrown _ _ 0 0 1 [] _ (by simp) R0.out.c0 R0.out.c1 R0.out.f0 R0.out.f1).mono ?_
  rintro e u' w'' ⟨rfl, rfl, rfl⟩
  have c0 := R0.out.c0
  have c1 := R0.out.c1
  simp [Leaves, settle, results, Try.results76, go_sem, c0, c1]
  first | exact R0.out.put _ _ | exact ((Below.refl _ _).alloc (Nat.le_refl _) _).alloc (by simp) _
def Bore (gb : Nat) (W h : Int) (x : Int × Int × Int) (w : World) (e : Ending) (w' : World) : Prop :=
 e = .returned (.tuple #[.int .i64 x.1, .int .i64 x.2.1]) ∧ BearAt w' gb W h x.2.2 ∧ But gb w w'
set_option maxHeartbeats 1000000 in
theorem bear_yes {gb : Nat} {W h rest bal rate n : Int} {w : World} (A : BearAt w gb W h rest) (G : Good W h rest) (hm : Gm.may bal rate n) (hq : Gm.q W h rest (bal * rate * n) ≤ 1000000000000000) :
  Calls Try.prog 76 #[.pointer (some ⟨gb, 0, none⟩), .int .i64 bal, .int .i64 rate, .int .i64 n] w (Bore gb W h (Gm.q W h rest (bal * rate * n), 0, Gm.r W h rest (bal * rate * n)) w) := by
 have R0 := Aside0.mk (Fr.Res2.made w (.int .i64 0) (.int .i64 0) 2 32)
 have HB := Aside0.mk (fun (w1 : World) (A1 : BearAt w1 gb W h rest) => borne_yes A1 G hm hq)
 have lt := A.lt
 have hne : ¬ gb = w.heap.size := by omega
 have hne1 : ¬ gb = w.heap.size + 1 := by omega
 obtain ⟨a0, a1, b0, b1, n0, n1⟩ := hm
 have u1 : IntKind.u64.wrap bal = bal := IntWalk.u64_in _ (by omega)
 have u2 : IntKind.u64.wrap rate = rate := IntWalk.u64_in _ (by omega)
 have u3 : IntKind.u64.wrap n = n := IntWalk.u64_in _ (by omega)
 have AA := Aside0.mk A
 clear hq G A
 generalize Gm.q W h rest (bal * rate * n) = q at *
 generalize Gm.r W h rest (bal * rate * n) = r at *
 go_enter_defers Try.func76, Try.ntmps76
 go_wp2_with fail
 refine (HB.out _ (AA.out.below R0.out.below)).mono ?_
 rintro e w1 ⟨rfl, hd⟩
 have R1 := R0.out.drawn hd
 have A1 := (AA.out.below R0.out.below).below hd.below
 have BU := Aside0.mk (But.of (gb := gb) R1.below)
 have c0 := R1.c0
 have c1 := R1.c1
 have f0 := R1.f0
 have f1 := R1.f1
 have g2 := A1.c2
 have gf := A1.f2
 have RR := Aside0.mk R1
 have AB := Aside0.mk A1
 clear hd R0 R1 A1
 go_wp2
 refine leaves_cons (f := 96) (args := #[.pointer (some ⟨w.heap.size, 0, none⟩), .pointer (some ⟨w.heap.size + 1, 0, none⟩)]) (by simp) (by simp [go_sem]) ?_
 refine (bcaught_idle _ _ _).mono ?_
 rintro e u' w'' ⟨rfl, rfl, rfl⟩
 simp [Leaves, settle, results, Try.results76, go_sem, c0, c1]
 obtain ⟨k0, k1, k2, k3, k4⟩ := AB.out
 refine ⟨rfl, ⟨?_, ?_, ?_, ?_, ?_⟩, (((BU.out.setCell (Or.inr (Nat.le_refl _)) _).setCell (Or.inl rfl) _).setCell (Or.inr (Nat.le_refl _)) _).setCell (Or.inr (by simp)) _⟩
 ·rw [World.cell?_setCell_other _ _ _ _ (by first | (simp; done) | (simp; omega)), World.cell?_setCell_other _ _ _ _ (by first | (simp; done) | (simp; omega)), World.cell?_setCell_other _ _ _ _ (by simp), World.cell?_setCell_other _ _ _ _ (by first | (simp; done) | (simp; omega))]; exact k0
 ·rw [World.cell?_setCell_other _ _ _ _ (by first | (simp; done) | (simp; omega)), World.cell?_setCell_other _ _ _ _ (by first | (simp; done) | (simp; omega)), World.cell?_setCell_other _ _ _ _ (by simp), World.cell?_setCell_other _ _ _ _ (by first | (simp; done) | (simp; omega))]; exact k1
 ·rw [World.cell?_setCell_other _ _ _ _ (by first | (simp; done) | (simp; omega)), World.cell?_setCell_other _ _ _ _ (by first | (simp; done) | (simp; omega))]
  have k2' : (w1.setCell ⟨w.heap.size, 0, none⟩ (.int .i64 q)).cell? ⟨gb, 2, none⟩ = some (.int .i64 rest) := by rw [World.cell?_setCell_other _ _ _ _ (by first | (simp; done) | (simp; omega))]; exact k2
  simp [World.cell?_setCell_same, k2']
 ·simp [go_sem, k3]
 ·simp [go_sem]; exact k4
theorem bear_range {gb : Nat} {W h rest bal rate n : Int} {w : World} (A : BearAt w gb W h rest) (G : Good W h rest) (hm : Gm.may bal rate n) (hq : 1000000000000000 < Gm.q W h rest (bal * rate * n)) :
  Calls Try.prog 76 #[.pointer (some ⟨gb, 0, none⟩), .int .i64 bal, .int .i64 rate, .int .i64 n] w fun e w' => e = .returned (.tuple #[.int .i64 0, .int .i64 3]) ∧ Below w.heap.size w w' := by
 have R0 := Aside0.mk (Fr.Res2.made w (.int .i64 0) (.int .i64 0) 2 32)
 have HB := Aside0.mk (fun (w1 : World) (A1 : BearAt w1 gb W h rest) => borne_no A1 G hm hq)
 have lt := A.lt
 have hne : ¬ gb = w.heap.size := by omega
 have hne1 : ¬ gb = w.heap.size + 1 := by omega
 obtain ⟨a0, a1, b0, b1, n0, n1⟩ := hm
 have u1 : IntKind.u64.wrap bal = bal := IntWalk.u64_in _ (by omega)
 have u2 : IntKind.u64.wrap rate = rate := IntWalk.u64_in _ (by omega)
 have u3 : IntKind.u64.wrap n = n := IntWalk.u64_in _ (by omega)
 have AA := Aside0.mk A
 clear hq G A
 go_enter_defers Try.func76, Try.ntmps76
 go_wp2_with fail
 refine (HB.out _ (AA.out.below R0.out.below)).mono ?_
 rintro e w1 ⟨rfl, hd⟩
 have R1 := Aside0.mk (R0.out.drawn hd)
 clear hd R0
 refine leaves_cons (f := 96) (args := #[.pointer (some ⟨w.heap.size, 0, none⟩), .pointer (some ⟨w.heap.size + 1, 0, none⟩)]) (by simp) (by simp [go_sem]) ?_
 refine (bcaught_thrown _ _ 0 0 3 [] _ (by simp) R1.out.c0 R1.out.c1 R1.out.f0 R1.out.f1).mono ?_
 rintro e u' w'' ⟨rfl, rfl, rfl⟩
 have c0 := R1.out.c0
 have c1 := R1.out.c1
 simp [Leaves, settle, results, Try.results76, go_sem, c0, c1]
 exact R1.out.put _ _
theorem bear_any {gb : Nat} {W h rest bal rate n : Int} {w : World} (A : BearAt w gb W h rest) (G : Good W h rest) :
  Calls Try.prog 76 #[.pointer (some ⟨gb, 0, none⟩), .int .i64 bal, .int .i64 rate, .int .i64 n] w (Bore gb W h (Gm.bear W h rest bal rate n) w) := by
 unfold Gm.bear
 by_cases hm : Gm.may bal rate n
 ·rw [if_pos hm]
  by_cases hq : Gm.q W h rest (bal * rate * n) ≤ 1000000000000000
  ·rw [if_pos hq]; exact bear_yes A G hm hq
  ·rw [if_neg hq]
   exact (bear_range A G hm (by omega)).mono fun e w' ⟨h1, h2⟩ => ⟨h1, A.below h2, But.of h2⟩
 ·rw [if_neg hm]
  exact (bear_arg hm w).mono fun e w' ⟨h1, h2⟩ => ⟨h1, A.below h2, But.of h2⟩
theorem good_bear {W h rest bal rate n : Int} (G : Good W h rest) : Good W h (Gm.bear W h rest bal rate n).2.2 := by
 unfold Gm.bear
 by_cases hm : Gm.may bal rate n
 ·rw [if_pos hm]
  obtain ⟨a0, a1, b0, b1, n0, n1⟩ := hm
  split
  ·exact G.next (Int.mul_nonneg (Int.mul_nonneg a0 b0) n0)
  ·exact G
 ·rw [if_neg hm]; exact G
end Go.Proofs.Ytcfpkkgdofblfaa.H
/- Contracts by hand: the document's digits: so many times, so many more. -/
namespace Go.Proofs.Ytcfpkkgdofblfaa.H
open Go.RowKit Go.Proofs.YtcfpkkgdofblfaaW.PrintWords Go.Proofs.YtcfpkkgdofblfaaW.PrintLast Go.Proofs.YtcfpkkgdofblfaaW.PrintMore Go.Proofs.Ytcfpkkgdofblfaa.HW
set_option linter.unusedVariables false
set_option linter.unusedSimpArgs false
theorem digits_of_own {w w1 : World} {v : Value} {r : List Int} (h : w1.ownsRow w.heap.size 2 1 v r.length (nums .i64 r)) (hb : Below w.heap.size w w1) : ∃ A c, v = .slice A r.length c ∧ Kd.C (Kd.int .i64) w1 A r.length r ∧ r.length ≤ c ∧ (A = none → c = 0) := by
 have h' : w1.ownsRow w.heap.size 2 1 v r.length (encs (Value.int .i64) r) := h
 obtain ⟨A, c, rfl, hle, hr⟩ := own_reads_of_le (d := (0 : Int)) h'
 refine ⟨A, c, rfl, Kd.C_of_reads hr, hle, fun hA => ?_⟩
 subst hA
 rcases h.2 with ⟨e, _⟩ | ⟨g, cap, cur, e, _⟩
 ·injection e
 ·injection e with e1 e2
  cases e1
structure Mid (w W : World) (v : Value) (done todo : List Int) (k : Nat) : Prop where
 len : done.length = k
 own : W.ownsRow w.heap.size 2 1 v (done ++ todo).length (nums .i64 (done ++ todo))
 below : Below w.heap.size w W
theorem Mid.slice {w W : World} {v : Value} {done todo : List Int} {k : Nat} (h : Mid w W v done todo k) : ∃ A c, v = .slice A (done ++ todo).length c ∧ (done ++ todo).length ≤ c ∧ (A = none → c = 0) := by
 obtain ⟨A, c, h1, _, h3, h4⟩ := digits_of_own h.own h.below
 exact ⟨A, c, h1, h3, h4⟩
theorem Mid.set {w W : World} {g cap : Nat} {done todo : List Int} {d x : Int} {k : Nat} (h : Mid w W (.slice (some ⟨g, 0, none⟩) (done ++ d :: todo).length cap) done (d :: todo) k) (hg : w.heap.size ≤ g) : Mid w (W.setCell ⟨g, k, none⟩ (.int .i64 x)) (.slice (some ⟨g, 0, none⟩) (done ++ d :: todo).length cap) (done ++ [x]) todo (k + 1) := by
 have hl := h.len
 refine ⟨by simp [hl], ?_, h.below.setCell (by exact hg) _⟩
 have h1 := (World.ownsRow.stored h.own k (.int .i64 x)).1
 have e : (nums .i64 (done ++ d :: todo)).set k (.int .i64 x) = nums .i64 ((done ++ [x]) ++ todo) := by
  simp only [nums, List.map_append, List.map_cons, List.append_assoc, List.cons_append, List.nil_append]
  rw [List.set_append_right _ _ (by simp [hl])]
  simp [hl]
 rw [e] at h1
 have e2 : ((done ++ [x]) ++ todo).length = (done ++ d :: todo).length := by simp
 rw [e2]
 exact h1
theorem Mid.cell {w W : World} {g cap : Nat} {done todo : List Int} {d : Int} {k : Nat} (h : Mid w W (.slice (some ⟨g, 0, none⟩) (done ++ d :: todo).length cap) done (d :: todo) k) : W.cell? ⟨g, k, none⟩ = some (.int .i64 d) ∧ W.frozen? ⟨g, k, none⟩ = false := by
 refine ⟨?_, World.ownsRow.frozenAt h.own k⟩
 rw [World.ownsRow.cellAt h.own k (by have := h.len; simp; omega)]
 simp [nums, List.getElem?_append_right, h.len]
theorem Mid.more {w W w1 : World} {v v' : Value} {done : List Int} {k : Nat} (h : Mid w W v done [] k) (hown : w1.ownsRow w.heap.size 2 1 v' ((done ++ []).length + 1) (nums .i64 (done ++ []) ++ [.int .i64 0])) (hg : (W.alloc (.cells #[.int .i64 0] 2)).grownBy w1 v.ownBlock) : Mid w w1 v' done [0] k :=
 ⟨h.len, by simpa [nums] using hown, (h.below.alloc h.below.size _).grown hg (by have := h.below.size; simp; omega) (own_base h.own)⟩
end Go.Proofs.Ytcfpkkgdofblfaa.H
/- Contracts by hand: the document's bearer, made. -/
namespace Go.Proofs.Ytcfpkkgdofblfaa.H
open Go.RowKit Go.Proofs.YtcfpkkgdofblfaaW.PrintWords Go.Proofs.YtcfpkkgdofblfaaW.PrintLast Go.Proofs.YtcfpkkgdofblfaaW.PrintMore Go.Proofs.Ytcfpkkgdofblfaa.HW
set_option linter.unusedVariables false
set_option linter.unusedSimpArgs false
structure RefAt (w : World) (gb : Nat) (P : Int) (up : Bool) (rest : Int) : Prop where
 c0 : w.cell? ⟨gb, 0, none⟩ = some (.int .i64 P)
 c1 : w.cell? ⟨gb, 1, none⟩ = some (.bool up)
 c2 : w.cell? ⟨gb, 2, none⟩ = some (.int .i64 rest)
 f2 : w.frozen? ⟨gb, 2, none⟩ = false
 lt : gb < w.heap.size
theorem RefAt.below {w w1 : World} {gb : Nat} {P rest : Int} {up : Bool} (H : RefAt w gb P up rest) (hb : Below w.heap.size w w1) : RefAt w1 gb P up rest :=
 ⟨by rw [hb.cell (by exact H.lt)]; exact H.c0, by rw [hb.cell (by exact H.lt)]; exact H.c1, by rw [hb.cell (by exact H.lt)]; exact H.c2, by rw [hb.frozen (by exact H.lt)]; exact H.f2, Nat.lt_of_lt_of_le H.lt hb.size⟩
theorem RefAt.but {w w1 : World} {gb g2 : Nat} {P rest : Int} {up : Bool} (H : RefAt w g2 P up rest) (hb : But gb w w1) (hn : g2 ≠ gb) : RefAt w1 g2 P up rest :=
 ⟨by rw [hb.cell (by exact H.lt) (by exact hn)]; exact H.c0, by rw [hb.cell (by exact H.lt) (by exact hn)]; exact H.c1, by rw [hb.cell (by exact H.lt) (by exact hn)]; exact H.c2, by rw [hb.frozen (by exact H.lt) (by exact hn)]; exact H.f2, Nat.lt_of_lt_of_le H.lt hb.size⟩
theorem rparts_any (c : Int) (w : World) : Calls Try.prog 98 #[.int .i64 c] w fun e w' => e = .returned (.tuple #[.int .i64 (Fr.parts c).1, .int .i64 (Fr.parts c).2]) ∧ Drawn0 w w' := by
 have hcs : c = 1 ∨ c = 2 ∨ c = 3 ∨ (Fr.parts c = (0, 1) ∧ (c == 1) = false ∧ (c == 2) = false ∧ (c == 3) = false) := by
  rcases Fr.parts_cases c with ⟨v, _, rfl | rfl | rfl⟩ | h
  ·exact Or.inl rfl
  ·exact Or.inr (Or.inl rfl)
  ·exact Or.inr (Or.inr (Or.inl rfl))
  ·exact Or.inr (Or.inr (Or.inr h))
 rcases hcs with rfl | rfl | rfl | ⟨hp, h1, h2, h3⟩
 ·go_enter Try.func98, Try.ntmps98
  go_wp2
  go_ret2
  exact ⟨rfl, Drawn0.refl _⟩
 ·go_enter Try.func98, Try.ntmps98
  go_wp2
  go_ret2
  exact ⟨rfl, Drawn0.refl _⟩
 ·go_enter Try.func98, Try.ntmps98
  go_wp2
  go_ret2
  exact ⟨rfl, Drawn0.refl _⟩
 ·rw [hp]
  clear hp
  go_enter Try.func98, Try.ntmps98
  go_wp2
  go_ret2
  exact ⟨rfl, Drawn0.refl _⟩
end Go.Proofs.Ytcfpkkgdofblfaa.H
/- Contracts by hand: what the document's bearer bears. -/
namespace Go.Proofs.Ytcfpkkgdofblfaa.H
open Go.RowKit Go.Proofs.YtcfpkkgdofblfaaW.PrintWords Go.Proofs.YtcfpkkgdofblfaaW.PrintLast Go.Proofs.YtcfpkkgdofblfaaW.PrintMore Go.Proofs.Ytcfpkkgdofblfaa.HW
set_option linter.unusedVariables false
set_option linter.unusedSimpArgs false
theorem RefAt.put {w : World} {gb : Nat} {P rest : Int} {up : Bool} (A : RefAt w gb P up rest) (v : Int) : RefAt (w.setCell ⟨gb, 2, none⟩ (.int .i64 v)) gb P up v := by
 obtain ⟨c0, c1, c2, f2, lt⟩ := A
 refine ⟨?_, ?_, ?_, ?_, ?_⟩
 ·rw [World.cell?_setCell_other _ _ _ _ (by simp)]; exact c0
 ·rw [World.cell?_setCell_other _ _ _ _ (by simp)]; exact c1
 ·simp [World.cell?_setCell_same, c2]
 ·simp [go_sem, f2]
 ·simp [go_sem]; exact lt
end Go.Proofs.Ytcfpkkgdofblfaa.H
namespace Go.Proofs.Ytcfpkkgdofblfaa.Lv
open Go.RowKit Go.Proofs.YtcfpkkgdofblfaaW.PrintWords Go.Proofs.YtcfpkkgdofblfaaW.PrintLast Go.Proofs.YtcfpkkgdofblfaaW.PrintMore Go.Proofs.Ytcfpkkgdofblfaa.HW
open Pm Pd
set_option linter.unusedVariables false
set_option linter.unusedSimpArgs false
def fine (l : List Int) : Bool := l.all (fun n => decide (0 ≤ n ∧ n ≤ 267180))
def askE (p : Prod) (l : List Int) (m : Int) : Int := if err p ≠ 0 then 9 else if (l.length : Int) = p.times ∧ 1 ≤ m ∧ m ≤ 10000000000000 ∧ fine l = true then 0 else 1
theorem err_two (p : Prod) : err p = 0 ∨ err p = 9 := by unfold err; split <;> simp
abbrev wcs (p : Prod) (A1 : Option Addr) (c1 : Nat) (A2 : Option Addr) (c2 : Nat) (A3 : Option Addr) (c3 : Nat) (A : Option Addr) (l : List Int) (c : Nat) (m : Int) : Array Value :=
 #[.string p.name, .int .i64 p.count, .int .i64 p.round, .int .i64 p.kind, .int .i64 p.every, .int .i64 p.times, .int .i64 p.grace, .int .i64 p.rate, .slice A1 p.resets.length c1, .int .i64 p.penalty, .int .i64 p.o1, .int .i64 p.o2, .int .i64 p.o3, .int .i64 p.o4, .int .i64 p.over, .slice A2 p.late.length c2, .int .i64 p.cap, .int .i64 p.roll, .slice A3 p.hol.length c3, .slice A l.length c, .int .i64 m]
abbrev wv (p : Prod) (A1 : Option Addr) (c1 : Nat) (A2 : Option Addr) (c2 : Nat) (A3 : Option Addr) (c3 : Nat) (A : Option Addr) (l : List Int) (c : Nat) (m : Int) : Value := .agg (wcs p A1 c1 A2 c2 A3 c3 A l c m)
abbrev wzs : Array Value :=
 #[.string ⟨#[]⟩, .int .i64 0, .int .i64 0, .int .i64 0, .int .i64 0, .int .i64 0, .int .i64 0, .int .i64 0, .slice none 0 0, .int .i64 0, .int .i64 0, .int .i64 0, .int .i64 0, .int .i64 0, .int .i64 0, .slice none 0 0, .int .i64 0, .int .i64 0, .slice none 0 0, .slice none 0 0, .int .i64 0]
theorem info_walk : (Try.prog.info? 74).map (·.size) = some 21 := by kernel_rfl
theorem wcs_one (p : Prod) (A1 : Option Addr) (c1 : Nat) (A2 : Option Addr) (c2 : Nat) (A3 : Option Addr) (c3 : Nat) (A : Option Addr) (l : List Int) (c : Nat) (m : Int) : (wcs p A1 c1 A2 c2 A3 c3 A l c m).all (·.oneCell') = true := by simp [Value.oneCell']
theorem w_cells {p : Prod} {A1 : Option Addr} {c1 : Nat} {A2 : Option Addr} {c2 : Nat} {A3 : Option Addr} {c3 : Nat} {A : Option Addr} {l : List Int} {c : Nat} {m : Int} {w : World} {g : Nat} {t : TypeId} (h : w.heap[g]? = some (.cells (wcs p A1 c1 A2 c2 A3 c3 A l c m) t (0, 0))) :
  w.cell? ⟨g, 1, none⟩ = some (.int .i64 p.count) ∧ w.cell? ⟨g, 2, none⟩ = some (.int .i64 p.round) ∧ w.cell? ⟨g, 5, none⟩ = some (.int .i64 p.times) ∧ w.cell? ⟨g, 6, none⟩ = some (.int .i64 p.grace) ∧ w.cell? ⟨g, 7, none⟩ = some (.int .i64 p.rate) ∧ w.cell? ⟨g, 19, none⟩ = some (.slice A l.length c) ∧ w.cell? ⟨g, 20, none⟩ = some (.int .i64 m) :=
 ⟨(blk_cell h 1).trans rfl, (blk_cell h 2).trans rfl, (blk_cell h 5).trans rfl, (blk_cell h 6).trans rfl, (blk_cell h 7).trans rfl, (blk_cell h 19).trans rfl, (blk_cell h 20).trans rfl⟩
theorem w_range {p : Prod} {A1 : Option Addr} {c1 : Nat} {A2 : Option Addr} {c2 : Nat} {A3 : Option Addr} {c3 : Nat} {A : Option Addr} {l : List Int} {c : Nat} {m : Int} {w : World} {g : Nat} {t : TypeId} (h : w.heap[g]? = some (.cells (wcs p A1 c1 A2 c2 A3 c3 A l c m) t (0, 0))) :
  w.rangeAt g 0 (pcs p A1 c1 A2 c2 A3 c3).toList := by
 intro j v hj
 rw [Array.getElem?_toList] at hj
 have hlt : j < (pcs p A1 c1 A2 c2 A3 c3).size := by
  rcases Nat.lt_or_ge j (pcs p A1 c1 A2 c2 A3 c3).size with h1 | h1
  ·exact h1
  ·rw [Array.getElem?_eq_none h1] at hj; cases hj
 rw [Nat.zero_add, blk_cell h j, show wcs p A1 c1 A2 c2 A3 c3 A l c m = pcs p A1 c1 A2 c2 A3 c3 ++ #[.slice A l.length c, .int .i64 m] from rfl, Array.getElem?_append_left hlt]
 exact hj
section
variable {P : Program} {ops : Array Oper} {rest : List Oper} {op : Oper} {a : Act} {w : World} {Q : Exit → Act → World → Prop}
theorem load_part (hgd : op.guard = none) (ty : TypeId) (x : Operand) (ho : op.op = .load ty x) (b : Nat) (hx : a.eval x = .pointer (some ⟨b, 0, none⟩)) (cs : Array Value) (d : TypeDesc) (hc : w.rangeAt b 0 cs.toList)
  (hu : P.underlying ty = some d) (hd : d.isRow = true) (hi : (P.info? ty).map (·.size) = some cs.size) (h : wpList P ops Q rest (a.put op.dst (.agg cs)) w) : wpList P ops Q (op :: rest) a w :=
 wpList_load_mid hgd ty x ho b 0 hx cs.toList d hc hu hd (by simpa using hi) (by simpa using h)
end
theorem fine_drop {l : List Int} {k : Nat} (h : k < l.length) : fine (l.drop k) = (decide (0 ≤ rd l (k : Int) ∧ rd l (k : Int) ≤ 267180) && fine (l.drop (k + 1))) := by
 unfold fine
 have e : rd l (k : Int) = l[k] := by simp [rd, h]
 rw [List.drop_eq_getElem_cons h, List.all_cons, e]
def AskP (p : Prod) (l : List Int) (m : Int) (w : World) (e : Ending) (w' : World) : Prop := e = .returned (.int .i64 (askE p l m)) ∧ Below w.heap.size w w'
set_option maxRecDepth 100000 in
set_option maxHeartbeats 2000000 in
theorem may_bad (p : Prod) (A1 : Option Addr) (c1 : Nat) (A2 : Option Addr) (c2 : Nat) (A3 : Option Addr) (c3 : Nat) (A : Option Addr) (l : List Int) (c : Nat) (m : Int) (w : World) (hg : GV w) (hp : ProdAt w p A1 c1 A2 c2 A3 c3) (hs : Small p) (hr : Kd.C (Kd.int .i64) w A l.length l) (hl : l.length ≤ 1000000) (ha : err p = 9) :
  Calls Try.prog 47 #[wv p A1 c1 A2 c2 A3 c3 A l c m] w (AskP p l m w) := by
 have hx : askE p l m = 9 := by unfold askE; rw [ha, if_pos (by decide)]
 unfold AskP
 rw [hx]
 clear hx
 have HG := Aside0.mk hg
 have HP := Aside0.mk hp
 have HS := Aside0.mk hs
 have HR := Aside0.mk hr
 have HA := Aside0.mk ha
 clear hg hp hs hr ha
 go_enter Try.func47, Try.ntmps47
 go_wp2_with (first
  | ((with_reducible refine gate_dst (N := 1) rfl ?_); refine box_event ?hg (N := 1) ?hd (cs := wcs p A1 c1 A2 c2 A3 c3 A l c m) (t := 74) ?hr ?_; (case hd => rfl); (case hg => rfl); (case hr => first | (go_simp; done) | (go_simp; rfl)); intro g1 hg w1 hbg1 hblg1; have g1ge := (show w.heap.size ≤ g1 by rw [hg]; exact Nat.le_refl _); clear hg; have HBg1 := Aside0.mk hbg1; have BLg1 := Aside0.mk hblg1; clear hbg1 hblg1)
  | ((with_reducible refine gate_dst (N := 7) rfl ?_); refine load_part rfl 27 (.tmp 6) rfl g1 rfl (pcs p A1 c1 A2 c2 A3 c3) _ (w_range HBg1.out) Try.underlying27 rfl info_prod ?_))
 refine (check_any p A1 c1 A2 c2 A3 c3 _ (HG.out.below BLg1.out) (HP.out.below BLg1.out) HS.out).mono ?_
 rintro e w2 ⟨rfl, hb⟩
 have B2 := Aside0.mk (below_step BLg1.out hb)
 obtain ⟨-, -, q5, -, -, q19, q20⟩ := w_cells (Pd.blk_below HBg1.out hb)
 have HR2 := Aside0.mk (Kd.C_below (Kd.C_below HR.out BLg1.out) hb)
 clear hb HBg1 BLg1
 rw [HA.out]
 go_wp2_with fail
 go_ret
 exact ⟨rfl, B2.out⟩
set_option maxRecDepth 100000 in
set_option maxHeartbeats 2000000 in
theorem may_arg (p : Prod) (A1 : Option Addr) (c1 : Nat) (A2 : Option Addr) (c2 : Nat) (A3 : Option Addr) (c3 : Nat) (A : Option Addr) (l : List Int) (c : Nat) (m : Int) (w : World) (hg : GV w) (hp : ProdAt w p A1 c1 A2 c2 A3 c3) (hs : Small p) (hr : Kd.C (Kd.int .i64) w A l.length l) (hl : l.length ≤ 1000000) (ha : err p = 0) (hn : ¬ (l.length : Int) = p.times ∨ ((l.length : Int) = p.times ∧ m < 1) ∨ ((l.length : Int) = p.times ∧ 1 ≤ m ∧ 10000000000000 < m)) :
  Calls Try.prog 47 #[wv p A1 c1 A2 c2 A3 c3 A l c m] w (AskP p l m w) := by
 have hx : askE p l m = 1 := by unfold askE; rw [ha, if_neg (by decide), if_neg (by omega)]
 unfold AskP
 rw [hx]
 clear hx
 have HG := Aside0.mk hg
 have HP := Aside0.mk hp
 have HS := Aside0.mk hs
 have HR := Aside0.mk hr
 have HA := Aside0.mk ha
 clear hg hp hs hr ha
 go_enter Try.func47, Try.ntmps47
 go_wp2_with (first
  | ((with_reducible refine gate_dst (N := 1) rfl ?_); refine box_event ?hg (N := 1) ?hd (cs := wcs p A1 c1 A2 c2 A3 c3 A l c m) (t := 74) ?hr ?_; (case hd => rfl); (case hg => rfl); (case hr => first | (go_simp; done) | (go_simp; rfl)); intro g1 hg w1 hbg1 hblg1; have g1ge := (show w.heap.size ≤ g1 by rw [hg]; exact Nat.le_refl _); clear hg; have HBg1 := Aside0.mk hbg1; have BLg1 := Aside0.mk hblg1; clear hbg1 hblg1)
  | ((with_reducible refine gate_dst (N := 7) rfl ?_); refine load_part rfl 27 (.tmp 6) rfl g1 rfl (pcs p A1 c1 A2 c2 A3 c3) _ (w_range HBg1.out) Try.underlying27 rfl info_prod ?_))
 refine (check_any p A1 c1 A2 c2 A3 c3 _ (HG.out.below BLg1.out) (HP.out.below BLg1.out) HS.out).mono ?_
 rintro e w2 ⟨rfl, hb⟩
 have B2 := Aside0.mk (below_step BLg1.out hb)
 obtain ⟨-, -, q5, -, -, q19, q20⟩ := w_cells (Pd.blk_below HBg1.out hb)
 have HR2 := Aside0.mk (Kd.C_below (Kd.C_below HR.out BLg1.out) hb)
 clear hb HBg1 BLg1
 rw [HA.out]
 rcases hn with h | ⟨h, h2⟩ | ⟨h, h2, h3⟩
 ·have hb : ((l.length : Int) != p.times) = true := by simpa using h
  clear h
  go_wp2_with fail
  go_ret
  exact ⟨rfl, B2.out⟩
 all_goals
  have hb : ((l.length : Int) != p.times) = false := by simpa using h
  clear h
  go_wp2_with fail
  go_ret
  exact ⟨rfl, B2.out⟩
set_option maxRecDepth 100000 in
set_option maxHeartbeats 2000000 in
theorem may_loop (p : Prod) (A1 : Option Addr) (c1 : Nat) (A2 : Option Addr) (c2 : Nat) (A3 : Option Addr) (c3 : Nat) (A : Option Addr) (l : List Int) (c : Nat) (m : Int) (w : World) (hg : GV w) (hp : ProdAt w p A1 c1 A2 c2 A3 c3) (hs : Small p) (hr : Kd.C (Kd.int .i64) w A l.length l) (hl : l.length ≤ 1000000) (ha : err p = 0) (h1 : (l.length : Int) = p.times) (h2 : 1 ≤ m) (h3 : m ≤ 10000000000000) :
  Calls Try.prog 47 #[wv p A1 c1 A2 c2 A3 c3 A l c m] w (AskP p l m w) := by
 have hx : askE p l m = if fine l = true then 0 else 1 := by
  unfold askE
  rw [ha, if_neg (by decide)]
  by_cases hf : fine l = true
  ·rw [if_pos hf, if_pos ⟨h1, h2, h3, hf⟩]
  ·rw [if_neg hf, if_neg (fun h => hf h.2.2.2)]
 unfold AskP
 obtain ⟨v, hv⟩ : ∃ v, (if fine l = true then (0 : Int) else 1) = v := ⟨_, rfl⟩
 rw [hx, hv]
 have HV := Aside0.mk hv
 clear hx hv
 have hb : ((l.length : Int) != p.times) = false := by simpa using h1
 clear h1
 have HG := Aside0.mk hg
 have HP := Aside0.mk hp
 have HS := Aside0.mk hs
 have HR := Aside0.mk hr
 have HA := Aside0.mk ha
 clear hg hp hs hr ha
 go_enter Try.func47, Try.ntmps47
 go_wp2_with (first
  | ((with_reducible refine gate_dst (N := 1) rfl ?_); refine box_event ?hg (N := 1) ?hd (cs := wcs p A1 c1 A2 c2 A3 c3 A l c m) (t := 74) ?hr ?_; (case hd => rfl); (case hg => rfl); (case hr => first | (go_simp; done) | (go_simp; rfl)); intro g1 hg w1 hbg1 hblg1; have g1ge := (show w.heap.size ≤ g1 by rw [hg]; exact Nat.le_refl _); clear hg; have HBg1 := Aside0.mk hbg1; have BLg1 := Aside0.mk hblg1; clear hbg1 hblg1)
  | ((with_reducible refine gate_dst (N := 7) rfl ?_); refine load_part rfl 27 (.tmp 6) rfl g1 rfl (pcs p A1 c1 A2 c2 A3 c3) _ (w_range HBg1.out) Try.underlying27 rfl info_prod ?_))
 refine (check_any p A1 c1 A2 c2 A3 c3 _ (HG.out.below BLg1.out) (HP.out.below BLg1.out) HS.out).mono ?_
 rintro e w2 ⟨rfl, hb⟩
 have B2 := Aside0.mk (below_step BLg1.out hb)
 obtain ⟨-, -, q5, -, -, q19, q20⟩ := w_cells (Pd.blk_below HBg1.out hb)
 have HR2 := Aside0.mk (Kd.C_below (Kd.C_below HR.out BLg1.out) hb)
 clear hb HBg1 BLg1
 rw [HA.out]
 go_wp2_with fail
 go_loopg [32] (l.length + 1) (fun gq iv w' => ∃ (k : Nat), k ≤ l.length ∧ iv = .int .i64 (k : Int) ∧ Aside0 (gq = l.length + 1 - k) ∧ Aside0 ((if fine (l.drop k) = true then (0 : Int) else 1) = v) ∧ w' = w2)
 case atStart => exact ⟨0, by omega, rfl, ⟨rfl⟩, ⟨by rw [List.drop_zero]; exact HV.out⟩, rfl⟩
 case round =>
  obtain ⟨k, hk, rfl, hgq, hv, rfl⟩ := hrel
  by_cases hlt : k < l.length
  ·obtain ⟨ad0, e0, hx0⟩ := Kd.at_int HR2.out (k : Int) (by omega) (by omega)
   cases e0
   simp only [Int.toNat_natCast] at hx0
   have hf := fine_drop hlt
   obtain ⟨d, hd⟩ : ∃ d, rd l (k : Int) = d := ⟨_, rfl⟩
   rw [hd] at hx0 hf
   rcases (by omega : d < 0 ∨ (0 ≤ d ∧ 267180 < d) ∨ (0 ≤ d ∧ d ≤ 267180)) with c0 | ⟨c0, c1⟩ | ⟨c0, c1⟩
   ·have hv1 := hv.out
    rw [hf, decide_eq_false (by omega), Bool.false_and, if_neg (by decide)] at hv1
    have HV1 := Aside0.mk hv1
    clear hv1 hf hd hv
    go_wp2_with fail
    go_ret
    obtain rfl := HV1.out
    exact ⟨rfl, B2.out⟩
   ·have hv1 := hv.out
    rw [hf, decide_eq_false (by omega), Bool.false_and, if_neg (by decide)] at hv1
    have HV1 := Aside0.mk hv1
    clear hv1 hf hd hv
    go_wp2_with fail
    go_ret
    obtain rfl := HV1.out
    exact ⟨rfl, B2.out⟩
   ·have hv1 := hv.out
    rw [hf, decide_eq_true ⟨c0, c1⟩, Bool.true_and] at hv1
    have HV1 := Aside0.mk hv1
    clear hv1 hf hd hv
    go_wp2_with fail
    go_roundg (l.length + 1 - (k + 1))
    case measure => have := hgq.out; omega
    case rel => exact ⟨k + 1, by omega, by simp, ⟨rfl⟩, ⟨HV1.out⟩, rfl⟩
  ·have hv1 := hv.out
   rw [List.drop_of_length_le (by omega)] at hv1
   have HV1 := Aside0.mk (show (0 : Int) = v by simpa [fine] using hv1)
   clear hv1 hv
   go_wp2_with fail
   go_ret
   obtain rfl := HV1.out
   exact ⟨rfl, B2.out⟩
theorem may_any (p : Prod) (A1 : Option Addr) (c1 : Nat) (A2 : Option Addr) (c2 : Nat) (A3 : Option Addr) (c3 : Nat) (A : Option Addr) (l : List Int) (c : Nat) (m : Int) (w : World) (hg : GV w) (hp : ProdAt w p A1 c1 A2 c2 A3 c3) (hs : Small p) (hr : Kd.C (Kd.int .i64) w A l.length l) (hl : l.length ≤ 1000000) : Calls Try.prog 47 #[wv p A1 c1 A2 c2 A3 c3 A l c m] w (AskP p l m w) := by
 rcases err_two p with ha | ha
 ·by_cases h : (l.length : Int) = p.times ∧ 1 ≤ m ∧ m ≤ 10000000000000
  ·exact may_loop p A1 c1 A2 c2 A3 c3 A l c m w hg hp hs hr hl ha h.1 h.2.1 h.2.2
  ·exact may_arg p A1 c1 A2 c2 A3 c3 A l c m w hg hp hs hr hl ha (by omega)
 ·exact may_bad p A1 c1 A2 c2 A3 c3 A l c m w hg hp hs hr hl ha
end Go.Proofs.Ytcfpkkgdofblfaa.Lv
/- Contracts by hand: level: what an instalment leaves. -/
namespace Go.Proofs.Ytcfpkkgdofblfaa.Lv
open Go.RowKit Go.Proofs.YtcfpkkgdofblfaaW.PrintWords Go.Proofs.YtcfpkkgdofblfaaW.PrintLast Go.Proofs.YtcfpkkgdofblfaaW.PrintMore Go.Proofs.Ytcfpkkgdofblfaa.HW
open Pm Pd
set_option linter.unusedVariables false
set_option linter.unusedSimpArgs false
open Go.Proofs.Ytcfpkkgdofblfaa.H
theorem good_in {W h rest bal : Int} (G : H.Good W h rest) (b0 : 0 < bal) (b1 : bal ≤ 1000000000000000) : In W h rest bal := ⟨by have := G.w0; omega, b0, b1, G.r0, G.r1⟩
theorem bear_bd {W h rest bal rate n : Int} (G : H.Good W h rest) (b0 : 0 < bal) (b1 : bal ≤ 1000000000000000) : 0 ≤ (Gm.bear W h rest bal rate n).1 ∧ (Gm.bear W h rest bal rate n).1 ≤ 1000000000000000 := by
 by_cases e : (Gm.bear W h rest bal rate n).2.1 = 0
 ·obtain ⟨_, hq, he⟩ := bear_ok e
  refine ⟨(bear_in (good_in G b0 b1) e).1, ?_⟩
  rw [he]; exact hq
 ·rw [bear_eq] at e ⊢
  split at e
  ·rename_i h
   rw [if_pos h]
   split at e
   ·simp at e
   ·rename_i h2
    rw [if_neg h2]; simp
  ·rename_i h
   rw [if_neg h]; simp
theorem wk_cons {W h rate gr x : Int} {i : Int} {n : Int} {l : List Int} {bal rest : Int} {z : Int × Int × Int} (hz : Gm.bear W h rest bal rate n = z) :
  wk W h rate gr x i (n :: l) bal rest = if z.2.1 ≠ 0 then 1000000000000001 else if i < gr then wk W h rate gr x (i + 1) l bal z.2.2 else if bal + (z.1 - x) ≤ 0 then bal + (z.1 - x) else if 1000000000000000 < bal + (z.1 - x) then 1000000000000001 else wk W h rate gr x (i + 1) l (bal + (z.1 - x)) z.2.2 := by
 rw [wk, hz]
set_option maxRecDepth 100000 in
set_option maxHeartbeats 4000000 in
theorem left_any (p : Prod) (A1 : Option Addr) (c1 : Nat) (A2 : Option Addr) (c2 : Nat) (A3 : Option Addr) (c3 : Nat) (A : Option Addr) (l : List Int) (c : Nat) (m : Int) (x : Int) (w : World) (hc : 1 ≤ p.count ∧ p.count ≤ 3) (hrd : p.round = 1 ∨ p.round = 3) (hra : 0 ≤ p.rate ∧ p.rate ≤ 1000000000) (hgr : 0 ≤ p.grace ∧ p.grace ≤ 600) (hr : Kd.C (Kd.int .i64) w A l.length l) (hl : l.length ≤ 1000000) (hm0 : 1 ≤ m) (hm1 : m ≤ 10000000000000) (x0 : 0 ≤ x) (x1 : x ≤ 1000000000000000) :
  Calls Try.prog 50 #[wv p A1 c1 A2 c2 A3 c3 A l c m, .int .i64 x] w fun e w' => e = .returned (.int .i64 (wk (Gm.whole p.count) (Gm.half p.count p.round) p.rate p.grace x 0 l m 0)) ∧ Below w.heap.size w w' := by
 have HR := Aside0.mk hr
 have HN := Aside0.mk (fun W => bnew_any (c := p.count) (r := p.round) (by omega) hrd W)
 have GN := good_new p.count p.round
 obtain ⟨v, hv⟩ : ∃ v, wk (Gm.whole p.count) (Gm.half p.count p.round) p.rate p.grace x 0 l m 0 = v := ⟨_, rfl⟩
 rw [hv]
 have HV := Aside0.mk hv
 clear hr hc hrd hv
 obtain ⟨Wh, hWh⟩ : ∃ y, Gm.whole p.count = y := ⟨_, rfl⟩
 obtain ⟨Hf, hHf⟩ : ∃ y, Gm.half p.count p.round = y := ⟨_, rfl⟩
 rw [hWh, hHf] at GN HV
 have HWh := Aside0.mk hWh
 have HHf := Aside0.mk hHf
 clear hWh hHf
 have GG := Aside0.mk GN
 clear GN
 go_enter Try.func50, Try.ntmps50
 go_wp2_with ((with_reducible refine gate_dst (N := 2) rfl ?_); refine box_event ?hg (N := 2) ?hd (cs := wcs p A1 c1 A2 c2 A3 c3 A l c m) (t := 74) ?hr ?_; (case hd => rfl); (case hg => rfl); (case hr => first | (go_simp; done) | (go_simp; rfl)); intro g1 hg w1 hbg1 hblg1; have g1ge := (show w.heap.size ≤ g1 by rw [hg]; exact Nat.le_refl _); clear hg; have HBg1 := Aside0.mk hbg1; have BLg1 := Aside0.mk hblg1; obtain ⟨u1, u2, -, -, -, -, -⟩ := w_cells hbg1; clear hbg1 hblg1)
 refine (HN.out _).mono ?_
 rintro e w2 ⟨hb, gb, hgb, rfl, hba⟩
 rw [HWh.out, HHf.out] at hba
 have B2 := Aside0.mk (below_step BLg1.out hb)
 have hne : g1 ≠ gb := by have := Pd.blk_below HBg1.out (Below.refl _ _); have := blk_lt HBg1.out; omega
 have HB2 := Aside0.mk (Pd.blk_below HBg1.out hb)
 have gbge : w.heap.size ≤ gb := Nat.le_trans BLg1.out.size hgb
 have BA := Aside0.mk hba
 obtain ⟨-, -, -, -, -, u19, u20⟩ := w_cells HB2.out
 clear hb hgb hba HBg1 BLg1 u1 u2 HN
 go_wp2_with fail
 clear u20
 go_loopg [7, 27] (l.length + 1) (fun gq bv iv w' => ∃ (k : Nat) (bal rest : Int), k ≤ l.length ∧ iv = .int .i64 (k : Int) ∧ bv = .int .i64 bal ∧ 0 < bal ∧ bal ≤ 1000000000000000 ∧ Aside0 (gq = l.length + 1 - k) ∧ Aside0 (wk Wh Hf p.rate p.grace x (k : Int) (l.drop k) bal rest = v) ∧ Aside0 (BearAt w' gb Wh Hf rest) ∧ Aside0 (H.Good Wh Hf rest) ∧ Aside0 (w'.heap[g1]? = some (.cells (wcs p A1 c1 A2 c2 A3 c3 A l c m) 74 (0, 0))) ∧ Aside0 (Below w.heap.size w w'))
 case atStart => exact ⟨0, m, 0, by omega, rfl, rfl, by omega, by omega, ⟨rfl⟩, ⟨by rw [List.drop_zero]; exact HV.out⟩, BA, GG, HB2, B2⟩
 case round =>
  obtain ⟨k, bal, rest, hk, rfl, rfl, b0, b1, hgq, HW, BA, GG, HB, BB⟩ := hrel
  clear HV B2 HB2 u19
  by_cases hlt : k < l.length
  ·obtain ⟨ad0, e0, hx0⟩ := Kd.at_int HR.out (k : Int) (by omega) (by omega)
   cases e0
   simp only [Int.toNat_natCast] at hx0
   have hx1 := (BB.out.cell (cell_ltR hx0)).trans hx0
   obtain ⟨-, -, -, u6, u7, -, -⟩ := w_cells HB.out
   have hd : l.drop k = rd l (k : Int) :: l.drop (k + 1) := by rw [List.drop_eq_getElem_cons hlt]; simp [rd, hlt]
   have hw := HW.out
   rw [hd] at hw
   obtain ⟨d, hdd⟩ : ∃ d, rd l (k : Int) = d := ⟨_, rfl⟩
   rw [hdd] at hw hx1
   obtain ⟨z, hz⟩ : ∃ z, Gm.bear Wh Hf rest bal p.rate d = z := ⟨_, rfl⟩
   rw [wk_cons hz] at hw
   have zb := bear_bd (rate := p.rate) (n := d) GG.out b0 b1
   have G2 := good_bear (bal := bal) (rate := p.rate) (n := d) GG.out
   have RB := Aside0.mk (bear_any (bal := bal) (rate := p.rate) (n := d) BA.out GG.out)
   rw [hz] at zb G2 RB
   have GG2 := Aside0.mk G2
   have HW2 := Aside0.mk hw
   clear hx0 hd hdd hz hw G2 HW
   obtain ⟨z1, z2, z3⟩ := z
   simp only [] at zb GG2 RB HW2
   go_wp2_with fail
   refine RB.out.mono ?_
   rintro e w3 ⟨rfl, hba, hbut⟩
   have BA3 := Aside0.mk hba
   have HB3 := Aside0.mk ((hbut.block g1 (blk_lt HB.out) hne).trans HB.out)
   have BB3 := Aside0.mk (But.below BB.out BB.out.size gbge hbut)
   obtain ⟨-, -, -, u6, -, -, -⟩ := w_cells HB3.out
   clear hba hbut BA HB BB RB u7 hx1
   by_cases hz2 : z2 = 0
   ·subst hz2
    have hw := HW2.out
    rw [if_neg (by simp)] at hw
    by_cases hi : (k : Int) < p.grace
    ·rw [if_pos hi] at hw
     have HW3 := Aside0.mk hw
     clear hw HW2
     go_wp2_with fail
     go_roundg (l.length + 1 - (k + 1))
     case measure => have := hgq.out; omega
     case rel => exact ⟨k + 1, bal, z3, by omega, by simp, rfl, b0, b1, ⟨rfl⟩, ⟨by exact HW3.out⟩, BA3, GG2, HB3, BB3⟩
    ·rw [if_neg hi] at hw
     obtain ⟨nb, hnb⟩ : ∃ nb, bal + (z1 - x) = nb := ⟨_, rfl⟩
     rw [hnb] at hw
     have s1 : IntKind.i64.wrap (z1 - x) = z1 - x := IntWalk.i64_in _ (by omega)
     have s2 : IntKind.i64.wrap (bal + (z1 - x)) = nb := by rw [hnb]; exact IntWalk.i64_in _ (by omega)
     have nb1 : nb ≤ 2000000000000000 := by omega
     clear hnb HW2
     rcases (by omega : nb ≤ 0 ∨ (0 < nb ∧ 1000000000000000 < nb) ∨ (0 < nb ∧ nb ≤ 1000000000000000)) with h1 | ⟨h1, h2⟩ | ⟨h1, h2⟩
     ·rw [if_pos h1] at hw
      have HW3 := Aside0.mk hw
      clear hw
      go_wp2_with fail
      go_ret
      obtain rfl := HW3.out
      exact ⟨rfl, BB3.out⟩
     ·rw [if_neg (by omega), if_pos h2] at hw
      have HW3 := Aside0.mk hw
      clear hw
      go_wp2_with fail
      go_ret
      obtain rfl := HW3.out
      exact ⟨rfl, BB3.out⟩
     ·rw [if_neg (by omega), if_neg (by omega)] at hw
      have HW3 := Aside0.mk hw
      clear hw
      go_wp2_with fail
      go_roundg (l.length + 1 - (k + 1))
      case measure => have := hgq.out; omega
      case rel => exact ⟨k + 1, nb, z3, by omega, by simp, rfl, h1, h2, ⟨rfl⟩, ⟨by exact HW3.out⟩, BA3, GG2, HB3, BB3⟩
   ·have hw := HW2.out
    rw [if_pos hz2] at hw
    have HW3 := Aside0.mk hw
    have hzb : (z2 != 0) = true := by simpa using hz2
    clear hw hz2 HW2
    go_wp2_with fail
    go_ret
    obtain rfl := HW3.out
    exact ⟨rfl, BB3.out⟩
  ·have hw := HW.out
   rw [List.drop_of_length_le (by omega)] at hw
   have HW3 := Aside0.mk (show bal = v from hw)
   clear hw HW
   go_wp2_with fail
   go_ret
   obtain rfl := HW3.out
   exact ⟨rfl, BB.out⟩
end Go.Proofs.Ytcfpkkgdofblfaa.Lv
/- Contracts by hand: level: the least instalment that leaves nothing. -/
namespace Go.Proofs.Ytcfpkkgdofblfaa.Lv
open Go.RowKit Go.Proofs.YtcfpkkgdofblfaaW.PrintWords Go.Proofs.YtcfpkkgdofblfaaW.PrintLast Go.Proofs.YtcfpkkgdofblfaaW.PrintMore Go.Proofs.Ytcfpkkgdofblfaa.HW
open Pm Pd
set_option linter.unusedVariables false
set_option linter.unusedSimpArgs false
open Go.Proofs.Ytcfpkkgdofblfaa.H
abbrev noneE : Ending := .panicked [{ v := .iface 77 (.agg #[]), recovered := false }]
set_option maxRecDepth 100000 in
set_option maxHeartbeats 2000000 in
theorem least_no (p : Prod) (A1 : Option Addr) (c1 : Nat) (A2 : Option Addr) (c2 : Nat) (A3 : Option Addr) (c3 : Nat) (A : Option Addr) (l : List Int) (c : Nat) (m : Int) (f : Int → Int) (w : World) (LEFT : ∀ (x : Int) (W : World), 0 ≤ x → x ≤ 1000000000000000 → Below w.heap.size w W → Calls Try.prog 50 #[wv p A1 c1 A2 c2 A3 c3 A l c m, .int .i64 x] W fun e w' => e = .returned (.int .i64 (f x)) ∧ Below W.heap.size W w') (hf : 0 < f 1000000000000000) :
  Calls Try.prog 49 #[.func (.func 50) #[wv p A1 c1 A2 c2 A3 c3 A l c m] #[]] w fun e w' => e = noneE ∧ Below w.heap.size w w' := by
 have HL := Aside0.mk (LEFT 1000000000000000 w (by decide) (by decide) (Below.refl _ _))
 clear LEFT
 obtain ⟨y, hy⟩ : ∃ y, f 1000000000000000 = y := ⟨_, rfl⟩
 rw [hy] at hf HL
 clear hy
 go_enter Try.func49, Try.ntmps49
 go_wp2_with fail
 refine HL.out.mono ?_
 rintro e w1 ⟨rfl, hb⟩
 have B1 := Aside0.mk hb
 clear hb HL
 go_wp2_with fail
 exact ⟨rfl, rfl, B1.out⟩
set_option maxRecDepth 100000 in
set_option maxHeartbeats 4000000 in
theorem least_yes (p : Prod) (A1 : Option Addr) (c1 : Nat) (A2 : Option Addr) (c2 : Nat) (A3 : Option Addr) (c3 : Nat) (A : Option Addr) (l : List Int) (c : Nat) (m : Int) (f : Int → Int) (w : World) (LEFT : ∀ (x : Int) (W : World), 0 ≤ x → x ≤ 1000000000000000 → Below w.heap.size w W → Calls Try.prog 50 #[wv p A1 c1 A2 c2 A3 c3 A l c m, .int .i64 x] W fun e w' => e = .returned (.int .i64 (f x)) ∧ Below W.heap.size W w') (hf : f 1000000000000000 ≤ 0) :
  Calls Try.prog 49 #[.func (.func 50) #[wv p A1 c1 A2 c2 A3 c3 A l c m] #[]] w fun e w' => e = .returned (.int .i64 (srch f 50 0 1000000000000000)) ∧ Below w.heap.size w w' := by
 have HL := Aside0.mk (LEFT 1000000000000000 w (by decide) (by decide) (Below.refl _ _))
 have LE := Aside0.mk LEFT
 obtain ⟨v, hv⟩ : ∃ v, srch f 50 0 1000000000000000 = v := ⟨_, rfl⟩
 rw [hv]
 have HV := Aside0.mk hv
 clear LEFT hv
 obtain ⟨y, hy⟩ : ∃ y, f 1000000000000000 = y := ⟨_, rfl⟩
 rw [hy] at hf HL
 clear hy
 go_enter Try.func49, Try.ntmps49
 go_wp2_with fail
 refine HL.out.mono ?_
 rintro e w1 ⟨rfl, hb⟩
 have B1 := Aside0.mk hb
 clear hb HL
 go_wp2_with fail
 clear hf
 go_loopg [3, 4] 50 (fun gq lv hv w' => ∃ (lo hi : Int), lv = .int .i64 lo ∧ hv = .int .i64 hi ∧ 0 ≤ lo ∧ lo < hi ∧ hi ≤ 1000000000000000 ∧ Aside0 (hi - lo ≤ 2 ^ gq) ∧ Aside0 (srch f gq lo hi = v) ∧ Aside0 (Below w.heap.size w w'))
 case atStart => exact ⟨0, 1000000000000000, rfl, rfl, by decide, by decide, by decide, ⟨by decide⟩, HV, B1⟩
 case round =>
  obtain ⟨lo, hi, rfl, rfl, l0, l1, h1, hp, hs, BB⟩ := hrel
  obtain ⟨dd, hdd⟩ : ∃ dd, hi - lo = dd := ⟨_, rfl⟩
  have s1 : IntKind.i64.wrap (hi - lo) = dd := by rw [← hdd]; exact IntWalk.i64_in _ (by omega)
  by_cases hc : 1 < dd
  ·obtain ⟨j, hj⟩ : ∃ j, gk = j + 1 := by
    cases gk with
    | zero => have := hp.out; simp at this; omega
    | succ j => exact ⟨j, rfl⟩
   have hs1 := hs.out
   have hp1 := hp.out
   rw [hj, srch, hdd, if_pos hc] at hs1
   rw [hj, Int.pow_succ] at hp1
   obtain ⟨q, hq⟩ : ∃ q, Int.tdiv dd 2 = q := ⟨_, rfl⟩
   have hqd : q = dd / 2 := by rw [← hq]; exact Int.tdiv_eq_ediv_of_nonneg (by omega)
   rw [hq] at hs1
   obtain ⟨mid, hm⟩ : ∃ mid, lo + q = mid := ⟨_, rfl⟩
   rw [hm] at hs1
   have s2 : IntKind.i64.wrap (Int.tdiv dd 2) = q := by rw [hq]; exact IntWalk.i64_in _ (by omega)
   have s3 : IntKind.i64.wrap (lo + q) = mid := by rw [hm]; exact IntWalk.i64_in _ (by omega)
   have m0 : 0 ≤ mid := by omega
   have m1 : lo < mid := by omega
   have m2 : mid < hi := by omega
   have p1 : mid - lo ≤ 2 ^ j := by omega
   have p2 : hi - mid ≤ 2 ^ j := by omega
   have P1 := Aside0.mk p1
   have P2 := Aside0.mk p2
   have HJ := Aside0.mk hj
   have HS := Aside0.mk hs1
   have HL := Aside0.mk (LE.out mid wr m0 (by omega) BB.out)
   obtain ⟨y, hy⟩ : ∃ y, f mid = y := ⟨_, rfl⟩
   rw [hy] at HL HS
   clear hs hp hs1 hp1 hq hqd hm hdd p1 p2 hj hy
   go_wp2_with fail
   refine HL.out.mono ?_
   rintro e w3 ⟨rfl, hb⟩
   have B3 := Aside0.mk (below_step BB.out hb)
   clear hb HL BB
   by_cases hc2 : 0 < y
   ·have hs2 := HS.out
    rw [if_pos hc2] at hs2
    have HS2 := Aside0.mk hs2
    clear hs2 HS
    go_wp2_with fail
    go_roundg j
    case measure => have := HJ.out; omega
    case rel => exact ⟨mid, hi, rfl, rfl, m0, m2, h1, P2, HS2, B3⟩
   ·have hs2 := HS.out
    rw [if_neg hc2] at hs2
    have HS2 := Aside0.mk hs2
    clear hs2 HS
    go_wp2_with fail
    go_roundg j
    case measure => have := HJ.out; omega
    case rel => exact ⟨lo, mid, rfl, rfl, l0, m1, by omega, P1, HS2, B3⟩
  ·have hs1 := hs.out
   have he : hi = v := by
    cases gk with
    | zero => exact hs1
    | succ j => rw [srch, hdd, if_neg hc] at hs1; exact hs1
   have HE := Aside0.mk he
   clear hs hs1 hp hdd he
   go_wp2_with fail
   go_ret
   obtain rfl := HE.out
   exact ⟨rfl, BB.out⟩
end Go.Proofs.Ytcfpkkgdofblfaa.Lv
/- Contracts by hand: level.Left and level.Of. -/
namespace Go.Proofs.Ytcfpkkgdofblfaa.Lv
open Go.RowKit Go.Proofs.YtcfpkkgdofblfaaW.PrintWords Go.Proofs.YtcfpkkgdofblfaaW.PrintLast Go.Proofs.YtcfpkkgdofblfaaW.PrintMore Go.Proofs.Ytcfpkkgdofblfaa.HW
open Pm Pd
set_option linter.unusedVariables false
set_option linter.unusedSimpArgs false
open Go.Proofs.Ytcfpkkgdofblfaa.H
theorem of_idle (pv_ pe : Addr) (w : World) :
  CallsD Try.prog 48 #[.pointer (some pv_), .pointer (some pe)] .returning w fun e u' w' => e = .returned (.tuple #[]) ∧ u' = .returning ∧ w' = w := by
 refine callsD_of_wpS Try.func48 rfl fun c₀ cs hu => ?_
 simp only [Try.ntmps48, List.size_toArray, List.length_cons, List.length_nil, Nat.reduceAdd, Nat.reduceSub, Array.replicate_succ, Array.replicate_zero, List.push_toArray, List.append_toArray, List.nil_append, List.cons_append]
 apply wpS_seq
 apply wpS_region
 simp [wpOpsS, go_sem, recoverD, hu, Exit.thenS]
 refine rest_plainP fun Q HQ => ?_
 go_wp2
 refine HQ.out _ _ _ ?_
 clear HQ
 simp [bodyPostS, results, Try.results48, hu]
 cases c₀
 simp_all
theorem of_thrown (pv_ pe : Addr) (x y : Int) (older : List PanicEntry) (w : World) (hne : pv_.block ≠ pe.block) (hx : w.cell? pv_ = some (.int .i64 x)) (hy : w.cell? pe = some (.int .i64 y)) (fx : w.frozen? pv_ = false) (fy : w.frozen? pe = false) :
  CallsD Try.prog 48 #[.pointer (some pv_), .pointer (some pe)] (.panicking ({ v := .iface 77 (.agg #[]), recovered := false } :: older)) w fun e u' w' =>
   e = .returned (.tuple #[]) ∧ u' = .panicking ({ v := .iface 77 (.agg #[]), recovered := true } :: older) ∧ w' = ((w.alloc (.cells #[] 77)).setCell pv_ (.int .i64 0)).setCell pe (.int .i64 10) := by
 refine callsD_of_wpS Try.func48 rfl fun c₀ cs hu => ?_
 simp only [Try.ntmps48, List.size_toArray, List.length_cons, List.length_nil, Nat.reduceAdd, Nat.reduceSub, Array.replicate_succ, Array.replicate_zero, List.push_toArray, List.append_toArray, List.nil_append, List.cons_append]
 apply wpS_seq
 apply wpS_region
 simp [wpOpsS, go_sem, recoverD, hu, Exit.thenS]
 refine rest_plainP fun Q HQ => ?_
 have hta : ∀ w, (Instr.typeAssert (.iface 77 (.agg #[])) 20 77 true).run Try.prog w = .ok (.tuple #[.agg #[], .bool true]) w := fun _ => by kernel_rfl
 have hltx := cell_ltR hx
 have hlty := cell_ltR hy
 have hb := (Below.refl w.heap.size w).alloc (Nat.le_refl _) (.cells #[] 77)
 have hx2 : (w.alloc (.cells #[] 77)).cell? pv_ = some (.int .i64 x) := by rw [hb.cell hltx]; exact hx
 have fx2 : (w.alloc (.cells #[] 77)).frozen? pv_ = false := by rw [hb.frozen hltx]; exact fx
 have hy1 : (w.alloc (.cells #[] 77)).cell? pe = some (.int .i64 y) := by rw [hb.cell hlty]; exact hy
 have hy2 : ((w.alloc (.cells #[] 77)).setCell pv_ (.int .i64 0)).cell? pe = some (.int .i64 y) := by rw [World.cell?_setCell_other]; exact hy1; exact fun e => hne (by rw [e])
 have fy2 : (w.alloc (.cells #[] 77)).frozen? pe = false := by rw [hb.frozen hlty]; exact fy
 clear hb hy1
 go_wp2
 refine HQ.out _ _ _ ?_
 clear HQ
 simp [bodyPostS, results, Try.results48, hu]
theorem built_walk (p : Prod) (A1 : Option Addr) (c1 : Nat) (A2 : Option Addr) (c2 : Nat) (A3 : Option Addr) (c3 : Nat) (A : Option Addr) (l : List Int) (c : Nat) (m : Int) :
  Try.prog.built 74 [(0, .agg (pcs p A1 c1 A2 c2 A3 c3)), (1, .slice A l.length c), (2, .int .i64 m)] = some (wcs p A1 c1 A2 c2 A3 c3 A l c m) := by kernel_rfl
theorem ask_known {p : Prod} {l : List Int} {m : Int} (h : askE p l m = 0) : (1 ≤ p.count ∧ p.count ≤ 3) ∧ (p.round = 1 ∨ p.round = 3) ∧ (0 ≤ p.rate ∧ p.rate ≤ 1000000000) ∧ (0 ≤ p.grace ∧ p.grace ≤ 600) ∧ 1 ≤ m ∧ m ≤ 10000000000000 := by
 unfold askE at h
 split at h
 ·simp at h
 ·rename_i h1
  split at h
  ·rename_i h2
   have hk : ok p = true := by
    rcases err_two p with e | e
    ·unfold err at e; split at e; assumption; simp at e
    ·exact absurd e (fun e => h1 (by rw [e]; decide))
   simp only [ok, shapeOk, ratesOk, ordOk, lateOk, daysOk, Bool.and_eq_true, decide_eq_true_eq] at hk
   obtain ⟨⟨⟨⟨⟨_, b1, b2, b3, b4, b5, b6, b7⟩, ⟨d1, _⟩, _⟩, _⟩, _⟩, _⟩ := hk
   exact ⟨b1, b2, d1, ⟨b6.1, by omega⟩, h2.2.1, h2.2.2.1⟩
  ·simp at h
def lf (p : Prod) (l : List Int) (m : Int) (x : Int) : Int := wk (Gm.whole p.count) (Gm.half p.count p.round) p.rate p.grace x 0 l m 0
def leftE (p : Prod) (l : List Int) (m x : Int) : Int × Int := if askE p l m ≠ 0 then (0, askE p l m) else if 0 ≤ x ∧ x ≤ 1000000000000000 then (lf p l m x, 0) else (0, 1)
def ofE (p : Prod) (l : List Int) (m : Int) : Int × Int := if askE p l m ≠ 0 then (0, askE p l m) else if 0 < lf p l m 1000000000000000 then (0, 10) else (srch (lf p l m) 50 0 1000000000000000, 0)
def Two (v : Int × Int) (w : World) (e : Ending) (w' : World) : Prop := e = .returned (.tuple #[.int .i64 v.1, .int .i64 v.2]) ∧ Below w.heap.size w w'
set_option maxRecDepth 100000 in
set_option maxHeartbeats 4000000 in
theorem Left_any (p : Prod) (A1 : Option Addr) (c1 : Nat) (A2 : Option Addr) (c2 : Nat) (A3 : Option Addr) (c3 : Nat) (A : Option Addr) (l : List Int) (c : Nat) (m : Int) (w : World) (hg : GV w) (hp : ProdAt w p A1 c1 A2 c2 A3 c3) (hs : Small p) (hr : Kd.C (Kd.int .i64) w A l.length l) (hl : l.length ≤ 1000000) (x : Int) :
  Calls Try.prog 26 #[pv p A1 c1 A2 c2 A3 c3, .slice A l.length c, .int .i64 m, .int .i64 x] w (Two (leftE p l m x) w) := by
 have MA := Aside0.mk (fun W (hb : Below w.heap.size w W) => may_any p A1 c1 A2 c2 A3 c3 A l c m W (hg.below hb) (hp.below hb) hs (Kd.C_below hr hb) hl)
 have LE := Aside0.mk (fun (h : askE p l m = 0) (x0 : 0 ≤ x) (x1 : x ≤ 1000000000000000) W (hb : Below w.heap.size w W) => left_any p A1 c1 A2 c2 A3 c3 A l c m x W (ask_known h).1 (ask_known h).2.1 (ask_known h).2.2.1 (ask_known h).2.2.2.1 (Kd.C_below hr hb) hl (ask_known h).2.2.2.2.1 (ask_known h).2.2.2.2.2 x0 x1)
 clear hg hp hs hr
 unfold Two
 obtain ⟨v, hv⟩ : ∃ v, leftE p l m x = v := ⟨_, rfl⟩
 rw [hv]
 have HV := Aside0.mk hv
 clear hv
 go_enter Try.func26, Try.ntmps26
 go_wp2_with (first
  | ((with_reducible refine gate_dst (N := 4) rfl ?_); refine box_event ?hg (N := 4) ?hd (cs := pcs p A1 c1 A2 c2 A3 c3) (t := 27) ?hr ?_; (case hd => rfl); (case hg => rfl); (case hr => first | (go_simp; done) | (go_simp; rfl)); intro g1 hg w1 hbg1 hblg1; have g1ge := (show w.heap.size ≤ g1 by rw [hg]; exact Nat.le_refl _); clear hg; have HBg1 := Aside0.mk hbg1; have BLg1 := Aside0.mk hblg1; clear hbg1 hblg1)
  | ((with_reducible refine gate_dst (N := 12) rfl ?_); refine wpList_load_row rfl 27 (.tmp 4) rfl g1 rfl 27 _ (0, 0) _ HBg1.out Try.underlying27 rfl info_prod ?_)
  | ((with_reducible refine gate_dst (N := 15) rfl ?_); refine build_event rfl (t := 74) rfl (cs := wcs p A1 c1 A2 c2 A3 c3 A l c m) ?hb ?_; (case hb => simp only [List.map_toArray, List.map_cons, List.map_nil]; exact built_walk p A1 c1 A2 c2 A3 c3 A l c m))
  | ((with_reducible refine gate_dst (N := 10) rfl ?_); refine copy_event rfl (N := 10) rfl rfl rfl (t := 74) (v := .tmp 15) rfl (cs := wcs p A1 c1 A2 c2 A3 c3 A l c m) (zs := wzs) ?hr rfl rfl info_walk ?hz (wcs_one _ _ _ _ _ _ _ _ _ _ _) ?_; (case hr => first | (go_simp; done) | (go_simp; rfl)); (case hz => rfl); intro g4 hg4 w4 hb4 hbl4; have HB4 := Aside0.mk hb4; have BL4 := Aside0.mk (below_step BLg1.out hbl4); clear hg4 hb4 hbl4)
  | ((with_reducible refine gate_dst (N := 16) rfl ?_); refine wpList_load_row rfl 74 (.tmp 10) rfl g4 rfl 74 _ (0, 0) _ HB4.out Try.underlying74 rfl info_walk ?_)
  | fail)
 refine (MA.out _ BL4.out).mono ?_
 rintro e w5 ⟨rfl, hb⟩
 have HB5 := Aside0.mk (Pd.blk_below HB4.out hb)
 have B5 := Aside0.mk (below_step BL4.out hb)
 clear hb HB4 BL4 HBg1 BLg1
 by_cases ha : askE p l m = 0
 ·have hx := HV.out
  unfold leftE at hx
  rw [if_neg (by rw [ha]; decide)] at hx
  have LL := Aside0.mk (LE.out ha)
  rw [ha]
  clear ha LE
  rcases (by omega : x < 0 ∨ (0 ≤ x ∧ 1000000000000000 < x) ∨ (0 ≤ x ∧ x ≤ 1000000000000000)) with h | ⟨h, h2⟩ | ⟨h, h2⟩
  ·rw [if_neg (by omega)] at hx
   have HX := Aside0.mk hx
   clear hx HV
   go_wp2_with fail
   go_ret2
   obtain rfl := HX.out
   exact ⟨rfl, B5.out⟩
  ·rw [if_neg (by omega)] at hx
   have HX := Aside0.mk hx
   clear hx HV
   go_wp2_with fail
   go_ret2
   obtain rfl := HX.out
   exact ⟨rfl, B5.out⟩
  ·rw [if_pos ⟨h, h2⟩] at hx
   have HX := Aside0.mk hx
   clear hx HV
   go_wp2_with (first
  | ((with_reducible refine gate_dst (N := 27) rfl ?_); refine wpList_load_row rfl 74 (.tmp 10) rfl g4 rfl 74 _ (0, 0) _ HB5.out Try.underlying74 rfl info_walk ?_)
  | fail)
   refine (LL.out h h2 _ B5.out).mono ?_
   rintro e w6 ⟨rfl, hb⟩
   have B6 := Aside0.mk (below_step B5.out hb)
   clear hb B5 HB5 LL
   have hfold : wk (Gm.whole p.count) (Gm.half p.count p.round) p.rate p.grace x 0 l m 0 = lf p l m x := rfl
   rw [hfold]
   clear hfold
   go_wp2_with fail
   go_ret2
   obtain rfl := HX.out
   exact ⟨rfl, B6.out⟩
 ·have hx := HV.out
  unfold leftE at hx
  rw [if_pos ha] at hx
  obtain ⟨ae, hae⟩ : ∃ ae, askE p l m = ae := ⟨_, rfl⟩
  rw [hae] at ha hx ⊢
  have hn : (ae != 0) = true := by simpa using ha
  have HX := Aside0.mk hx
  clear hx HV ha hae LE
  go_wp2_with fail
  go_ret2
  obtain rfl := HX.out
  exact ⟨rfl, B5.out⟩
end Go.Proofs.Ytcfpkkgdofblfaa.Lv
/- Contracts by hand: level.Of. -/
namespace Go.Proofs.Ytcfpkkgdofblfaa.Lv
open Go.RowKit Go.Proofs.YtcfpkkgdofblfaaW.PrintWords Go.Proofs.YtcfpkkgdofblfaaW.PrintLast Go.Proofs.YtcfpkkgdofblfaaW.PrintMore Go.Proofs.Ytcfpkkgdofblfaa.HW
open Pm Pd
set_option linter.unusedVariables false
set_option linter.unusedSimpArgs false
open Go.Proofs.Ytcfpkkgdofblfaa.H
structure ResB (w W : World) (g h : Nat) (x y : Value) : Prop where
 below : Below w.heap.size w W
 gge : w.heap.size ≤ g
 hge : w.heap.size ≤ h
 ne : g ≠ h
 c0 : W.cell? ⟨g, 0, none⟩ = some x
 f0 : W.frozen? ⟨g, 0, none⟩ = false
 c1 : W.cell? ⟨h, 0, none⟩ = some y
 f1 : W.frozen? ⟨h, 0, none⟩ = false
theorem ResB.step {w W W' : World} {g h : Nat} {x y : Value} (r : ResB w W g h x y) (hb : Below W.heap.size W W') : ResB w W' g h x y :=
 ⟨below_step r.below hb, r.gge, r.hge, r.ne, by rw [hb.cell (by exact cell_ltR r.c0)]; exact r.c0, by rw [hb.frozen (by exact cell_ltR r.c0)]; exact r.f0, by rw [hb.cell (by exact cell_ltR r.c1)]; exact r.c1, by rw [hb.frozen (by exact cell_ltR r.c1)]; exact r.f1⟩
theorem ResB.of {w W : World} {g h : Nat} {x y : Value} {t u : TypeId} (hb : Below w.heap.size w W) (hg : w.heap.size ≤ g) (hh : w.heap.size ≤ h) (ne : g ≠ h) (b0 : W.heap[g]? = some (.cells #[x] t (0, 0))) (b1 : W.heap[h]? = some (.cells #[y] u (0, 0))) : ResB w W g h x y :=
 ⟨hb, hg, hh, ne, (blk_cell b0 0).trans rfl, frozen_of_row W g 0 _ _ b0, (blk_cell b1 0).trans rfl, frozen_of_row W h 0 _ _ b1⟩
theorem ResB.put {w W : World} {g h : Nat} {x y : Value} (r : ResB w W g h x y) (u v : Value) : ResB w ((W.setCell ⟨g, 0, none⟩ u).setCell ⟨h, 0, none⟩ v) g h u v := by
 have hn : (⟨h, 0, none⟩ : Addr) ≠ ⟨g, 0, none⟩ := fun e => r.ne (by injection e with e1; exact e1.symm)
 refine ⟨(r.below.setCell (by exact r.gge) _).setCell (by exact r.hge) _, r.gge, r.hge, r.ne, ?_, ?_, ?_, ?_⟩
 ·rw [World.cell?_setCell_other _ _ _ _ (by first | exact hn | exact hn.symm), World.cell?_setCell_same _ _ _ r.c0]
 ·simp [go_sem, r.f0]
 ·rw [World.cell?_setCell_same (v := v) (u := y) _ _ (by rw [World.cell?_setCell_other _ _ _ _ (by first | exact hn | exact hn.symm)]; exact r.c1)]
 ·simp [go_sem, r.f1]
set_option maxRecDepth 100000 in
set_option maxHeartbeats 4000000 in
theorem Of_any (p : Prod) (A1 : Option Addr) (c1 : Nat) (A2 : Option Addr) (c2 : Nat) (A3 : Option Addr) (c3 : Nat) (A : Option Addr) (l : List Int) (c : Nat) (m : Int) (w : World) (hg : GV w) (hp : ProdAt w p A1 c1 A2 c2 A3 c3) (hs : Small p) (hr : Kd.C (Kd.int .i64) w A l.length l) (hl : l.length ≤ 1000000) :
  Calls Try.prog 23 #[pv p A1 c1 A2 c2 A3 c3, .slice A l.length c, .int .i64 m] w (Two (ofE p l m) w) := by
 have MA := Aside0.mk (fun W (hb : Below w.heap.size w W) => may_any p A1 c1 A2 c2 A3 c3 A l c m W (hg.below hb) (hp.below hb) hs (Kd.C_below hr hb) hl)
 have LE := Aside0.mk (fun (h : askE p l m = 0) (x : Int) (x0 : 0 ≤ x) (x1 : x ≤ 1000000000000000) W (hb : Below w.heap.size w W) => show Calls Try.prog 50 #[wv p A1 c1 A2 c2 A3 c3 A l c m, .int .i64 x] W fun e w' => e = .returned (.int .i64 (lf p l m x)) ∧ Below W.heap.size W w' from left_any p A1 c1 A2 c2 A3 c3 A l c m x W (ask_known h).1 (ask_known h).2.1 (ask_known h).2.2.1 (ask_known h).2.2.2.1 (Kd.C_below hr hb) hl (ask_known h).2.2.2.2.1 (ask_known h).2.2.2.2.2 x0 x1)
 clear hg hp hs hr
 unfold Two
 obtain ⟨v, hv⟩ : ∃ v, ofE p l m = v := ⟨_, rfl⟩
 rw [hv]
 have HV := Aside0.mk hv
 clear hv
 go_enter_defers Try.func23, Try.ntmps23
 go_wp2_with (first
  | ((with_reducible refine gate_dst (N := 3) rfl ?_); refine box_event ?hg (N := 3) ?hd (cs := pcs p A1 c1 A2 c2 A3 c3) (t := 27) ?hr ?_; (case hd => rfl); (case hg => rfl); (case hr => first | (go_simp; done) | (go_simp; rfl)); intro g1 hg w1 hbg1 hblg1; have g1ge := (show w.heap.size ≤ g1 by rw [hg]; exact Nat.le_refl _); clear hg; have HBg1 := Aside0.mk hbg1; have BLg1 := Aside0.mk hblg1; clear hbg1 hblg1)
  | ((with_reducible refine gate_dst (N := 6) rfl ?_); refine box_event ?hg (N := 6) ?hd (cs := #[.int .i64 0]) (t := 2) ?hr ?_; (case hd => rfl); (case hg => rfl); (case hr => first | (go_simp; done) | (go_simp; rfl)); intro g6 hg w6 hbg6 hblg6; have g6ge := (show w.heap.size ≤ g6 by rw [hg]; exact BLg1.out.size); have HBg1 := Aside0.mk (Pd.blk_below HBg1.out hblg6); have HBg6 := Aside0.mk hbg6; have BLg6 := Aside0.mk (below_step BLg1.out hblg6); clear hg hbg6 hblg6)
  | ((with_reducible refine gate_dst (N := 7) rfl ?_); refine box_event ?hg (N := 7) ?hd (cs := #[.int .i64 0]) (t := 32) ?hr ?_; (case hd => rfl); (case hg => rfl); (case hr => first | (go_simp; done) | (go_simp; rfl)); intro g7 hg w7 hbg7 hblg7; have g7ge := (show w.heap.size ≤ g7 by rw [hg]; exact BLg6.out.size); have HBg1 := Aside0.mk (Pd.blk_below HBg1.out hblg7); have ne67 : g6 ≠ g7 := (by have := blk_lt HBg6.out; omega); have HBg6 := Aside0.mk (Pd.blk_below HBg6.out hblg7); have HBg7 := Aside0.mk hbg7; have BLg7 := Aside0.mk (below_step BLg6.out hblg7); have R7 := Aside0.mk (ResB.of BLg7.out g6ge g7ge ne67 HBg6.out HBg7.out); clear hg hbg7 hblg7)
  | ((with_reducible refine gate_dst (N := 10) rfl ?_); refine wpList_load_row rfl 27 (.tmp 3) rfl g1 rfl 27 _ (0, 0) _ HBg1.out Try.underlying27 rfl info_prod ?_)
  | ((with_reducible refine gate_dst (N := 13) rfl ?_); refine build_event rfl (t := 74) rfl (cs := wcs p A1 c1 A2 c2 A3 c3 A l c m) ?hb ?_; (case hb => simp only [List.map_toArray, List.map_cons, List.map_nil]; exact built_walk p A1 c1 A2 c2 A3 c3 A l c m))
  | ((with_reducible refine gate_dst (N := 8) rfl ?_); refine copy_event rfl (N := 8) rfl rfl rfl (t := 74) (v := .tmp 13) rfl (cs := wcs p A1 c1 A2 c2 A3 c3 A l c m) (zs := wzs) ?hr rfl rfl info_walk ?hz (wcs_one _ _ _ _ _ _ _ _ _ _ _) ?_; (case hr => first | (go_simp; done) | (go_simp; rfl)); (case hz => rfl); intro g4 hg4 w4 hb4 hbl4; have R4 := Aside0.mk (R7.out.step hbl4); have HB4 := Aside0.mk hb4; have BL4 := Aside0.mk (below_step BLg7.out hbl4); clear hg4 hb4 hbl4)
  | ((with_reducible refine gate_dst (N := 14) rfl ?_); refine wpList_load_row rfl 74 (.tmp 8) rfl g4 rfl 74 _ (0, 0) _ HB4.out Try.underlying74 rfl info_walk ?_)
  | fail)
 refine (MA.out _ BL4.out).mono ?_
 rintro e w5 ⟨rfl, hb⟩
 have HB5 := Aside0.mk (Pd.blk_below HB4.out hb)
 have R5 := Aside0.mk (R4.out.step hb)
 clear hb HB4 BL4 HBg1 BLg1 HBg6 BLg6 HBg7 BLg7 R4 R7
 by_cases ha : askE p l m = 0
 ·have hx := HV.out
  unfold ofE at hx
  rw [if_neg (by rw [ha]; decide)] at hx
  have LL := Aside0.mk (fun (x : Int) (W : World) (x0 : 0 ≤ x) (x1 : x ≤ 1000000000000000) (hb : Below w5.heap.size w5 W) => LE.out ha x x0 x1 W (below_step R5.out.below hb))
  rw [ha]
  clear ha LE
  by_cases hf : 0 < lf p l m 1000000000000000
  ·rw [if_pos hf] at hx
   have HX := Aside0.mk hx
   have LN := Aside0.mk (least_no p A1 c1 A2 c2 A3 c3 A l c m (lf p l m) w5 LL.out hf)
   clear hx HV LL hf
   go_wp2_with (first
  | ((with_reducible refine gate_dst (N := 20) rfl ?_); refine wpList_load_row rfl 74 (.tmp 8) rfl g4 rfl 74 _ (0, 0) _ HB5.out Try.underlying74 rfl info_walk ?_)
  | fail)
   refine LN.out.mono ?_
   rintro e w6 ⟨rfl, hb⟩
   have R6 := Aside0.mk (R5.out.step hb)
   clear hb R5 HB5 LN
   refine leaves_cons (f := 48) (args := #[.pointer (some ⟨g6, 0, none⟩), .pointer (some ⟨g7, 0, none⟩)]) (by simp) (by simp [go_sem]) ?_
   refine (of_thrown ⟨g6, 0, none⟩ ⟨g7, 0, none⟩ 0 0 [] _ (by exact R6.out.ne) R6.out.c0 R6.out.c1 R6.out.f0 R6.out.f1).mono ?_
   rintro e u' w'' ⟨rfl, rfl, rfl⟩
   have RA := (R6.out.step ((Below.refl w6.heap.size w6).alloc (Nat.le_refl _) (.cells #[] 77))).put (.int .i64 0) (.int .i64 10)
   have c0 := RA.c0
   have c1 := RA.c1
   obtain rfl := HX.out
   simp [Leaves, settle, results, Try.results23, go_sem, c0, c1]
   exact RA.below
  ·rw [if_neg hf] at hx
   have HX := Aside0.mk hx
   have LN := Aside0.mk (least_yes p A1 c1 A2 c2 A3 c3 A l c m (lf p l m) w5 LL.out (by omega))
   clear hx HV LL hf
   go_wp2_with (first
  | ((with_reducible refine gate_dst (N := 20) rfl ?_); refine wpList_load_row rfl 74 (.tmp 8) rfl g4 rfl 74 _ (0, 0) _ HB5.out Try.underlying74 rfl info_walk ?_)
  | fail)
   refine LN.out.mono ?_
   rintro e w6 ⟨rfl, hb⟩
   have R6 := Aside0.mk (R5.out.step hb)
   clear hb R5 HB5 LN
   have c0 := R6.out.c0
   have f0 := R6.out.f0
   have c1 := R6.out.c1
   have f1 := R6.out.f1
   have ne := R6.out.ne
   have RP := Aside0.mk (R6.out.put (.int .i64 (srch (lf p l m) 50 0 1000000000000000)) (.int .i64 0))
   have c1' : (w6.setCell ⟨g6, 0, none⟩ (.int .i64 (srch (lf p l m) 50 0 1000000000000000))).cell? ⟨g7, 0, none⟩ = some (.int .i64 0) := by rw [World.cell?_setCell_other _ _ _ _ (by first | (intro e; injection e with e1; exact ne e1.symm) | (intro e; injection e with e1; exact ne e1))]; exact c1
   go_wp2_with fail
   refine leaves_cons (f := 48) (args := #[.pointer (some ⟨g6, 0, none⟩), .pointer (some ⟨g7, 0, none⟩)]) (by simp) (by simp [go_sem]) ?_
   refine (of_idle ⟨g6, 0, none⟩ ⟨g7, 0, none⟩ _).mono ?_
   rintro e u' w'' ⟨rfl, rfl, rfl⟩
   have d0 := RP.out.c0
   have d1 := RP.out.c1
   obtain rfl := HX.out
   simp [Leaves, settle, results, Try.results23, go_sem, d0, d1]
   exact RP.out.below
 ·have hx := HV.out
  unfold ofE at hx
  rw [if_pos ha] at hx
  obtain ⟨ae, hae⟩ : ∃ ae, askE p l m = ae := ⟨_, rfl⟩
  rw [hae] at ha hx ⊢
  have hn : (ae != 0) = true := by simpa using ha
  have HX := Aside0.mk hx
  clear hx HV ha hae LE
  have c0 := R5.out.c0
  have f0 := R5.out.f0
  have c1 := R5.out.c1
  have f1 := R5.out.f1
  have ne := R5.out.ne
  have RP := Aside0.mk (R5.out.put (.int .i64 0) (.int .i64 ae))
  have c1' : (w5.setCell ⟨g6, 0, none⟩ (.int .i64 0)).cell? ⟨g7, 0, none⟩ = some (.int .i64 0) := by rw [World.cell?_setCell_other _ _ _ _ (by first | (intro e; injection e with e1; exact ne e1.symm) | (intro e; injection e with e1; exact ne e1))]; exact c1
  go_wp2_with fail
  have d0 := RP.out.c0
  have d1 := RP.out.c1
  obtain rfl := HX.out
  simp [bodyPostD, Leaves, settle, results, Try.results23, go_sem, d0, d1]
  exact RP.out.below
end Go.Proofs.Ytcfpkkgdofblfaa.Lv
/- Contracts by hand: the document's level: Left and Of. -/
namespace Go.Proofs.Ytcfpkkgdofblfaa.Lv
open Go.RowKit Go.Proofs.YtcfpkkgdofblfaaW.PrintWords Go.Proofs.YtcfpkkgdofblfaaW.PrintLast Go.Proofs.YtcfpkkgdofblfaaW.PrintMore Go.Proofs.Ytcfpkkgdofblfaa.HW
open Pm Pd
set_option linter.unusedVariables false
set_option linter.unusedSimpArgs false
open Go.Proofs.Ytcfpkkgdofblfaa.H
theorem lf_mono {p : Prod} {l : List Int} {m : Int} (h : askE p l m = 0) : (∀ x y, 0 ≤ x → x ≤ y → y ≤ 1000000000000000 → lf p l m x ≤ 0 → lf p l m y ≤ 0) ∧ 0 < lf p l m 0 := by
 obtain ⟨_, _, _, _, m0, m1⟩ := ask_known h
 have I : In (Gm.whole p.count) (Gm.half p.count p.round) 0 m := good_in (good_new p.count p.round) (by omega) (by omega)
 exact ⟨fun x y _ hxy _ h0 => wk_mono hxy l 0 m 0 m 0 I I (.inr ⟨rfl, Int.le_refl _⟩) (fun _ => .inr ⟨rfl, rfl⟩) h0, wk_zero l 0 m 0 I⟩
end Go.Proofs.Ytcfpkkgdofblfaa.Lv
/- Contracts by hand: two lists of numbers held against each other, one by one. -/
namespace Go.Proofs.Ytcfpkkgdofblfaa.H
open Go.RowKit Go.Proofs.YtcfpkkgdofblfaaW.PrintWords Go.Proofs.YtcfpkkgdofblfaaW.PrintLast Go.Proofs.YtcfpkkgdofblfaaW.PrintMore
set_option linter.unusedVariables false
set_option linter.unusedSimpArgs false
theorem plain1 (x y : Int) (r : Bool) (hr : (x == y) = r) (w : World) : Calls Try.prog 40 #[.int .i64 x, .int .i64 y] w fun e w' => e = .returned (.bool r) ∧ w' = w := by
 go_enter Try.func40, Try.ntmps40
 go_wp2
 go_ret
 exact ⟨by simp, rfl⟩
theorem rd_drop (l : List Int) (k : Nat) (h : k < l.length) : l.drop k = rd l k :: l.drop (k + 1) := by
 rw [List.drop_eq_getElem_cons h]
 simp [rd, h]
set_option maxHeartbeats 1000000 in
theorem same_any (A0 A1 : Option Addr) (c0 c1 : Nat) (l0 l1 : List Int) (r : Bool) (hr : (l0 == l1) = r) (w : World) (hr0 : Kd.C (Kd.int .i64) w A0 l0.length l0) (hc0 : l0.length ≤ c0) (hr1 : Kd.C (Kd.int .i64) w A1 l1.length l1) (hc1 : l1.length ≤ c1) (hm : l0.length ≤ 1000000000) :
  Calls Try.prog 39 #[.slice A0 l0.length c0, .slice A1 l1.length c1, .func (.func 40) #[] #[]] w fun e w' => e = .returned (.bool r) ∧ Drawn0 w w' := by
 have HR0 := Aside0.mk hr0
 have HR1 := Aside0.mk hr1
 have HR := Aside0.mk hr
 clear hr0 hr1 hr
 by_cases hlen : l0.length = l1.length
 ·have hb : ((l0.length : Int) != (l1.length : Int)) = false := by simp [hlen]
  have HLn := Aside0.mk hlen
  clear hlen
  go_enter Try.func39, Try.ntmps39
  go_wp2
  go_loopg [7] (l0.length + 1) (fun g i w' => ∃ (k : Nat), k ≤ l0.length ∧ i = .int .i64 k ∧ Aside0 (g = l0.length + 1 - k) ∧ Aside0 ((l0 == l1) = (l0.drop k == l1.drop k)) ∧ Drawn0 w w')
  case atStart => exact ⟨0, Nat.zero_le _, rfl, ⟨by omega⟩, ⟨by simp⟩, Drawn0.refl _⟩
  case round =>
   obtain ⟨k, hk, rfl, hg, hd, ⟨m1, rfl⟩⟩ := hrel
   by_cases hlt : k < l0.length
   ·have hlt1 : k < l1.length := by have := HLn.out; omega
    obtain ⟨ad0, e0, hx0⟩ := Kd.at_int HR0.out (k : Int) (by omega) (by omega)
    cases e0
    obtain ⟨ad1, e1, hx1⟩ := Kd.at_int HR1.out (k : Int) (by omega) (by omega)
    cases e1
    simp only [Int.toNat_natCast] at hx0 hx1
    have hdr : (l0.drop k == l1.drop k) = ((rd l0 k == rd l1 k) && (l0.drop (k + 1) == l1.drop (k + 1))) := by
     rw [rd_drop l0 k hlt, rd_drop l1 k hlt1]; rfl
    cases hq : (rd l0 k == rd l1 k) with
    | true =>
     have HQ := Aside0.mk hq
     clear hq
     have HD := Aside0.mk ((hd.out.trans hdr).trans (by rw [HQ.out, Bool.true_and]))
     clear hdr hd
     go_wp2
     go_quiet ((go_at_call 40; refine (plain1 _ _ _ HQ.out _).mono ?_; rintro e w' ⟨rfl, rfl⟩; exact ⟨rfl, _, rfl⟩))
     go_wp2
     go_roundg (l0.length + 1 - (k + 1))
     case measure => have := hg.out; omega
     case rel => exact ⟨k + 1, by omega, by simp, ⟨rfl⟩, ⟨HD.out⟩, ⟨_, rfl⟩⟩
    | false =>
     have HQ := Aside0.mk hq
     clear hq
     have HD := Aside0.mk ((hd.out.trans hdr).trans (by rw [HQ.out, Bool.false_and]))
     clear hdr hd
     go_wp2
     go_quiet ((go_at_call 40; refine (plain1 _ _ _ HQ.out _).mono ?_; rintro e w' ⟨rfl, rfl⟩; exact ⟨rfl, _, rfl⟩))
     go_wp2
     go_ret
     exact ⟨by rw [← HR.out, HD.out]; rfl, ⟨_, World.drewN_drewN _ _ _⟩⟩
   ·go_wp2
    go_ret
    have hk2 : k = l0.length := by omega
    exact ⟨by rw [← HR.out, hd.out, List.drop_of_length_le (by omega), List.drop_of_length_le (by have := HLn.out; omega)]; rfl, ⟨_, rfl⟩⟩
 ·have hb : ((l0.length : Int) != (l1.length : Int)) = true := by simp; omega
  have HLn := Aside0.mk hlen
  clear hlen
  go_enter Try.func39, Try.ntmps39
  go_wp2
  go_ret
  refine ⟨?_, Drawn0.refl _⟩
  rw [← HR.out]
  have : (l0 == l1) = false := by
   rw [beq_eq_false_iff_ne]
   exact fun h => HLn.out (by rw [h])
  rw [this]; rfl
def help_Plain_int.f (l0 l1 : List Int) : Option Bool := if l0.length ≤ 1000000000 then some (l0 == l1) else none
theorem help_Plain_int.calls (A0 : Option Addr) (c0 : Nat) (l0 : List Int) (A1 : Option Addr) (c1 : Nat) (l1 : List Int) (r : Bool) (w : World) (hr0 : Kd.C (Kd.int .i64) w A0 l0.length l0) (hc0 : l0.length ≤ c0) (hr1 : Kd.C (Kd.int .i64) w A1 l1.length l1) (hc1 : l1.length ≤ c1) (h : help_Plain_int.f l0 l1 = some r) :
  Calls Try.prog 18 #[.slice A0 l0.length c0, .slice A1 l1.length c1] w fun e w' => e = .returned (.bool r) ∧ Drawn0 w w' := by
 unfold help_Plain_int.f at h
 by_cases hm : l0.length ≤ 1000000000
 ·rw [if_pos hm] at h
  have HS := Aside0.mk (same_any A0 A1 c0 c1 l0 l1 r (Option.some.inj h) w hr0 hc0 hr1 hc1 hm)
  clear h hr0 hr1
  go_enter Try.func18, Try.ntmps18
  go_wp2_with fail
  refine HS.out.mono ?_
  rintro e w1 ⟨rfl, ⟨n, rfl⟩⟩
  go_wp2
  go_ret
  exact ⟨rfl, ⟨n, rfl⟩⟩
 ·rw [if_neg hm] at h
  cases h
end Go.Proofs.Ytcfpkkgdofblfaa.H
/- Contracts by hand: two lists of numbers held against each other, one by one. -/
namespace Go.Proofs.Ytcfpkkgdofblfaa.HL
open Go.RowKit Go.Proofs.YtcfpkkgdofblfaaW.PrintWords Go.Proofs.YtcfpkkgdofblfaaW.PrintLast Go.Proofs.YtcfpkkgdofblfaaW.PrintMore
set_option linter.unusedVariables false
set_option linter.unusedSimpArgs false
theorem plain1 (x y : Int) (r : Bool) (hr : (x == y) = r) (w : World) : Calls Try.prog 42 #[.int .i64 x, .int .i64 y] w fun e w' => e = .returned (.bool r) ∧ w' = w := by
 go_enter Try.func42, Try.ntmps42
 go_wp2
 go_ret
 exact ⟨by simp, rfl⟩
theorem rd_drop (l : List Int) (k : Nat) (h : k < l.length) : l.drop k = rd l k :: l.drop (k + 1) := by
 rw [List.drop_eq_getElem_cons h]
 simp [rd, h]
set_option maxHeartbeats 1000000 in
theorem same_any (A0 A1 : Option Addr) (c0 c1 : Nat) (l0 l1 : List Int) (r : Bool) (hr : (l0 == l1) = r) (w : World) (hr0 : Kd.C (Kd.int .i64) w A0 l0.length l0) (hc0 : l0.length ≤ c0) (hr1 : Kd.C (Kd.int .i64) w A1 l1.length l1) (hc1 : l1.length ≤ c1) (hm : l0.length ≤ 1000000000) :
  Calls Try.prog 41 #[.slice A0 l0.length c0, .slice A1 l1.length c1, .func (.func 42) #[] #[]] w fun e w' => e = .returned (.bool r) ∧ Drawn0 w w' := by
 have HR0 := Aside0.mk hr0
 have HR1 := Aside0.mk hr1
 have HR := Aside0.mk hr
 clear hr0 hr1 hr
 by_cases hlen : l0.length = l1.length
 ·have hb : ((l0.length : Int) != (l1.length : Int)) = false := by simp [hlen]
  have HLn := Aside0.mk hlen
  clear hlen
  go_enter Try.func41, Try.ntmps41
  go_wp2
  go_loopg [7] (l0.length + 1) (fun g i w' => ∃ (k : Nat), k ≤ l0.length ∧ i = .int .i64 k ∧ Aside0 (g = l0.length + 1 - k) ∧ Aside0 ((l0 == l1) = (l0.drop k == l1.drop k)) ∧ Drawn0 w w')
  case atStart => exact ⟨0, Nat.zero_le _, rfl, ⟨by omega⟩, ⟨by simp⟩, Drawn0.refl _⟩
  case round =>
   obtain ⟨k, hk, rfl, hg, hd, ⟨m1, rfl⟩⟩ := hrel
   by_cases hlt : k < l0.length
   ·have hlt1 : k < l1.length := by have := HLn.out; omega
    obtain ⟨ad0, e0, hx0⟩ := Kd.at_int HR0.out (k : Int) (by omega) (by omega)
    cases e0
    obtain ⟨ad1, e1, hx1⟩ := Kd.at_int HR1.out (k : Int) (by omega) (by omega)
    cases e1
    simp only [Int.toNat_natCast] at hx0 hx1
    have hdr : (l0.drop k == l1.drop k) = ((rd l0 k == rd l1 k) && (l0.drop (k + 1) == l1.drop (k + 1))) := by
     rw [rd_drop l0 k hlt, rd_drop l1 k hlt1]; rfl
    cases hq : (rd l0 k == rd l1 k) with
    | true =>
     have HQ := Aside0.mk hq
     clear hq
     have HD := Aside0.mk ((hd.out.trans hdr).trans (by rw [HQ.out, Bool.true_and]))
     clear hdr hd
     go_wp2
     go_quiet ((go_at_call 42; refine (plain1 _ _ _ HQ.out _).mono ?_; rintro e w' ⟨rfl, rfl⟩; exact ⟨rfl, _, rfl⟩))
     go_wp2
     go_roundg (l0.length + 1 - (k + 1))
     case measure => have := hg.out; omega
     case rel => exact ⟨k + 1, by omega, by simp, ⟨rfl⟩, ⟨HD.out⟩, ⟨_, rfl⟩⟩
    | false =>
     have HQ := Aside0.mk hq
     clear hq
     have HD := Aside0.mk ((hd.out.trans hdr).trans (by rw [HQ.out, Bool.false_and]))
     clear hdr hd
     go_wp2
     go_quiet ((go_at_call 42; refine (plain1 _ _ _ HQ.out _).mono ?_; rintro e w' ⟨rfl, rfl⟩; exact ⟨rfl, _, rfl⟩))
     go_wp2
     go_ret
     exact ⟨by rw [← HR.out, HD.out]; rfl, ⟨_, World.drewN_drewN _ _ _⟩⟩
   ·go_wp2
    go_ret
    have hk2 : k = l0.length := by omega
    exact ⟨by rw [← HR.out, hd.out, List.drop_of_length_le (by omega), List.drop_of_length_le (by have := HLn.out; omega)]; rfl, ⟨_, rfl⟩⟩
 ·have hb : ((l0.length : Int) != (l1.length : Int)) = true := by simp; omega
  have HLn := Aside0.mk hlen
  clear hlen
  go_enter Try.func41, Try.ntmps41
  go_wp2
  go_ret
  refine ⟨?_, Drawn0.refl _⟩
  rw [← HR.out]
  have : (l0 == l1) = false := by
   rw [beq_eq_false_iff_ne]
   exact fun h => HLn.out (by rw [h])
  rw [this]; rfl
def help_Plain_int.f (l0 l1 : List Int) : Option Bool := if l0.length ≤ 1000000000 then some (l0 == l1) else none
theorem help_Plain_int.calls (A0 : Option Addr) (c0 : Nat) (l0 : List Int) (A1 : Option Addr) (c1 : Nat) (l1 : List Int) (r : Bool) (w : World) (hr0 : Kd.C (Kd.int .i64) w A0 l0.length l0) (hc0 : l0.length ≤ c0) (hr1 : Kd.C (Kd.int .i64) w A1 l1.length l1) (hc1 : l1.length ≤ c1) (h : help_Plain_int.f l0 l1 = some r) :
  Calls Try.prog 19 #[.slice A0 l0.length c0, .slice A1 l1.length c1] w fun e w' => e = .returned (.bool r) ∧ Drawn0 w w' := by
 unfold help_Plain_int.f at h
 by_cases hm : l0.length ≤ 1000000000
 ·rw [if_pos hm] at h
  have HS := Aside0.mk (same_any A0 A1 c0 c1 l0 l1 r (Option.some.inj h) w hr0 hc0 hr1 hc1 hm)
  clear h hr0 hr1
  go_enter Try.func19, Try.ntmps19
  go_wp2_with fail
  refine HS.out.mono ?_
  rintro e w1 ⟨rfl, ⟨n, rfl⟩⟩
  go_wp2
  go_ret
  exact ⟨rfl, ⟨n, rfl⟩⟩
 ·rw [if_neg hm] at h
  cases h
end Go.Proofs.Ytcfpkkgdofblfaa.HL
namespace Go.Proofs.Ytcfpkkgdofblfaa.PDA
open Go.RowKit Go.Proofs.YtcfpkkgdofblfaaW.PrintWords Go.Proofs.YtcfpkkgdofblfaaW.PrintLast Go.Proofs.YtcfpkkgdofblfaaW.PrintMore Go.Proofs.Ytcfpkkgdofblfaa.HW
attribute [local go_sem] run_makeFunc_ max2_int min2_int max_two min_two max_three min_three max_four min_four   -- for this text's walks alone
set_option linter.unusedVariables false
set_option linter.unusedSimpArgs false
def errW : Option Int → Value
 | none => .nilIface
 | some c => .iface 0 (.int .i64 c)
theorem errW_none : errW none = .nilIface := rfl
theorem errW_some (c : Int) : errW (some c) = .iface 0 (.int .i64 c) := rfl
theorem info3 : (Try.prog.info? 3).map (fun i => (i.zero, i.size, i.bytes)) = some (some (.int .i64 0), 1, 8) := by kernel_rfl
end Go.Proofs.Ytcfpkkgdofblfaa.PDA
namespace Go.Proofs.Ytcfpkkgdofblfaa.PDA
open Go.RowKit Go.Proofs.YtcfpkkgdofblfaaW.PrintWords Go.Proofs.YtcfpkkgdofblfaaW.PrintLast Go.Proofs.YtcfpkkgdofblfaaW.PrintMore Go.Proofs.Ytcfpkkgdofblfaa.HW
attribute [local go_sem] run_makeFunc_ max2_int min2_int max_two min_two max_three min_three max_four min_four   -- for this text's walks alone
set_option linter.unusedVariables false
set_option linter.unusedSimpArgs false
/-! ### monthly_from_add: function 64 -/
def monthly_from_add.f (a0_0 : Int) (a1 : Int) : Option (Int × Int) := (Go.Proofs.Ytcfpkkgdofblfaa.H.monthly_Add.f a0_0 a1).bind fun bt102 => (some (bt102.1, bt102.2))
set_option maxHeartbeats 8000000 in
set_option maxRecDepth 100000 in
theorem monthly_from_add.calls (a0_0 : Int) (a1 : Int) (r1 : Int) (r2 : Int) (w : World) (h : monthly_from_add.f a0_0 a1 = some (r1, r2)) :
  Calls Try.prog 64 #[.agg #[.int .i64 a0_0], .int .i64 a1] w fun e w' => e = .returned (.tuple #[.int .i64 r1, .int .i64 r2]) ∧ Below w.heap.size w w' := by
 have hu91 := Try.underlying91
 have HB := Aside0.mk (Below.refl w.heap.size w)
 have H : ((Go.Proofs.Ytcfpkkgdofblfaa.H.monthly_Add.f a0_0 a1).bind fun bt102 => (some (bt102.1, bt102.2))) = some (r1, r2) := h
 clear h
 replace H := Option.bind_eq_some_iff.mp H
 obtain ⟨⟨t102, t103⟩, A30, H⟩ := H
 replace H : (some (t102, t103)) = some (r1, r2) := H
 have A3 := Aside0.mk A30
 clear A30
 simp only [Option.some.injEq, Prod.mk.injEq] at H
 obtain ⟨rfl, rfl⟩ := H
 go_enter Try.func64, Try.ntmps64
 go_wp2_with (first | ((with_reducible refine gate_dst (N := 2) rfl ?_); refine box_event ?hg (N := 2) ?hd (cs := #[.int .i64 a0_0]) (t := 91) ?hr ?_; (case hd => rfl); (case hg => rfl); (case hr => first | (go_simp; done) | (go_simp; rfl)); intro gb101 hg w4 hbox hb; have n0_ := Aside0.mk (below_step (by repeat (first | (with_reducible first | exact HB.out | apply below_alloc | apply pw_below_drewN | apply below_drew1) | exact HB.out)) hb); have n1_ := Aside0.mk (hbox); have n2_ := Aside0.mk ((by rw [hg]; exact (below_size (by repeat (first | (with_reducible first | exact HB.out | apply below_alloc | apply pw_below_drewN | apply below_drew1) | exact HB.out))) : w.heap.size ≤ gb101)); have n3_ := Aside0.mk ((by rw [hg]; exact (below_size (by repeat (first | (with_reducible first | exact HB.out | apply below_alloc | apply pw_below_drewN | apply below_drew1) | exact HB.out))) : w.heap.size ≤ gb101)); clear HB; have HB := n0_; have BK101 := n1_; have GW101 := n2_; have GE101 := n3_; clear n0_ n1_ n2_ n3_; clear hb hbox hg; (try have hu101_0 : w4.cell? ⟨gb101, 0, none⟩ = some (.int .i64 a0_0) := (blk_cell BK101.out 0).trans rfl); (try have hv101_0 := blk_frozen BK101.out 0); have hcz5_0 : w4.cell? ⟨gb101, 0, none⟩ = some (.int .i64 a0_0) := (blk_cell BK101.out 0).trans rfl; have hfz5_0 := blk_frozen BK101.out 0) | ((with_reducible refine gate_callee (f := 85) rfl ?_); refine goesL_ (some 9) rfl rfl Try.func85 (by kernel_rfl) rfl #[.int .i64 a0_0, .int .i64 a1] rfl (by (try simp only [List.map_toArray, List.map_cons, List.map_nil]); first | done | rfl | (simp only [List.length_drop, List.length_take]; rfl)) ?_; (with_reducible refine (Go.Proofs.Ytcfpkkgdofblfaa.H.monthly_Add.calls a0_0 a1 t102 t103 _ A3.out).mono ?_); rintro e w6 ⟨rfl, hb⟩; refine ⟨_, rfl, ?_⟩; have n0_ := Aside0.mk (blk_below (g := gb101) (o := .cells #[.int .i64 a0_0] 91 (0, 0)) (by (with_reducible repeat (first | refine blk_drewN ?_ _ | refine blk_drew ?_ | refine blk_alloc ?_ _)); exact BK101.out) hb); have n1_ := Aside0.mk (below_step (by repeat (first | (with_reducible first | exact HB.out | apply below_alloc | apply pw_below_drewN | apply below_drew1 | refine below_set ?_ GE101.out) | exact HB.out)) hb); clear BK101; clear HB; have BK101 := n0_; have HB := n1_; clear n0_ n1_; (try clear hb); (try clear hb2); (try clear hk); (try clear hi); (try have hu101_0 : w6.cell? ⟨gb101, 0, none⟩ = some (.int .i64 a0_0) := (blk_cell BK101.out 0).trans rfl); (try have hv101_0 := blk_frozen BK101.out 0)))
 go_ret2
 exact ⟨by first | rfl | (simp [errW_none, errW_some] <;> rfl) | (simp [*, errW_none, errW_some] <;> rfl), by repeat (first | (with_reducible first | exact HB.out | apply below_alloc | apply pw_below_drewN | apply below_drew1 | refine below_set ?_ GE101.out) | exact HB.out)⟩
/-! ### monthly_Dates: function 33 -/
mutual
def monthly_Dates.j0 : Nat → Int → Int → Int → Bool → Option (List Int × Int)
 | 0, _, _, _, _ => none
 | k + 1, x0, x1, x2, x26 => if x26 = true then (some (([] : List Int), 1)) else (monthly_Dates.l0 k x0 x1 ([] : List Int) x2 0)
def monthly_Dates.l0 : Nat → Int → Int → List Int → Int → Int → Option (List Int × Int)
 | 0, _, _, _, _, _ => none
 | k + 1, x0, x1, x9, x30, x31 => if x31 < x30 then ((monthly_from_add.f x0 (wrap64 ((wrap64 (x31 + 1)) * x1))).bind fun bt104 => (if bt104.2 = 0 then (if x9.length < 17592186044416 then (monthly_Dates.l0 k x0 x1 (x9 ++ [bt104.1]) x30 (wrap64 (x31 + 1))) else (none)) else (some (([] : List Int), bt104.2)))) else (some (x9, 0))
end
def monthly_Dates.f (k : Nat) (a0 : Int) (a1 : Int) (a2 : Int) : Option (List Int × Int) := if a1 < 1 then (monthly_Dates.j0 k a0 a1 a2 true) else (if a1 > 12 then (monthly_Dates.j0 k a0 a1 a2 true) else (if a2 < 1 then (monthly_Dates.j0 k a0 a1 a2 true) else (monthly_Dates.j0 k a0 a1 a2 (decide (a2 > 600)))))
theorem monthly_Dates.mono_l : ∀ k, (∀ y0 y1 y2 y3, LeO (monthly_Dates.j0 k y0 y1 y2 y3) (monthly_Dates.j0 (k + 1) y0 y1 y2 y3)) ∧ (∀ y0 y1 y2 y3 y4, LeO (monthly_Dates.l0 k y0 y1 y2 y3 y4) (monthly_Dates.l0 (k + 1) y0 y1 y2 y3 y4))
 | 0 => ⟨fun _ _ _ _ r h => by simp [monthly_Dates.j0] at h, fun _ _ _ _ _ r h => by simp [monthly_Dates.l0] at h⟩
 | k + 1 => by
  obtain ⟨ih0, ih1⟩ := monthly_Dates.mono_l k
  refine ⟨?_, ?_⟩
  ·intro y0 y1 y2 y3
   unfold monthly_Dates.j0
   repeat' first
   | (with_reducible exact ih0 _ _ _ _)
   | (with_reducible exact ih1 _ _ _ _ _)
   | (with_reducible exact LeO.refl _)
   | (with_reducible exact LeO.none _)
   | (with_reducible refine LeO.ite ?_ ?_)
   | (with_reducible refine LeO.bind ?_ (fun _ => ?_))
   | exact ih0 _ _ _ _
   | exact ih1 _ _ _ _ _
   | exact LeO.none _
   | refine LeO.ite ?_ ?_
   | refine LeO.bind ?_ (fun _ => ?_)
  ·intro y0 y1 y2 y3 y4
   unfold monthly_Dates.l0
   repeat' first
   | (with_reducible exact ih0 _ _ _ _)
   | (with_reducible exact ih1 _ _ _ _ _)
   | (with_reducible exact LeO.refl _)
   | (with_reducible exact LeO.none _)
   | (with_reducible refine LeO.ite ?_ ?_)
   | (with_reducible refine LeO.bind ?_ (fun _ => ?_))
   | exact ih0 _ _ _ _
   | exact ih1 _ _ _ _ _
   | exact LeO.none _
   | refine LeO.ite ?_ ?_
   | refine LeO.bind ?_ (fun _ => ?_)
theorem monthly_Dates.mono : ∀ a0 a1 a2 k, LeO (monthly_Dates.f k a0 a1 a2) (monthly_Dates.f (k + 1) a0 a1 a2) := by
 intro a0 a1 a2 k
 obtain ⟨ih0, ih1⟩ := monthly_Dates.mono_l k
 unfold monthly_Dates.f
 repeat' first
   | (with_reducible exact ih0 _ _ _ _)
   | (with_reducible exact ih1 _ _ _ _ _)
   | (with_reducible exact LeO.refl _)
   | (with_reducible exact LeO.none _)
   | (with_reducible refine LeO.ite ?_ ?_)
   | (with_reducible refine LeO.bind ?_ (fun _ => ?_))
   | exact ih0 _ _ _ _
   | exact ih1 _ _ _ _ _
   | exact LeO.none _
   | refine LeO.ite ?_ ?_
   | refine LeO.bind ?_ (fun _ => ?_)
set_option maxHeartbeats 8000000 in
set_option maxRecDepth 100000 in
theorem monthly_Dates.calls (k : Nat) (a0 : Int) (a1 : Int) (a2 : Int) (r1 : List Int) (r2 : Int) (w : World) (h : monthly_Dates.f k a0 a1 a2 = some (r1, r2)) :
  Calls Try.prog 33 #[.int .i64 a0, .int .i64 a1, .int .i64 a2] w fun e w' => ∃ v0_ : Value, e = .returned (.tuple #[v0_, .int .i64 r2]) ∧ Kd.R (Kd.int .i64) 3 w' w.heap.size (fun _ => True) v0_ r1 ∧ Below w.heap.size w w' := by
 have hu91 := Try.underlying91
 have HB := Aside0.mk (Below.refl w.heap.size w)
 have H : (if a1 < 1 then (monthly_Dates.j0 k a0 a1 a2 true) else (if a1 > 12 then (monthly_Dates.j0 k a0 a1 a2 true) else (if a2 < 1 then (monthly_Dates.j0 k a0 a1 a2 true) else (monthly_Dates.j0 k a0 a1 a2 (decide (a2 > 600)))))) = some (r1, r2) := h
 clear h
 have HC4 := Aside0.mk H
 clear H
 go_enter Try.func33, Try.ntmps33
 go_upto_region 1 with (fail)
 go_cut [26] (fun v26 wc => ∃ (kq : Nat) (x26_3 : Bool), v26 = .bool x26_3 ∧ Aside0 (monthly_Dates.j0 kq a0 a1 a2 x26_3 = some (r1, r2)) ∧ Aside0 (kq ≤ k) ∧ Aside0 (Below w.heap.size w wc))
 case first =>
  have H := HC4.out
  clear HC4
  by_cases c5 : a1 < 1
  ·rw [if_pos c5] at H
   have c5b0 : decide (a1 < 1) = true := decide_eq_true c5
   clear c5
   (first | rw [c5b0] | (simp only [i64_w, i32_w]; rw [c5b0]) | skip)
   have H' := Aside0.mk H
   clear H
   go_wp2
   go_meet
   case rel => exact ⟨_, (true), (by first | rfl | (simp; done) | (simp [*]; done)), H', ⟨by first | omega | exact Nat.le_refl _⟩, ⟨by repeat (first | (with_reducible first | exact HB.out | apply below_alloc | apply pw_below_drewN | apply below_drew1) | exact HB.out)⟩⟩
  ·rw [if_neg c5] at H
   have c5b0 : decide (a1 < 1) = false := decide_eq_false c5
   clear c5
   (first | rw [c5b0] | (simp only [i64_w, i32_w]; rw [c5b0]) | skip)
   by_cases c6 : a1 > 12
   ·rw [if_pos c6] at H
    have c6b0 : decide (12 < a1) = true := decide_eq_true c6
    clear c6
    have H' := Aside0.mk H
    clear H
    go_wp2
    go_meet
    case rel => exact ⟨_, (true), (by first | rfl | (simp; done) | (simp [*]; done)), H', ⟨by first | omega | exact Nat.le_refl _⟩, ⟨by repeat (first | (with_reducible first | exact HB.out | apply below_alloc | apply pw_below_drewN | apply below_drew1) | exact HB.out)⟩⟩
   ·rw [if_neg c6] at H
    have c6b0 : decide (12 < a1) = false := decide_eq_false c6
    clear c6
    by_cases c7 : a2 < 1
    ·rw [if_pos c7] at H
     have c7b0 : decide (a2 < 1) = true := decide_eq_true c7
     clear c7
     have H' := Aside0.mk H
     clear H
     go_wp2
     go_meet
     case rel => exact ⟨_, (true), (by first | rfl | (simp; done) | (simp [*]; done)), H', ⟨by first | omega | exact Nat.le_refl _⟩, ⟨by repeat (first | (with_reducible first | exact HB.out | apply below_alloc | apply pw_below_drewN | apply below_drew1) | exact HB.out)⟩⟩
    ·rw [if_neg c7] at H
     have c7b0 : decide (a2 < 1) = false := decide_eq_false c7
     clear c7
     have H' := Aside0.mk H
     clear H
     go_wp2
     go_meet
     case rel => exact ⟨_, (decide (a2 > 600)), (by first | rfl | (simp; done) | (simp [*]; done)), H', ⟨by first | omega | exact Nat.le_refl _⟩, ⟨by repeat (first | (with_reducible first | exact HB.out | apply below_alloc | apply pw_below_drewN | apply below_drew1) | exact HB.out)⟩⟩
 case rest =>
  clear HC4
  try clear p2
  try clear c3
  try clear c5
  try clear c5b0
  try clear c6
  try clear c6b0
  try clear c7
  try clear c7b0
  obtain ⟨kq, x26_3, rfl, HA, HJ3, HB⟩ := hcut
  cases kq with
  | zero => exact absurd HA.out (by simp [monthly_Dates.j0])
  | succ kj3 =>
   have H := HA.out
   clear HA
   simp only [monthly_Dates.j0] at H
   by_cases c8 : x26_3 = true
   ·subst c8
    have H1 : (some (([] : List Int), 1)) = some (r1, r2) := by rw [if_pos rfl] at H; exact H
    clear H
    have H := H1
    clear H1
    simp only [Option.some.injEq, Prod.mk.injEq] at H
    obtain ⟨rfl, rfl⟩ := H
    go_wp2
    go_ret2
    exact ⟨_, by first | rfl | (simp [errW_none, errW_some] <;> rfl) | (simp [*, errW_none, errW_some] <;> rfl), by first | exact Kd.R_nil _ _ _ _ _ | exact Kd.N_nil _ _ _ _ _ | exact Kd.V_nil _ _ _ _ _ | exact Kd.Q_nil _ _ _ _ _ | exact Kd.S_nil _ _ _ _ _, by repeat (first | (with_reducible first | exact HB.out | apply below_alloc | apply pw_below_drewN | apply below_drew1) | exact HB.out)⟩
   ·replace c8 := Bool.eq_false_iff.mpr c8
    subst c8
    have H1 : (monthly_Dates.l0 kj3 a0 a1 ([] : List Int) a2 0) = some (r1, r2) := by rw [if_neg (show ¬ (false = true) by decide)] at H; exact H
    clear H
    have H := H1
    clear H1
    have H' := Aside0.mk H
    clear H
    go_wp2
    go_loopg [9, 31] kj3 (fun kq v9 v31 w' => ∃ (x9_2 : List Int) (x31_2 : Int), v31 = .int .i64 x31_2 ∧ Aside0 (monthly_Dates.l0 kq a0 a1 x9_2 a2 x31_2 = some (r1, r2)) ∧ Aside0 (kq ≤ kj3) ∧ Aside0 (Kd.R (Kd.int .i64) 3 w' w.heap.size (fun _ => True) v9 x9_2) ∧ Aside0 (Below w.heap.size w w'))
    case atStart => exact ⟨(([] : List Int)), (0), (by first | rfl | (simp; done) | (simp [*]; done)), H', ⟨Nat.le_refl _⟩, ⟨by first | exact Kd.R_nil _ _ _ _ _ | exact Kd.N_nil _ _ _ _ _ | exact Kd.V_nil _ _ _ _ _ | exact Kd.Q_nil _ _ _ _ _ | exact Kd.S_nil _ _ _ _ _⟩, ⟨by repeat (first | (with_reducible first | exact HB.out | apply below_alloc | apply pw_below_drewN | apply below_drew1) | exact HB.out)⟩⟩
    case round =>
     clear H'
     try clear p2
     try clear c3
     try clear c5
     try clear c5b0
     try clear c6
     try clear c6b0
     try clear c7
     try clear c7b0
     try clear c8
     try clear p2
     obtain ⟨x9_2, x31_2, rfl, HA, HK2, HO_9, HB⟩ := hrel
     cases gk with
     | zero => exact absurd HA.out (by simp [monthly_Dates.l0])
     | succ k2 =>
      have H := HA.out
      clear HA
      simp only [monthly_Dates.l0] at H
      by_cases c9 : x31_2 < a2
      ·rw [if_pos c9] at H
       have c9b0 : decide (x31_2 < a2) = true := decide_eq_true c9
       clear c9
       replace H := Option.bind_eq_some_iff.mp H
       obtain ⟨⟨t104, t105⟩, A100, H⟩ := H
       replace H : (if t105 = 0 then (if x9_2.length < 17592186044416 then (monthly_Dates.l0 k2 a0 a1 (x9_2 ++ [t104]) a2 (wrap64 (x31_2 + 1))) else (none)) else (some (([] : List Int), t105))) = some (r1, r2) := H
       have A10 := Aside0.mk A100
       clear A100
       by_cases c11 : t105 = 0
       ·rw [if_pos c11] at H
        have c11b0 : (t105 == 0) = true := beq_iff_eq.mpr c11
        have c11b1 : (t105 != 0) = false := bne_eq_false_iff_eq.mpr c11
        clear c11
        by_cases c12 : x9_2.length < 17592186044416
        ·rw [if_pos c12] at H
         have LMc12 := Aside0.mk c12
         clear c12
         obtain ⟨y106, hy106⟩ : ∃ y_ : List Int, y_ = (x9_2 ++ [t104]) := ⟨_, rfl⟩
         replace H : (monthly_Dates.l0 k2 a0 a1 y106 a2 (wrap64 (x31_2 + 1))) = some (r1, r2) := by first | (rw [hy106]; with_reducible exact H) | (have H2_ := (Option.bind_some _ _).symm.trans H; rw [hy106]; with_reducible exact H2_) | (have H2_ := (Option.bind_some _ _).symm.trans H; with_reducible exact H2_) | with_reducible exact H | (rw [hy106]; exact H) | exact H
         have Ny106 := Aside0.mk hy106
         clear hy106
         have H' := Aside0.mk H
         clear H
         go_wp2_with (first | ((with_reducible refine gate_calleeV (t := 35) rfl ?_); refine goesV_ 35 #[.agg #[.int .i64 a0]] (by first | rfl | (simp; done)) (some 40) rfl rfl Try.func64 (by kernel_rfl) rfl #[.agg #[.int .i64 a0], .int .i64 (wrap64 ((wrap64 (x31_2 + 1)) * a1))] rfl (by (try simp only [List.map_toArray, List.map_cons, List.map_nil]); first | done | rfl | (simp; done) | rfl | (simp only [List.length_drop, List.length_take]; rfl)) ?_; (with_reducible refine (monthly_from_add.calls a0 (wrap64 ((wrap64 (x31_2 + 1)) * a1)) t104 t105 _ A10.out).mono ?_); rintro e w13 ⟨rfl, hb⟩; refine ⟨_, rfl, ?_⟩; have n0_ := Aside0.mk (Kd.R_below (by (with_reducible repeat (first | apply Kd.R_alloc | apply Kd.R_drewN | apply Kd.R_drew)); exact HO_9.out) hb); have n1_ := Aside0.mk (below_step (by repeat (first | (with_reducible first | exact HB.out | apply below_alloc | apply pw_below_drewN | apply below_drew1) | exact HB.out)) hb); clear HO_9; clear HB; have HO_9 := n0_; have HB := n1_; clear n0_ n1_; (try clear hb); (try clear hb2); (try clear hk); (try clear hi)) | ((with_reducible refine gate_builtin (b := .append) (xs := #[.tmp 46, .tmp 48]) rfl ?_); at_builtin; refine Kd.R_append (Kd.int .i64) (w0 := w) w.heap.size rfl (.tmp 46) (.tmp 48) 25 3 (.int .i64 0) 8 rfl Try.underlying25 info3 rfl (by decide) (by omega) u9 x9_2 t104 [.int .i64 t104] (fun _ => True) (fun _ => False) rfl rfl ?aP (fun _ hk => hk.elim) ?aF ?aO ?aB ?aS ?aL ?_; (case aP => exact rfl); (case aB => exact (by repeat (first | (with_reducible first | exact HB.out | apply below_alloc | apply pw_below_drewN | apply below_drew1) | exact HB.out))); (case aF => exact (fun _ _ => trivial)); (case aO => exact (by (with_reducible repeat (first | apply Kd.R_alloc | apply Kd.R_drewN | apply Kd.R_drew)); exact HO_9.out)); (case aS => exact (below_size (by repeat (first | (with_reducible first | exact HB.out | apply below_alloc | apply pw_below_drewN | apply below_drew1) | exact HB.out)))); (case aL => have := LMc12.out; omega); intro v107 w14 ho hb hg hat; rw [← Ny106.out] at ho; have n0_ := Aside0.mk (hb); have n1_ := Aside0.mk (ho); clear HB; clear HO_9; have HB := n0_; have HO108 := n1_; clear n0_ n1_; clear ho hb hg hat))
         go_roundg k2
         case measure => have := HJ3.out; have := HK2.out; omega
         case rel => exact ⟨(y106), (wrap64 (x31_2 + 1)), (by first | rfl | (simp; done) | (simp [*]; done)), H', ⟨by have := HJ3.out; have := HK2.out; omega⟩, ⟨by (with_reducible repeat (first | apply Kd.R_alloc | apply Kd.R_drewN | apply Kd.R_drew)); exact HO108.out⟩, ⟨by repeat (first | (with_reducible first | exact HB.out | apply below_alloc | apply pw_below_drewN | apply below_drew1) | exact HB.out)⟩⟩
        ·rw [if_neg c12] at H
         exact absurd H (by simp)
       ·rw [if_neg c11] at H
        have c11b0 : (t105 == 0) = false := beq_eq_false_iff_ne.mpr c11
        have c11b1 : (t105 != 0) = true := bne_iff_ne.mpr c11
        simp only [Option.some.injEq, Prod.mk.injEq] at H
        obtain ⟨rfl, rfl⟩ := H
        go_wp2_with (first | ((with_reducible refine gate_calleeV (t := 35) rfl ?_); refine goesV_ 35 #[.agg #[.int .i64 a0]] (by first | rfl | (simp; done)) (some 40) rfl rfl Try.func64 (by kernel_rfl) rfl #[.agg #[.int .i64 a0], .int .i64 (wrap64 ((wrap64 (x31_2 + 1)) * a1))] rfl (by (try simp only [List.map_toArray, List.map_cons, List.map_nil]); first | done | rfl | (simp; done) | rfl | (simp only [List.length_drop, List.length_take]; rfl)) ?_; (with_reducible refine (monthly_from_add.calls a0 (wrap64 ((wrap64 (x31_2 + 1)) * a1)) t104 t105 _ A10.out).mono ?_); rintro e w15 ⟨rfl, hb⟩; refine ⟨_, rfl, ?_⟩; have n0_ := Aside0.mk (Kd.R_below (by (with_reducible repeat (first | apply Kd.R_alloc | apply Kd.R_drewN | apply Kd.R_drew)); exact HO_9.out) hb); have n1_ := Aside0.mk (below_step (by repeat (first | (with_reducible first | exact HB.out | apply below_alloc | apply pw_below_drewN | apply below_drew1) | exact HB.out)) hb); clear HO_9; clear HB; have HO_9 := n0_; have HB := n1_; clear n0_ n1_; (try clear hb); (try clear hb2); (try clear hk); (try clear hi)))
        go_ret2
        exact ⟨_, by first | rfl | (simp [errW_none, errW_some] <;> rfl) | (simp [*, errW_none, errW_some] <;> rfl), by first | exact Kd.R_nil _ _ _ _ _ | exact Kd.N_nil _ _ _ _ _ | exact Kd.V_nil _ _ _ _ _ | exact Kd.Q_nil _ _ _ _ _ | exact Kd.S_nil _ _ _ _ _, by repeat (first | (with_reducible first | exact HB.out | apply below_alloc | apply pw_below_drewN | apply below_drew1) | exact HB.out)⟩
      ·rw [if_neg c9] at H
       have c9b0 : decide (x31_2 < a2) = false := decide_eq_false c9
       clear c9
       simp only [Option.some.injEq, Prod.mk.injEq] at H
       obtain ⟨rfl, rfl⟩ := H
       go_wp2
       go_ret2
       exact ⟨_, by first | rfl | (simp [errW_none, errW_some] <;> rfl) | (simp [*, errW_none, errW_some] <;> rfl), by (with_reducible repeat (first | apply Kd.R_alloc | apply Kd.R_drewN | apply Kd.R_drew)); exact HO_9.out, by repeat (first | (with_reducible first | exact HB.out | apply below_alloc | apply pw_below_drewN | apply below_drew1) | exact HB.out)⟩
/-! ### quittanceref04_Dates: function 36 -/
mutual
def quittanceref04_Dates.j0 : Nat → Int → Int → Int → Bool → Option (List Int × Int)
 | 0, _, _, _, _ => none
 | k + 1, x0, x1, x2, x25 => if x25 = true then (some (([] : List Int), 1)) else (quittanceref04_Dates.l0 k x0 x1 x2 ([] : List Int) 1)
def quittanceref04_Dates.l0 : Nat → Int → Int → Int → List Int → Int → Option (List Int × Int)
 | 0, _, _, _, _, _ => none
 | k + 1, x0, x1, x2, x8, x9 => if x9 ≤ x2 then ((Go.Proofs.Ytcfpkkgdofblfaa.H.quittanceref04_Add.f x0 (wrap64 (x9 * x1))).bind fun bt109 => (if bt109.2 = 0 then (if x8.length < 17592186044416 then (quittanceref04_Dates.l0 k x0 x1 x2 (x8 ++ [bt109.1]) (wrap64 (x9 + 1))) else (none)) else (some (([] : List Int), bt109.2)))) else (some (x8, 0))
end
def quittanceref04_Dates.f (k : Nat) (a0 : Int) (a1 : Int) (a2 : Int) : Option (List Int × Int) := if a1 < 1 then (quittanceref04_Dates.j0 k a0 a1 a2 true) else (if a1 > 12 then (quittanceref04_Dates.j0 k a0 a1 a2 true) else (if a2 < 1 then (quittanceref04_Dates.j0 k a0 a1 a2 true) else (quittanceref04_Dates.j0 k a0 a1 a2 (decide (a2 > 600)))))
theorem quittanceref04_Dates.mono_l : ∀ k, (∀ y0 y1 y2 y3, LeO (quittanceref04_Dates.j0 k y0 y1 y2 y3) (quittanceref04_Dates.j0 (k + 1) y0 y1 y2 y3)) ∧ (∀ y0 y1 y2 y3 y4, LeO (quittanceref04_Dates.l0 k y0 y1 y2 y3 y4) (quittanceref04_Dates.l0 (k + 1) y0 y1 y2 y3 y4))
 | 0 => ⟨fun _ _ _ _ r h => by simp [quittanceref04_Dates.j0] at h, fun _ _ _ _ _ r h => by simp [quittanceref04_Dates.l0] at h⟩
 | k + 1 => by
  obtain ⟨ih0, ih1⟩ := quittanceref04_Dates.mono_l k
  refine ⟨?_, ?_⟩
  ·intro y0 y1 y2 y3
   unfold quittanceref04_Dates.j0
   repeat' first
   | (with_reducible exact ih0 _ _ _ _)
   | (with_reducible exact ih1 _ _ _ _ _)
   | (with_reducible exact LeO.refl _)
   | (with_reducible exact LeO.none _)
   | (with_reducible refine LeO.ite ?_ ?_)
   | (with_reducible refine LeO.bind ?_ (fun _ => ?_))
   | exact ih0 _ _ _ _
   | exact ih1 _ _ _ _ _
   | exact LeO.none _
   | refine LeO.ite ?_ ?_
   | refine LeO.bind ?_ (fun _ => ?_)
  ·intro y0 y1 y2 y3 y4
   unfold quittanceref04_Dates.l0
   repeat' first
   | (with_reducible exact ih0 _ _ _ _)
   | (with_reducible exact ih1 _ _ _ _ _)
   | (with_reducible exact LeO.refl _)
   | (with_reducible exact LeO.none _)
   | (with_reducible refine LeO.ite ?_ ?_)
   | (with_reducible refine LeO.bind ?_ (fun _ => ?_))
   | exact ih0 _ _ _ _
   | exact ih1 _ _ _ _ _
   | exact LeO.none _
   | refine LeO.ite ?_ ?_
   | refine LeO.bind ?_ (fun _ => ?_)
theorem quittanceref04_Dates.mono : ∀ a0 a1 a2 k, LeO (quittanceref04_Dates.f k a0 a1 a2) (quittanceref04_Dates.f (k + 1) a0 a1 a2) := by
 intro a0 a1 a2 k
 obtain ⟨ih0, ih1⟩ := quittanceref04_Dates.mono_l k
 unfold quittanceref04_Dates.f
 repeat' first
   | (with_reducible exact ih0 _ _ _ _)
   | (with_reducible exact ih1 _ _ _ _ _)
   | (with_reducible exact LeO.refl _)
   | (with_reducible exact LeO.none _)
   | (with_reducible refine LeO.ite ?_ ?_)
   | (with_reducible refine LeO.bind ?_ (fun _ => ?_))
   | exact ih0 _ _ _ _
   | exact ih1 _ _ _ _ _
   | exact LeO.none _
   | refine LeO.ite ?_ ?_
   | refine LeO.bind ?_ (fun _ => ?_)
set_option maxHeartbeats 8000000 in
set_option maxRecDepth 100000 in
theorem quittanceref04_Dates.calls (k : Nat) (a0 : Int) (a1 : Int) (a2 : Int) (r1 : List Int) (r2 : Int) (w : World) (h : quittanceref04_Dates.f k a0 a1 a2 = some (r1, r2)) :
  Calls Try.prog 36 #[.int .i64 a0, .int .i64 a1, .int .i64 a2] w fun e w' => ∃ v0_ : Value, e = .returned (.tuple #[v0_, .int .i64 r2]) ∧ Kd.R (Kd.int .i64) 3 w' w.heap.size (fun _ => True) v0_ r1 ∧ Below w.heap.size w w' := by
 have HB := Aside0.mk (Below.refl w.heap.size w)
 have H : (if a1 < 1 then (quittanceref04_Dates.j0 k a0 a1 a2 true) else (if a1 > 12 then (quittanceref04_Dates.j0 k a0 a1 a2 true) else (if a2 < 1 then (quittanceref04_Dates.j0 k a0 a1 a2 true) else (quittanceref04_Dates.j0 k a0 a1 a2 (decide (a2 > 600)))))) = some (r1, r2) := h
 clear h
 have HC4 := Aside0.mk H
 clear H
 go_enter Try.func36, Try.ntmps36
 go_upto_region 1 with (fail)
 go_cut [25] (fun v25 wc => ∃ (kq : Nat) (x25_3 : Bool), v25 = .bool x25_3 ∧ Aside0 (quittanceref04_Dates.j0 kq a0 a1 a2 x25_3 = some (r1, r2)) ∧ Aside0 (kq ≤ k) ∧ Aside0 (Below w.heap.size w wc))
 case first =>
  have H := HC4.out
  clear HC4
  by_cases c5 : a1 < 1
  ·rw [if_pos c5] at H
   have c5b0 : decide (a1 < 1) = true := decide_eq_true c5
   clear c5
   (first | rw [c5b0] | (simp only [i64_w, i32_w]; rw [c5b0]) | skip)
   have H' := Aside0.mk H
   clear H
   go_wp2
   go_meet
   case rel => exact ⟨_, (true), (by first | rfl | (simp; done) | (simp [*]; done)), H', ⟨by first | omega | exact Nat.le_refl _⟩, ⟨by repeat (first | (with_reducible first | exact HB.out | apply below_alloc | apply pw_below_drewN | apply below_drew1) | exact HB.out)⟩⟩
  ·rw [if_neg c5] at H
   have c5b0 : decide (a1 < 1) = false := decide_eq_false c5
   clear c5
   (first | rw [c5b0] | (simp only [i64_w, i32_w]; rw [c5b0]) | skip)
   by_cases c6 : a1 > 12
   ·rw [if_pos c6] at H
    have c6b0 : decide (12 < a1) = true := decide_eq_true c6
    clear c6
    have H' := Aside0.mk H
    clear H
    go_wp2
    go_meet
    case rel => exact ⟨_, (true), (by first | rfl | (simp; done) | (simp [*]; done)), H', ⟨by first | omega | exact Nat.le_refl _⟩, ⟨by repeat (first | (with_reducible first | exact HB.out | apply below_alloc | apply pw_below_drewN | apply below_drew1) | exact HB.out)⟩⟩
   ·rw [if_neg c6] at H
    have c6b0 : decide (12 < a1) = false := decide_eq_false c6
    clear c6
    by_cases c7 : a2 < 1
    ·rw [if_pos c7] at H
     have c7b0 : decide (a2 < 1) = true := decide_eq_true c7
     clear c7
     have H' := Aside0.mk H
     clear H
     go_wp2
     go_meet
     case rel => exact ⟨_, (true), (by first | rfl | (simp; done) | (simp [*]; done)), H', ⟨by first | omega | exact Nat.le_refl _⟩, ⟨by repeat (first | (with_reducible first | exact HB.out | apply below_alloc | apply pw_below_drewN | apply below_drew1) | exact HB.out)⟩⟩
    ·rw [if_neg c7] at H
     have c7b0 : decide (a2 < 1) = false := decide_eq_false c7
     clear c7
     have H' := Aside0.mk H
     clear H
     go_wp2
     go_meet
     case rel => exact ⟨_, (decide (a2 > 600)), (by first | rfl | (simp; done) | (simp [*]; done)), H', ⟨by first | omega | exact Nat.le_refl _⟩, ⟨by repeat (first | (with_reducible first | exact HB.out | apply below_alloc | apply pw_below_drewN | apply below_drew1) | exact HB.out)⟩⟩
 case rest =>
  clear HC4
  try clear p2
  try clear c3
  try clear c5
  try clear c5b0
  try clear c6
  try clear c6b0
  try clear c7
  try clear c7b0
  obtain ⟨kq, x25_3, rfl, HA, HJ3, HB⟩ := hcut
  cases kq with
  | zero => exact absurd HA.out (by simp [quittanceref04_Dates.j0])
  | succ kj3 =>
   have H := HA.out
   clear HA
   simp only [quittanceref04_Dates.j0] at H
   by_cases c8 : x25_3 = true
   ·subst c8
    have H1 : (some (([] : List Int), 1)) = some (r1, r2) := by rw [if_pos rfl] at H; exact H
    clear H
    have H := H1
    clear H1
    simp only [Option.some.injEq, Prod.mk.injEq] at H
    obtain ⟨rfl, rfl⟩ := H
    go_wp2
    go_ret2
    exact ⟨_, by first | rfl | (simp [errW_none, errW_some] <;> rfl) | (simp [*, errW_none, errW_some] <;> rfl), by first | exact Kd.R_nil _ _ _ _ _ | exact Kd.N_nil _ _ _ _ _ | exact Kd.V_nil _ _ _ _ _ | exact Kd.Q_nil _ _ _ _ _ | exact Kd.S_nil _ _ _ _ _, by repeat (first | (with_reducible first | exact HB.out | apply below_alloc | apply pw_below_drewN | apply below_drew1) | exact HB.out)⟩
   ·replace c8 := Bool.eq_false_iff.mpr c8
    subst c8
    have H1 : (quittanceref04_Dates.l0 kj3 a0 a1 a2 ([] : List Int) 1) = some (r1, r2) := by rw [if_neg (show ¬ (false = true) by decide)] at H; exact H
    clear H
    have H := H1
    clear H1
    have H' := Aside0.mk H
    clear H
    go_wp2
    go_loopg [8, 9] kj3 (fun kq v8 v9 w' => ∃ (x8_2 : List Int) (x9_2 : Int), v9 = .int .i64 x9_2 ∧ Aside0 (quittanceref04_Dates.l0 kq a0 a1 a2 x8_2 x9_2 = some (r1, r2)) ∧ Aside0 (kq ≤ kj3) ∧ Aside0 (Kd.R (Kd.int .i64) 3 w' w.heap.size (fun _ => True) v8 x8_2) ∧ Aside0 (Below w.heap.size w w'))
    case atStart => exact ⟨(([] : List Int)), (1), (by first | rfl | (simp; done) | (simp [*]; done)), H', ⟨Nat.le_refl _⟩, ⟨by first | exact Kd.R_nil _ _ _ _ _ | exact Kd.N_nil _ _ _ _ _ | exact Kd.V_nil _ _ _ _ _ | exact Kd.Q_nil _ _ _ _ _ | exact Kd.S_nil _ _ _ _ _⟩, ⟨by repeat (first | (with_reducible first | exact HB.out | apply below_alloc | apply pw_below_drewN | apply below_drew1) | exact HB.out)⟩⟩
    case round =>
     clear H'
     try clear p2
     try clear c3
     try clear c5
     try clear c5b0
     try clear c6
     try clear c6b0
     try clear c7
     try clear c7b0
     try clear c8
     try clear p2
     obtain ⟨x8_2, x9_2, rfl, HA, HK2, HO_8, HB⟩ := hrel
     cases gk with
     | zero => exact absurd HA.out (by simp [quittanceref04_Dates.l0])
     | succ k2 =>
      have H := HA.out
      clear HA
      simp only [quittanceref04_Dates.l0] at H
      by_cases c9 : x9_2 ≤ a2
      ·rw [if_pos c9] at H
       have c9b0 : decide (x9_2 ≤ a2) = true := decide_eq_true c9
       clear c9
       replace H := Option.bind_eq_some_iff.mp H
       obtain ⟨⟨t109, t110⟩, A100, H⟩ := H
       replace H : (if t110 = 0 then (if x8_2.length < 17592186044416 then (quittanceref04_Dates.l0 k2 a0 a1 a2 (x8_2 ++ [t109]) (wrap64 (x9_2 + 1))) else (none)) else (some (([] : List Int), t110))) = some (r1, r2) := H
       have A10 := Aside0.mk A100
       clear A100
       by_cases c11 : t110 = 0
       ·rw [if_pos c11] at H
        have c11b0 : (t110 == 0) = true := beq_iff_eq.mpr c11
        have c11b1 : (t110 != 0) = false := bne_eq_false_iff_eq.mpr c11
        clear c11
        by_cases c12 : x8_2.length < 17592186044416
        ·rw [if_pos c12] at H
         have LMc12 := Aside0.mk c12
         clear c12
         obtain ⟨y111, hy111⟩ : ∃ y_ : List Int, y_ = (x8_2 ++ [t109]) := ⟨_, rfl⟩
         replace H : (quittanceref04_Dates.l0 k2 a0 a1 a2 y111 (wrap64 (x9_2 + 1))) = some (r1, r2) := by first | (rw [hy111]; with_reducible exact H) | (have H2_ := (Option.bind_some _ _).symm.trans H; rw [hy111]; with_reducible exact H2_) | (have H2_ := (Option.bind_some _ _).symm.trans H; with_reducible exact H2_) | with_reducible exact H | (rw [hy111]; exact H) | exact H
         have Ny111 := Aside0.mk hy111
         clear hy111
         have H' := Aside0.mk H
         clear H
         go_wp2_with (first | ((with_reducible refine gate_callee (f := 68) rfl ?_); refine goesL_ (some 36) rfl rfl Try.func68 (by kernel_rfl) rfl #[.int .i64 a0, .int .i64 (wrap64 (x9_2 * a1))] rfl (by (try simp only [List.map_toArray, List.map_cons, List.map_nil]); first | done | rfl | (simp only [List.length_drop, List.length_take]; rfl)) ?_; (with_reducible refine (Go.Proofs.Ytcfpkkgdofblfaa.H.quittanceref04_Add.calls a0 (wrap64 (x9_2 * a1)) t109 t110 _ A10.out).mono ?_); rintro e w13 ⟨rfl, hb⟩; refine ⟨_, rfl, ?_⟩; have n0_ := Aside0.mk (Kd.R_below (by (with_reducible repeat (first | apply Kd.R_alloc | apply Kd.R_drewN | apply Kd.R_drew)); exact HO_8.out) hb); have n1_ := Aside0.mk (below_step (by repeat (first | (with_reducible first | exact HB.out | apply below_alloc | apply pw_below_drewN | apply below_drew1) | exact HB.out)) hb); clear HO_8; clear HB; have HO_8 := n0_; have HB := n1_; clear n0_ n1_; (try clear hb); (try clear hb2); (try clear hk); (try clear hi)) | ((with_reducible refine gate_builtin (b := .append) (xs := #[.tmp 42, .tmp 44]) rfl ?_); at_builtin; refine Kd.R_append (Kd.int .i64) (w0 := w) w.heap.size rfl (.tmp 42) (.tmp 44) 25 3 (.int .i64 0) 8 rfl Try.underlying25 info3 rfl (by decide) (by omega) u8 x8_2 t109 [.int .i64 t109] (fun _ => True) (fun _ => False) rfl rfl ?aP (fun _ hk => hk.elim) ?aF ?aO ?aB ?aS ?aL ?_; (case aP => exact rfl); (case aB => exact (by repeat (first | (with_reducible first | exact HB.out | apply below_alloc | apply pw_below_drewN | apply below_drew1) | exact HB.out))); (case aF => exact (fun _ _ => trivial)); (case aO => exact (by (with_reducible repeat (first | apply Kd.R_alloc | apply Kd.R_drewN | apply Kd.R_drew)); exact HO_8.out)); (case aS => exact (below_size (by repeat (first | (with_reducible first | exact HB.out | apply below_alloc | apply pw_below_drewN | apply below_drew1) | exact HB.out)))); (case aL => have := LMc12.out; omega); intro v112 w14 ho hb hg hat; rw [← Ny111.out] at ho; have n0_ := Aside0.mk (hb); have n1_ := Aside0.mk (ho); clear HB; clear HO_8; have HB := n0_; have HO113 := n1_; clear n0_ n1_; clear ho hb hg hat))
         go_roundg k2
         case measure => have := HJ3.out; have := HK2.out; omega
         case rel => exact ⟨(y111), (wrap64 (x9_2 + 1)), (by first | rfl | (simp; done) | (simp [*]; done)), H', ⟨by have := HJ3.out; have := HK2.out; omega⟩, ⟨by (with_reducible repeat (first | apply Kd.R_alloc | apply Kd.R_drewN | apply Kd.R_drew)); exact HO113.out⟩, ⟨by repeat (first | (with_reducible first | exact HB.out | apply below_alloc | apply pw_below_drewN | apply below_drew1) | exact HB.out)⟩⟩
        ·rw [if_neg c12] at H
         exact absurd H (by simp)
       ·rw [if_neg c11] at H
        have c11b0 : (t110 == 0) = false := beq_eq_false_iff_ne.mpr c11
        have c11b1 : (t110 != 0) = true := bne_iff_ne.mpr c11
        simp only [Option.some.injEq, Prod.mk.injEq] at H
        obtain ⟨rfl, rfl⟩ := H
        go_wp2_with (first | ((with_reducible refine gate_callee (f := 68) rfl ?_); refine goesL_ (some 36) rfl rfl Try.func68 (by kernel_rfl) rfl #[.int .i64 a0, .int .i64 (wrap64 (x9_2 * a1))] rfl (by (try simp only [List.map_toArray, List.map_cons, List.map_nil]); first | done | rfl | (simp only [List.length_drop, List.length_take]; rfl)) ?_; (with_reducible refine (Go.Proofs.Ytcfpkkgdofblfaa.H.quittanceref04_Add.calls a0 (wrap64 (x9_2 * a1)) t109 t110 _ A10.out).mono ?_); rintro e w15 ⟨rfl, hb⟩; refine ⟨_, rfl, ?_⟩; have n0_ := Aside0.mk (Kd.R_below (by (with_reducible repeat (first | apply Kd.R_alloc | apply Kd.R_drewN | apply Kd.R_drew)); exact HO_8.out) hb); have n1_ := Aside0.mk (below_step (by repeat (first | (with_reducible first | exact HB.out | apply below_alloc | apply pw_below_drewN | apply below_drew1) | exact HB.out)) hb); clear HO_8; clear HB; have HO_8 := n0_; have HB := n1_; clear n0_ n1_; (try clear hb); (try clear hb2); (try clear hk); (try clear hi)))
        go_ret2
        exact ⟨_, by first | rfl | (simp [errW_none, errW_some] <;> rfl) | (simp [*, errW_none, errW_some] <;> rfl), by first | exact Kd.R_nil _ _ _ _ _ | exact Kd.N_nil _ _ _ _ _ | exact Kd.V_nil _ _ _ _ _ | exact Kd.Q_nil _ _ _ _ _ | exact Kd.S_nil _ _ _ _ _, by repeat (first | (with_reducible first | exact HB.out | apply below_alloc | apply pw_below_drewN | apply below_drew1) | exact HB.out)⟩
      ·rw [if_neg c9] at H
       have c9b0 : decide (x9_2 ≤ a2) = false := decide_eq_false c9
       clear c9
       simp only [Option.some.injEq, Prod.mk.injEq] at H
       obtain ⟨rfl, rfl⟩ := H
       go_wp2
       go_ret2
       exact ⟨_, by first | rfl | (simp [errW_none, errW_some] <;> rfl) | (simp [*, errW_none, errW_some] <;> rfl), by (with_reducible repeat (first | apply Kd.R_alloc | apply Kd.R_drewN | apply Kd.R_drew)); exact HO_8.out, by repeat (first | (with_reducible first | exact HB.out | apply below_alloc | apply pw_below_drewN | apply below_drew1) | exact HB.out)⟩
end Go.Proofs.Ytcfpkkgdofblfaa.PDA
/- Plain: the days so many months apart; both printed walks give them. -/
namespace Go.Proofs.Ytcfpkkgdofblfaa.Du
open Go.RowKit Go.Proofs.Ytcfpkkgdofblfaa.PDA Go.Proofs.YtcfpkkgdofblfaaW.PrintWords Go.Proofs.YtcfpkkgdofblfaaW.PrintLast Go.Proofs.YtcfpkkgdofblfaaW.PrintMore
open Go.Proofs.Ytcfpkkgdofblfaa.Math Go.Proofs.Ytcfpkkgdofblfaa.H
set_option linter.unusedVariables false
set_option linter.unusedSimpArgs false
def dates : Nat → Int → Int → Int → List Int → List Int × Int
 | 0, _, _, _, l => (l, 0)
 | m + 1, n, e, i, l => if (add n ((i + 1) * e)).2 = 0 then dates m n e (i + 1) (l ++ [(add n ((i + 1) * e)).1]) else ([], (add n ((i + 1) * e)).2)
theorem dates_len : ∀ (m : Nat) (n e i : Int) (l : List Int), (dates m n e i l).1.length ≤ l.length + m
 | 0, n, e, i, l => by simp [dates]
 | m + 1, n, e, i, l => by
  unfold dates
  split
  ·have := dates_len m n e (i + 1) (l ++ [(add n ((i + 1) * e)).1])
   simp at this ⊢
   omega
  ·simp
theorem mul_small {i e : Int} (h1 : 0 ≤ i) (h2 : i ≤ 700) (e1 : 1 ≤ e) (e2 : e ≤ 12) : 0 ≤ i * e ∧ i * e ≤ 8400 := by
 have a := Int.mul_le_mul_of_nonneg_right h2 (show 0 ≤ e by omega)
 have b := Int.mul_nonneg h1 (show 0 ≤ e by omega)
 omega
theorem civ_loop : ∀ (m : Nat) {n e t i : Int} (l : List Int), 1 ≤ e → e ≤ 12 → 0 ≤ i → t ≤ 600 → i + m = t → l.length ≤ 100000 - m → m ≤ 600 →
  monthly_Dates.l0 (m + 1) n e l t i = some (dates m n e i l)
 | 0, n, e, t, i, l, e1, e2, i0, t0, h, hl, hm => by
  simp only [monthly_Dates.l0]
  rw [if_neg (by omega)]
  rfl
 | m + 1, n, e, t, i, l, e1, e2, i0, t0, h, hl, hm => by
  rw [monthly_Dates.l0]
  obtain ⟨p1, p2⟩ := mul_small (i := i + 1) (by omega) (by omega) e1 e2
  rw [if_pos (by omega), w64 (x := i + 1) (by omega) (by omega), w64 (x := (i + 1) * e) (by omega) (by omega)]
  simp only [monthly_from_add.f, monthly_Add.f, Option.bind_some]
  rw [dates]
  by_cases hz : (add n ((i + 1) * e)).2 = 0
  ·rw [if_pos hz, if_pos hz, if_pos (by omega)]
   exact civ_loop m _ e1 e2 (by omega) t0 (by omega) (by simp; omega) (by omega)
  ·rw [if_neg hz, if_neg hz]
theorem ref_loop : ∀ (m : Nat) {n e t i : Int} (l : List Int), 1 ≤ e → e ≤ 12 → 0 ≤ i → t ≤ 600 → i + m = t → l.length ≤ 100000 - m → m ≤ 600 →
  quittanceref04_Dates.l0 (m + 1) n e t l (i + 1) = some (dates m n e i l)
 | 0, n, e, t, i, l, e1, e2, i0, t0, h, hl, hm => by
  simp only [quittanceref04_Dates.l0]
  rw [if_neg (by omega)]
  rfl
 | m + 1, n, e, t, i, l, e1, e2, i0, t0, h, hl, hm => by
  rw [quittanceref04_Dates.l0]
  obtain ⟨p1, p2⟩ := mul_small (i := i + 1) (by omega) (by omega) e1 e2
  rw [if_pos (by omega), w64 (x := (i + 1) * e) (by omega) (by omega), w64 (x := i + 1 + 1) (by omega) (by omega)]
  simp only [quittanceref04_Add.f, Option.bind_some]
  rw [dates]
  by_cases hz : (add n ((i + 1) * e)).2 = 0
  ·rw [if_pos hz, if_pos hz, if_pos (by omega)]
   exact ref_loop m _ e1 e2 (by omega) t0 (by omega) (by simp; omega) (by omega)
  ·rw [if_neg hz, if_neg hz]
def datesP (n e t : Int) : List Int × Int := if 1 ≤ e ∧ e ≤ 12 ∧ 1 ≤ t ∧ t ≤ 600 then dates t.toNat n e 0 [] else ([], 1)
theorem civ_dates {n e t : Int} : (datesP n e t).1.length ≤ 600 ∧ monthly_Dates.f (t.toNat + 2) n e t = some (datesP n e t) ∧ quittanceref04_Dates.f (t.toNat + 2) n e t = some (datesP n e t) := by
 unfold datesP
 by_cases h : 1 ≤ e ∧ e ≤ 12 ∧ 1 ≤ t ∧ t ≤ 600
 ·rw [if_pos h]
  obtain ⟨e1, e2, t1, t2⟩ := h
  refine ⟨?_, ?_, ?_⟩
  ·have := dates_len t.toNat n e 0 []
   simp at this
   omega
  ·unfold monthly_Dates.f
   rw [if_neg (by omega), if_neg (by omega), if_neg (by omega), decide_eq_false (by omega)]
   simp only [monthly_Dates.j0, Bool.false_eq_true, if_false]
   exact civ_loop t.toNat [] e1 e2 (by omega) t2 (by omega) (by first | (simp; done) | (simp; omega)) (by omega)
  ·unfold quittanceref04_Dates.f
   rw [if_neg (by omega), if_neg (by omega), if_neg (by omega), decide_eq_false (by omega)]
   simp only [quittanceref04_Dates.j0, Bool.false_eq_true, if_false]
   exact ref_loop t.toNat (i := 0) [] e1 e2 (by omega) t2 (by omega) (by first | (simp; done) | (simp; omega)) (by omega)
 ·rw [if_neg h]
  refine ⟨by simp, ?_, ?_⟩
  ·unfold monthly_Dates.f
   repeat' split
   all_goals first | rfl | (rw [decide_eq_true (by omega)]; done) | (rw [decide_eq_true (by omega)]; rfl)
  ·unfold quittanceref04_Dates.f
   repeat' split
   all_goals first | rfl | (rw [decide_eq_true (by omega)]; done) | (rw [decide_eq_true (by omega)]; rfl)
end Go.Proofs.Ytcfpkkgdofblfaa.Du
/- Lists of days: which may be holidays, and whether a day is among them. -/
namespace Go.Proofs.Ytcfpkkgdofblfaa.H
open Go.RowKit Go.Proofs.YtcfpkkgdofblfaaW.PrintWords Go.Proofs.YtcfpkkgdofblfaaW.PrintLast Go.Proofs.YtcfpkkgdofblfaaW.PrintMore
open Go.Proofs.Ytcfpkkgdofblfaa.Math
set_option linter.unusedVariables false
set_option linter.unusedSimpArgs false
theorem rd_nat (l : List Int) (k : Nat) (h : k < l.length) : rd l (k : Int) = l[k] := by
 simp [rd, h]
theorem rd_cons (l : List Int) (k : Nat) (h : k < l.length) : l.drop k = rd l (k : Int) :: l.drop (k + 1) := by
 rw [List.drop_eq_getElem_cons h, rd_nat l k h]
def rises : Int → List Int → Bool
 | _, [] => true
 | p, x :: xs => decide (isDay x) && (decide (p < x) && rises x xs)
def rightB (l : List Int) : Bool := rises (-25568) l && decide (l.length ≤ 200)
theorem rises_all (l : List Int) : ∀ p, rises p l = true → ∀ x ∈ l, isDay x ∧ p < x := by
 induction l with
 | nil => intro p _ x hx; simp at hx
 | cons y ys ih =>
  intro p h x hx
  simp only [rises, Bool.and_eq_true, decide_eq_true_eq] at h
  obtain ⟨h1, h2, h3⟩ := h
  rcases List.mem_cons.1 hx with rfl | hx
  ·exact ⟨h1, h2⟩
  ·obtain ⟨h4, h5⟩ := ih y h3 x hx
   exact ⟨h4, by omega⟩
theorem rises_pair (l : List Int) : ∀ p, rises p l = true → l.Pairwise (· < ·) := by
 induction l with
 | nil => intro p _; exact List.Pairwise.nil
 | cons y ys ih =>
  intro p h
  simp only [rises, Bool.and_eq_true, decide_eq_true_eq] at h
  exact List.Pairwise.cons (fun x hx => (rises_all ys y h.2.2 x hx).2) (ih y h.2.2)
theorem rises_lt {l : List Int} (h : l.Pairwise (· < ·)) {i j : Nat} (hij : i < j) (hj : j < l.length) : rd l (i : Int) < rd l (j : Int) := by
 rw [rd_nat l i (by omega), rd_nat l j hj]
 exact List.pairwise_iff_getElem.1 h i j (by omega) hj hij
theorem rises_of {l : List Int} : ∀ (p : Int), (∀ x ∈ l, isDay x ∧ p < x) → l.Pairwise (· < ·) → rises p l = true := by
 induction l with
 | nil => intro p _ _; rfl
 | cons y ys ih =>
  intro p h hp
  obtain ⟨h1, h2⟩ := h y (List.mem_cons_self)
  cases hp with
  | cons h3 h4 =>
   simp only [rises, Bool.and_eq_true, decide_eq_true_eq]
   exact ⟨h1, h2, ih y (fun x hx => ⟨(h x (List.mem_cons_of_mem _ hx)).1, h3 x hx⟩) h4⟩
theorem in_loop (l : List Int) (x : Int) (hm : l.length ≤ 1000000000) (d : Nat) : ∀ (k i : Nat), i ≤ l.length → l.length - i = d → d < k → PA.quittancehelp_In_int.l0 k l x (i : Int) = some ((l.drop i).contains x) := by
 induction d with
 | zero =>
  intro k i h1 h2 h3
  obtain ⟨k, rfl⟩ : ∃ m, k = m + 1 := ⟨k - 1, by omega⟩
  simp only [PA.quittancehelp_In_int.l0]
  rw [if_neg (by omega), List.drop_eq_nil_of_le (by omega)]; rfl
 | succ d ih =>
  intro k i h1 h2 h3
  obtain ⟨k, rfl⟩ : ∃ m, k = m + 1 := ⟨k - 1, by omega⟩
  simp only [PA.quittancehelp_In_int.l0]
  rw [if_pos (by omega), if_pos (by omega), rd_cons l i (by omega), List.contains_cons]
  by_cases e : rd l (i : Int) = x
  ·rw [if_pos e]; simp [e]
  ·have e' : (x == rd l (i : Int)) = false := by simpa using fun h => e h.symm
   rw [if_neg e, w64 (by omega) (by omega), show (i : Int) + 1 = ((i + 1 : Nat) : Int) by omega, ih k (i + 1) (by omega) (by omega) (by omega), e', Bool.false_or]
theorem in_is (l : List Int) (x : Int) (hm : l.length ≤ 1000000000) : PA.quittancehelp_In_int.f 1000000001 l x = some (l.contains x) := in_loop l x hm l.length 1000000001 0 (by omega) (by omega) (by omega)
theorem right_loop (l : List Int) (hm : l.length ≤ 1000000000) (d : Nat) : ∀ (k i : Nat) (p : Int), i ≤ l.length → l.length - i = d → d < k → (i = 0 ∧ p = -25568 ∨ 0 < i ∧ p = rd l ((i : Int) - 1)) →
  PA.quittanceref05_Right.l0 k l (i : Int) = some (rises p (l.drop i) && decide (l.length ≤ 200)) := by
 induction d with
 | zero =>
  intro k i p h1 h2 h3 hp
  obtain ⟨k, rfl⟩ : ∃ m, k = m + 1 := ⟨k - 1, by omega⟩
  simp only [PA.quittanceref05_Right.l0]
  rw [if_neg (by omega), List.drop_eq_nil_of_le (by omega)]
  simp only [rises, Bool.true_and]
  congr 1
  rw [decide_eq_decide]; omega
 | succ d ih =>
  intro k i p h1 h2 h3 hp
  obtain ⟨k, rfl⟩ : ∃ m, k = m + 1 := ⟨k - 1, by omega⟩
  simp only [PA.quittanceref05_Right.l0]
  rw [if_pos (by omega), if_pos (by omega), refIs, rd_cons l i (by omega)]
  simp only [Option.bind_some, rises]
  have hstep := ih k (i + 1) (rd l (i : Int)) (by omega) (by omega) (by omega) (Or.inr ⟨by omega, by rw [show (((i + 1 : Nat) : Int) - 1) = (i : Int) by omega]⟩)
  by_cases hd : isDay (rd l (i : Int))
  ·rw [decide_eq_true hd, if_pos rfl, Bool.true_and]
   rcases hp with ⟨rfl, rfl⟩ | ⟨h0, rfl⟩
   ·rw [if_neg (by omega), w64 (by omega) (by omega), show ((0 : Nat) : Int) + 1 = ((0 + 1 : Nat) : Int) by omega, hstep]
    have : decide (-25568 < rd l ((0 : Nat) : Int)) = true := decide_eq_true (by have := hd.1; omega)
    rw [this, Bool.true_and]
   ·rw [if_pos (by omega), w64 (x := (i : Int) - 1) (by omega) (by omega), if_pos (by omega), if_pos (by omega)]
    by_cases hle : rd l (i : Int) ≤ rd l ((i : Int) - 1)
    ·rw [if_pos hle, decide_eq_false (show ¬ rd l ((i : Int) - 1) < rd l (i : Int) by omega)]; rfl
    ·rw [if_neg hle, w64 (by omega) (by omega), show (i : Int) + 1 = ((i + 1 : Nat) : Int) by omega, hstep, decide_eq_true (show rd l ((i : Int) - 1) < rd l (i : Int) by omega), Bool.true_and]
  ·rw [decide_eq_false hd, if_neg (by decide)]; rfl
theorem right_is (l : List Int) (hm : l.length ≤ 1000000000) : PA.quittanceref05_Right.f 1000000001 l = some (rightB l) := right_loop l hm l.length 1000000001 0 (-25568) (by omega) (by omega) (by omega) (Or.inl ⟨rfl, rfl⟩)
theorem less_is (a b : Int) : PA.cmp_Less_int.f a b = some (decide (a < b)) := by simp [PA.cmp_Less_int.f, PA.cmp_isNaN_int.f]
theorem mid_is {x y : Int} (h0 : 0 ≤ x) (h1 : x < y) (h2 : y ≤ 1000000000) : wrap64 (IntKind.u64.wrap (wrap64 (x + y)) / 2) = (x + y) / 2 := by
 rw [w64 (x := x + y) (by omega) (by omega), show IntKind.u64.wrap (x + y) = x + y from IntWalk.u64_in _ (by omega), w64 (by omega) (by omega)]
theorem bs_loop (l : List Int) (x : Int) (hm : l.length ≤ 1000000000) (hs : l.Pairwise (· < ·)) (d : Nat) : ∀ (k lo hi : Nat), lo ≤ hi → hi ≤ l.length → hi - lo ≤ d → d < k →
  (∀ j : Nat, j < lo → rd l (j : Int) < x) → (∀ j : Nat, hi ≤ j → j < l.length → x ≤ rd l (j : Int)) → ∃ i, PA.slices_BinarySearch_int_int.l0 k l x (l.length : Int) (lo : Int) (hi : Int) = some (i, l.contains x) := by
 induction d with
 | zero =>
  intro k lo hi h1 h2 h3 h4 hL hH
  obtain ⟨k, rfl⟩ : ∃ m, k = m + 1 := ⟨k - 1, by omega⟩
  obtain rfl : hi = lo := by omega
  refine ⟨(hi : Int), ?_⟩
  have hc : l.contains x = true ↔ hi < l.length ∧ rd l (hi : Int) = x := by
   constructor
   ·intro h
    obtain ⟨j, hj, e⟩ := List.getElem_of_mem (List.contains_iff_mem.1 h)
    rw [← rd_nat l j hj] at e
    have a : ¬ j < hi := fun h => by have := hL j h; omega
    have b : hi < l.length := by omega
    refine ⟨b, ?_⟩
    by_cases c : j = hi
    ·rw [← c]; exact e
    ·have := rises_lt hs (show hi < j by omega) hj
     have := hH hi (Nat.le_refl _) b
     omega
   ·rintro ⟨h, e⟩
    rw [List.contains_iff_mem, ← e, rd_nat l hi h]
    exact List.getElem_mem _
  simp only [PA.slices_BinarySearch_int_int.l0]
  rw [if_neg (by omega)]
  by_cases hl : hi < l.length
  ·rw [if_pos (by omega), if_pos (by omega), if_pos (by omega)]
   by_cases e : rd l (hi : Int) = x
   ·rw [if_pos e, hc.2 ⟨hl, e⟩]
   ·rw [if_neg e]
    have : l.contains x = false := by rw [Bool.eq_false_iff]; exact fun h => e (hc.1 h).2
    rw [this]
    simp [PA.slices_isNaN_int.f]
  ·rw [if_neg (by omega)]
   have : l.contains x = false := by rw [Bool.eq_false_iff]; exact fun h => hl (hc.1 h).1
   rw [this]
 | succ d ih =>
  intro k lo hi h1 h2 h3 h4 hL hH
  by_cases hlt : lo < hi
  ·obtain ⟨k, rfl⟩ : ∃ m, k = m + 1 := ⟨k - 1, by omega⟩
   simp only [PA.slices_BinarySearch_int_int.l0]
   rw [if_pos (by omega), mid_is (by omega) (by omega) (by omega), if_pos (by omega), if_pos (by omega), less_is]
   simp only [Option.bind_some, decide_eq_true_eq]
   have em : ((lo : Int) + (hi : Int)) / 2 = (((lo + hi) / 2 : Nat) : Int) := by omega
   rw [em]
   by_cases hlx : rd l (((lo + hi) / 2 : Nat) : Int) < x
   ·rw [if_pos hlx, w64 (by omega) (by omega), show ((((lo + hi) / 2 : Nat) : Int) + 1) = (((lo + hi) / 2 + 1 : Nat) : Int) by omega]
    refine ih k _ hi (by omega) h2 (by omega) (by omega) (fun j hj => ?_) hH
    rcases (by omega : j < (lo + hi) / 2 ∨ j = (lo + hi) / 2) with h | rfl
    ·have := rises_lt hs h (by omega)
     omega
    ·exact hlx
   ·rw [if_neg hlx]
    refine ih k lo _ (by omega) (by omega) (by omega) (by omega) hL (fun j hj hj2 => ?_)
    rcases (by omega : (lo + hi) / 2 < j ∨ j = (lo + hi) / 2) with h | rfl
    ·have := rises_lt hs h hj2
     omega
    ·omega
  ·exact Nat.lt_irrefl 0 |> fun _ => by
    obtain ⟨i, h⟩ := ih k lo hi h1 h2 (by omega) (by omega) hL hH
    exact ⟨i, h⟩
theorem bs_is (l : List Int) (x : Int) (hm : l.length ≤ 1000000000) (hs : l.Pairwise (· < ·)) : ∃ i, PA.slices_BinarySearch_int_int.f 1000000001 l x = some (i, l.contains x) :=
 bs_loop l x hm hs l.length 1000000001 0 l.length (by omega) (by omega) (by omega) (by omega) (fun j hj => by omega) (fun j h1 h2 => by omega)
/-! ### Contracts, restated -/
def help_In_int.f (l : List Int) (x : Int) : Option Bool := if l.length ≤ 1000000000 then some (l.contains x) else none
theorem help_In_int.calls (A0 : Option Addr) (c0 : Nat) (l0 : List Int) (a1 : Int) (r : Bool) (w : World) (hr0 : Kd.C (Kd.int .i64) w A0 l0.length l0) (hc0 : l0.length ≤ c0) (h : help_In_int.f l0 a1 = some r) :
  Calls Try.prog 44 #[.slice A0 l0.length c0, .int .i64 a1] w fun e w' => e = .returned (.bool r) ∧ Drawn0 w w' := by
 unfold help_In_int.f at h
 split at h
 ·rename_i hm
  exact PA.quittancehelp_In_int.calls 1000000001 A0 c0 l0 a1 r w hr0 hc0 ((in_is l0 a1 hm).trans h)
 ·cases h
def ref05_Right.f (l : List Int) : Option Bool := if l.length ≤ 1000000000 then some (rightB l) else none
theorem ref05_Right.calls (A0 : Option Addr) (c0 : Nat) (l0 : List Int) (r : Bool) (w : World) (hr0 : Kd.C (Kd.int .i64) w A0 l0.length l0) (hc0 : l0.length ≤ c0) (h : ref05_Right.f l0 = some r) :
  Calls Try.prog 13 #[.slice A0 l0.length c0] w fun e w' => e = .returned (.bool r) ∧ Drawn0 w w' := by
 unfold ref05_Right.f at h
 split at h
 ·rename_i hm
  exact PA.quittanceref05_Right.calls 1000000001 A0 c0 l0 r w hr0 hc0 ((right_is l0 hm).trans h)
 ·cases h
theorem search_any (A0 : Option Addr) (c0 : Nat) (l0 : List Int) (a1 : Int) (w : World) (hr0 : Kd.C (Kd.int .i64) w A0 l0.length l0) (hc0 : l0.length ≤ c0) (hm : l0.length ≤ 1000000000) (hs : l0.Pairwise (· < ·)) :
  Calls Try.prog 106 #[.slice A0 l0.length c0, .int .i64 a1] w fun e w' => (∃ i : Int, e = .returned (.tuple #[.int .i64 i, .bool (l0.contains a1)])) ∧ Drawn0 w w' := by
 obtain ⟨i, h⟩ := bs_is l0 a1 hm hs
 exact (PA.slices_BinarySearch_int_int.calls 1000000001 A0 c0 l0 a1 _ _ w hr0 hc0 h).mono fun e w' ⟨h1, h2⟩ => ⟨⟨i, h1⟩, h2⟩
end Go.Proofs.Ytcfpkkgdofblfaa.H
/- Contracts by hand: a calendar: which days are open. -/
namespace Go.Proofs.Ytcfpkkgdofblfaa.H
open Go.RowKit Go.Proofs.YtcfpkkgdofblfaaW.PrintWords Go.Proofs.YtcfpkkgdofblfaaW.PrintLast Go.Proofs.YtcfpkkgdofblfaaW.PrintMore Go.Proofs.Ytcfpkkgdofblfaa.HW
open Go.Proofs.Ytcfpkkgdofblfaa.Math
set_option linter.unusedVariables false
set_option linter.unusedSimpArgs false
def CalAt (w : World) (gb : Nat) (l : List Int) : Prop := ∃ A c, w.cell? ⟨gb, 0, none⟩ = some (.slice A l.length c) ∧ Kd.C (Kd.int .i64) w A l.length l ∧ l.length ≤ c ∧ l.length ≤ 200 ∧ l.Pairwise (· < ·) ∧ gb < w.heap.size
theorem CalAt.below {w w1 : World} {gb : Nat} {l : List Int} (h : CalAt w gb l) (hb : Below w.heap.size w w1) : CalAt w1 gb l := by
 obtain ⟨A, c, h1, h2, h3, h4, h5, h6⟩ := h
 exact ⟨A, c, by rw [hb.cell (by exact h6)]; exact h1, Kd.C_below h2 hb, h3, h4, h5, Nat.lt_of_lt_of_le h6 hb.size⟩
theorem CalAt.drawn {w w1 : World} {gb : Nat} {l : List Int} (h : CalAt w gb l) (hb : Drawn0 w w1) : CalAt w1 gb l := h.below hb.below
def openB (l : List Int) (day : Int) : Bool := decide (isDay day) && (decide (weekday day < 5) && !(l.contains day))
theorem openB_day {l : List Int} {day : Int} (h : openB l day = true) : isDay day := by
 unfold openB at h
 simp only [Bool.and_eq_true, decide_eq_true_eq] at h
 exact h.1
theorem there_any (n : Int) (w : World) : Calls Try.prog 65 #[.int .i64 n] w fun e w' => e = .returned (.bool (decide (isDay n))) ∧ Drawn0 w w' := business_there.calls n _ w rfl
theorem wk_any (n : Int) (w : World) : Calls Try.prog 105 #[.int .i64 n] w fun e w' => e = .returned (.int .i64 (weekday n)) ∧ Drawn0 w w' := civil_Weekday.calls n _ w rfl
theorem open_any {gb : Nat} {l : List Int} {day : Int} {r : Bool} {w : World} (h : CalAt w gb l) (hr : openB l day = r) : Calls Try.prog 87 #[.pointer (some ⟨gb, 0, none⟩), .int .i64 day] w fun e w' => e = .returned (.bool r) ∧ Drawn0 w w' := by
 have HA := Aside0.mk h
 have HR := Aside0.mk hr
 clear h hr
 by_cases hd : isDay day
 ·by_cases hw : weekday day < 5
  ·have hd1 := decide_eq_true hd
   have hw1 : decide (5 ≤ weekday day) = false := decide_eq_false (by omega)
   have HO := Aside0.mk (show (!(l.contains day)) = r by rw [← HR.out]; unfold openB; rw [hd1, decide_eq_true hw]; rfl)
   clear hd hw HR
   obtain ⟨A, c, c1, c2, c3, c4, c5, c6⟩ := HA.out
   have C2 := Aside0.mk c2
   have C5 := Aside0.mk c5
   have C3 := Aside0.mk c3
   clear c2 c5 c3
   go_enter Try.func87, Try.ntmps87
   go_wp2_with fail
   refine (there_any day _).mono ?_
   rintro e w1 ⟨rfl, ⟨m1, rfl⟩⟩
   go_wp2_with fail
   refine (wk_any day _).mono ?_
   rintro e w2 ⟨rfl, ⟨m2, rfl⟩⟩
   go_wp2_with fail
   refine (search_any A c l day _ (Kd.C_drewN C2.out _) C3.out (by omega) C5.out).mono ?_
   rintro e w3 ⟨⟨i, rfl⟩, ⟨m3, rfl⟩⟩
   go_wp2_with fail
   go_ret
   exact ⟨by rw [← HO.out]; simp, ⟨_, rfl⟩⟩
  ·have hd1 := decide_eq_true hd
   have hw1 : decide (5 ≤ weekday day) = true := decide_eq_true (by omega)
   obtain rfl : r = false := by rw [← HR.out]; unfold openB; rw [hd1, decide_eq_false hw]; rfl
   clear hd hw HR HA
   go_enter Try.func87, Try.ntmps87
   go_wp2_with fail
   refine (there_any day _).mono ?_
   rintro e w1 ⟨rfl, ⟨m1, rfl⟩⟩
   go_wp2_with fail
   refine (wk_any day _).mono ?_
   rintro e w2 ⟨rfl, ⟨m2, rfl⟩⟩
   go_wp2_with fail
   go_ret
   exact ⟨rfl, ⟨_, rfl⟩⟩
 ·have hd1 := decide_eq_false hd
  obtain rfl : r = false := by rw [← HR.out]; unfold openB; rw [hd1]; rfl
  clear hd HR HA
  go_enter Try.func87, Try.ntmps87
  go_wp2_with fail
  refine (there_any day _).mono ?_
  rintro e w1 ⟨rfl, ⟨m1, rfl⟩⟩
  go_wp2_with fail
  go_ret
  exact ⟨rfl, ⟨_, rfl⟩⟩
def seekS (l : List Int) (step : Int) : Nat → Int → Int × Int
 | 0, _ => (0, 5)
 | k + 1, day => if isDay day then (if openB l day = true then (day, 0) else seekS l step k (day + step)) else (0, 5)
set_option maxHeartbeats 1000000 in
theorem seek_any {gb : Nat} {l : List Int} {day step : Int} {r1 r2 : Int} {w : World} (h : CalAt w gb l) (hs : step = 1 ∨ step = -1) (k0 : Nat) (hk : (if step = 1 then 84371 - day else day + 25568) < (k0 : Int)) (b1 : -1000000 ≤ day) (b2 : day ≤ 1000000) (hr : seekS l step k0 day = (r1, r2)) :
  Calls Try.prog 86 #[.func (.func 87) #[.pointer (some ⟨gb, 0, none⟩)] #[], .int .i64 day, .int .i64 step] w fun e w' => e = .returned (.tuple #[.int .i64 r1, .int .i64 r2]) ∧ Drawn0 w w' := by
 have HA := Aside0.mk h
 have HR := Aside0.mk hr
 have HS := Aside0.mk hs
 have HK := Aside0.mk hk
 have hsb : -1 ≤ step ∧ step ≤ 1 := by omega
 clear h hr hs hk
 go_enter Try.func86, Try.ntmps86
 go_wp2
 go_loopg [1] k0 (fun gq i w' => ∃ (x : Int), -1000000 ≤ x ∧ x ≤ 1000000 ∧ i = .int .i64 x ∧ Aside0 (seekS l step gq x = (r1, r2)) ∧ Aside0 ((if step = 1 then 84371 - x else x + 25568) < (gq : Int)) ∧ Drawn0 w w')
 case atStart => exact ⟨day, b1, b2, rfl, HR, HK, Drawn0.refl _⟩
 case round =>
  obtain ⟨x, x1, x2, rfl, hq, hm, ⟨m1, rfl⟩⟩ := hrel
  by_cases hd : isDay x
  ·have hd1 := decide_eq_true hd
   have hp : 0 < gk := by have := hm.out; unfold isDay at hd; split at this <;> omega
   obtain ⟨k, rfl⟩ : ∃ m, gk = m + 1 := ⟨gk - 1, by omega⟩
   have hx1 : -25567 ≤ x := hd.1
   have hx2 : x ≤ 84370 := hd.2
   cases ho : openB l x with
   | true =>
    have HO := Aside0.mk ho
    clear ho
    have e := hq.out
    simp only [seekS] at e
    rw [if_pos hd, if_pos HO.out] at e
    obtain ⟨rfl, rfl⟩ := Prod.mk.inj e
    clear hq hd e
    go_wp2_with fail
    refine (there_any x _).mono ?_
    rintro e w1 ⟨rfl, ⟨m2, rfl⟩⟩
    go_wp2_with fail
    refine (open_any (HA.out.drawn ⟨_, rfl⟩) HO.out).mono ?_
    rintro e w2 ⟨rfl, ⟨m3, rfl⟩⟩
    go_wp2_with fail
    refine (there_any x _).mono ?_
    rintro e w1 ⟨rfl, ⟨m4, rfl⟩⟩
    go_wp2_with fail
    go_ret2
    exact ⟨rfl, ⟨_, rfl⟩⟩
   | false =>
    have HO := Aside0.mk ho
    clear ho
    have HQ := Aside0.mk (show seekS l step k (x + step) = (r1, r2) by have := hq.out; simp only [seekS] at this; rw [if_pos hd, if_neg (by rw [HO.out]; decide)] at this; exact this)
    clear hq hd
    go_wp2_with fail
    refine (there_any x _).mono ?_
    rintro e w1 ⟨rfl, ⟨m2, rfl⟩⟩
    go_wp2_with fail
    refine (open_any (HA.out.drawn ⟨_, rfl⟩) HO.out).mono ?_
    rintro e w2 ⟨rfl, ⟨m3, rfl⟩⟩
    go_wp2_with fail
    go_roundg k
    case measure => omega
    case rel => exact ⟨x + step, by omega, by omega, rfl, HQ, ⟨by have h1 := hm.out; have h2 := HS.out; split at h1 <;> rename_i h3 <;> (first | rw [if_pos h3] | rw [if_neg h3]) <;> omega⟩, ⟨_, rfl⟩⟩
  ·have hd1 := decide_eq_false hd
   have e : ((0 : Int), (5 : Int)) = (r1, r2) := by
    rw [← hq.out]
    cases gk with
    | zero => rfl
    | succ k => simp only [seekS]; rw [if_neg hd]
   obtain ⟨rfl, rfl⟩ := Prod.mk.inj e
   clear hq hd e
   go_wp2_with fail
   refine (there_any x _).mono ?_
   rintro e w1 ⟨rfl, ⟨m2, rfl⟩⟩
   go_wp2_with fail
   refine (there_any x _).mono ?_
   rintro e w1 ⟨rfl, ⟨m4, rfl⟩⟩
   go_wp2_with fail
   go_ret2
   exact ⟨rfl, ⟨_, rfl⟩⟩
end Go.Proofs.Ytcfpkkgdofblfaa.H
/- Contracts by hand: a day rolled. -/
namespace Go.Proofs.Ytcfpkkgdofblfaa.H
open Go.RowKit Go.Proofs.YtcfpkkgdofblfaaW.PrintWords Go.Proofs.YtcfpkkgdofblfaaW.PrintLast Go.Proofs.YtcfpkkgdofblfaaW.PrintMore Go.Proofs.Ytcfpkkgdofblfaa.HW
open Go.Proofs.Ytcfpkkgdofblfaa.Math
set_option linter.unusedVariables false
set_option linter.unusedSimpArgs false
def mon (n : Int) : Int := 12 * (date n).1 + (date n).2.1
theorem month_any (n : Int) (w : World) : Calls Try.prog 88 #[.int .i64 n] w fun e w' => e = .returned (.int .i64 (mon n)) ∧ Below w.heap.size w w' := business_month.calls n _ w rfl
def rollS (l : List Int) (day how : Int) : Int × Int :=
 if ¬ isDay day then (0, 5) else if how < 1 ∨ 4 < how then (0, 1) else if how = 1 then (day, 0) else if how = 4 then seekS l (-1) 200000 day else
  if how = 3 ∧ ((seekS l 1 200000 day).2 ≠ 0 ∨ mon (seekS l 1 200000 day).1 ≠ mon day) then seekS l (-1) 200000 day else seekS l 1 200000 day
theorem seek_up {gb : Nat} {l : List Int} {day : Int} {r1 r2 : Int} {w : World} (h : CalAt w gb l) (hd : isDay day) (hr : seekS l 1 200000 day = (r1, r2)) :
  Calls Try.prog 86 #[.func (.func 87) #[.pointer (some ⟨gb, 0, none⟩)] #[], .int .i64 day, .int .i64 1] w fun e w' => e = .returned (.tuple #[.int .i64 r1, .int .i64 r2]) ∧ Drawn0 w w' := by
 obtain ⟨h1, h2⟩ := hd
 exact seek_any h (Or.inl rfl) 200000 (by rw [if_pos rfl]; omega) (by omega) (by omega) hr
theorem seek_down {gb : Nat} {l : List Int} {day : Int} {r1 r2 : Int} {w : World} (h : CalAt w gb l) (hd : isDay day) (hr : seekS l (-1) 200000 day = (r1, r2)) :
  Calls Try.prog 86 #[.func (.func 87) #[.pointer (some ⟨gb, 0, none⟩)] #[], .int .i64 day, .int .i64 (-1)] w fun e w' => e = .returned (.tuple #[.int .i64 r1, .int .i64 r2]) ∧ Drawn0 w w' := by
 obtain ⟨h1, h2⟩ := hd
 exact seek_any h (Or.inr rfl) 200000 (by rw [if_neg (by decide)]; omega) (by omega) (by omega) hr
set_option maxHeartbeats 1000000 in
theorem roll_any {gb : Nat} {l : List Int} {day how r1 r2 : Int} {w : World} (h : CalAt w gb l) (hr : rollS l day how = (r1, r2)) :
  Calls Try.prog 67 #[.pointer (some ⟨gb, 0, none⟩), .int .i64 day, .int .i64 how] w fun e w' => e = .returned (.tuple #[.int .i64 r1, .int .i64 r2]) ∧ Below w.heap.size w w' := by
 have HA := Aside0.mk h
 have HR := Aside0.mk hr
 clear h hr
 by_cases hd : isDay day
 ·have d1 := decide_eq_true hd
  have HD := Aside0.mk hd
  have e1 := HR.out
  unfold rollS at e1
  rw [if_neg (fun h => h hd)] at e1
  clear hd HR
  by_cases h1 : how < 1 ∨ 4 < how
  ·rw [if_pos h1] at e1
   obtain ⟨rfl, rfl⟩ := Prod.mk.inj e1
   clear e1
   by_cases h2 : how < 1
   ·clear h1
    go_enter Try.func67, Try.ntmps67
    go_wp2_with fail
    refine (there_any day _).mono ?_
    rintro e w1 ⟨rfl, ⟨m2, rfl⟩⟩
    go_wp2_with fail
    go_ret2
    exact ⟨rfl, pw_below_drewN (Below.refl _ _) _⟩
   ·have h3 : 4 < how := by omega
    clear h1
    go_enter Try.func67, Try.ntmps67
    go_wp2_with fail
    refine (there_any day _).mono ?_
    rintro e w1 ⟨rfl, ⟨m2, rfl⟩⟩
    go_wp2_with fail
    go_ret2
    exact ⟨rfl, pw_below_drewN (Below.refl _ _) _⟩
  ·rw [if_neg h1] at e1
   have q1 : 1 ≤ how := by omega
   have q2 : how ≤ 4 := by omega
   clear h1
   by_cases h2 : how = 1
   ·subst h2
    rw [if_pos rfl] at e1
    obtain ⟨rfl, rfl⟩ := Prod.mk.inj e1
    clear e1
    go_enter Try.func67, Try.ntmps67
    go_wp2_with fail
    refine (there_any day _).mono ?_
    rintro e w1 ⟨rfl, ⟨m2, rfl⟩⟩
    go_wp2_with fail
    go_ret2
    exact ⟨rfl, pw_below_drewN (Below.refl _ _) _⟩
   ·rw [if_neg h2] at e1
    by_cases h3 : how = 4
    ·subst h3
     rw [if_pos rfl] at e1
     have E1 := Aside0.mk e1
     clear e1 h2
     go_enter Try.func67, Try.ntmps67
     go_wp2_with fail
     refine (there_any day _).mono ?_
     rintro e w1 ⟨rfl, ⟨m2, rfl⟩⟩
     go_wp2_with fail
     refine (seek_down (HA.out.drawn ⟨_, rfl⟩) HD.out E1.out).mono ?_
     rintro e w1 ⟨rfl, ⟨m3, rfl⟩⟩
     go_wp2_with fail
     go_ret2
     exact ⟨rfl, pw_below_drewN (Below.refl _ _) _⟩
    ·rw [if_neg h3] at e1
     obtain ⟨n1, n2, hn⟩ : ∃ n1 n2, seekS l 1 200000 day = (n1, n2) := ⟨_, _, rfl⟩
     rw [hn] at e1
     have HN := Aside0.mk hn
     clear hn
     by_cases h4 : how = 3
     ·subst h4
      by_cases h5 : n2 = 0
      ·subst h5
       obtain ⟨ma, hma⟩ : ∃ x, mon n1 = x := ⟨_, rfl⟩
       obtain ⟨mb, hmb⟩ : ∃ x, mon day = x := ⟨_, rfl⟩
       rw [hma, hmb] at e1
       have MA := Aside0.mk hma
       have MB := Aside0.mk hmb
       clear hma hmb h2 h3
       by_cases h6 : ma = mb
       ·rw [if_neg (by intro h; rcases h.2 with h | h; exact h rfl; exact h h6)] at e1
        obtain ⟨rfl, rfl⟩ := Prod.mk.inj e1
        subst h6
        clear e1
        go_enter Try.func67, Try.ntmps67
        go_wp2_with fail
        refine (there_any day _).mono ?_
        rintro e w1 ⟨rfl, ⟨m2, rfl⟩⟩
        go_wp2_with fail
        refine (seek_up (HA.out.drawn ⟨_, rfl⟩) HD.out HN.out).mono ?_
        rintro e w1 ⟨rfl, ⟨m3, rfl⟩⟩
        go_wp2_with fail
        refine (month_any n1 _).mono ?_
        rw [MA.out]
        rintro e w1 ⟨rfl, hb1⟩
        have B1 := Aside0.mk (below_step (pw_below_drewN (Below.refl w.heap.size w) _) hb1)
        clear hb1
        go_wp2_with fail
        refine (month_any day _).mono ?_
        rw [MB.out]
        rintro e w2 ⟨rfl, hb2⟩
        have B2 := Aside0.mk (below_step B1.out hb2)
        clear hb2
        go_wp2_with fail
        go_ret2
        exact ⟨rfl, B2.out⟩
       ·rw [if_pos ⟨rfl, Or.inr h6⟩] at e1
        have E1 := Aside0.mk e1
        clear e1
        go_enter Try.func67, Try.ntmps67
        go_wp2_with fail
        refine (there_any day _).mono ?_
        rintro e w1 ⟨rfl, ⟨m2, rfl⟩⟩
        go_wp2_with fail
        refine (seek_up (HA.out.drawn ⟨_, rfl⟩) HD.out HN.out).mono ?_
        rintro e w1 ⟨rfl, ⟨m3, rfl⟩⟩
        go_wp2_with fail
        refine (month_any n1 _).mono ?_
        rw [MA.out]
        rintro e w1 ⟨rfl, hb1⟩
        have B1 := Aside0.mk (below_step (pw_below_drewN (Below.refl w.heap.size w) _) hb1)
        clear hb1
        go_wp2_with fail
        refine (month_any day _).mono ?_
        rw [MB.out]
        rintro e w2 ⟨rfl, hb2⟩
        have B2 := Aside0.mk (below_step B1.out hb2)
        clear hb2
        go_wp2_with fail
        refine (seek_down (HA.out.below B2.out) HD.out E1.out).mono ?_
        rintro e w3 ⟨rfl, ⟨m4, rfl⟩⟩
        go_wp2_with fail
        go_ret2
        exact ⟨rfl, pw_below_drewN B2.out _⟩
      ·rw [if_pos ⟨rfl, Or.inl h5⟩] at e1
       have E1 := Aside0.mk e1
       have h5b : (n2 != 0) = true := by simpa using h5
       clear e1 h2 h3 h5
       go_enter Try.func67, Try.ntmps67
       go_wp2_with fail
       refine (there_any day _).mono ?_
       rintro e w1 ⟨rfl, ⟨m2, rfl⟩⟩
       go_wp2_with fail
       refine (seek_up (HA.out.drawn ⟨_, rfl⟩) HD.out HN.out).mono ?_
       rintro e w1 ⟨rfl, ⟨m3, rfl⟩⟩
       go_wp2_with fail
       refine (seek_down (HA.out.drawn ⟨_, rfl⟩) HD.out E1.out).mono ?_
       rintro e w3 ⟨rfl, ⟨m4, rfl⟩⟩
       go_wp2_with fail
       go_ret2
       exact ⟨rfl, pw_below_drewN (Below.refl _ _) _⟩
     ·rw [if_neg (fun h => h4 h.1)] at e1
      obtain ⟨rfl, rfl⟩ := Prod.mk.inj e1
      obtain rfl : how = 2 := by omega
      clear e1 h2 h3 h4
      go_enter Try.func67, Try.ntmps67
      go_wp2_with fail
      refine (there_any day _).mono ?_
      rintro e w1 ⟨rfl, ⟨m2, rfl⟩⟩
      go_wp2_with fail
      refine (seek_up (HA.out.drawn ⟨_, rfl⟩) HD.out HN.out).mono ?_
      rintro e w1 ⟨rfl, ⟨m3, rfl⟩⟩
      go_wp2_with fail
      go_ret2
      exact ⟨rfl, pw_below_drewN (Below.refl _ _) _⟩
 ·have d1 := decide_eq_false hd
  have e1 := HR.out
  unfold rollS at e1
  rw [if_pos hd] at e1
  obtain ⟨rfl, rfl⟩ := Prod.mk.inj e1
  clear hd HR e1
  go_enter Try.func67, Try.ntmps67
  go_wp2_with fail
  refine (there_any day _).mono ?_
  rintro e w1 ⟨rfl, ⟨m2, rfl⟩⟩
  go_wp2_with fail
  go_ret2
  exact ⟨rfl, pw_below_drewN (Below.refl _ _) _⟩
end Go.Proofs.Ytcfpkkgdofblfaa.H
/- Contracts by hand: a list of numbers cloned; a calendar made. -/
namespace Go.Proofs.Ytcfpkkgdofblfaa.H
open Go.RowKit Go.Proofs.YtcfpkkgdofblfaaW.PrintWords Go.Proofs.YtcfpkkgdofblfaaW.PrintLast Go.Proofs.YtcfpkkgdofblfaaW.PrintMore Go.Proofs.Ytcfpkkgdofblfaa.HW
open Go.Proofs.Ytcfpkkgdofblfaa.Math
set_option linter.unusedVariables false
set_option linter.unusedSimpArgs false
theorem info_int : (Try.prog.info? 3).map (fun i => (i.zero, i.size, i.bytes)) = some (some (.int .i64 0), 1, 8) := by kernel_rfl
def Cloned (l : List Int) (w : World) (e : Ending) (w' : World) : Prop := ∃ A c, e = .returned (.slice A l.length c) ∧ Kd.C (Kd.int .i64) w' A l.length l ∧ l.length ≤ c ∧ Below w.heap.size w w' ∧ (∀ ad, A = some ad → w.heap.size ≤ ad.block)
theorem clone_nil (w : World) : Calls Try.prog 66 #[.slice none 0 0] w (Cloned [] w) := by
 have hnil := fun (w : World) => Lib.run_eql_slice_nil (P := Try.prog) w 25 3 none 0 0 0 0 Try.underlying25
 go_enter Try.func66, Try.ntmps66
 go_wp2_with fail
 go_ret
 exact ⟨none, 0, rfl, ⟨rfl, by simp, fun h => absurd h (Nat.lt_irrefl 0)⟩, Nat.le_refl _, Below.refl _ _, fun ad h => by cases h⟩
theorem clone_some (ad : Addr) (c0 : Nat) (l : List Int) (w : World) (hr0 : Kd.C (Kd.int .i64) w (some ad) l.length l) (hc0 : l.length ≤ c0) (hm : l.length ≤ 1000000) : Calls Try.prog 66 #[.slice (some ad) l.length c0] w (Cloned l w) := by
 have HN : ∀ j u, (nums .i64 l)[j]? = some u → (w.alloc (.cells #[] 3)).cell? (ad.add j) = some u := by
  intro j u hu
  have hj : j < l.length := by
   rcases Nat.lt_or_ge j l.length with h | h
   ·exact h
   ·rw [List.getElem?_eq_none (by rw [nums_length]; exact h)] at hu; cases hu
  obtain ⟨ad', e, hc⟩ := Kd.at_int (Kd.C_below hr0 ((Below.refl w.heap.size w).alloc (Nat.le_refl _) (.cells #[] 3))) (j : Int) (by omega) (by omega)
  obtain rfl : ad = ad' := Option.some.inj e
  rw [Int.toNat_natCast] at hc
  rw [hc, ← hu, rd_nat l j hj]
  simp [nums, hj]
 have HNN := Aside0.mk HN
 clear hr0 HN
 have hown : (w.alloc (.cells #[] 3)).ownsRow w.heap.size 3 1 (.slice (some ⟨w.heap.size, 0, none⟩) 0 0) 0 [] :=
  ⟨rfl, Or.inr ⟨w.heap.size, 0, #[], rfl, Nat.le_refl _, heap_alloc_new w _, Nat.le_refl _, Nat.zero_le _, rfl, rfl⟩⟩
 have HO := Aside0.mk hown
 clear hown
 obtain ⟨i0, hi, hz0, hz1, hz2⟩ := info_parts info_int
 have hnil := fun (w : World) => Lib.run_eql_slice_nil (P := Try.prog) w 25 3 (some ad) l.length c0 0 0 Try.underlying25
 go_enter Try.func66, Try.ntmps66
 go_wp2_with ((at_builtin; refine wpList_append_own _ rfl _ _ 25 rfl w.heap.size 3 i0 (.int .i64 0) 1 8 Try.underlying25 hi hz0 hz1 hz2 rfl (by decide) _ 0 [] rfl HO.out ad l.length c0 (nums .i64 l) rfl (by simp [nums]) HNN.out (by intro u hu; simp [nums] at hu; obtain ⟨a, _, rfl⟩ := hu; rfl) (by unfold maxLen; omega) (by omega) (by simp) ?_); intro v' w1 hown1 hgrow _)
 have hown2 : w1.ownsRow w.heap.size 3 1 v' l.length (encs (Value.int .i64) l) := by simpa [nums, encs] using hown1
 obtain ⟨A, c, rfl, hle, hr⟩ := own_reads_of_le (d := (0 : Int)) hown2
 have hb : Below w.heap.size w w1 := ((Below.refl w.heap.size w).alloc (Nat.le_refl _) (.cells #[] 3)).grown hgrow (by simp) (fun k hk => by cases hk; exact Nat.le_refl _)
 have hbs : ∀ ad, A = some ad → w.heap.size ≤ ad.block := fun ad e => own_base hown2 _ (by rw [e]; rfl)
 have HBS := Aside0.mk hbs
 clear hbs
 have HB := Aside0.mk hb
 have HC := Aside0.mk (show Kd.C (Kd.int .i64) w1 A l.length l from Kd.C_of_reads hr)
 clear hown1 hown2 hgrow hr hb
 go_wp2
 go_ret
 exact ⟨A, c, rfl, HC.out, hle, HB.out, HBS.out⟩
theorem clone_any (A0 : Option Addr) (c0 : Nat) (l : List Int) (w : World) (hr0 : Kd.C (Kd.int .i64) w A0 l.length l) (hc0 : l.length ≤ c0) (hn : A0 = none → c0 = 0) (hm : l.length ≤ 1000000) : Calls Try.prog 66 #[.slice A0 l.length c0] w (Cloned l w) := by
 cases A0 with
 | some ad => exact clone_some ad c0 l w hr0 hc0 hm
 | none =>
  obtain rfl := hn rfl
  obtain rfl : l = [] := List.eq_nil_of_length_eq_zero (by omega)
  exact clone_nil w
theorem new_many (A0 : Option Addr) (c0 : Nat) (l : List Int) (w : World) (h200 : 200 < l.length) (hm : l.length ≤ 1000000) :
  Calls Try.prog 34 #[.slice A0 l.length c0] w fun e w' => e = .returned (.tuple #[.pointer none, .int .i64 1]) ∧ Drawn0 w w' := by
 go_enter Try.func34, Try.ntmps34
 go_wp2_with fail
 go_ret2
 exact ⟨rfl, Drawn0.refl _⟩
def CalIn (B : Nat) (w : World) (gb : Nat) (l : List Int) : Prop := ∃ A c, w.cell? ⟨gb, 0, none⟩ = some (.slice A l.length c) ∧ Kd.C (Kd.int .i64) w A l.length l ∧ l.length ≤ c ∧ l.length ≤ 200 ∧ l.Pairwise (· < ·) ∧ gb < w.heap.size ∧ (∀ ad, A = some ad → B ≤ ad.block)
theorem CalIn.at {B : Nat} {w : World} {gb : Nat} {l : List Int} (h : CalIn B w gb l) : CalAt w gb l := by
 obtain ⟨A, c, h1, h2, h3, h4, h5, h6, _⟩ := h
 exact ⟨A, c, h1, h2, h3, h4, h5, h6⟩
def Made2 (l : List Int) (b : Bool) (w : World) (e : Ending) (w' : World) : Prop := Below w.heap.size w w' ∧ (b = false → e = .returned (.tuple #[.pointer none, .int .i64 1])) ∧ (b = true → ∃ gb, w.heap.size ≤ gb ∧ e = .returned (.tuple #[.pointer (some ⟨gb, 0, none⟩), .int .i64 0]) ∧ CalIn w.heap.size w' gb l)
set_option maxHeartbeats 1000000 in
theorem new_few2 (A0 : Option Addr) (c0 : Nat) (l : List Int) (b : Bool) (w : World) (hr0 : Kd.C (Kd.int .i64) w A0 l.length l) (hc0 : l.length ≤ c0) (hn : A0 = none → c0 = 0) (hm : l.length ≤ 200) (hb : rises (-25568) l = b) :
  Calls Try.prog 34 #[.slice A0 l.length c0] w (Made2 l b w) := by
 have HR0 := Aside0.mk hr0
 have HB := Aside0.mk hb
 have HN := Aside0.mk hn
 clear hr0 hb hn
 go_enter Try.func34, Try.ntmps34
 go_wp2_with fail
 go_loopg [11] (l.length + 1) (fun gq i w' => ∃ (k : Nat) (p : Int), k ≤ l.length ∧ i = .int .i64 k ∧ Aside0 (gq = l.length + 1 - k) ∧ Aside0 (k = 0 ∧ p = -25568 ∨ 0 < k ∧ p = rd l ((k : Int) - 1)) ∧ Aside0 (rises p (l.drop k) = b) ∧ Drawn0 w w')
 case atStart => exact ⟨0, -25568, Nat.zero_le _, rfl, ⟨rfl⟩, ⟨Or.inl ⟨rfl, rfl⟩⟩, ⟨by rw [← HB.out]; rfl⟩, Drawn0.refl _⟩
 case round =>
  obtain ⟨k, p, hk, rfl, hg, hp, hq, ⟨m1, rfl⟩⟩ := hrel
  by_cases hlt : k < l.length
  ·obtain ⟨ad, e0, hx0⟩ := Kd.at_int HR0.out (k : Int) (by omega) (by omega)
   subst e0
   rw [Int.toNat_natCast] at hx0
   have hrc := hq.out
   rw [rd_cons l k hlt] at hrc
   simp only [rises] at hrc
   have HX : Aside0 (∀ j : Nat, j < l.length → w.cell? (ad.add j) = some (.int .i64 (rd l (j : Int)))) := ⟨fun j hj => by
    obtain ⟨ad', e', hx'⟩ := Kd.at_int HR0.out (j : Int) (by omega) (by omega)
    obtain rfl : ad = ad' := Option.some.inj e'
    rw [Int.toNat_natCast] at hx'
    exact hx'⟩
   by_cases hd : isDay (rd l (k : Int))
   ·have d1 := decide_eq_true hd
    rw [d1, Bool.true_and] at hrc
    rcases (by omega : k = 0 ∨ 0 < k) with h0 | h0
    ·have hp0 : p = -25568 := by rcases hp.out with h | h <;> omega
     have hlt2 : decide (p < rd l (k : Int)) = true := decide_eq_true (by have := hd.1; omega)
     rw [hlt2, Bool.true_and] at hrc
     have HQ := Aside0.mk hrc
     have g1 : (k : Int) ≤ 0 := by omega
     clear hrc hq hd hlt2 hp0 hp h0
     go_wp2_with fail
     refine (there_any _ _).mono ?_
     rintro e w1 ⟨rfl, ⟨m2, rfl⟩⟩
     go_wp2_with fail
     go_roundg (l.length + 1 - (k + 1))
     case measure => have := hg.out; omega
     case rel => exact ⟨k + 1, rd l (k : Int), by omega, by simp, ⟨rfl⟩, ⟨Or.inr ⟨by omega, by congr 1; omega⟩⟩, HQ, ⟨_, rfl⟩⟩
    ·have hx1 := HX.out (k - 1) (by omega)
     have hp1 : p = rd l (((k - 1 : Nat) : Int)) := by
      rcases hp.out with h | h
      ·omega
      ·rw [h.2]; congr 1; omega
     have g1 : (0 : Int) ≤ (k : Int) - 1 := by omega
     by_cases hlt2 : p < rd l (k : Int)
     ·rw [decide_eq_true hlt2, Bool.true_and] at hrc
      have HQ := Aside0.mk hrc
      have hle2 : decide (rd l (k : Int) ≤ rd l (((k - 1 : Nat) : Int))) = false := decide_eq_false (by omega)
      clear hrc hq hd hlt2 hp1 hp
      go_wp2_with fail
      refine (there_any _ _).mono ?_
      rintro e w1 ⟨rfl, ⟨m2, rfl⟩⟩
      go_wp2_with fail
      go_roundg (l.length + 1 - (k + 1))
      case measure => have := hg.out; omega
      case rel => exact ⟨k + 1, rd l (k : Int), by omega, by simp, ⟨rfl⟩, ⟨Or.inr ⟨by omega, by congr 1; omega⟩⟩, HQ, ⟨_, rfl⟩⟩
     ·rw [decide_eq_false hlt2, Bool.false_and] at hrc
      subst hrc
      have hle2 : decide (rd l (k : Int) ≤ rd l (((k - 1 : Nat) : Int))) = true := decide_eq_true (by omega)
      clear hq hd hlt2 hp1 hp
      go_wp2_with fail
      refine (there_any _ _).mono ?_
      rintro e w1 ⟨rfl, ⟨m2, rfl⟩⟩
      go_wp2_with fail
      go_ret2
      exact ⟨pw_below_drewN (Below.refl _ _) _, fun _ => rfl, fun h => by cases h⟩
   ·have d1 := decide_eq_false hd
    rw [d1, Bool.false_and] at hrc
    subst hrc
    clear hd hq
    go_wp2_with fail
    refine (there_any _ _).mono ?_
    rintro e w1 ⟨rfl, ⟨m2, rfl⟩⟩
    go_wp2_with fail
    go_ret2
    exact ⟨pw_below_drewN (Below.refl _ _) _, fun _ => rfl, fun h => by cases h⟩
  ·have hk2 : k = l.length := by omega
   subst hk2
   have hrc := hq.out
   rw [List.drop_length] at hrc
   obtain rfl : b = true := by rw [← hrc]; rfl
   clear hq
   go_wp2_with fail
   refine (clone_any A0 c0 l _ (Kd.C_drewN HR0.out _) hc0 HN.out (by omega)).mono ?_
   rintro e w1 ⟨A, c, rfl, hc1, hle, hbl, hbs⟩
   have HBS := Aside0.mk hbs
   clear hbs
   have HC1 := Aside0.mk hc1
   have HBL := Aside0.mk hbl
   clear hc1 hbl
   have hBsz := HBL.out.size
   have hgb : (w1.alloc (.cells #[.slice A l.length c] 94)).cell? ⟨w1.heap.size, 0, none⟩ = some (.slice A l.length c) := by simp [go_sem]
   have HCA := Aside0.mk (show CalIn w.heap.size (w1.alloc (.cells #[.slice A l.length c] 94)) w1.heap.size l from ⟨A, c, hgb, Kd.C_below HC1.out ((Below.refl _ _).alloc (Nat.le_refl _) _), hle, hm, rises_pair l _ HB.out, by simp, by have := HBS.out; simpa using this⟩)
   have HBB := Aside0.mk ((pw_below_drewN (Below.refl w.heap.size w) (m1)).trans (HBL.out.mono (by simp)))
   clear hgb
   go_wp2_with fail
   go_ret2
   exact ⟨HBB.out.alloc HBB.out.size _, (fun h => by cases h), fun _ => ⟨w1.heap.size, HBB.out.size, rfl, HCA.out⟩⟩
end Go.Proofs.Ytcfpkkgdofblfaa.H
/- Plain law: which day is found, a step at a time. -/
namespace Go.Proofs.Ytcfpkkgdofblfaa.H
open Go.RowKit Go.Proofs.YtcfpkkgdofblfaaW.PrintWords Go.Proofs.YtcfpkkgdofblfaaW.PrintLast Go.Proofs.YtcfpkkgdofblfaaW.PrintMore Go.Proofs.Ytcfpkkgdofblfaa.HW
open Go.Proofs.Ytcfpkkgdofblfaa.Math
set_option linter.unusedVariables false
set_option linter.unusedSimpArgs false
theorem seekS_succ (l : List Int) (step : Int) (k : Nat) (day : Int) : seekS l step (k + 1) day = if isDay day then (if openB l day = true then (day, 0) else seekS l step k (day + step)) else (0, 5) := rfl
theorem seek_self {l : List Int} {x step : Int} (h : openB l x = true) : seekS l step 200000 x = (x, 0) := by
 rw [show (200000 : Nat) = 199999 + 1 from rfl, seekS_succ, if_pos (openB_day h), if_pos h]
/-! ### Some days, that rise -/
def Some (lo hi : Int) (s : List Int) : Prop := s.Pairwise (· < ·) ∧ ∀ x ∈ s, lo ≤ x ∧ x ≤ hi
theorem Some.nil (lo hi : Int) : Some lo hi [] := ⟨List.Pairwise.nil, by simp⟩
theorem Some.snoc {lo hi x : Int} {s : List Int} (h : Some lo hi s) (h1 : lo ≤ x) (h2 : x ≤ hi) (h3 : s = [] ∨ rd s ((s.length : Int) - 1) < x) : Some lo hi (s ++ [x]) := by
 obtain ⟨p, a⟩ := h
 refine ⟨List.pairwise_append.2 ⟨p, List.pairwise_singleton _ _, fun y hy z hz => ?_⟩, fun y hy => ?_⟩
 ·obtain rfl : z = x := by simpa using hz
  rcases h3 with rfl | h3
  ·simp at hy
  ·obtain ⟨j, hj, e⟩ := List.getElem_of_mem hy
   rw [← rd_nat s j hj] at e
   have hl : ((s.length : Int) - 1) = ((s.length - 1 : Nat) : Int) := by omega
   rw [hl] at h3
   rcases (by omega : j < s.length - 1 ∨ j = s.length - 1) with h | h
   ·have := rises_lt p h (by omega)
    omega
   ·rw [h] at e; omega
 ·rcases List.mem_append.1 hy with h | h
  ·exact a y h
  ·obtain rfl : y = x := by simpa using h
   exact ⟨h1, h2⟩
theorem Some.right {lo hi : Int} {s : List Int} (h : Some lo hi s) (h1 : isDay lo) (h2 : isDay hi) (hl : s.length ≤ 200) : rightB s = true := by
 unfold rightB
 rw [decide_eq_true hl, Bool.and_true]
 exact rises_of _ (fun x hx => by obtain ⟨a, b⟩ := h.2 x hx; have := h1.1; have := h2.2; exact ⟨⟨by omega, by omega⟩, by omega⟩) h.1
end Go.Proofs.Ytcfpkkgdofblfaa.H
namespace Go.Proofs.Ytcfpkkgdofblfaa.PBU
open Go.RowKit Go.Proofs.YtcfpkkgdofblfaaW.PrintWords Go.Proofs.YtcfpkkgdofblfaaW.PrintLast Go.Proofs.YtcfpkkgdofblfaaW.PrintMore Go.Proofs.Ytcfpkkgdofblfaa.HW
attribute [local go_sem] run_makeFunc_ max2_int min2_int max_two min_two max_three min_three max_four min_four   -- for this text's walks alone
set_option linter.unusedVariables false
set_option linter.unusedSimpArgs false
def errW : Option Int → Value
 | none => .nilIface
 | some c => .iface 0 (.int .i64 c)
theorem errW_none : errW none = .nilIface := rfl
theorem errW_some (c : Int) : errW (some c) = .iface 0 (.int .i64 c) := rfl
end Go.Proofs.Ytcfpkkgdofblfaa.PBU
