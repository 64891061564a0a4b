/- Arguments opened: a product. -/
import Derived.Test.YtcbebbiedegjlaaPv
import Derived.Test.YtcbebbiedegjlaaProg
import Derived.OpenShut
import Derived.ShutString
import Derived.ChangeOld
import Derived.Laws.IdiomArrays
namespace Go.Proofs.Ytcbebbiedegjlaa.Pd
open Go.ChangeShapes Go.WideShapes Go.Deep Go.RowKit Go.Joins Go.ChangeAt Go.Proofs.YtcbebbiedegjlaaW.PrintWords Go.Proofs.Ytcbebbiedegjlaa.Op
open Pm
set_option linter.unusedVariables false
set_option linter.unusedSimpArgs false
set_option linter.constructorNameAsVariable false
section
variable {H : Type} {enc : TypeId × Value → H} {P : Program} {w : World} {base : Nat} {spare : Nat → Bool} {held : Bool}
theorem open_rowsC {t e : TypeId} {fs : Array Field} {fuel : Nat} {x : Value} {y : DataW H × List MemPlace} (ht : P.underlying t = some (.slice e)) (he : P.underlying e = some (.struct fs))
    (hone : oneCellFields P fs = true) (hC : P.cellsOf e = fs.size) (hint : ∀ (j : Nat) (f : Field), fs[j]? = some f → P.underlying f.type = some (.int .i64)) (h : DataW.trod enc P w base spare held fuel t [x] = some y) :
    ∃ (A : Option Addr) (cap : Nat) (rows : List (List Int)), x = .slice A rows.length cap ∧ (A = none → cap = 0) ∧ rows.length ≤ cap ∧ cap ≤ maxLen ∧ IntRows w A fs.size rows := by
  have hx : ∃ A0 n0 c0, x = .slice A0 n0 c0 := by
    rcases open_slice ht h with ⟨h0, _⟩ | ⟨a, len, cap, m, n, D, Pl, h0, _⟩
    · simp at h0; exact ⟨_, _, _, h0⟩
    · simp at h0; exact ⟨_, _, _, h0⟩
  obtain ⟨A0, n0, c0, rfl⟩ := hx
  have hf : DataW.trod enc P w base spare held fuel t (Value.slice A0 n0 c0).cells.toList = some y := h
  rcases open_slice ht hf with ⟨h0, _⟩ | ⟨a, len, cap, m, n, D, Pl, hcs, hb, hl, hm, hmm, hx, hi⟩
  · simp [Value.cells] at h0
    obtain ⟨rfl, rfl, rfl⟩ := h0
    exact ⟨none, 0, [], rfl, fun _ => rfl, Nat.le_refl _, Nat.zero_le _, fun r hr => by simp at hr, fun i r h => by simp at h⟩
  · simp [Value.cells] at hcs
    obtain ⟨rfl, rfl, rfl⟩ := hcs
    have hlm : n0 ≤ m := by rw [hmm]; split <;> omega
    obtain ⟨rows, hrl, hrows⟩ := list_of (P := fun i (r : List Int) => (r.length = fs.size ∧ ∀ x ∈ r, (Lit.int .i64 x).wf = true) ∧ ∀ (j : Nat) (x : Int), r[j]? = some x → w.cell? (a.add (i * fs.size + j)) = some (.int .i64 x)) n0 (fun i hin => by
      obtain ⟨cs', hc, ht'⟩ := hi i (by omega)
      rw [hC] at hc
      obtain ⟨ys, n', hn', hy, hlen, hyl, hfl⟩ := DataW.trod_struct he ht'
      obtain ⟨_, hcl, hat⟩ := World.cells?_some hc
      obtain ⟨r, hr1, hr2⟩ := list_of (P := fun j (x : Int) => w.cell? (a.add (i * fs.size + j)) = some (.int .i64 x) ∧ (Lit.int .i64 x).wf = true) fs.size (fun j hj => by
        obtain ⟨f, hfj⟩ : ∃ f, fs[j]? = some f := ⟨_, Array.getElem?_eq_getElem hj⟩
        obtain ⟨ho, hk⟩ := hone_of' hone j f hfj
        have h1 := hfl j f hfj
        rw [ho, hk] at h1
        have hone' : (cs'.drop j).take 1 = [cs'[j]'(by omega)] := by
          rw [List.drop_eq_getElem_cons (by omega)]
          rfl
        rw [hone'] at h1
        have hys : ys[j]? = some (ys[j]'(by omega)) := List.getElem?_eq_getElem (by omega)
        rw [hys] at h1
        obtain ⟨x, hx1, _, hx3⟩ := DataW.trod_int (hint j f hfj) h1
        simp at hx1
        refine ⟨x, ?_, hx3⟩
        rw [← Go.Deep.add_add, hat j hj, List.getElem?_eq_getElem (by omega), hx1])
      exact ⟨r, ⟨hr1, fun x hx => by
        obtain ⟨j, hj, rfl⟩ := List.getElem_of_mem hx
        exact (hr2 j _ (List.getElem?_eq_getElem hj)).2⟩, fun j x hj => (hr2 j x hj).1⟩)
    subst hrl
    refine ⟨some a, c0, rows, rfl, (fun h => by cases h), hl, hm, fun r hr => ?_, fun i r hi => ⟨a, rfl, (hrows i r hi).2⟩⟩
    obtain ⟨i, hi2, rfl⟩ := List.getElem_of_mem hr
    exact (hrows i _ (List.getElem?_eq_getElem hi2)).1
theorem open_intsC {t e : TypeId} {fuel : Nat} {x : Value} {y : DataW H × List MemPlace} (ht : P.underlying t = some (.slice e)) (he : P.underlying e = some (.int .i64)) (hc : P.cellsOf e = 1) (h : DataW.trod enc P w base (fun _ => true) held fuel t [x] = some y) :
    ∃ (A : Option Addr) (cap : Nat) (l : List Int), x = .slice A l.length cap ∧ (A = none → cap = 0) ∧ l.length ≤ cap ∧ cap ≤ maxLen ∧ Kd.C (Kd.int .i64) w A l.length l := by
  rcases open_ints ht he hc h with ⟨hcs, _⟩ | ⟨a, len, cap, zs, hcs, _, hl, hm, hz, _, hcell, hwz⟩
  · simp at hcs
    exact ⟨none, 0, [], hcs, fun _ => rfl, Nat.le_refl _, Nat.zero_le _, Kd.C_nil _ w⟩
  · simp at hcs
    have hz' : zs.length = cap := by simpa using hz
    have hlen : (zs.take len).length = len := by rw [List.length_take]; omega
    refine ⟨some a, cap, zs.take len, by rw [hlen]; exact hcs, (fun h => by cases h), by omega, hm, ?_⟩
    refine Kd.C_of_reads (d := (0 : Int)) ⟨rfl, by unfold maxLen at hm; omega, fun _ => ⟨a, rfl, fun j hj => ?_⟩⟩
    rw [hlen] at hj
    rw [hcell j (by omega)]
    congr 2
    rw [List.getD_eq_getElem?_getD, List.getD_eq_getElem?_getD, List.getElem?_take]
    simp [hj]
theorem arr19 {cs : Array Value} (h : cs.size = 19) : ∃ v0 v1 v2 v3 v4 v5 v6 v7 v8 v9 v10 v11 v12 v13 v14 v15 v16 v17 v18, cs = #[v0, v1, v2, v3, v4, v5, v6, v7, v8, v9, v10, v11, v12, v13, v14, v15, v16, v17, v18] := by
  obtain ⟨l⟩ := cs
  match l, h with
  | [v0, v1, v2, v3, v4, v5, v6, v7, v8, v9, v10, v11, v12, v13, v14, v15, v16, v17, v18], _ => exact ⟨v0, v1, v2, v3, v4, v5, v6, v7, v8, v9, v10, v11, v12, v13, v14, v15, v16, v17, v18, rfl⟩
end
theorem cells_prod : Try.prog.cellsOf 27 = 19 := by kernel_rfl
theorem cells_string : Try.prog.cellsOf 9 = 1 := by kernel_rfl
theorem cells_int : Try.prog.cellsOf 3 = 1 := by kernel_rfl
theorem cells_int64 : Try.prog.cellsOf 2 = 1 := by kernel_rfl
theorem cells_resets : Try.prog.cellsOf 22 = 1 := by kernel_rfl
theorem cells_tiers : Try.prog.cellsOf 24 = 1 := by kernel_rfl
theorem cells_ints : Try.prog.cellsOf 25 = 1 := by kernel_rfl
theorem cells_four : Try.prog.cellsOf 23 = 4 := by kernel_rfl
set_option maxRecDepth 100000 in
/-- A product that comes in. -/
theorem open_prod {H : Type} {enc : TypeId × Value → H} {w : World} {base b0 : Nat} {held : Bool} {r : Reach} {v : Value} {d : DataW H} {q : List MemPlace} (hv : Value.okWide Try.prog w r b0 27 v) (h : DataW.Trod enc Try.prog w base (fun _ => true) held 27 v d q) :
    ∃ (p : Prod) (A1 : Option Addr) (c1 : Nat) (A2 : Option Addr) (c2 : Nat) (A3 : Option Addr) (c3 : Nat), v = pv p A1 c1 A2 c2 A3 c3 ∧ ProdAt w p A1 c1 A2 c2 A3 c3 ∧ p.name.size ≤ maxLen ∧ c1 ≤ maxLen ∧ c2 ≤ maxLen ∧ c3 ≤ maxLen := by
  obtain ⟨cs, rfl, hsz⟩ := okWide_struct Try.underlying27 hv
  obtain ⟨v0, v1, v2, v3, v4, v5, v6, v7, v8, v9, v10, v11, v12, v13, v14, v15, v16, v17, v18, rfl⟩ := arr19 (hsz.trans cells_prod)
  obtain ⟨fuel, hf⟩ := h
  obtain ⟨xs, n, _, hx, hl, hlen, hfl⟩ := DataW.trod_struct Try.underlying27 hf
  have hy : ∀ i, i < 16 → ∃ y, xs[i]? = some y := fun i hi => ⟨_, List.getElem?_eq_getElem (by rw [hlen]; exact hi)⟩
  obtain ⟨y0, e0⟩ := hy 0 (by decide)
  have g0 : DataW.trod enc Try.prog w base (fun _ => true) held n 9 ([v0, v1, v2, v3, v4, v5, v6, v7, v8, v9, v10, v11, v12, v13, v14, v15, v16, v17, v18].drop 0 |>.take (Try.prog.cellsOf 9)) = some y0 := (hfl 0 _ rfl).trans e0
  rw [cells_string] at g0
  have k0 : DataW.trod enc Try.prog w base (fun _ => true) held n 9 [v0] = some y0 := g0
  obtain ⟨y1, e1⟩ := hy 1 (by decide)
  have g1 : DataW.trod enc Try.prog w base (fun _ => true) held n 3 ([v0, v1, v2, v3, v4, v5, v6, v7, v8, v9, v10, v11, v12, v13, v14, v15, v16, v17, v18].drop 1 |>.take (Try.prog.cellsOf 3)) = some y1 := (hfl 1 _ rfl).trans e1
  rw [cells_int] at g1
  have k1 : DataW.trod enc Try.prog w base (fun _ => true) held n 3 [v1] = some y1 := g1
  obtain ⟨y2, e2⟩ := hy 2 (by decide)
  have g2 : DataW.trod enc Try.prog w base (fun _ => true) held n 3 ([v0, v1, v2, v3, v4, v5, v6, v7, v8, v9, v10, v11, v12, v13, v14, v15, v16, v17, v18].drop 2 |>.take (Try.prog.cellsOf 3)) = some y2 := (hfl 2 _ rfl).trans e2
  rw [cells_int] at g2
  have k2 : DataW.trod enc Try.prog w base (fun _ => true) held n 3 [v2] = some y2 := g2
  obtain ⟨y3, e3⟩ := hy 3 (by decide)
  have g3 : DataW.trod enc Try.prog w base (fun _ => true) held n 3 ([v0, v1, v2, v3, v4, v5, v6, v7, v8, v9, v10, v11, v12, v13, v14, v15, v16, v17, v18].drop 3 |>.take (Try.prog.cellsOf 3)) = some y3 := (hfl 3 _ rfl).trans e3
  rw [cells_int] at g3
  have k3 : DataW.trod enc Try.prog w base (fun _ => true) held n 3 [v3] = some y3 := g3
  obtain ⟨y4, e4⟩ := hy 4 (by decide)
  have g4 : DataW.trod enc Try.prog w base (fun _ => true) held n 3 ([v0, v1, v2, v3, v4, v5, v6, v7, v8, v9, v10, v11, v12, v13, v14, v15, v16, v17, v18].drop 4 |>.take (Try.prog.cellsOf 3)) = some y4 := (hfl 4 _ rfl).trans e4
  rw [cells_int] at g4
  have k4 : DataW.trod enc Try.prog w base (fun _ => true) held n 3 [v4] = some y4 := g4
  obtain ⟨y5, e5⟩ := hy 5 (by decide)
  have g5 : DataW.trod enc Try.prog w base (fun _ => true) held n 3 ([v0, v1, v2, v3, v4, v5, v6, v7, v8, v9, v10, v11, v12, v13, v14, v15, v16, v17, v18].drop 5 |>.take (Try.prog.cellsOf 3)) = some y5 := (hfl 5 _ rfl).trans e5
  rw [cells_int] at g5
  have k5 : DataW.trod enc Try.prog w base (fun _ => true) held n 3 [v5] = some y5 := g5
  obtain ⟨y6, e6⟩ := hy 6 (by decide)
  have g6 : DataW.trod enc Try.prog w base (fun _ => true) held n 3 ([v0, v1, v2, v3, v4, v5, v6, v7, v8, v9, v10, v11, v12, v13, v14, v15, v16, v17, v18].drop 6 |>.take (Try.prog.cellsOf 3)) = some y6 := (hfl 6 _ rfl).trans e6
  rw [cells_int] at g6
  have k6 : DataW.trod enc Try.prog w base (fun _ => true) held n 3 [v6] = some y6 := g6
  obtain ⟨y7, e7⟩ := hy 7 (by decide)
  have g7 : DataW.trod enc Try.prog w base (fun _ => true) held n 2 ([v0, v1, v2, v3, v4, v5, v6, v7, v8, v9, v10, v11, v12, v13, v14, v15, v16, v17, v18].drop 7 |>.take (Try.prog.cellsOf 2)) = some y7 := (hfl 7 _ rfl).trans e7
  rw [cells_int64] at g7
  have k7 : DataW.trod enc Try.prog w base (fun _ => true) held n 2 [v7] = some y7 := g7
  obtain ⟨y8, e8⟩ := hy 8 (by decide)
  have g8 : DataW.trod enc Try.prog w base (fun _ => true) held n 22 ([v0, v1, v2, v3, v4, v5, v6, v7, v8, v9, v10, v11, v12, v13, v14, v15, v16, v17, v18].drop 8 |>.take (Try.prog.cellsOf 22)) = some y8 := (hfl 8 _ rfl).trans e8
  rw [cells_resets] at g8
  have k8 : DataW.trod enc Try.prog w base (fun _ => true) held n 22 [v8] = some y8 := g8
  obtain ⟨y9, e9⟩ := hy 9 (by decide)
  have g9 : DataW.trod enc Try.prog w base (fun _ => true) held n 2 ([v0, v1, v2, v3, v4, v5, v6, v7, v8, v9, v10, v11, v12, v13, v14, v15, v16, v17, v18].drop 9 |>.take (Try.prog.cellsOf 2)) = some y9 := (hfl 9 _ rfl).trans e9
  rw [cells_int64] at g9
  have k9 : DataW.trod enc Try.prog w base (fun _ => true) held n 2 [v9] = some y9 := g9
  obtain ⟨y10, e10⟩ := hy 10 (by decide)
  have g10 : DataW.trod enc Try.prog w base (fun _ => true) held n 23 ([v0, v1, v2, v3, v4, v5, v6, v7, v8, v9, v10, v11, v12, v13, v14, v15, v16, v17, v18].drop 10 |>.take (Try.prog.cellsOf 23)) = some y10 := (hfl 10 _ rfl).trans e10
  rw [cells_four] at g10
  have k10 : DataW.trod enc Try.prog w base (fun _ => true) held n 23 [v10, v11, v12, v13] = some y10 := g10
  obtain ⟨y11, e11⟩ := hy 11 (by decide)
  have g11 : DataW.trod enc Try.prog w base (fun _ => true) held n 3 ([v0, v1, v2, v3, v4, v5, v6, v7, v8, v9, v10, v11, v12, v13, v14, v15, v16, v17, v18].drop 14 |>.take (Try.prog.cellsOf 3)) = some y11 := (hfl 11 _ rfl).trans e11
  rw [cells_int] at g11
  have k11 : DataW.trod enc Try.prog w base (fun _ => true) held n 3 [v14] = some y11 := g11
  obtain ⟨y12, e12⟩ := hy 12 (by decide)
  have g12 : DataW.trod enc Try.prog w base (fun _ => true) held n 24 ([v0, v1, v2, v3, v4, v5, v6, v7, v8, v9, v10, v11, v12, v13, v14, v15, v16, v17, v18].drop 15 |>.take (Try.prog.cellsOf 24)) = some y12 := (hfl 12 _ rfl).trans e12
  rw [cells_tiers] at g12
  have k12 : DataW.trod enc Try.prog w base (fun _ => true) held n 24 [v15] = some y12 := g12
  obtain ⟨y13, e13⟩ := hy 13 (by decide)
  have g13 : DataW.trod enc Try.prog w base (fun _ => true) held n 2 ([v0, v1, v2, v3, v4, v5, v6, v7, v8, v9, v10, v11, v12, v13, v14, v15, v16, v17, v18].drop 16 |>.take (Try.prog.cellsOf 2)) = some y13 := (hfl 13 _ rfl).trans e13
  rw [cells_int64] at g13
  have k13 : DataW.trod enc Try.prog w base (fun _ => true) held n 2 [v16] = some y13 := g13
  obtain ⟨y14, e14⟩ := hy 14 (by decide)
  have g14 : DataW.trod enc Try.prog w base (fun _ => true) held n 3 ([v0, v1, v2, v3, v4, v5, v6, v7, v8, v9, v10, v11, v12, v13, v14, v15, v16, v17, v18].drop 17 |>.take (Try.prog.cellsOf 3)) = some y14 := (hfl 14 _ rfl).trans e14
  rw [cells_int] at g14
  have k14 : DataW.trod enc Try.prog w base (fun _ => true) held n 3 [v17] = some y14 := g14
  obtain ⟨y15, e15⟩ := hy 15 (by decide)
  have g15 : DataW.trod enc Try.prog w base (fun _ => true) held n 25 ([v0, v1, v2, v3, v4, v5, v6, v7, v8, v9, v10, v11, v12, v13, v14, v15, v16, v17, v18].drop 18 |>.take (Try.prog.cellsOf 25)) = some y15 := (hfl 15 _ rfl).trans e15
  rw [cells_ints] at g15
  have k15 : DataW.trod enc Try.prog w base (fun _ => true) held n 25 [v18] = some y15 := g15
  clear hy hfl hf
  obtain ⟨nm, m0, _, z0⟩ := DataW.trod_string Try.underlying9 k0
  simp at m0
  subst m0
  obtain ⟨x1, m1, _, _⟩ := DataW.trod_int Try.underlying3 k1
  simp at m1
  subst m1
  obtain ⟨x2, m2, _, _⟩ := DataW.trod_int Try.underlying3 k2
  simp at m2
  subst m2
  obtain ⟨x3, m3, _, _⟩ := DataW.trod_int Try.underlying3 k3
  simp at m3
  subst m3
  obtain ⟨x4, m4, _, _⟩ := DataW.trod_int Try.underlying3 k4
  simp at m4
  subst m4
  obtain ⟨x5, m5, _, _⟩ := DataW.trod_int Try.underlying3 k5
  simp at m5
  subst m5
  obtain ⟨x6, m6, _, _⟩ := DataW.trod_int Try.underlying3 k6
  simp at m6
  subst m6
  obtain ⟨x7, m7, _, _⟩ := DataW.trod_int Try.underlying2 k7
  simp at m7
  subst m7
  obtain ⟨x9, m9, _, _⟩ := DataW.trod_int Try.underlying2 k9
  simp at m9
  subst m9
  obtain ⟨x11, m11, _, _⟩ := DataW.trod_int Try.underlying3 k11
  simp at m11
  subst m11
  obtain ⟨x13, m13, _, _⟩ := DataW.trod_int Try.underlying2 k13
  simp at m13
  subst m13
  obtain ⟨x14, m14, _, _⟩ := DataW.trod_int Try.underlying3 k14
  simp at m14
  subst m14
  obtain ⟨u0, u1, u2, u3, nn, _, f0, f1, f2, f3⟩ := trod_array4 Try.underlying23 cells_int k10
  obtain ⟨o0, mo0, _, _⟩ := DataW.trod_int Try.underlying3 f0
  simp at mo0
  subst mo0
  obtain ⟨o1, mo1, _, _⟩ := DataW.trod_int Try.underlying3 f1
  simp at mo1
  subst mo1
  obtain ⟨o2, mo2, _, _⟩ := DataW.trod_int Try.underlying3 f2
  simp at mo2
  subst mo2
  obtain ⟨o3, mo3, _, _⟩ := DataW.trod_int Try.underlying3 f3
  simp at mo3
  subst mo3
  obtain ⟨A1, c1, l1, rfl, n1, lc1, cm1, hr1⟩ := open_rowsC Try.underlying22 Try.underlying31 (by kernel_rfl) (by kernel_rfl) (fun j f hj => by have hmem := Array.mem_of_getElem? hj; simp at hmem; rcases hmem with rfl | rfl <;> first | exact Try.underlying3 | exact Try.underlying2) k8
  obtain ⟨A2, c2, l2, rfl, n2, lc2, cm2, hr2⟩ := open_rowsC Try.underlying24 Try.underlying34 (by kernel_rfl) (by kernel_rfl) (fun j f hj => by have hmem := Array.mem_of_getElem? hj; simp at hmem; rcases hmem with rfl | rfl <;> first | exact Try.underlying3 | exact Try.underlying2) k12
  obtain ⟨A3, c3, l3, rfl, n3, lc3, cm3, hr3⟩ := open_intsC Try.underlying25 Try.underlying3 cells_int k15
  exact ⟨{ name := nm, count := x1, round := x2, kind := x3, every := x4, times := x5, grace := x6, rate := x7, resets := l1, penalty := x9, o1 := o0, o2 := o1, o3 := o2, o4 := o3, over := x11, late := l2, cap := x13, roll := x14, hol := l3 }, A1, c1, A2, c2, A3, c3, rfl, ⟨hr1, lc1, n1, hr2, lc2, n2, hr3, lc3, n3⟩, z0, cm1, cm2, cm3⟩
end Go.Proofs.Ytcbebbiedegjlaa.Pd
