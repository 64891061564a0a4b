/- The law CivilBack, walked. -/
import Derived.Test.YtaimfakcojdadaaDoorTq
import Derived.Test.YtaimfakcojdadaaDoorTo
namespace Go.Proofs.YtaimfakcojdadaaDoor.H
open Go.RowKit Go.Proofs.YtaimfakcojdadaaDoorW.PrintWords Go.Proofs.YtaimfakcojdadaaDoorW.PrintLast Go.Proofs.YtaimfakcojdadaaDoorW.PrintMore Go.Proofs.YtaimfakcojdadaaDoor.HW Go.Proofs.YtaimfakcojdadaaDoor.Ev
open Go.Proofs.YtaimfakcojdadaaDoor.Math
set_option linter.unusedVariables false
set_option linter.unusedSimpArgs false
set_option maxRecDepth 100000 in
set_option maxHeartbeats 8000000 in
theorem civilBack_walk (x y m d : Int) (s : ByteArray) (w : World) (wx : (Lit.int .i64 x).wf = true) (wy : (Lit.int .i64 y).wf = true) (wm : (Lit.int .i64 m).wf = true) (wd : (Lit.int .i64 d).wf = true) (ws : s.size ≤ 140737488351232) (hT : Tab w) :
    Calls Tryd.prog 4 #[.int .i64 x, .agg #[.int .i64 y, .int .i64 m, .int .i64 d], .string s] w fun e w' => e = .returned (.bool true) ∧ Below w.heap.size w w' := by
  have HT := Aside0.mk hT
  clear hT wx wy wm wd
  obtain ⟨n, hn, en⟩ := law03_day x
  by_cases hs : 100 < s.size
  · have ht : decide ((100 : Int) < (s.size : Int)) = true := decide_eq_true (by omega)
    have DY := Aside0.mk (fun w => show Calls Tryd.prog 21 #[.int .i64 x] w fun e w' => e = .returned (.int .i64 n) ∧ Below w.heap.size w w' from (PA.quittancelaw03_day.calls _ _ w en).mono fun _ _ h => ⟨h.1, drawn_below h.2⟩)
    clear hs en hn
    go_enter Tryd.func4, Tryd.ntmps4
    go_wp2_with ((with_reducible refine gate_dst (N := 4) rfl ?_); refine box_event ?hg (N := 4) ?hd (cs := #[.int .i64 y, .int .i64 m, .int .i64 d]) (t := 23) ?hr ?_; (case hd => rfl); (case hg => rfl); (case hr => first | (go_simp; done) | (go_simp; rfl)); intro g4 hg w1 hb1 hbl1; clear hg; have G4 := Aside0.mk hb1; have HB := Aside0.mk hbl1; clear hbl1 hb1; refine Hid.out ?_)
    refine Lib.hid ?_
    go_wp2_with (first
      | (go_at_call 21; refine (DY.out _).mono ?_; rintro e w2 ⟨rfl, hb⟩; have HB := Aside0.mk (below_step HB.out hb); have G4 := Aside0.mk (blk_below G4.out hb); clear hb)
      | (go_at_call 6; refine (law03_awake _).mono ?_; rintro e w2 ⟨rfl, hb⟩; have HB := Aside0.mk (below_step HB.out hb); clear hb))
    go_ret
    exact ⟨rfl, HB.out⟩
  · obtain ⟨N, i, z1, z2, z3, j, eN, eD, hA⟩ := back_date y m d
    obtain ⟨v, o, u, p, eT, eX, hB⟩ := back_text s
    rcases hA with hA | hA <;> rcases hB with hB | hB
    · exact civilBack_00 x y m d s w HT hs n hn en N i z1 z2 z3 j v o p u eN eD eT eX (by omega) (by omega)
    · exact civilBack_01 x y m d s w HT hs n hn en N i z1 z2 z3 j v o p u eN eD eT eX (by omega) hB
    · exact civilBack_10 x y m d s w HT hs n hn en N i z1 z2 z3 j v o p u eN eD eT eX hA (by omega)
    · exact civilBack_11 x y m d s w HT hs n hn en N i z1 z2 z3 j v o p u eN eD eT eX hA hB
end Go.Proofs.YtaimfakcojdadaaDoor.H
