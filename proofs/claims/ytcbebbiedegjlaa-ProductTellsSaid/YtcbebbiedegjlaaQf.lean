/- Contracts by hand: what a program that does nothing does not answer (products). -/
import Derived.Test.YtcbebbiedegjlaaQe
namespace Go.Proofs.Ytcbebbiedegjlaa.Pd
open Go.RowKit Go.Proofs.YtcbebbiedegjlaaW.PrintWords Go.Proofs.YtcbebbiedegjlaaW.PrintLast Go.Proofs.YtcbebbiedegjlaaW.PrintMore Go.Proofs.Ytcbebbiedegjlaa.HW
open Pm
set_option linter.unusedVariables false
set_option linter.unusedSimpArgs false
section
variable {P : Program} {ops : Array Oper} {rest : List Oper} {a : Act} {Q : Exit → Act → World → Prop}
theorem build_want {W : World} {o : Oper} (hw : Region.wanted o (yielded ops a.tmps) = true) {t : TypeId} {parts : Array (Nat × Operand)} (ho : o.op = .build t parts) {cs : Array Value}
    (hb : P.built t ((parts.map fun (i, x) => (i, a.eval x)).toList) = some cs) (h : wpList P ops Q rest (a.put o.dst (.agg cs)) W) : wpList P ops Q (o :: rest) a W :=
  Go.BigFrame.wpList_want hw fun _ hK => wp_build t parts ho (by rw [hb]; rfl) (by rw [hb]; exact hK _ _ h)
end
theorem built_zero : Try.prog.built 27 [] = some pzs := by kernel_rfl
theorem check_plain (w : World) (hg : GV w) : Calls Try.prog 15 #[.agg plainC] w fun e w' => e = .returned (.int .i64 0) ∧ Below w.heap.size w w' := by
  have h := check_any plainP none 0 none 0 none 0 w hg (nilAt rfl rfl rfl) small_plain
  rw [plain_ok] at h
  exact h
theorem check_zero (w : World) (hg : GV w) : Calls Try.prog 15 #[.agg pzs] w fun e w' => e = .returned (.int .i64 9) ∧ Below w.heap.size w w' := by
  have h := check_any zeroP none 0 none 0 none 0 w hg (nilAt rfl rfl rfl) small_zero
  rw [zero_no] at h
  exact h
theorem name_is {s : ByteArray} {r : Bool} (h : nameOk s.data.toList = r) {w : World} (hg : GV w) : Calls Try.prog 17 #[.string s] w fun e w' => e = .returned (.bool r) ∧ Below w.heap.size w w' := by
  have := name_any s w hg
  rw [h] at this
  exact this
set_option maxRecDepth 100000 in
set_option maxHeartbeats 1000000 in
theorem prod_awake (w : World) (hg : GV w) : Calls Try.prog 11 #[] w fun e w' => e = .returned (.bool true) ∧ Below w.heap.size w w' := by
  have HG := Aside0.mk hg
  clear hg
  go_enter Try.func11, Try.ntmps11
  go_wp2_with fail
  refine (plain_any _).mono ?_
  rintro e w1 ⟨rfl, hb⟩
  have B1 := Aside0.mk hb
  clear hb
  go_wp2_with fail
  refine (check_plain _ (HG.out.below B1.out)).mono ?_
  rintro e w2 ⟨rfl, hb⟩
  have B2 := Aside0.mk (below_step B1.out hb)
  clear hb
  go_wp2_with ((with_reducible refine gate_dst (N := 5) rfl ?_); refine build_want rfl (t := 27) rfl (cs := pzs) ?hb ?_; (case hb => simp only [List.map_toArray, List.map_cons, List.map_nil]; exact built_zero))
  refine (check_zero _ (HG.out.below B2.out)).mono ?_
  rintro e w3 ⟨rfl, hb⟩
  have B3 := Aside0.mk (below_step B2.out hb)
  clear hb
  go_wp2_with fail
  refine (name_is (r := true) (by decide +kernel) (HG.out.below B3.out)).mono ?_
  rintro e w4 ⟨rfl, hb⟩
  have B4 := Aside0.mk (below_step B3.out hb)
  clear hb
  go_wp2_with fail
  refine (name_is (r := false) (by decide +kernel) (HG.out.below B4.out)).mono ?_
  rintro e w5 ⟨rfl, hb⟩
  have B5 := Aside0.mk (below_step B4.out hb)
  clear hb
  go_wp2_with fail
  go_ret
  exact ⟨rfl, B5.out⟩
end Go.Proofs.Ytcbebbiedegjlaa.Pd
