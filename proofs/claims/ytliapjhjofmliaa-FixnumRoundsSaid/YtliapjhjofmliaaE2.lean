/- Contracts by hand: fixnum.whole: what is thrown. -/
import Derived.Test.YtliapjhjofmliaaE1
namespace Go.Proofs.Ytliapjhjofmliaa.H
open Go.RowKit Go.Proofs.YtliapjhjofmliaaW.PrintWords Go.Proofs.YtliapjhjofmliaaW.PrintLast Go.Proofs.YtliapjhjofmliaaW.PrintMore
open Go.Proofs.Ytliapjhjofmliaa.Math
set_option linter.unusedVariables false
set_option linter.unusedSimpArgs false
/-- Above 0 the size draws nothing. -/
theorem size_pos0 {d : Int} (h1 : 0 < d) (h2 : d ≤ 9223372036854775807) (w : World) : Calls Try.prog 51 #[.int .i64 d] w fun e w' => e = .returned (.int .u64 d) ∧ w' = w := by
  have h0 : decide (d < 0) = false := decide_eq_false (by omega)
  have h3 : IntKind.u64.wrap d = d := u64s (by omega) (by omega)
  go_enter Try.func51, Try.ntmps51
  go_wp2
  go_ret
  simp [h3]
set_option maxHeartbeats 1000000 in
theorem whole_hi (below : Bool) {hi lo d mode : Int} (h0 : 0 ≤ hi) (h1 : hi ≤ 18446744073709551615) (d0 : 0 < d) (d1 : d ≤ 9223372036854775807) (hd : d ≤ hi) (w : World) :
    Calls Try.prog 40 #[.agg #[.bool below, .int .u64 hi, .int .u64 lo], .int .i64 d, .int .i64 mode] w fun e w' => e = .panicked [{ v := .iface 24 (.int .i64 3), recovered := false }] ∧ Below w.heap.size w w' := by
  have ht : decide (hi < d) = false := decide_eq_false (by omega)
  go_enter Try.func40, Try.ntmps40
  go_wp2_with ((with_reducible refine gate_dst (N := 3) rfl ?_); refine box_event ?hg (N := 3) ?hd (cs := #[.bool below, .int .u64 hi, .int .u64 lo]) (t := 68) ?hr ?_; (case hd => rfl); (case hg => rfl); (case hr => first | (go_simp; done) | (go_simp; rfl)); intro gb hg w1 hbox hb; clear hg)
  have c1 : w1.cell? ⟨gb, 1, none⟩ = some (.int .u64 hi) := (blk_cell hbox 1).trans rfl
  have HB := Aside0.mk hb
  clear hb
  refine wp_region_still_tail 5 (by kernel_rfl) (by kernel_rfl) ?_
  simp only [List.take_succ_cons, List.take_zero, List.drop_succ_cons, List.drop_zero]
  still_step
  still_step
  still_step
  still_call (size_pos0 d0 d1 _)
  still_step
  refine wpStill_nil ?_
  go_wp2_with ((go_at_call 38); refine (must_no 3 _).mono ?_; rintro e w' ⟨rfl, rfl⟩)
  exact ⟨rfl, rfl, HB.out.drew⟩

def fixnum_size.f (a0 : Int) : Option Int := if 0 < a0 ∧ a0 ≤ 9223372036854775807 then some a0 else none
theorem fixnum_size.calls (a0 r : Int) (w : World) (h : fixnum_size.f a0 = some r) : Calls Try.prog 51 #[.int .i64 a0] w fun e w' => e = .returned (.int .u64 r) ∧ Drawn0 w w' := by
  unfold fixnum_size.f at h
  split at h
  · rename_i hb
    obtain rfl := Option.some.inj h
    exact size_pos hb.1 hb.2 w
  · cases h
def fixnum_fit.f (a0 : Int) : Option Int := if fits a0 then some a0 else none
theorem fixnum_fit.calls (a0 r : Int) (w : World) (h : fixnum_fit.f a0 = some r) : Calls Try.prog 43 #[.int .i64 a0] w fun e w' => e = .returned (.int .i64 r) ∧ Drawn0 w w' := by
  unfold fixnum_fit.f at h
  split at h
  · rename_i hb
    obtain rfl := Option.some.inj h
    exact fit_yes hb w
  · cases h
def fixnum_nofit.f (a0 : Int) : Option Int := if fits a0 then none else some a0
theorem fixnum_nofit.calls (a0 r : Int) (w : World) (h : fixnum_nofit.f a0 = some r) : Calls Try.prog 43 #[.int .i64 a0] w fun e w' => e = .panicked [{ v := .iface 24 (.int .i64 3), recovered := false }] ∧ Drawn0 w w' := by
  unfold fixnum_nofit.f at h
  split at h
  · cases h
  · rename_i hb
    exact fit_no hb w
end Go.Proofs.Ytliapjhjofmliaa.H
