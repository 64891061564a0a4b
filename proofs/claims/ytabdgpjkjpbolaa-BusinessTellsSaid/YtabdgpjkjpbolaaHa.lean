/- Contracts by hand: whether a list of one's own was kept; spoilt. -/
import Derived.Test.YtabdgpjkjpbolaaH9
namespace Go.Proofs.Ytabdgpjkjpbolaa.H
open Go.RowKit Go.Proofs.YtabdgpjkjpbolaaW.PrintWords Go.Proofs.YtabdgpjkjpbolaaW.PrintLast Go.Proofs.YtabdgpjkjpbolaaW.PrintMore Go.Proofs.Ytabdgpjkjpbolaa.HW
set_option linter.unusedVariables false
set_option linter.unusedSimpArgs false
set_option maxHeartbeats 1000000 in
theorem kept_yes {A1 : Option Addr} {c1 : Nat} {l : List Int} {x : Int} {g : Nat} {w : World} (hb : Blk w g 3 (nums .i64 l ++ [.int .i64 x, .int .i64 x, .int .i64 x])) (hr1 : Kd.C (Kd.int .i64) w A1 l.length l) (hc1 : l.length ≤ c1) (hm : l.length ≤ 1000000) :
    Calls Try.prog 52 #[.slice (some ⟨g, 0, none⟩) l.length (l.length + 3), .slice A1 l.length c1, .int .i64 x] w fun e w' => e = .returned (.bool true) ∧ Drawn0 w w' := by
  have HB := Aside0.mk hb
  have HR1 := Aside0.mk hr1
  clear hb hr1
  go_enter Try.func52, Try.ntmps52
  go_wp2_with fail
  refine (help_Plain_int.calls (some ⟨g, 0, none⟩) (l.length + 3) l A1 c1 l true _ (HB.out.reads (by omega)) (by omega) HR1.out hc1 (by unfold help_Plain_int.f; rw [if_pos (by omega)]; simp)).mono ?_
  rintro e w1 ⟨rfl, ⟨m1, rfl⟩⟩
  go_wp2_with fail
  go_loopg [8] 4 (fun gq iv w' => ∃ (k : Nat), k ≤ 3 ∧ iv = .int .i64 ((l.length : Int) + (k : Int)) ∧ Aside0 (gq = 4 - k) ∧ Drawn0 w w')
  case atStart => exact ⟨0, by omega, by simp, ⟨rfl⟩, ⟨_, rfl⟩⟩
  case round =>
    obtain ⟨k, k3, rfl, hg, ⟨m2, rfl⟩⟩ := hrel
    by_cases hlt : k < 3
    · have hc : w.cell? ⟨g, l.length + k, none⟩ = some (.int .i64 x) := by
        rw [HB.out.cell, List.getElem?_append_right (by rw [nums_length]; simp), nums_length]
        rcases (by omega : k = 0 ∨ k = 1 ∨ k = 2) with rfl | rfl | rfl
        · rw [show l.length + 0 - l.length = 0 by omega]; rfl
        · rw [show l.length + 1 - l.length = 1 by omega]; rfl
        · rw [show l.length + 2 - l.length = 2 by omega]; rfl
      go_wp2_with fail
      go_roundg (4 - (k + 1))
      case measure => have := hg.out; omega
      case rel => exact ⟨k + 1, by omega, by simp; omega, ⟨rfl⟩, ⟨_, rfl⟩⟩
    · obtain rfl : k = 3 := by omega
      go_wp2_with fail
      go_ret
      exact ⟨rfl, ⟨_, rfl⟩⟩
set_option maxHeartbeats 1000000 in
theorem spoil_any {g n c : Nat} {vs : List Value} {w : World} (hb : Blk w g 3 vs) (hn : n ≤ vs.length) (hc : n ≤ c) (hm : n ≤ 1000000) :
    Calls Try.prog 53 #[.slice (some ⟨g, 0, none⟩) n c] w fun e w' => e = .returned (.tuple #[]) ∧ But g w w' := by
  have HB := Aside0.mk hb
  have hlt0 := hb.lt
  clear hb
  go_enter Try.func53, Try.ntmps53
  go_wp2_with fail
  go_loopg [5] (n + 1) (fun gq iv w' => ∃ (k : Nat) (us : List Value), k ≤ n ∧ iv = .int .i64 (k : Int) ∧ Aside0 (us.length = vs.length) ∧ Aside0 (gq = n + 1 - k) ∧ Aside0 (Blk w' g 3 us) ∧ Aside0 (But g w w'))
  case atStart => exact ⟨0, vs, by omega, rfl, ⟨rfl⟩, ⟨rfl⟩, HB, ⟨But.of (Below.refl _ _)⟩⟩
  case round =>
    obtain ⟨k, us, kn, rfl, hus, hg, hR, hBt⟩ := hrel
    by_cases hlt : k < n
    · obtain ⟨u, hu⟩ : ∃ u, us[k]? = some u := ⟨_, List.getElem?_eq_getElem (by rw [hus.out]; omega)⟩
      have hcl : wr.cell? ⟨g, k, none⟩ = some u := by rw [hR.out.cell]; exact hu
      have hf := hR.out.frozen k
      have R2 := Aside0.mk (hR.out.put k (.int .i64 (-7)))
      have B2 := Aside0.mk (hBt.out.setCell (p := ⟨g, k, none⟩) (Or.inl rfl) (.int .i64 (-7)))
      clear hu
      go_wp2_with fail
      go_roundg (n + 1 - (k + 1))
      case measure => have := hg.out; omega
      case rel => exact ⟨k + 1, us.set k (.int .i64 (-7)), by omega, by simp, ⟨by rw [List.length_set]; exact hus.out⟩, ⟨rfl⟩, R2, B2⟩
    · go_wp2_with fail
      first | go_end0 | ((try simp only [Exit.inBlock, Exit.then]); refine bodyPost_ret (results_none rfl _ _ _) rfl ?_)
      exact ⟨rfl, hBt.out⟩
end Go.Proofs.Ytabdgpjkjpbolaa.H
