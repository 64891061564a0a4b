/- Contracts by hand: two lists of numbers held against each other, one by one. -/
import Derived.Test.YtabdgpjkjpbolaaHW
import Derived.Test.YtabdgpjkjpbolaaPAx0
import Derived.Deep.LoopGhost
import Derived.WalkLawsBesides
import Derived.WalkSpells
namespace Go.Proofs.Ytabdgpjkjpbolaa.H
open Go.RowKit Go.Proofs.YtabdgpjkjpbolaaW.PrintWords Go.Proofs.YtabdgpjkjpbolaaW.PrintLast Go.Proofs.YtabdgpjkjpbolaaW.PrintMore
set_option linter.unusedVariables false
set_option linter.unusedSimpArgs false

theorem plain1 (x y : Int) (r : Bool) (hr : (x == y) = r) (w : World) : Calls Try.prog 66 #[.int .i64 x, .int .i64 y] w fun e w' => e = .returned (.bool r) ∧ w' = w := by
  go_enter Try.func66, Try.ntmps66
  go_wp2
  go_ret
  exact ⟨by simp, rfl⟩

theorem rd_drop (l : List Int) (k : Nat) (h : k < l.length) : l.drop k = rd l k :: l.drop (k + 1) := by
  rw [List.drop_eq_getElem_cons h]
  simp [rd, h]

set_option maxHeartbeats 1000000 in
theorem same_any (A0 A1 : Option Addr) (c0 c1 : Nat) (l0 l1 : List Int) (r : Bool) (hr : (l0 == l1) = r) (w : World) (hr0 : Kd.C (Kd.int .i64) w A0 l0.length l0) (hc0 : l0.length ≤ c0) (hr1 : Kd.C (Kd.int .i64) w A1 l1.length l1) (hc1 : l1.length ≤ c1) (hm : l0.length ≤ 1000000000) :
    Calls Try.prog 65 #[.slice A0 l0.length c0, .slice A1 l1.length c1, .func (.func 66) #[] #[]] w fun e w' => e = .returned (.bool r) ∧ Drawn0 w w' := by
  have HR0 := Aside0.mk hr0
  have HR1 := Aside0.mk hr1
  have HR := Aside0.mk hr
  clear hr0 hr1 hr
  by_cases hlen : l0.length = l1.length
  · have hb : ((l0.length : Int) != (l1.length : Int)) = false := by simp [hlen]
    have HLn := Aside0.mk hlen
    clear hlen
    go_enter Try.func65, Try.ntmps65
    go_wp2
    go_loopg [7] (l0.length + 1) (fun g i w' => ∃ (k : Nat), k ≤ l0.length ∧ i = .int .i64 k ∧ Aside0 (g = l0.length + 1 - k) ∧ Aside0 ((l0 == l1) = (l0.drop k == l1.drop k)) ∧ Drawn0 w w')
    case atStart => exact ⟨0, Nat.zero_le _, rfl, ⟨by omega⟩, ⟨by simp⟩, Drawn0.refl _⟩
    case round =>
      obtain ⟨k, hk, rfl, hg, hd, ⟨m1, rfl⟩⟩ := hrel
      by_cases hlt : k < l0.length
      · have hlt1 : k < l1.length := by have := HLn.out; omega
        obtain ⟨ad0, e0, hx0⟩ := Kd.at_int HR0.out (k : Int) (by omega) (by omega)
        cases e0
        obtain ⟨ad1, e1, hx1⟩ := Kd.at_int HR1.out (k : Int) (by omega) (by omega)
        cases e1
        simp only [Int.toNat_natCast] at hx0 hx1
        have hdr : (l0.drop k == l1.drop k) = ((rd l0 k == rd l1 k) && (l0.drop (k + 1) == l1.drop (k + 1))) := by
          rw [rd_drop l0 k hlt, rd_drop l1 k hlt1]; rfl
        cases hq : (rd l0 k == rd l1 k) with
        | true =>
          have HQ := Aside0.mk hq
          clear hq
          have HD := Aside0.mk ((hd.out.trans hdr).trans (by rw [HQ.out, Bool.true_and]))
          clear hdr hd
          go_wp2
          go_quiet ((go_at_call 66; refine (plain1 _ _ _ HQ.out _).mono ?_; rintro e w' ⟨rfl, rfl⟩; exact ⟨rfl, _, rfl⟩))
          go_wp2
          go_roundg (l0.length + 1 - (k + 1))
          case measure => have := hg.out; omega
          case rel => exact ⟨k + 1, by omega, by simp, ⟨rfl⟩, ⟨HD.out⟩, ⟨_, rfl⟩⟩
        | false =>
          have HQ := Aside0.mk hq
          clear hq
          have HD := Aside0.mk ((hd.out.trans hdr).trans (by rw [HQ.out, Bool.false_and]))
          clear hdr hd
          go_wp2
          go_quiet ((go_at_call 66; refine (plain1 _ _ _ HQ.out _).mono ?_; rintro e w' ⟨rfl, rfl⟩; exact ⟨rfl, _, rfl⟩))
          go_wp2
          go_ret
          exact ⟨by rw [← HR.out, HD.out]; rfl, ⟨_, World.drewN_drewN _ _ _⟩⟩
      · go_wp2
        go_ret
        have hk2 : k = l0.length := by omega
        exact ⟨by rw [← HR.out, hd.out, List.drop_of_length_le (by omega), List.drop_of_length_le (by have := HLn.out; omega)]; rfl, ⟨_, rfl⟩⟩
  · have hb : ((l0.length : Int) != (l1.length : Int)) = true := by simp; omega
    have HLn := Aside0.mk hlen
    clear hlen
    go_enter Try.func65, Try.ntmps65
    go_wp2
    go_ret
    refine ⟨?_, Drawn0.refl _⟩
    rw [← HR.out]
    have : (l0 == l1) = false := by
      rw [beq_eq_false_iff_ne]
      exact fun h => HLn.out (by rw [h])
    rw [this]; rfl
def help_Plain_int.f (l0 l1 : List Int) : Option Bool := if l0.length ≤ 1000000000 then some (l0 == l1) else none
theorem help_Plain_int.calls (A0 : Option Addr) (c0 : Nat) (l0 : List Int) (A1 : Option Addr) (c1 : Nat) (l1 : List Int) (r : Bool) (w : World) (hr0 : Kd.C (Kd.int .i64) w A0 l0.length l0) (hc0 : l0.length ≤ c0) (hr1 : Kd.C (Kd.int .i64) w A1 l1.length l1) (hc1 : l1.length ≤ c1) (h : help_Plain_int.f l0 l1 = some r) :
    Calls Try.prog 34 #[.slice A0 l0.length c0, .slice A1 l1.length c1] w fun e w' => e = .returned (.bool r) ∧ Drawn0 w w' := by
  unfold help_Plain_int.f at h
  by_cases hm : l0.length ≤ 1000000000
  · rw [if_pos hm] at h
    have HS := Aside0.mk (same_any A0 A1 c0 c1 l0 l1 r (Option.some.inj h) w hr0 hc0 hr1 hc1 hm)
    clear h hr0 hr1
    go_enter Try.func34, Try.ntmps34
    go_wp2_with fail

    refine HS.out.mono ?_
    rintro e w1 ⟨rfl, ⟨n, rfl⟩⟩
    go_wp2
    go_ret
    exact ⟨rfl, ⟨n, rfl⟩⟩
  · rw [if_neg hm] at h
    cases h
end Go.Proofs.Ytabdgpjkjpbolaa.H
