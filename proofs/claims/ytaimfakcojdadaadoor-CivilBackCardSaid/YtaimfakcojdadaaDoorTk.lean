/- quittanceref03.Take: the day that a text is, read byte by byte. -/
import Derived.Test.YtaimfakcojdadaaDoorT2
import Derived.Test.YtaimfakcojdadaaDoorEv
namespace Go.Proofs.YtaimfakcojdadaaDoor.H
open Go.RowKit Go.Proofs.YtaimfakcojdadaaDoorW.PrintWords Go.Proofs.YtaimfakcojdadaaDoorW.PrintLast Go.Proofs.YtaimfakcojdadaaDoorW.PrintMore Go.Proofs.YtaimfakcojdadaaDoor.HW Go.Proofs.YtaimfakcojdadaaDoor.Ev
open Go.Proofs.YtaimfakcojdadaaDoor.Math
set_option linter.unusedVariables false
set_option linter.unusedSimpArgs false
/-- Three numbers out of ten bytes, from byte k on; none: a byte is no digit. -/
def rt : Nat → Int → Int → Int → List UInt8 → Option (Int × Int × Int)
  | _, a, b, c, [] => some (a, b, c)
  | k, a, b, c, x :: r =>
    if k = 4 ∨ k = 7 then rt (k + 1) a b c r
    else if (x.toNat : Int) < 48 ∨ 57 < (x.toNat : Int) then none
    else if k < 4 then rt (k + 1) (10 * a + ((x.toNat : Int) - 48)) b c r
    else if k < 7 then rt (k + 1) a (10 * b + ((x.toNat : Int) - 48)) c r
    else rt (k + 1) a b (10 * c + ((x.toNat : Int) - 48)) r
set_option maxHeartbeats 1000000 in
theorem rtake_long (s : ByteArray) (w : World) (h : ¬ (s.size : Int) = 10) : Calls Tryd.prog 14 #[.string s] w fun e w' => e = .returned (.tuple #[.int .i64 0, .int .i64 4]) ∧ Below w.heap.size w w' := by
  have hb : ((s.size : Int) == 10) = false := by simpa using h
  clear h
  go_enter Tryd.func14, Tryd.ntmps14
  go_wp2_with fail
  all_goals (first | (go_ret2; exact ⟨rfl, Below.refl _ _⟩) | (exfalso; simp_all; done))
def taken : Option (Int × Int × Int) → Int × Int
  | some x => number x.1 x.2.1 x.2.2
  | none => (0, 4)
theorem drop_byte (s : ByteArray) (k : Nat) (h : k < s.size) : s.data.toList.drop k = s[k] :: s.data.toList.drop (k + 1) := by
  rw [List.drop_eq_getElem_cons (show k < s.data.toList.length from h)]
  rfl
theorem pow_ten {k : Nat} (h : k ≤ 10) : (10 : Int) ^ k ≤ 10000000000 := by
  rcases (by omega : k = 0 ∨ k = 1 ∨ k = 2 ∨ k = 3 ∨ k = 4 ∨ k = 5 ∨ k = 6 ∨ k = 7 ∨ k = 8 ∨ k = 9 ∨ k = 10) with rfl | rfl | rfl | rfl | rfl | rfl | rfl | rfl | rfl | rfl | rfl <;> decide
theorem pow_up {x : Int} {k : Nat} (h : x + 1 ≤ 10 ^ k) : x + 1 ≤ 10 ^ (k + 1) := by
  have : (0 : Int) < 10 ^ k := Int.pow_pos (by omega)
  rw [Int.pow_succ]; omega
theorem rtake_no4 (s : ByteArray) (w : World) (h : s.size = 10) (h4 : ¬ (s[4].toNat : Int) = 45) : Calls Tryd.prog 14 #[.string s] w fun e w' => e = .returned (.tuple #[.int .i64 0, .int .i64 4]) ∧ Below w.heap.size w w' := by
  have hb : (((s[4].toNat : Int)) != 45) = true := by simpa using h4
  clear h4
  go_enter Tryd.func14, Tryd.ntmps14
  go_wp2_with fail
  all_goals (first | (go_ret2; exact ⟨rfl, Below.refl _ _⟩) | (exfalso; simp_all; done))
theorem rtake_no7 (s : ByteArray) (w : World) (h : s.size = 10) (h4 : (s[4].toNat : Int) = 45) (h7 : ¬ (s[7].toNat : Int) = 45) : Calls Tryd.prog 14 #[.string s] w fun e w' => e = .returned (.tuple #[.int .i64 0, .int .i64 4]) ∧ Below w.heap.size w w' := by
  have hb : (((s[7].toNat : Int)) != 45) = true := by simpa using h7
  have hb4 : (((s[4].toNat : Int)) != 45) = false := by simpa using h4
  clear h4 h7
  go_enter Tryd.func14, Tryd.ntmps14
  go_wp2_with fail
  all_goals (first | (go_ret2; exact ⟨rfl, Below.refl _ _⟩) | (exfalso; simp_all; done))
set_option maxHeartbeats 4000000 in
theorem rtake_ten (s : ByteArray) (w : World) (h : s.size = 10) (h4 : (s[4].toNat : Int) = 45) (h7 : (s[7].toNat : Int) = 45) (r1 r2 : Int) (hr : Aside0 (taken (rt 0 0 0 0 s.data.toList) = (r1, r2))) :
    Calls Tryd.prog 14 #[.string s] w fun e w' => e = .returned (.tuple #[.int .i64 r1, .int .i64 r2]) ∧ Below w.heap.size w w' := by
  have hb7 : (((s[7].toNat : Int)) != 45) = false := by simpa using h7
  have hb4 : (((s[4].toNat : Int)) != 45) = false := by simpa using h4
  clear h4 h7
  go_enter Tryd.func14, Tryd.ntmps14
  go_wp2_with fail
  all_goals try (exfalso; simp_all; done)
  go_loopg [5] 11 (fun gq iv w' => ∃ (k : Nat) (a b c : Int), k ≤ 10 ∧ iv = .int .i64 (k : Int) ∧ 0 ≤ a ∧ 0 ≤ b ∧ 0 ≤ c ∧ Aside0 (a + 1 ≤ 10 ^ k) ∧ Aside0 (b + 1 ≤ 10 ^ k) ∧ Aside0 (c + 1 ≤ 10 ^ k) ∧ Aside0 (gq = 11 - k) ∧ Aside0 (taken (rt k a b c (s.data.toList.drop k)) = (r1, r2)) ∧ Aside0 (w'.heap[w.heap.size]? = some (.cells #[.int .i64 a, .int .i64 b, .int .i64 c] 45 (0, 0))) ∧ Aside0 (Below w.heap.size w w'))
  case atStart => exact ⟨0, 0, 0, 0, by omega, rfl, by omega, by omega, by omega, ⟨by decide⟩, ⟨by decide⟩, ⟨by decide⟩, ⟨rfl⟩, ⟨by simpa using hr.out⟩, ⟨heap_alloc_new w _⟩, ⟨below_alloc (Below.refl _ _) _⟩⟩
  case round =>
    obtain ⟨k, a, b, c, hk, rfl, ha, hb, hc, pa, pb, pc, hg, ht, hR, hB⟩ := hrel
    by_cases hlt : k < 10
    · by_cases hs : k = 4 ∨ k = 7
      · have ht2 := Aside0.mk (show taken (rt (k + 1) a b c (s.data.toList.drop (k + 1))) = (r1, r2) by have e := ht.out; rw [drop_byte s k (by omega), rt, if_pos hs] at e; exact e)
        clear ht
        rcases hs with rfl | rfl
        · go_wp2_with fail
          go_roundg 6
          case measure => have := hg.out; omega
          case rel => exact ⟨5, a, b, c, by omega, rfl, ha, hb, hc, ⟨pow_up pa.out⟩, ⟨pow_up pb.out⟩, ⟨pow_up pc.out⟩, ⟨rfl⟩, ht2, hR, hB⟩
        · go_wp2_with fail
          go_roundg 3
          case measure => have := hg.out; omega
          case rel => exact ⟨8, a, b, c, by omega, rfl, ha, hb, hc, ⟨pow_up pa.out⟩, ⟨pow_up pb.out⟩, ⟨pow_up pc.out⟩, ⟨rfl⟩, ht2, hR, hB⟩
      · have hs4 : ((k : Int) == 4) = false := by simp; omega
        have hs7 : ((k : Int) == 7) = false := by simp; omega
        have hki : (k : Int) < 10 := by omega
        have hb0 : 0 ≤ (s[k].toNat : Int) := by omega
        have hb1 : (s[k].toNat : Int) ≤ 255 := by have := s[k].toNat_lt; omega
        by_cases hbad : (s[k].toNat : Int) < 48 ∨ 57 < (s[k].toNat : Int)
        · have e := ht.out
          rw [drop_byte s k (by omega), rt, if_neg hs, if_pos hbad] at e
          obtain ⟨rfl, rfl⟩ : r1 = 0 ∧ r2 = 4 := ⟨(Prod.mk.inj e).1.symm, (Prod.mk.inj e).2.symm⟩
          clear ht hr e
          go_wp2_with fail
          all_goals first | (go_ret2; exact ⟨rfl, hB.out⟩) | (exfalso; omega)
        · have hge : 48 ≤ (s[k].toNat : Int) := by omega
          have hle : (s[k].toNat : Int) ≤ 57 := by omega
          rcases (by omega : k < 4 ∨ (4 < k ∧ k < 7) ∨ 7 < k) with hk4 | hk4 | hk4
          · have ht2 := Aside0.mk (show taken (rt (k + 1) (10 * a + ((s[k].toNat : Int) - 48)) b c (s.data.toList.drop (k + 1))) = (r1, r2) by have e := ht.out; rw [drop_byte s k (by omega), rt, if_neg hs, if_neg hbad, if_pos hk4] at e; exact e)
            have d4 : decide ((4 : Int) < (k : Int)) = false := by simp; omega
            have d7 : decide ((7 : Int) < (k : Int)) = false := by simp; omega
            have np : 10 * a + ((s[k].toNat : Int) - 48) + 1 ≤ 10 ^ (k + 1) := pow_step pa.out (by omega)
            have NP := Aside0.mk np
            have hx : a ≤ 10000000000 := by have := pa.out; have := pow_ten (k := k) (by omega); omega
            obtain ⟨q0, q1, q2⟩ := date_cells hR.out
            have f0 := frozen_of_row wr w.heap.size 0 _ _ hR.out
            clear ht np
            go_wp2_with fail
            go_region
            go_wp2_with fail
            go_roundg (11 - (k + 1))
            case measure => have := hg.out; omega
            case rel => exact ⟨k + 1, (10 * a + ((s[k].toNat : Int) - 48)), b, c, by omega, by simp, (by omega), hb, hc, ⟨NP.out⟩, ⟨pow_up pb.out⟩, ⟨pow_up pc.out⟩, ⟨rfl⟩, ht2, ⟨(heap_setCell_same _ w.heap.size 0 _ _ _ (by simpa using hR.out)).trans rfl⟩, ⟨by first | exact Below.setCell hB.out (by simp) _ | exact Below.setCell (Below.drew hB.out) (by simp) _ | exact Below.drew (Below.setCell hB.out (by simp) _)⟩⟩
          · have ht2 := Aside0.mk (show taken (rt (k + 1) a (10 * b + ((s[k].toNat : Int) - 48)) c (s.data.toList.drop (k + 1))) = (r1, r2) by have e := ht.out; rw [drop_byte s k (by omega), rt, if_neg hs, if_neg hbad, if_neg (show ¬ k < 4 by omega), if_pos hk4.2] at e; exact e)
            have d4 : decide ((4 : Int) < (k : Int)) = true := by simp; omega
            have d7 : decide ((7 : Int) < (k : Int)) = false := by simp; omega
            have np : 10 * b + ((s[k].toNat : Int) - 48) + 1 ≤ 10 ^ (k + 1) := pow_step pb.out (by omega)
            have NP := Aside0.mk np
            have hx : b ≤ 10000000000 := by have := pb.out; have := pow_ten (k := k) (by omega); omega
            obtain ⟨q0, q1, q2⟩ := date_cells hR.out
            have f1 := frozen_of_row wr w.heap.size 1 _ _ hR.out
            clear ht np
            go_wp2_with fail
            go_region
            go_wp2_with fail
            go_roundg (11 - (k + 1))
            case measure => have := hg.out; omega
            case rel => exact ⟨k + 1, a, (10 * b + ((s[k].toNat : Int) - 48)), c, by omega, by simp, ha, (by omega), hc, ⟨pow_up pa.out⟩, ⟨NP.out⟩, ⟨pow_up pc.out⟩, ⟨rfl⟩, ht2, ⟨(heap_setCell_same _ w.heap.size 1 _ _ _ (by simpa using hR.out)).trans rfl⟩, ⟨by first | exact Below.setCell hB.out (by simp) _ | exact Below.setCell (Below.drew hB.out) (by simp) _ | exact Below.drew (Below.setCell hB.out (by simp) _)⟩⟩
          · have ht2 := Aside0.mk (show taken (rt (k + 1) a b (10 * c + ((s[k].toNat : Int) - 48)) (s.data.toList.drop (k + 1))) = (r1, r2) by have e := ht.out; rw [drop_byte s k (by omega), rt, if_neg hs, if_neg hbad, if_neg (show ¬ k < 4 by omega), if_neg (show ¬ k < 7 by omega)] at e; exact e)
            have d4 : decide ((4 : Int) < (k : Int)) = true := by simp; omega
            have d7 : decide ((7 : Int) < (k : Int)) = true := by simp; omega
            have np : 10 * c + ((s[k].toNat : Int) - 48) + 1 ≤ 10 ^ (k + 1) := pow_step pc.out (by omega)
            have NP := Aside0.mk np
            have hx : c ≤ 10000000000 := by have := pc.out; have := pow_ten (k := k) (by omega); omega
            obtain ⟨q0, q1, q2⟩ := date_cells hR.out
            have f2 := frozen_of_row wr w.heap.size 2 _ _ hR.out
            clear ht np
            go_wp2_with fail
            go_region
            go_wp2_with fail
            go_roundg (11 - (k + 1))
            case measure => have := hg.out; omega
            case rel => exact ⟨k + 1, a, b, (10 * c + ((s[k].toNat : Int) - 48)), by omega, by simp, ha, hb, (by omega), ⟨pow_up pa.out⟩, ⟨pow_up pb.out⟩, ⟨NP.out⟩, ⟨rfl⟩, ht2, ⟨(heap_setCell_same _ w.heap.size 2 _ _ _ (by simpa using hR.out)).trans rfl⟩, ⟨by first | exact Below.setCell hB.out (by simp) _ | exact Below.setCell (Below.drew hB.out) (by simp) _ | exact Below.drew (Below.setCell hB.out (by simp) _)⟩⟩
    · obtain rfl : k = 10 := by omega
      have e := ht.out
      rw [List.drop_eq_nil_of_le (by show s.size ≤ 10; omega)] at e
      obtain ⟨q0, q1, q2⟩ := date_cells hR.out
      have CN := Aside0.mk (fun w => quittanceref03_Number.calls a b c r1 r2 w (by unfold quittanceref03_Number.f; rw [← e]; rfl))
      clear ht hr e
      go_wp2_with (go_at_call 8; refine (CN.out _).mono ?_; rintro e w1 ⟨rfl, hb1⟩; have HB1 := Aside0.mk (below_step hB.out hb1); clear hb1)
      go_ret2
      exact ⟨rfl, HB1.out⟩
end Go.Proofs.YtaimfakcojdadaaDoor.H
