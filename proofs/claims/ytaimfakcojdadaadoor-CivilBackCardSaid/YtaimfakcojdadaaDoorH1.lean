/- Contracts by hand: digits of a text. -/
import Derived.Test.YtaimfakcojdadaaDoorC2
import Derived.Lib.ConvBytes
import Derived.Lib.SlBytesConst
import Derived.WalkLawsBesides
import Derived.WalkSpells
namespace Go.Proofs.YtaimfakcojdadaaDoor.H
open Go.RowKit Go.Proofs.YtaimfakcojdadaaDoorW.PrintWords Go.Proofs.YtaimfakcojdadaaDoorW.PrintLast Go.Proofs.YtaimfakcojdadaaDoorW.PrintMore
set_option linter.unusedVariables false
set_option linter.unusedSimpArgs false

/-- Some digits as a number, behind n; false: they are none. -/
def digs (n : Int) : List UInt8 → Int × Bool
  | [] => (n, true)
  | c :: r => if (c.toNat : Int) < 48 ∨ 57 < (c.toNat : Int) then (0, false) else digs (10 * n + ((c.toNat : Int) - 48)) r

theorem pow_step {x d : Int} {k : Nat} (h : x + 1 ≤ 10 ^ k) (hd : d ≤ 9) : 10 * x + d + 1 ≤ 10 ^ (k + 1) := by
  rw [Int.pow_succ]; omega
theorem pow_four {k : Nat} (h : k ≤ 4) : (10 : Int) ^ k ≤ 10000 := by
  rcases (by omega : k = 0 ∨ k = 1 ∨ k = 2 ∨ k = 3 ∨ k = 4) with rfl | rfl | rfl | rfl | rfl <;> decide
theorem getD_drop (l : List UInt8) (k : Nat) (h : k < l.length) : l.drop k = l.getD k 0 :: l.drop (k + 1) := by
  rw [List.drop_eq_getElem_cons h, List.getD_eq_getElem?_getD, List.getElem?_eq_getElem h]; rfl
theorem digs_no {x : Int} {c : UInt8} {r : List UInt8} (h : (c.toNat : Int) < 48 ∨ 57 < (c.toNat : Int)) : digs x (c :: r) = (0, false) := if_pos h
theorem digs_yes {x : Int} {c : UInt8} {r : List UInt8} (h : ¬ ((c.toNat : Int) < 48 ∨ 57 < (c.toNat : Int))) : digs x (c :: r) = digs (10 * x + ((c.toNat : Int) - 48)) r := if_neg h

theorem bytes_below (w : World) (o : Obj) (t : ByteArray) : Below w.heap.size w (Lib.bytesWorld (w.alloc o) 5 t) := by
  refine ⟨rfl, rfl, rfl, ?_, fun k hk => ?_⟩
  · rw [Lib.bytesWorld_size]; simp; omega
  · rw [Lib.bytesWorld_at_old _ _ _ k (by simp; omega)]; exact Below.heap_alloc _ _ _ hk

set_option maxHeartbeats 1000000 in
theorem digits_any (s : ByteArray) (a b : Nat) (hab : a ≤ b) (hb : b ≤ s.size) (hs : s.size ≤ 1000) (h4 : b - a ≤ 4) (r1 : Int) (r2 : Bool) (hr : Aside0 (digs 0 (s.extract a b).data.toList = (r1, r2))) (w : World) :
    Calls Tryd.prog 28 #[.agg #[.string s], .int .i64 a, .int .i64 b] w fun e w' => e = .returned (.tuple #[.int .i64 r1, .bool r2]) ∧ Below w.heap.size w w' := by
  have hcv := fun (W : World) (t : ByteArray) => Lib.run_convert_string_bytes (P := Tryd.prog) W 9 48 5 t Tryd.underlying9 Tryd.underlying48 Tryd.underlying5
  have hbel := Aside0.mk (bytes_below w (.cells #[.string s] 43) (s.extract a b))
  have hcell := fun j hj => Lib.bytesWorld_cell (w.alloc (.cells #[.string s] 43)) 5 (s.extract a b) j hj
  rw [show (w.alloc (.cells #[.string s] 43)).heap.size = w.heap.size + 1 by simp] at hcell
  have hsz : (s.extract a b).size = b - a := by simp [ByteArray.size_extract]; omega
  have hlen : (s.extract a b).data.toList.length = b - a := by rw [← hsz]; rfl
  have HC := Aside0.mk hcell
  have HL := Aside0.mk hlen
  have HS := Aside0.mk hsz
  clear hcell hlen hsz
  go_enter Tryd.func28, Tryd.ntmps28
  go_wp2
  clear hcv
  generalize hW : Lib.bytesWorld (w.alloc (.cells #[.string s] 43)) 5 (s.extract a b) = W at *
  clear hW
  generalize hl : (s.extract a b).data.toList = l at *
  go_loop [8, 18] (fun n i => ∃ (k : Nat) (x : Int), k ≤ b - a ∧ i = .int .i64 k ∧ n = .int .i64 x ∧ 0 ≤ x ∧ Aside0 (x + 1 ≤ 10 ^ k) ∧ Aside0 (digs 0 l = digs x (l.drop k))) (fun _ i => (b - a) - (intOf i).toNat)
  case atStart => exact ⟨0, 0, Nat.zero_le _, rfl, rfl, Int.le_refl _, ⟨by decide⟩, ⟨by simp⟩⟩
  case round =>
    obtain ⟨k, x, hk, rfl, rfl, hx, hp, hd⟩ := hrel
    have hx4 : x ≤ 9999 := by have := hp.out; have := pow_four (k := k) (by omega); omega
    by_cases hlt : k < b - a
    · have hc := HC.out k (by rw [HS.out]; exact hlt)
      have hdr0 := getD_drop l k (by rw [HL.out]; exact hlt)
      rw [List.getD_eq_getElem?_getD] at hdr0 hc
      have hdr := Aside0.mk hdr0
      clear hdr0
      have hb0 : 0 ≤ ((l[k]?.getD 0).toNat : Int) := by omega
      have hb1 : ((l[k]?.getD 0).toNat : Int) ≤ 255 := by have := (l[k]?.getD 0).toNat_lt; omega
      by_cases hbad : ((l[k]?.getD 0).toNat : Int) < 48 ∨ 57 < ((l[k]?.getD 0).toNat : Int)
      · have fin : r1 = 0 ∧ r2 = false := by
          have e := hr.out
          rw [hd.out, hdr.out, digs_no hbad] at e
          exact ⟨(Prod.mk.inj e).1.symm, (Prod.mk.inj e).2.symm⟩
        obtain ⟨rfl, rfl⟩ := fin
        clear hr hd hdr
        go_wp2
        all_goals first | (go_ret2; exact ⟨rfl, hbel.out⟩) | (exfalso; omega)
      · have hd2 := Aside0.mk (show digs 0 l = digs (10 * x + (((l[k]?.getD 0).toNat : Int) - 48)) (l.drop (k + 1)) by rw [hd.out, hdr.out, digs_yes hbad])
        have hp2 := Aside0.mk (show 10 * x + (((l[k]?.getD 0).toNat : Int) - 48) + 1 ≤ 10 ^ (k + 1) from pow_step hp.out (by omega))
        have hge : 48 ≤ ((l[k]?.getD 0).toNat : Int) := by omega
        have hle : ((l[k]?.getD 0).toNat : Int) ≤ 57 := by omega
        clear hbad hd hdr hp
        go_wp2
        go_round
        case rel => exact ⟨k + 1, _, by omega, by go_num, rfl, by omega, by simpa using hp2, by simpa using hd2⟩
        case measure => simp [intOf]; omega
    · have fin : r1 = x ∧ r2 = true := by
        have e := hr.out
        rw [hd.out, List.drop_eq_nil_of_le (by rw [HL.out]; omega)] at e
        exact ⟨(Prod.mk.inj e).1.symm, (Prod.mk.inj e).2.symm⟩
      obtain ⟨rfl, rfl⟩ := fin
      clear hr hd
      go_wp2
      go_ret2
      exact ⟨rfl, hbel.out⟩

/-- The same, as the printed callers ask it. -/
def civil_reader_digits.f (s : ByteArray) (a b : Int) : Option (Int × Bool) :=
  if s.size ≤ 1000 ∧ 0 ≤ a ∧ a ≤ b ∧ b ≤ s.size ∧ b - a ≤ 4 then some (digs 0 (s.extract a.toNat b.toNat).data.toList) else none
theorem civil_reader_digits.calls (a0_0 : ByteArray) (a1 a2 r1 : Int) (r2 : Bool) (w : World) (h : civil_reader_digits.f a0_0 a1 a2 = some (r1, r2)) :
    Calls Tryd.prog 28 #[.agg #[.string a0_0], .int .i64 a1, .int .i64 a2] w fun e w' => e = .returned (.tuple #[.int .i64 r1, .bool r2]) ∧ Below w.heap.size w w' := by
  unfold civil_reader_digits.f at h
  split at h
  · rename_i hc
    obtain ⟨h1, h2, h3, h4, h5⟩ := hc
    obtain ⟨a, rfl⟩ := Int.eq_ofNat_of_zero_le h2
    obtain ⟨b, rfl⟩ := Int.eq_ofNat_of_zero_le (show 0 ≤ a2 by omega)
    have e := Option.some.inj h
    simp only [Int.toNat_natCast] at e
    exact digits_any a0_0 a b (by omega) (by omega) h1 (by omega) r1 r2 ⟨e⟩ w
  · cases h
end Go.Proofs.YtaimfakcojdadaaDoor.H
