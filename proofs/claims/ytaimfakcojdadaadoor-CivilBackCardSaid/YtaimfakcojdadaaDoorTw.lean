/- civil.two and civil.Text: the text of a day, by the library's numerals. -/
import Derived.Test.YtaimfakcojdadaaDoorT1
import Derived.Test.YtaimfakcojdadaaDoorEv
import Derived.Test.YtaimfakcojdadaaDoorShelf
namespace Go.Proofs.YtaimfakcojdadaaDoor.H
open Go.RowKit Go.Proofs.YtaimfakcojdadaaDoorW.PrintWords Go.Proofs.YtaimfakcojdadaaDoorW.PrintLast Go.Proofs.YtaimfakcojdadaaDoorW.PrintMore Go.Proofs.YtaimfakcojdadaaDoor.HW Go.Proofs.YtaimfakcojdadaaDoor.Ev
open Go.Proofs.YtaimfakcojdadaaDoor.Math
set_option linter.unusedVariables false
set_option linter.unusedSimpArgs false
/-- The table that the library's numerals are made by. -/
abbrev Tab (w : World) : Prop := Lib.TabIs Tryd.prog w "internal/strconv.uint64pow10" .u64 Lib.pow10Tab
theorem tab_global : Tryd.prog.globalNamed "internal/strconv.uint64pow10" = some 0 := by kernel_rfl
theorem tab_lt {w : World} (h : Tab w) : 0 < w.heap.size := by
  unfold Tab Lib.TabIs World.var? at h
  rw [tab_global] at h
  simp only [Option.bind_some] at h
  cases hh : w.heap[0]? with
  | none => rw [hh] at h; cases h
  | some o => exact (Array.getElem?_eq_some_iff.1 hh).1
theorem tab_below {w w1 : World} (h : Tab w) (hb : Below w.heap.size w w1) : Tab w1 := by
  have hl := tab_lt h
  unfold Tab Lib.TabIs World.var? at h ⊢
  rw [tab_global] at h ⊢
  simp only [Option.bind_some] at h ⊢
  rw [hb.block _ hl]
  exact h
theorem grow_below (w : World) (k : Nat) (os : Array Obj) : Below w.heap.size w (Sort.grow (w.drewN k) os) := by
  refine ⟨rfl, rfl, rfl, ?_, fun j hj => ?_⟩
  · simp [Sort.grow, World.drewN]
  · simp only [Sort.grow, World.drewN]
    rw [Array.getElem?_append_left hj]
theorem digits_small (u : Nat) (h : u < 10) : Lib.decDigits u = [UInt8.ofNat (48 + u)] := by
  rw [Lib.decDigits]; simp [h]
theorem digits_more (u : Nat) (h : ¬ u < 10) : Lib.decDigits u = Lib.decDigits (u / 10) ++ [UInt8.ofNat (48 + u % 10)] := by
  rw [Lib.decDigits]; simp [h]
theorem itoa_digit (x : Int) (h0 : 0 ≤ x) (h9 : x ≤ 9) (w : World) : Calls Tryd.prog 25 #[.int .i64 x] w fun e w' => e = .returned (.string (txt [d8 x])) ∧ w' = w := by
  obtain ⟨i, rfl⟩ := Int.eq_ofNat_of_zero_le h0
  refine (Tryd.strconv_Itoa_small i (by omega) w).mono ?_
  rintro e w' ⟨rfl, rfl⟩
  refine ⟨?_, rfl⟩
  rw [digits_small i (by omega)]
  rfl
theorem d8_cast (u : Nat) : UInt8.ofNat (48 + u) = d8 (u : Int) := rfl
theorem itoa_year (y : Int) (h0 : 1000 ≤ y) (h1 : y ≤ 9999) (w : World) (ht : Tab w) : Calls Tryd.prog 25 #[.int .i64 y] w fun e w' => e = .returned (.string (txt (four8 y))) ∧ Below w.heap.size w w' := by
  refine (Tryd.strconv_Itoa y (by omega) (by omega) w ht).mono ?_
  rintro e w' ⟨rfl, k, os, rfl⟩
  refine ⟨?_, grow_below w k os⟩
  obtain ⟨u, rfl⟩ := Int.eq_ofNat_of_zero_le (show 0 ≤ y by omega)
  have e : Lib.itoa (u : Int) = four8 (u : Int) := by
    unfold Lib.itoa
    rw [if_neg (by omega), Int.toNat_natCast, digits_more u (by omega), digits_more (u / 10) (by omega), digits_more (u / 10 / 10) (by omega), digits_small (u / 10 / 10 / 10) (by omega)]
    simp only [d8_cast, four8, List.append_assoc, List.cons_append, List.nil_append, List.cons.injEq, and_true]
    refine ⟨?_, ?_, ?_, ?_⟩ <;> congr 1 <;> omega
  rw [e]
  rfl
theorem two_is (n : Int) (h0 : 0 ≤ n) (h1 : n ≤ 99) : txt [d8 (n / 10)] ++ txt [d8 (n % 10)] = txt (two8 n) := by
  rw [txt_app, show n / 10 = n / 10 % 10 by omega]
  rfl
theorem two_any (n : Int) (h0 : 0 ≤ n) (h1 : n ≤ 99) (w : World) : Calls Tryd.prog 26 #[.int .i64 n] w fun e w' => e = .returned (.string (txt (two8 n))) ∧ w' = w := by
  rw [← two_is n h0 h1]
  obtain ⟨A, hA⟩ : ∃ A, A = txt [d8 (n / 10)] := ⟨_, rfl⟩
  obtain ⟨B, hB⟩ : ∃ B, B = txt [d8 (n % 10)] := ⟨_, rfl⟩
  have c1 := fun w => itoa_digit (n / 10) (by omega) (by omega) w
  have c2 := fun w => itoa_digit (n % 10) (by omega) (by omega) w
  rw [← hA] at c1 ⊢
  rw [← hB] at c2 ⊢
  have hs : (9223372036854775807 < A.size + B.size) = False := eq_false (by rw [hA, hB, txt_size, txt_size]; simp)
  have C1 := Aside0.mk c1
  have C2 := Aside0.mk c2
  clear hA hB c1 c2
  go_enter Tryd.func26, Tryd.ntmps26
  go_wp2_with (go_at_call 25; first | (refine (C1.out _).mono ?_; rintro e w1 ⟨rfl, rfl⟩) | (refine (C2.out _).mono ?_; rintro e w1 ⟨rfl, rfl⟩))
  go_ret
  exact ⟨rfl, rfl⟩
theorem date_day {n : Int} (h : isDay n) (w : World) : Calls Tryd.prog 9 #[.int .i64 n] w fun e w' => e = .returned (.tuple #[.agg #[.int .i64 (yearOf n), .int .i64 (monthOf n), .int .i64 (dayOf n)], .int .i64 0]) ∧ Below w.heap.size w w' :=
  civil_Date.calls n _ _ _ _ w (by unfold civil_Date.f; rw [date_yes h])
theorem date_none {n : Int} (h : ¬ isDay n) (w : World) : Calls Tryd.prog 9 #[.int .i64 n] w fun e w' => e = .returned (.tuple #[.agg #[.int .i64 0, .int .i64 0, .int .i64 0], .int .i64 5]) ∧ Below w.heap.size w w' :=
  civil_Date.calls n _ _ _ _ w (by unfold civil_Date.f; rw [date_no h])
theorem text_join {n : Int} : ((((txt (four8 (yearOf n)) ++ ⟨#[45]⟩) ++ txt (two8 (monthOf n))) ++ ⟨#[45]⟩) ++ txt (two8 (dayOf n))) = txt (textL n) := by
  have e45 : (⟨#[45]⟩ : ByteArray) = txt [45] := rfl
  rw [e45]
  simp only [txt_app]
  congr 1
theorem text_none {n : Int} (h : ¬ isDay n) (w : World) : Calls Tryd.prog 11 #[.int .i64 n] w fun e w' => e = .returned (.tuple #[.string (txt []), .int .i64 5]) ∧ Below w.heap.size w w' := by
  go_enter Tryd.func11, Tryd.ntmps11
  go_wp2_with (first
    | (go_at_call 9; refine (date_none h _).mono ?_; rintro e w1 ⟨rfl, hb⟩; have HB := Aside0.mk hb; clear hb)
    | ((with_reducible refine gate_dst (N := 4) rfl ?_); refine copy_event rfl (N := 4) rfl rfl rfl (t := 23) (v := .tmp 9) rfl (cs := #[.int .i64 0, .int .i64 0, .int .i64 0]) (zs := #[.int .i64 0, .int .i64 0, .int .i64 0]) ?hr rfl rfl info_date ?hz (date_one _ _ _) ?_; (case hr => first | (go_simp; done) | (go_simp; rfl)); (case hz => rfl); intro g4 hg w2 hb0 hbl0; clear hg hb0; have HB2 := Aside0.mk (below_step HB.out hbl0); clear hbl0))
  all_goals (first | (go_ret2; exact ⟨rfl, HB2.out⟩) | exact ⟨rfl, HB2.out⟩ | trace_state)
end Go.Proofs.YtaimfakcojdadaaDoor.H
