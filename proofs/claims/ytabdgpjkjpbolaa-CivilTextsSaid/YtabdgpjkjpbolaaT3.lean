/- The law CivilTexts, walked. -/
import Derived.Test.YtabdgpjkjpbolaaT2
import Derived.Test.YtabdgpjkjpbolaaHW
namespace Go.Proofs.Ytabdgpjkjpbolaa.H
open Go.RowKit Go.Proofs.YtabdgpjkjpbolaaW.PrintWords Go.Proofs.YtabdgpjkjpbolaaW.PrintLast Go.Proofs.YtabdgpjkjpbolaaW.PrintMore Go.Proofs.Ytabdgpjkjpbolaa.HW
open Go.Proofs.Ytabdgpjkjpbolaa.Math
set_option linter.unusedVariables false
set_option linter.unusedSimpArgs false
theorem law03_day (x : Int) : ∃ n, isDay n ∧ PA.quittancelaw03_day.f x = some n := by
  refine ⟨_, ?_, rfl⟩
  have h := Int.emod_nonneg x (show (18446744073709551616 : Int) ≠ 0 by omega)
  have e : IntKind.u64.wrap x = x % 18446744073709551616 := rfl
  rw [e, Int.tmod_eq_emod_of_nonneg h]
  have h1 := Int.emod_nonneg (x % 18446744073709551616) (show (109938 : Int) ≠ 0 by omega)
  have h2 := Int.emod_lt_of_pos (x % 18446744073709551616) (show (0 : Int) < 109938 by omega)
  rw [w64 (x := x % 18446744073709551616 % 109938) (by omega) (by omega), w64 (by omega) (by omega)]
  unfold isDay
  omega
theorem law03_at (x : Int) : ∃ i : Nat, i < 10 ∧ wrap64 (Int.tmod (IntKind.u64.wrap x) 10) = (i : Int) := by
  have h := Int.emod_nonneg x (show (18446744073709551616 : Int) ≠ 0 by omega)
  have e : IntKind.u64.wrap x = x % 18446744073709551616 := rfl
  rw [e, Int.tmod_eq_emod_of_nonneg h]
  have h1 := Int.emod_nonneg (x % 18446744073709551616) (show (10 : Int) ≠ 0 by omega)
  have h2 := Int.emod_lt_of_pos (x % 18446744073709551616) (show (0 : Int) < 10 by omega)
  rw [w64 (x := x % 18446744073709551616 % 10) (by omega) (by omega)]
  exact ⟨(x % 18446744073709551616 % 10).toNat, by omega, by omega⟩
theorem law03_awake (w : World) : Calls Try.prog 21 #[] w fun e w' => e = .returned (.bool true) ∧ Below w.heap.size w w' :=
  PF.quittancelaw03_awake.calls 1 true w (by kernel_rfl)
theorem take_any {s : ByteArray} {r1 r2 : Int} (h : PF.civil_Take.f 1 s = some (r1, r2)) (w : World) : Calls Try.prog 22 #[.string s] w fun e w' => e = .returned (.tuple #[.int .i64 r1, .int .i64 r2]) ∧ Below w.heap.size w w' :=
  PF.civil_Take.calls 1 s r1 r2 w h
theorem frozen_bytes (w : World) (e : TypeId) (s : ByteArray) {i : Nat} (h : i < s.size) : (Lib.bytesWorld w e s).frozen? ⟨w.heap.size, i, none⟩ = false := by
  have hs : s.size ≤ (Lib.bytesCells w e s).size := by simp [Lib.bytesCells]
  simp only [World.frozen?, Lib.bytesWorld_at_new]
  rw [decide_eq_false (by omega)]; rfl
theorem below_bytes (w : World) (t : ByteArray) : Below w.heap.size w (Lib.bytesWorld w 5 t) := by
  refine ⟨rfl, rfl, rfl, ?_, fun k hk => ?_⟩
  · rw [Lib.bytesWorld_size]; omega
  · exact Lib.bytesWorld_at_old _ _ _ k hk
theorem str_set (l : List UInt8) (i : Nat) (v : Int) : strOfNums ((bytesOf (txt l)).set i v) = txt (l.set i (UInt8.ofNat v.toNat)) := by
  have e : ((l.map fun b => (b.toNat : Int)).map fun n => UInt8.ofNat n.toNat) = l := by
    rw [List.map_map]
    conv => rhs; rw [← List.map_id l]
    exact List.map_congr_left (fun b _ => by simp)
  unfold strOfNums bytesOf txt
  rw [List.map_set]
  show (⟨(List.set (List.map (fun n : Int => UInt8.ofNat n.toNat) (List.map (fun b : UInt8 => (b.toNat : Int)) l)) i _).toArray⟩ : ByteArray) = _
  rw [e]
theorem reads_set {w : World} {b n i : Nat} {xs : List Int} {v : Int} (h : ReadsInt w .u8 (some ⟨b, 0, none⟩) n xs) (hi : i < n) : ReadsInt (w.setCell ⟨b, i, none⟩ (.int .u8 v)) .u8 (some ⟨b, 0, none⟩) n (xs.set i v) := by
  obtain ⟨h1, h2, h3⟩ := h
  refine ⟨by rw [List.length_set]; exact h1, h2, fun hn => ?_⟩
  obtain ⟨ad, e, hc⟩ := h3 hn
  cases e
  refine ⟨_, rfl, fun j hj => ?_⟩
  have hj' := hc j hj
  have hi' := hc i hi
  by_cases e : i = j
  · subst e
    have : (⟨b, i, none⟩ : Addr) = (⟨b, 0, none⟩ : Addr).add i := by simp [Addr.add]
    rw [this, World.cell?_setCell_same (h := hi')]
    simp [List.getD_eq_getElem?_getD, h1, hi]
  · rw [World.cell?_setCell_other (h := by simp only [Addr.add, ne_eq]; split <;> (simp only [Addr.mk.injEq]; omega)), hj']
    simp [List.getD_eq_getElem?_getD, e]
set_option maxRecDepth 100000 in
set_option maxHeartbeats 4000000 in
theorem civilTexts_walk (a0 a1 a2 : Int) (w : World) (w0 : (Lit.int .i64 a0).wf = true) (w1 : (Lit.int .i64 a1).wf = true) (w2 : (Lit.int .u8 a2).wf = true) : Calls Try.prog 3 #[.int .i64 a0, .int .i64 a1, .int .u8 a2] w fun e w' => e = .returned (.bool true) ∧ Below w.heap.size w w' := by
  clear w0 w1
  have u0 : 0 ≤ a2 ∧ a2 ≤ 255 := by
    have h := (Bool.and_eq_true _ _).mp w2
    exact ⟨of_decide_eq_true h.1, of_decide_eq_true h.2⟩
  obtain ⟨u0, u1⟩ := u0
  clear w2
  obtain ⟨n, hd, en⟩ := law03_day a0
  obtain ⟨i, hi, ei⟩ := law03_at a1
  have HN := Aside0.mk en
  have HD := Aside0.mk hd
  have hcv := fun (W : World) (t : ByteArray) => Lib.run_convert_string_bytes (P := Try.prog) W 9 27 5 t Try.underlying9 Try.underlying27 Try.underlying5
  clear en hd
  go_enter Try.func3, Try.ntmps3
  go_wp2_with fail
  refine (PA.quittancelaw03_day.calls _ _ _ HN.out).mono ?_
  rintro e w1 ⟨rfl, ⟨m1, rfl⟩⟩
  go_wp2_with fail
  refine (PTX.quittanceref03_Text.calls _ _ _ _ (text_is HD.out)).mono ?_
  rintro e w1 ⟨rfl, hb⟩
  have hsz : (txt (textL n)).size = 10 := by rw [txt_size]; rfl
  obtain ⟨old, hci⟩ : ∃ v, (Lib.bytesWorld w1 5 (txt (textL n))).cell? ⟨w1.heap.size, i, none⟩ = some (.int .u8 v) := ⟨_, Lib.bytesWorld_cell w1 5 (txt (textL n)) i (by rw [hsz]; exact hi)⟩
  have hfr : (Lib.bytesWorld w1 5 (txt (textL n))).frozen? ⟨w1.heap.size, i, none⟩ = false := frozen_bytes w1 5 _ (by rw [hsz]; exact hi)
  have hstr : ∀ c, (Sem.run Try.prog (convert 27 9 (Value.slice (some ⟨w1.heap.size, 0, none⟩) 10 c)) ((Lib.bytesWorld w1 5 (txt (textL n))).setCell ⟨w1.heap.size, i, none⟩ (.int .u8 a2))) = .ok (.string (txt ((textL n).set i (UInt8.ofNat a2.toNat)))) ((Lib.bytesWorld w1 5 (txt (textL n))).setCell ⟨w1.heap.size, i, none⟩ (.int .u8 a2)) := fun c => by
    have h := string_of_reads (P := Try.prog) (src := 27) (dst := 9) (e := 5) (c := c) Try.underlying27 Try.underlying5 Try.underlying9 (reads_set (v := a2) (bytes_reads w1 5 (txt (textL n)) (by rw [hsz]; omega)) (by rw [hsz]; exact hi))
    rw [hsz, str_set] at h
    exact h
  have HB := Aside0.mk ((below_step (below_step (pw_below_drewN (Below.refl _ w) m1) hb) (below_bytes w1 (txt (textL n)))).setCell (p := (⟨w1.heap.size, i, none⟩ : Addr)) (show w.heap.size ≤ w1.heap.size from hb.size) (.int .u8 a2))
  have hb' := hb
  clear hb
  have HM := Aside0.mk (show PF.civil_Take.f 1 ((txt (textL n)).extract 0 4 ++ ⟨#[45, 49, 51]⟩ ++ (txt (textL n)).extract 7 10) = some (0, 5) by
    have e1 : (txt (textL n)).extract 0 4 = txt (four8 (yearOf n)) := by apply ByteArray.ext; simp [txt, textL, four8, ByteArray.data_extract]
    have e2 : (txt (textL n)).extract 7 10 = txt (45 :: two8 (dayOf n)) := by apply ByteArray.ext; simp [txt, textL, four8, two8, ByteArray.data_extract]
    rw [e1, e2, show (⟨#[45, 49, 51]⟩ : ByteArray) = txt [45, 49, 51] from rfl, txt_app, txt_app, List.append_assoc]
    exact take_month HD.out)
  have HL := Aside0.mk (show PF.civil_Take.f 1 (txt (textL n) ++ ⟨#[48]⟩) = some (0, 4) by rw [show (⟨#[48]⟩ : ByteArray) = txt [48] from rfl, txt_app]; exact take_long _ (by simp [textL_len]))
  by_cases hx : (48 ≤ a2 ∧ a2 ≤ 57) ∨ a2 = 45
  · have HB1 := Aside0.mk (below_step (pw_below_drewN (Below.refl _ w) m1) hb')
    clear hb' hci hfr hstr HB HM HL
    rcases hx with ⟨hx, hy⟩ | hx
    all_goals
      go_wp2_with fail
      refine (law03_awake _).mono ?_
      rintro e w2 ⟨rfl, hb⟩
      have HB2 := Aside0.mk (below_step HB1.out hb)
      clear hb
      go_wp2_with fail
      go_ret
      exact ⟨rfl, HB2.out⟩
  · clear hb'
    obtain ⟨hx1, hx2⟩ := not_or.1 hx
    have hx3 : a2 < 48 ∨ (57 < a2 ∧ decide (a2 ≤ 57) = false) := by
      rcases (by omega : a2 < 48 ∨ 57 < a2) with h | h
      · exact Or.inl h
      · exact Or.inr ⟨h, decide_eq_false (by omega)⟩
    have hnat : ((UInt8.ofNat a2.toNat).toNat : Int) = a2 := by rw [UInt8.toNat_ofNat']; omega
    have HT := Aside0.mk (take_byte n i hi (UInt8.ofNat a2.toNat) (by rw [hnat]; omega) (by rw [hnat]; exact hx2))
    clear hx hx1
    rcases hx3 with hx | ⟨hx, q1⟩
    all_goals
      go_wp2_with fail
      refine (take_any HT.out _).mono ?_
      rintro e w2 ⟨rfl, hb⟩
      have HB2 := Aside0.mk (below_step HB.out hb)
      clear hb hci hfr hstr
      go_wp2_with fail
      refine (take_any HL.out _).mono ?_
      rintro e w3 ⟨rfl, hb⟩
      have HB3 := Aside0.mk (below_step HB2.out hb)
      clear hb
      go_wp2_with fail
      go_cut [14, 15] (fun s14 s15 wx => s14 = .int .i64 0 ∧ s15 = .int .i64 5 ∧ Aside0 (Below w.heap.size w wx))
      case first =>
        go_region_with ((go_at_call 22; refine (take_any HM.out _).mono ?_; rintro e w5 ⟨rfl, hb⟩; have B5 := Aside0.mk (below_step (by first | exact pw_below_drewN HB3.out _ | exact Below.drew HB3.out | exact HB3.out) hb); clear hb))
        all_goals
          go_wp2_with fail
          go_meet
          case rel => exact ⟨rfl, rfl, ⟨by first | exact B5.out | exact Below.drew B5.out | exact pw_below_drewN B5.out _⟩⟩
      case rest =>
        obtain ⟨rfl, rfl, B5⟩ := hcut
        go_wp2_with fail
        refine (law03_awake _).mono ?_
        rintro e w6 ⟨rfl, hb⟩
        have B6 := Aside0.mk (below_step B5.out hb)
        clear hb
        go_wp2_with fail
        go_ret
        exact ⟨rfl, B6.out⟩
end Go.Proofs.Ytabdgpjkjpbolaa.H
