/- The law ProductNames, walked. -/
import Derived.Test.YtcbebbiedegjlaaQf
import Derived.Lib.SlBytesRow
namespace Go.Proofs.Ytcbebbiedegjlaa.Pd
open Go.RowKit Go.Proofs.YtcbebbiedegjlaaW.PrintWords Go.Proofs.YtcbebbiedegjlaaW.PrintLast Go.Proofs.YtcbebbiedegjlaaW.PrintMore Go.Proofs.Ytcbebbiedegjlaa.HW
open Pm
set_option linter.unusedVariables false
set_option linter.unusedSimpArgs false
/-- The letters of a name, in a row. -/
abbrev alphaB : ByteArray := ⟨#[97, 98, 99, 100, 101, 102, 103, 104, 105, 106, 107, 108, 109, 110, 111, 112, 113, 114, 115, 116, 117, 118, 119, 120, 121, 122, 48, 49, 50, 51, 52, 53, 54, 55, 56, 57, 45]⟩
theorem alpha_letter : ∀ j : Fin 37, letter (alphaB[j.val]'(by have := j.isLt; show j.val < 37; exact this)) = true := by decide +kernel
theorem rd_mem {l : List Int} {k : Nat} (h : k < l.length) : rd l (k : Int) ∈ l := by
  have : rd l (k : Int) = l[k] := by simp [rd, h]
  rw [this]; exact List.getElem_mem h
theorem txt_app1 (t : List UInt8) (c : UInt8) : txt t ++ txt [c] = txt (t ++ [c]) := by
  apply ByteArray.ext
  simp [txt]
theorem words_bad : ∀ j : Fin 34, nameOk (wordsB[j.val]'(by have := j.isLt; show j.val < 34; exact this)).data.toList = false := by decide +kernel
theorem words_more : ∀ j : Fin 34, nameOk ((wordsB[j.val]'(by have := j.isLt; show j.val < 34; exact this)).data.toList ++ [120]) = true := by decide +kernel
theorem words_size : ∀ j : Fin 34, (wordsB[j.val]'(by have := j.isLt; show j.val < 34; exact this)).size ≤ 9 := by decide +kernel
theorem names_at (x : Int) : ∃ i : Nat, i < 34 ∧ wrap64 (Int.tmod (IntKind.u64.wrap x) 34) = (i : Int) := by
  have h := Int.emod_nonneg x (show (18446744073709551616 : Int) ≠ 0 by omega)
  have e : IntKind.u64.wrap x = x % 18446744073709551616 := rfl
  rw [e, Int.tmod_eq_emod_of_nonneg h]
  have h1 := Int.emod_nonneg (x % 18446744073709551616) (show (34 : Int) ≠ 0 by omega)
  have h2 := Int.emod_lt_of_pos (x % 18446744073709551616) (show (0 : Int) < 34 by omega)
  exact ⟨(x % 18446744073709551616 % 34).toNat, by omega, by unfold wrap64; omega⟩
theorem name_bad {c : UInt8} (l : List UInt8) (h : small c = false) : nameOk (c :: l) = false := by
  unfold nameOk
  rw [show chars (c :: l) = false by simp only [chars, h, Bool.false_and]]; simp
theorem name_good {c : UInt8} {l : List UInt8} (h1 : small c = true) (h2 : l.all letter = true) : nameOk (c :: l) = (decide ((c :: l).length ≤ 20) && !isWord (c :: l)) := by
  unfold nameOk
  rw [show chars (c :: l) = true by simp only [chars, h1, h2, Bool.true_and], decide_eq_true (show 1 ≤ (c :: l).length by simp only [List.length_cons]; omega), Bool.true_and, Bool.true_and]
theorem app_list (a b : ByteArray) : (a ++ b).data.toList = a.data.toList ++ b.data.toList := by simp
set_option maxRecDepth 100000 in
set_option maxHeartbeats 2000000 in
theorem productNames_walk (a0 : Option Addr) (c0 : Nat) (l : List Int) (a1 : Int) (w : World) (hr : Kd.C (Kd.int .u8) w a0 l.length l) (hl : l.length ≤ c0) (hn : a0 = none → c0 = 0) (hm : l.length * 1 ≤ 140737488351232) (hw : ∀ x ∈ l, (Lit.int .u8 x).wf = true) (w1 : (Lit.int .i64 a1).wf = true) (hg : GV w) :
    Calls Try.prog 6 #[.slice a0 l.length c0, .int .i64 a1] w fun e w' => e = .returned (.bool true) ∧ Below w.heap.size w w' := by
  obtain ⟨wi, hwi, ei⟩ := names_at a1
  have EI := Aside0.mk ei
  clear ei
  have HR := Aside0.mk hr
  have HW := Aside0.mk hw
  have HG := Aside0.mk hg
  clear hr hw hg hn w1
  go_enter Try.func6, Try.ntmps6
  go_wp2_with fail
  go_loopg [5, 6] 31 (fun gq sv i w' => ∃ (k : Nat) (t : List UInt8), k ≤ l.length ∧ k ≤ 30 ∧ i = .int .i64 k ∧ sv = .string (txt (110 :: t)) ∧ Aside0 (t.length = k) ∧ Aside0 (t.all letter = true) ∧ Aside0 (gq = 31 - k) ∧ Aside0 (Below w.heap.size w w'))
  case atStart => exact ⟨0, [], Nat.zero_le _, Nat.zero_le _, rfl, rfl, ⟨rfl⟩, ⟨rfl⟩, ⟨rfl⟩, ⟨Below.refl _ _⟩⟩
  case round =>
    obtain ⟨k, t, hk, h30, rfl, rfl, hlen, hal, hgq, hbl⟩ := hrel
    by_cases hlt2 : k < l.length ∧ k < 30
    · obtain ⟨hlt, hlt30⟩ := hlt2
      · obtain ⟨ad, e0, hx0⟩ := Kd.at_int (Kd.C_below HR.out hbl.out) (k : Int) (by omega) (by omega)
        subst e0
        rw [Int.toNat_natCast] at hx0
        have hwf := HW.out (rd l (k : Int)) (rd_mem hlt)
        generalize rd l (k : Int) = x at *
        have bx : 0 ≤ x ∧ x ≤ 255 := by
          have h := (Bool.and_eq_true _ _).mp hwf
          exact ⟨of_decide_eq_true h.1, of_decide_eq_true h.2⟩
        obtain ⟨bx0, bx1⟩ := bx
        have kk0 : (0 : Int) ≤ (k : Int) := by omega
        have kk1 : (k : Int) < (l.length : Int) := by omega
        have kk2 : (k : Int) < 30 := by omega
        clear hwf
        go_wp2_with ((with_reducible refine gate_dst (N := 28) rfl ?_); refine Hid.out ?_)
        refine Lib.hid ?_
        obtain ⟨j, hj⟩ : ∃ j : Nat, x % 37 = (j : Int) := ⟨(x % 37).toNat, by omega⟩
        have hj37 : j < 37 := by omega
        rw [hj]
        have jj0 : (0 : Int) ≤ (j : Int) := by omega
        have jj1 : (j : Int) < 37 := by omega
        clear hj
        go_wp2_with ((with_reducible refine gate_dst (N := 29) rfl ?_); refine Hid.out ?_)
        refine Lib.hid ?_
        have hcl := alpha_letter ⟨j, hj37⟩
        generalize hcc : alphaB[j]'(by show j < 37; exact hj37) = c at hcl ⊢
        have HCL := Aside0.mk hcl
        clear hcl hcc
        refine Kd.event_run rfl (v := .slice (some ⟨wr.heap.size, 0, none⟩) 1 1) (w1 := wr.alloc (.cells #[.int .u8 c.toNat] 5 (0, 0))) ?hr ?_
        case hr => first | (go_simp; done) | (go_simp; rfl)
        have hcb : Lib.Bytes (wr.alloc (.cells #[.int .u8 c.toNat] 5 (0, 0))) wr.heap.size 0 (txt [c]) := fun i hi => by
          have h0 : i = 0 := by have : (txt [c]).size = 1 := rfl; omega
          subst h0
          exact (blk_cell (heap_alloc_new wr _) 0).trans rfl
        have hcv := Lib.run_convert_whole (P := Try.prog) _ 48 5 9 Try.underlying48 Try.underlying5 Try.underlying9 wr.heap.size 0 (txt [c]) hcb 1
        have BL2 := Aside0.mk (hbl.out.alloc hbl.out.size (.cells #[.int .u8 c.toNat] 5 (0, 0)))
        generalize wr.alloc (.cells #[.int .u8 c.toNat] 5 (0, 0)) = wq at *
        generalize wr.heap.size = hsz at *
        have hcv2 : (convert 48 9 (.slice (some ⟨hsz, 0, none⟩) 1 1)).run Try.prog wq = .ok (.string (txt [c])) wq := hcv
        have HT2 := Aside0.mk (txt_app1 (110 :: t) c)
        have sz1 : (txt (110 :: t)).size ≤ 31 := by have := hlen.out; show (110 :: t).length ≤ 31; simp only [List.length_cons]; omega
        have sz2 : (txt [c]).size ≤ 1 := Nat.le_refl _
        clear hcb hcv hbl hx0
        go_frame
        go_wp2_with fail
        go_roundg (31 - (k + 1))
        case measure => have := hgq.out; omega
        case rel => exact ⟨k + 1, t ++ [c], by omega, by omega, by simp, by rw [HT2.out]; rfl, ⟨by have := hlen.out; simp; exact this⟩, ⟨by rw [List.all_append, hal.out]; simp [HCL.out]⟩, ⟨rfl⟩, BL2⟩
    · rcases (by omega : l.length ≤ k ∨ (k < l.length ∧ 30 ≤ k)) with hx | ⟨hx, hy⟩
      all_goals
        clear hlt2
        have hsz : (txt (110 :: t)).size ≤ 31 := by have := hlen.out; show (110 :: t).length ≤ 31; simp only [List.length_cons]; omega
        have HSS := Aside0.mk (show (txt (110 :: t)).data.toList = 110 :: t from rfl)
        obtain ⟨s, hs⟩ : ∃ s, txt (110 :: t) = s := ⟨_, rfl⟩
        rw [hs] at hsz HSS
        have HNG := Aside0.mk (name_good (c := 110) (l := t) (by decide) hal.out)
        have HBL := Aside0.mk hbl.out
        have HLS := Aside0.mk (show (110 :: t).length = s.size by rw [← hs]; rfl)
        rw [hs]
        clear hbl hs hlen hal
        go_wp2_with fail
        refine (words_any _).mono ?_
        rintro e w2 ⟨g, rfl, hb, hbl⟩
        have HBW := Aside0.mk hb
        have BL2 := Aside0.mk (below_step HBL.out hbl)
        have hcw : w2.cell? ⟨g, wi, none⟩ = some (.string (wordsB[wi]'(by show wi < 34; exact hwi))) := by
          rw [blk_cell hb wi, List.getElem?_toArray, List.getElem?_map, List.getElem?_eq_getElem (by show wi < 34; exact hwi)]; rfl
        have hb1 := words_bad ⟨wi, hwi⟩
        have hb2 := words_more ⟨wi, hwi⟩
        have hb3 := words_size ⟨wi, hwi⟩
        generalize wordsB[wi]'(by show wi < 34; exact hwi) = ww at hcw hb1 hb2 hb3
        have HN1 := Aside0.mk hb1
        have HN2 := Aside0.mk hb2
        have ei := EI.out
        have ii0 : (0 : Int) ≤ (wi : Int) := by omega
        have ii1 : (wi : Int) < 34 := by omega
        clear hb hbl hb1 hb2 HBL
        go_wp2_with fail
        clear ei
        go_loop [9, 10] (fun bv i => ∃ (m : Nat) (b : Bool), m ≤ 34 ∧ i = .int .i64 m ∧ bv = .bool b ∧ Aside0 (b = true ↔ s ∈ wordsB.take m)) (fun _ i => 34 - (intOf i).toNat)
        case atStart => exact ⟨0, false, Nat.zero_le _, rfl, rfl, ⟨by simp⟩⟩
        case round =>
          obtain ⟨m, b, hm34, rfl, rfl, hbb⟩ := hrel
          by_cases hml : m < 34
          · have hwm : w2.cell? ⟨g, m, none⟩ = some (.string (wordsB.getD m ByteArray.empty)) := by
              rw [blk_cell HBW.out m, List.getElem?_toArray, List.getElem?_map, List.getD_eq_getElem?_getD, List.getElem?_eq_getElem (show m < wordsB.length from hml)]; rfl
            have htk : wordsB.take (m + 1) = wordsB.take m ++ [wordsB.getD m ByteArray.empty] := by
              rw [List.take_succ_eq_append_getElem (show m < wordsB.length from hml), List.getD_eq_getElem?_getD, List.getElem?_eq_getElem (show m < wordsB.length from hml)]; rfl
            generalize wordsB.getD m ByteArray.empty = y at hwm htk
            have HTK := Aside0.mk htk
            have mm0 : (0 : Int) ≤ (m : Int) := by omega
            have mm1 : (m : Int) < 34 := by omega
            clear htk
            cases b with
            | true =>
              go_wp2_with fail
              go_round
              case rel => exact ⟨m + 1, true, by omega, by go_num, rfl, ⟨by rw [HTK.out, List.mem_append]; exact ⟨fun _ => Or.inl (hbb.out.1 rfl), fun _ => rfl⟩⟩⟩
              case measure => simp [intOf]; omega
            | false =>
              by_cases hy : y = s
              · have hy2 : (y.toList == s.toList) = true := (str_eq y s).2 hy
                have HY := Aside0.mk hy
                clear hy
                go_wp2_with fail
                go_round
                case rel => exact ⟨m + 1, true, by omega, by go_num, rfl, ⟨by rw [HTK.out, List.mem_append, HY.out]; simp⟩⟩
                case measure => simp [intOf]; omega
              · have hy2 : (y.toList == s.toList) = false := by
                  cases h : (y.toList == s.toList) with
                  | true => exact absurd ((str_eq y s).1 h) hy
                  | false => rfl
                have HY := Aside0.mk hy
                clear hy
                go_wp2_with fail
                go_round
                case rel => exact ⟨m + 1, false, by omega, by go_num, rfl, ⟨by rw [HTK.out, List.mem_append]; exact ⟨fun h => by (cases h), fun h => by
                  rcases h with h | h
                  · exact hbb.out.2 h
                  · simp at h; exact absurd h.symm HY.out⟩⟩⟩
                case measure => simp [intOf]; omega
          · have hm2 : m = 34 := by omega
            have hbw : isWord (110 :: t) = b := by
              have h1 := wordsB_is s
              rw [HSS.out] at h1
              have h2 := hbb.out
              rw [List.take_of_length_le (show wordsB.length ≤ m by show 34 ≤ m; omega)] at h2
              rw [Bool.eq_iff_iff, h1, h2]
            have hng := HNG.out
            rw [hbw] at hng
            have HNG2 := Aside0.mk (show nameOk s.data.toList = (decide ((110 :: t).length ≤ 20) && !b) by rw [HSS.out]; exact hng)
            have HX1 := Aside0.mk (show nameOk (((⟨#[49]⟩ : ByteArray) ++ s).data.toList) = false by rw [app_list]; exact name_bad _ (by decide))
            have HX2 := Aside0.mk (show nameOk (((⟨#[45]⟩ : ByteArray) ++ s).data.toList) = false by rw [app_list]; exact name_bad _ (by decide))
            have HX3 := Aside0.mk (show nameOk (((⟨#[78]⟩ : ByteArray) ++ s).data.toList) = false by rw [app_list]; exact name_bad _ (by decide))
            have HX4 := Aside0.mk (show nameOk ((ww ++ (⟨#[120]⟩ : ByteArray)).data.toList) = true by rw [app_list]; exact HN2.out)
            clear hml hng hbw hbb
            have hszx : s.size ≤ 31 := hsz
            by_cases h20 : s.size ≤ 20
            · have e20 : decide ((110 :: t).length ≤ 20) = true := decide_eq_true (by rw [HLS.out]; exact h20)
              rw [e20, Bool.true_and] at HNG2
              have d20 : decide ((s.size : Int) ≤ 20) = true := decide_eq_true (by omega)
              clear e20
              cases b
              all_goals
                go_wp2_with fail
                refine (prod_awake _ (HG.out.below BL2.out)).mono ?_
                rintro e v1 ⟨rfl, hb⟩
                have B1 := Aside0.mk (below_step BL2.out hb)
                clear hb
                go_wp2_with fail
                refine (name_is HNG2.out (HG.out.below B1.out)).mono ?_
                rintro e v2 ⟨rfl, hb⟩
                have B2 := Aside0.mk (below_step B1.out hb)
                clear hb
                go_wp2_with fail
                refine (name_is HN1.out (HG.out.below B2.out)).mono ?_
                rintro e v3 ⟨rfl, hb⟩
                have B3 := Aside0.mk (below_step B2.out hb)
                clear hb
                go_wp2_with fail
                refine (name_is HX4.out (HG.out.below B3.out)).mono ?_
                rintro e v4 ⟨rfl, hb⟩
                have B4 := Aside0.mk (below_step B3.out hb)
                clear hb
                go_wp2_with fail
                refine (name_is HX1.out (HG.out.below B4.out)).mono ?_
                rintro e v5 ⟨rfl, hb⟩
                have B5 := Aside0.mk (below_step B4.out hb)
                clear hb
                go_wp2_with fail
                refine (name_is HX2.out (HG.out.below B5.out)).mono ?_
                rintro e v6 ⟨rfl, hb⟩
                have B6 := Aside0.mk (below_step B5.out hb)
                clear hb
                go_wp2_with fail
                refine (name_is HX3.out (HG.out.below B6.out)).mono ?_
                rintro e v7 ⟨rfl, hb⟩
                have B7 := Aside0.mk (below_step B6.out hb)
                clear hb
                go_wp2_with fail
                refine (name_is (r := false) (by decide +kernel) (HG.out.below B7.out)).mono ?_
                rintro e v8 ⟨rfl, hb⟩
                have B8 := Aside0.mk (below_step B7.out hb)
                clear hb
                go_wp2_with fail
                go_ret
                exact ⟨rfl, B8.out⟩
            · have e20 : decide ((110 :: t).length ≤ 20) = false := decide_eq_false (by rw [HLS.out]; exact h20)
              rw [e20, Bool.false_and] at HNG2
              have d20 : decide ((s.size : Int) ≤ 20) = false := decide_eq_false (by omega)
              clear e20 h20
              cases b
              all_goals
                go_wp2_with fail
                refine (prod_awake _ (HG.out.below BL2.out)).mono ?_
                rintro e v1 ⟨rfl, hb⟩
                have B1 := Aside0.mk (below_step BL2.out hb)
                clear hb
                go_wp2_with fail
                refine (name_is HNG2.out (HG.out.below B1.out)).mono ?_
                rintro e v2 ⟨rfl, hb⟩
                have B2 := Aside0.mk (below_step B1.out hb)
                clear hb
                go_wp2_with fail
                refine (name_is HN1.out (HG.out.below B2.out)).mono ?_
                rintro e v3 ⟨rfl, hb⟩
                have B3 := Aside0.mk (below_step B2.out hb)
                clear hb
                go_wp2_with fail
                refine (name_is HX4.out (HG.out.below B3.out)).mono ?_
                rintro e v4 ⟨rfl, hb⟩
                have B4 := Aside0.mk (below_step B3.out hb)
                clear hb
                go_wp2_with fail
                refine (name_is HX1.out (HG.out.below B4.out)).mono ?_
                rintro e v5 ⟨rfl, hb⟩
                have B5 := Aside0.mk (below_step B4.out hb)
                clear hb
                go_wp2_with fail
                refine (name_is HX2.out (HG.out.below B5.out)).mono ?_
                rintro e v6 ⟨rfl, hb⟩
                have B6 := Aside0.mk (below_step B5.out hb)
                clear hb
                go_wp2_with fail
                refine (name_is HX3.out (HG.out.below B6.out)).mono ?_
                rintro e v7 ⟨rfl, hb⟩
                have B7 := Aside0.mk (below_step B6.out hb)
                clear hb
                go_wp2_with fail
                refine (name_is (r := false) (by decide +kernel) (HG.out.below B7.out)).mono ?_
                rintro e v8 ⟨rfl, hb⟩
                have B8 := Aside0.mk (below_step B7.out hb)
                clear hb
                go_wp2_with fail
                go_ret
                exact ⟨rfl, B8.out⟩
end Go.Proofs.Ytcbebbiedegjlaa.Pd
