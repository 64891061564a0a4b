/- Contracts by hand: the document's names, orders and holidays. -/
import Derived.Test.YtcbebbiedegjlaaQa
import Derived.IntWalk
namespace Go.Proofs.Ytcbebbiedegjlaa.Pd
open Go.RowKit Go.Proofs.YtcbebbiedegjlaaW.PrintWords Go.Proofs.YtcbebbiedegjlaaW.PrintLast Go.Proofs.YtcbebbiedegjlaaW.PrintMore Go.Proofs.Ytcbebbiedegjlaa.HW
open Pm
set_option linter.unusedVariables false
set_option linter.unusedSimpArgs false
/-- The letters from a place on. -/
def restOk (k : Nat) (l : List UInt8) : Bool := if k = 0 then chars l else l.all letter
theorem restOk_succ (k : Nat) (l : List UInt8) : restOk (k + 1) l = l.all letter := by unfold restOk; rw [if_neg (by omega)]
theorem restOk_nil (k : Nat) : restOk k [] = true := by unfold restOk; split <;> rfl
theorem drop_byte (s : ByteArray) (k : Nat) (h : k < s.size) : s.data.toList.drop k = s[k] :: s.data.toList.drop (k + 1) := by
  rw [List.drop_eq_getElem_cons (by simpa using h)]; rfl
theorem small_of {c : UInt8} (h1 : 97 ≤ (c.toNat : Int)) (h2 : (c.toNat : Int) ≤ 122) : small c = true := by simp [small, h1, h2]
theorem small_not {c : UInt8} (h : (c.toNat : Int) < 97 ∨ 122 < (c.toNat : Int)) : small c = false := by
  cases hc : small c with
  | false => rfl
  | true => exfalso; simp [small] at hc; omega
theorem other_of {c : UInt8} (h : (48 ≤ (c.toNat : Int) ∧ (c.toNat : Int) ≤ 57) ∨ (c.toNat : Int) = 45) : other c = true := by simpa [other] using h
theorem other_not {c : UInt8} (h : ¬ ((48 ≤ (c.toNat : Int) ∧ (c.toNat : Int) ≤ 57) ∨ (c.toNat : Int) = 45)) : other c = false := by
  cases hc : other c with
  | false => rfl
  | true => exact absurd (by simpa [other] using hc) h
set_option maxRecDepth 100000 in
set_option maxHeartbeats 2000000 in
theorem rname_any (s : ByteArray) (w : World) (hs : s.size ≤ 140737488351232) : Calls Try.prog 18 #[.string s] w fun e w' => e = .returned (.bool (nameOk s.data.toList)) ∧ Below w.heap.size w w' := by
  obtain ⟨l, hl⟩ : ∃ l, s.data.toList = l := ⟨_, rfl⟩
  obtain ⟨bb, hbb⟩ : ∃ bb, chars l = bb := ⟨_, rfl⟩
  obtain ⟨r, hr⟩ : ∃ r, nameOk s.data.toList = r := ⟨_, rfl⟩
  have hr2 := hr
  unfold nameOk at hr2
  rw [hl, hbb] at hr2
  have hlen : l.length = s.size := by rw [← hl]; rfl
  rw [hlen] at hr2
  have HR := Aside0.mk hr2
  have HL := Aside0.mk hl
  have HBB := Aside0.mk hbb
  have HLEN := Aside0.mk hlen
  rw [hr]
  clear hr hr2 hl hbb hlen
  go_enter Try.func18, Try.ntmps18
  go_wp2_with fail
  go_loop [3] (fun i => ∃ (k : Nat), k ≤ s.size ∧ i = .int .i64 k ∧ Aside0 (restOk k (l.drop k) = bb)) (fun i => s.size - (intOf i).toNat)
  case atStart => exact ⟨0, Nat.zero_le _, rfl, ⟨HBB.out⟩⟩
  case round =>
    obtain ⟨k, hk, rfl, hd⟩ := hrel
    by_cases hlt : k < s.size
    · have hd2 := hd.out
      rw [← HL.out, drop_byte s k hlt, HL.out] at hd2
      obtain ⟨c, hc⟩ : ∃ c, s[k] = c := ⟨_, rfl⟩
      rw [hc] at hd2
      have hb0 : 0 ≤ (c.toNat : Int) := by omega
      have hb1 : (c.toNat : Int) ≤ 255 := by have := c.toNat_lt; omega
      have kk0 : (0 : Int) ≤ (k : Int) := by omega
      clear hd
      rcases (by omega : (97 ≤ (c.toNat : Int) ∧ (c.toNat : Int) ≤ 122) ∨ (48 ≤ (c.toNat : Int) ∧ (c.toNat : Int) ≤ 57) ∨ (c.toNat : Int) = 45 ∨ ((c.toNat : Int) < 48 ∧ (c.toNat : Int) ≠ 45) ∨ (57 < (c.toNat : Int) ∧ (c.toNat : Int) < 97) ∨ 122 < (c.toNat : Int)) with ⟨q1, q2⟩ | ⟨q1, q2⟩ | q1 | ⟨q1, q2⟩ | ⟨q1, q2⟩ | q1
      · have hn : restOk (k + 1) (l.drop (k + 1)) = bb := by
          rw [restOk_succ, ← hd2]
          unfold restOk
          split
          · simp only [chars, small_of q1 q2, Bool.true_and]
          · simp only [List.all_cons, letter, small_of q1 q2, Bool.true_or, Bool.true_and]
        have HN := Aside0.mk hn
        have q3 : 57 < (c.toNat : Int) := by omega
        have q4 : 48 ≤ (c.toNat : Int) := by omega
        have q5 : ((c.toNat : Int) == 45) = false := by rw [beq_eq_false_iff_ne]; omega
        clear hd2 hn
        go_wp2_with fail
        go_round
        case rel => exact ⟨k + 1, by omega, by go_num, HN⟩
        case measure => simp [intOf]; omega
      · have hsm := small_not (c := c) (by omega)
        have hot := other_of (c := c) (by omega)
        have q3 : (c.toNat : Int) < 97 := by omega
        by_cases h0 : k = 0
        · have kz : ((k : Int) == 0) = true := by rw [h0]; rfl
          have hbf : bb = false := by
            rw [← hd2]
            unfold restOk
            rw [if_pos h0]
            simp only [chars, hsm, Bool.false_and]
          subst hbf
          have hrf : r = false := by
            rw [← HR.out]; rfl
          subst hrf
          clear hd2 h0 hsm hot
          go_wp2_with fail
          go_ret
          exact ⟨rfl, Below.refl _ _⟩
        · have kz : ((k : Int) == 0) = false := by rw [beq_eq_false_iff_ne]; omega
          have hn : restOk (k + 1) (l.drop (k + 1)) = bb := by
            rw [restOk_succ, ← hd2]
            unfold restOk
            rw [if_neg h0]
            simp only [List.all_cons, letter, hot, Bool.or_true, Bool.true_and]
          have HN := Aside0.mk hn
          clear hd2 hn h0 hsm hot
          go_wp2_with fail
          go_round
          case rel => exact ⟨k + 1, by omega, by go_num, HN⟩
          case measure => simp [intOf]; omega
      · have hsm := small_not (c := c) (by omega)
        have hot := other_of (c := c) (by omega)
        have q3 : (c.toNat : Int) < 97 := by omega
        have q4 : (c.toNat : Int) < 48 := by omega
        have q5 : ((c.toNat : Int) == 45) = true := by rw [q1]; rfl
        clear q1
        by_cases h0 : k = 0
        · have kz : ((k : Int) == 0) = true := by rw [h0]; rfl
          have hbf : bb = false := by
            rw [← hd2]
            unfold restOk
            rw [if_pos h0]
            simp only [chars, hsm, Bool.false_and]
          subst hbf
          have hrf : r = false := by
            rw [← HR.out]; rfl
          subst hrf
          clear hd2 h0 hsm hot
          go_wp2_with fail
          go_ret
          exact ⟨rfl, Below.refl _ _⟩
        · have kz : ((k : Int) == 0) = false := by rw [beq_eq_false_iff_ne]; omega
          have hn : restOk (k + 1) (l.drop (k + 1)) = bb := by
            rw [restOk_succ, ← hd2]
            unfold restOk
            rw [if_neg h0]
            simp only [List.all_cons, letter, hot, Bool.or_true, Bool.true_and]
          have HN := Aside0.mk hn
          clear hd2 hn h0 hsm hot
          go_wp2_with fail
          go_round
          case rel => exact ⟨k + 1, by omega, by go_num, HN⟩
          case measure => simp [intOf]; omega
      · have hsm := small_not (c := c) (by omega)
        have hot := other_not (c := c) (by omega)
        have q3 : (c.toNat : Int) < 97 := by omega
        have q5 : ((c.toNat : Int) == 45) = false := by rw [beq_eq_false_iff_ne]; exact q2
        by_cases h0 : k = 0
        · have kz : ((k : Int) == 0) = true := by rw [h0]; rfl
          have hbf : bb = false := by
            rw [← hd2]
            unfold restOk
            rw [if_pos h0]
            simp only [chars, hsm, Bool.false_and]
          subst hbf
          have hrf : r = false := by
            rw [← HR.out]; rfl
          subst hrf
          clear hd2 h0 hsm hot
          go_wp2_with fail
          go_ret
          exact ⟨rfl, Below.refl _ _⟩
        · have kz : ((k : Int) == 0) = false := by rw [beq_eq_false_iff_ne]; omega
          have hbf : bb = false := by
            rw [← hd2]
            unfold restOk
            rw [if_neg h0]
            simp only [List.all_cons, letter, hsm, hot, Bool.or_false, Bool.false_and]
          subst hbf
          have hrf : r = false := by
            rw [← HR.out]; rfl
          subst hrf
          clear hd2 h0 hsm hot
          go_wp2_with fail
          go_ret
          exact ⟨rfl, Below.refl _ _⟩
      · have hsm := small_not (c := c) (by omega)
        have hot := other_not (c := c) (by omega)
        have q3 : 48 ≤ (c.toNat : Int) := by omega
        have q6 : decide ((c.toNat : Int) ≤ 57) = false := decide_eq_false (by omega)
        have q5 : ((c.toNat : Int) == 45) = false := by rw [beq_eq_false_iff_ne]; omega
        by_cases h0 : k = 0
        · have kz : ((k : Int) == 0) = true := by rw [h0]; rfl
          have hbf : bb = false := by
            rw [← hd2]
            unfold restOk
            rw [if_pos h0]
            simp only [chars, hsm, Bool.false_and]
          subst hbf
          have hrf : r = false := by
            rw [← HR.out]; rfl
          subst hrf
          clear hd2 h0 hsm hot
          go_wp2_with fail
          go_ret
          exact ⟨rfl, Below.refl _ _⟩
        · have kz : ((k : Int) == 0) = false := by rw [beq_eq_false_iff_ne]; omega
          have hbf : bb = false := by
            rw [← hd2]
            unfold restOk
            rw [if_neg h0]
            simp only [List.all_cons, letter, hsm, hot, Bool.or_false, Bool.false_and]
          subst hbf
          have hrf : r = false := by
            rw [← HR.out]; rfl
          subst hrf
          clear hd2 h0 hsm hot
          go_wp2_with fail
          go_ret
          exact ⟨rfl, Below.refl _ _⟩
      · have hsm := small_not (c := c) (by omega)
        have hot := other_not (c := c) (by omega)
        have q2 : 97 ≤ (c.toNat : Int) := by omega
        have q3 : 48 ≤ (c.toNat : Int) := by omega
        have q4 : 57 < (c.toNat : Int) := by omega
        have q6 : decide ((c.toNat : Int) ≤ 57) = false := decide_eq_false (by omega)
        have q7 : decide ((c.toNat : Int) ≤ 122) = false := decide_eq_false (by omega)
        have q5 : ((c.toNat : Int) == 45) = false := by rw [beq_eq_false_iff_ne]; omega
        by_cases h0 : k = 0
        · have kz : ((k : Int) == 0) = true := by rw [h0]; rfl
          have hbf : bb = false := by
            rw [← hd2]
            unfold restOk
            rw [if_pos h0]
            simp only [chars, hsm, Bool.false_and]
          subst hbf
          have hrf : r = false := by
            rw [← HR.out]; rfl
          subst hrf
          clear hd2 h0 hsm hot
          go_wp2_with fail
          go_ret
          exact ⟨rfl, Below.refl _ _⟩
        · have kz : ((k : Int) == 0) = false := by rw [beq_eq_false_iff_ne]; omega
          have hbf : bb = false := by
            rw [← hd2]
            unfold restOk
            rw [if_neg h0]
            simp only [List.all_cons, letter, hsm, hot, Bool.or_false, Bool.false_and]
          subst hbf
          have hrf : r = false := by
            rw [← HR.out]; rfl
          subst hrf
          clear hd2 h0 hsm hot
          go_wp2_with fail
          go_ret
          exact ⟨rfl, Below.refl _ _⟩
    · have hk2 : k = s.size := by omega
      subst hk2
      have hd2 := hd.out
      rw [List.drop_of_length_le (by rw [HLEN.out]; omega), restOk_nil] at hd2
      obtain rfl : true = bb := hd2
      clear hd hlt
      have hr2 := HR.out
      rw [Bool.true_and] at hr2
      by_cases h1 : 1 ≤ s.size
      · rw [decide_eq_true h1, Bool.true_and] at hr2
        by_cases h20 : s.size ≤ 20
        · rw [decide_eq_true h20, Bool.true_and] at hr2
          have HR2 := Aside0.mk hr2
          have HWB := Aside0.mk (wordsB_is s)
          rw [HL.out] at HWB
          have hl34 : wordsB.length = 34 := rfl
          have HL34 := Aside0.mk hl34
          have HLS := HL
          clear hr2 hl34 HL
          go_wp2_with fail
          refine (words_any _).mono ?_
          rintro e w1 ⟨g, rfl, hb, hbl⟩
          have HB := Aside0.mk hb
          have HBL := Aside0.mk hbl
          clear hb hbl
          go_wp2_with fail
          refine (in_str g wordsB 34 _ s (isWord l) HWB.out w1 HB.out (by rw [HL34.out]; omega)).mono ?_
          rintro e w2 ⟨rfl, rfl⟩
          go_wp2_with fail
          go_ret
          exact ⟨by rw [← HR2.out]; simp, HBL.out⟩
        · have q2 : 20 < s.size := by omega
          rw [decide_eq_false h20, Bool.false_and] at hr2
          subst hr2
          clear h20
          go_wp2_with fail
          go_ret
          exact ⟨by simp; try omega, Below.refl _ _⟩
      · have q2 : s.size < 1 := by omega
        rw [decide_eq_false h1, Bool.false_and] at hr2
        subst hr2
        clear h1
        go_wp2_with fail
        go_ret
        exact ⟨by simp; try omega, Below.refl _ _⟩
/-- Does an order have each kind once? -/
theorem order_in (a b c d : Int) : orderOk a b c d = ([a, b, c, d].contains 1 && ([a, b, c, d].contains 2 && ([a, b, c, d].contains 3 && [a, b, c, d].contains 4))) := by
  unfold orderOk
  rw [Bool.eq_iff_iff, decide_eq_true_iff]
  simp only [Bool.and_eq_true, List.contains_iff_mem, List.mem_cons, List.not_mem_nil, or_false]
  constructor
  · rintro ⟨h1, h2, h3, h4, n1, n2, n3, n4, n5, n6⟩
    rcases (by omega : a = 1 ∨ a = 2 ∨ a = 3 ∨ a = 4) with rfl | rfl | rfl | rfl <;>
    rcases (by omega : b = 1 ∨ b = 2 ∨ b = 3 ∨ b = 4) with rfl | rfl | rfl | rfl <;> (try exact absurd rfl n1) <;>
    rcases (by omega : c = 1 ∨ c = 2 ∨ c = 3 ∨ c = 4) with rfl | rfl | rfl | rfl <;> (try exact absurd rfl n2) <;> (try exact absurd rfl n4) <;> omega
  · rintro ⟨h1, h2, h3, h4⟩
    rcases h1 with h1 | h1 | h1 | h1 <;> rcases h2 with h2 | h2 | h2 | h2 <;> (try (exfalso; omega)) <;> rcases h3 with h3 | h3 | h3 | h3 <;> (try (exfalso; omega)) <;> rcases h4 with h4 | h4 | h4 | h4 <;> omega
theorem in_int_is (g : Nat) (l : List Int) (c : Nat) (t : TypeId) (x : Int) (r : Bool) (h : l.contains x = r) (w : World) (hb : w.heap[g]? = some (.cells (l.map (Value.int .i64)).toArray t (0, 0))) (hm : l.length = 4) :
    Calls Try.prog 38 #[.slice (some ⟨g, 0, none⟩) 4 c, .int .i64 x] w fun e w' => e = .returned (.bool r) ∧ w = w' := by
  have := in_int g l c t x w hb (by omega)
  rw [hm, h] at this
  exact this
set_option maxHeartbeats 1000000 in
theorem rorder_any (a b c d : Int) (w : World) : Calls Try.prog 23 #[.agg #[.int .i64 a, .int .i64 b, .int .i64 c, .int .i64 d]] w fun e w' => e = .returned (.bool (orderOk a b c d)) ∧ Below w.heap.size w w' := by
  rw [order_in]
  obtain ⟨l, hl⟩ : ∃ l : List Int, [a, b, c, d] = l := ⟨_, rfl⟩
  have hcells : (#[Value.int .i64 a, .int .i64 b, .int .i64 c, .int .i64 d] : Array Value) = (l.map (Value.int .i64)).toArray := by rw [← hl]; rfl
  have hlen : l.length = 4 := by rw [← hl]; rfl
  have HC := Aside0.mk hcells
  have HLEN := Aside0.mk hlen
  rw [hl]
  obtain ⟨r1, h1⟩ : ∃ r, l.contains 1 = r := ⟨_, rfl⟩
  obtain ⟨r2, h2⟩ : ∃ r, l.contains 2 = r := ⟨_, rfl⟩
  obtain ⟨r3, h3⟩ : ∃ r, l.contains 3 = r := ⟨_, rfl⟩
  obtain ⟨r4, h4⟩ : ∃ r, l.contains 4 = r := ⟨_, rfl⟩
  rw [h1, h2, h3, h4]
  have H1 := Aside0.mk h1
  have H2 := Aside0.mk h2
  have H3 := Aside0.mk h3
  have H4 := Aside0.mk h4
  clear h1 h2 h3 h4 hl hcells hlen
  go_enter Try.func23, Try.ntmps23
  go_wp2_with ((with_reducible refine gate_dst (N := 1) rfl ?_); refine box_event ?hg (N := 1) ?hd (cs := #[.int .i64 a, .int .i64 b, .int .i64 c, .int .i64 d]) (t := 23) ?hr ?_; (case hd => rfl); (case hg => rfl); (case hr => first | (go_simp; done) | (go_simp; rfl)); intro g1 hg w1 hb1 hbl1; clear hg; have HB1 := Aside0.mk hb1; have BL1 := Aside0.mk hbl1; clear hb1 hbl1)
  have HBB := Aside0.mk (show w1.heap[g1]? = some (.cells (l.map (Value.int .i64)).toArray 23 (0, 0)) by rw [← HC.out]; exact HB1.out)
  refine wp_loop_rounds 5 ?_
  rw [rounds_succ]
  go_wp2_with fail
  refine (in_int_is g1 l 4 23 1 r1 H1.out w1 HBB.out HLEN.out).mono ?_
  rintro e w2 ⟨rfl, rfl⟩
  cases r1 with
  | false =>
    go_wp2_with fail
    go_ret
    exact ⟨by simp, BL1.out⟩
  | true =>
    go_wp2_with fail
    rw [rounds_succ]
    go_wp2_with fail
    refine (in_int_is g1 l 4 23 2 r2 H2.out w1 HBB.out HLEN.out).mono ?_
    rintro e w2 ⟨rfl, rfl⟩
    cases r2 with
    | false =>
      go_wp2_with fail
      go_ret
      exact ⟨by simp, BL1.out⟩
    | true =>
      go_wp2_with fail
      rw [rounds_succ]
      go_wp2_with fail
      refine (in_int_is g1 l 4 23 3 r3 H3.out w1 HBB.out HLEN.out).mono ?_
      rintro e w2 ⟨rfl, rfl⟩
      cases r3 with
      | false =>
        go_wp2_with fail
        go_ret
        exact ⟨by simp, BL1.out⟩
      | true =>
        go_wp2_with fail
        rw [rounds_succ]
        go_wp2_with fail
        refine (in_int_is g1 l 4 23 4 r4 H4.out w1 HBB.out HLEN.out).mono ?_
        rintro e w2 ⟨rfl, rfl⟩
        cases r4 with
        | false =>
          go_wp2_with fail
          go_ret
          exact ⟨by simp, BL1.out⟩
        | true =>
          go_wp2_with fail
          rw [rounds_succ]
          go_wp2_with fail
          go_ret
          exact ⟨rfl, BL1.out⟩
end Go.Proofs.Ytcbebbiedegjlaa.Pd
