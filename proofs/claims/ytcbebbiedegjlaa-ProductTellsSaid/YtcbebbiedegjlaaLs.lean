/- Contracts by hand: a list of one's own; whether it was kept. -/
import Derived.Test.YtcbebbiedegjlaaBt
import Derived.Test.YtcbebbiedegjlaaLr
namespace Go.Proofs.Ytcbebbiedegjlaa.H
open Go.RowKit Go.Proofs.YtcbebbiedegjlaaW.PrintWords Go.Proofs.YtcbebbiedegjlaaW.PrintLast Go.Proofs.YtcbebbiedegjlaaW.PrintMore Go.Proofs.Ytcbebbiedegjlaa.HW
set_option linter.unusedVariables false
set_option linter.unusedSimpArgs false
theorem rd_nat (l : List Int) (j : Nat) (h : j < l.length) : rd l (j : Int) = l[j] := by simp [rd, h]
theorem info_intL : (Try.prog.info? 3).map (fun i => (i.zero, i.size, i.bytes)) = some (some (.int .i64 0), 1, 8) := by kernel_rfl
/-- A copy, with three more behind it. -/
def Owned (l : List Int) (x : Int) (w : World) (e : Ending) (w' : World) : Prop := ∃ g, w.heap.size ≤ g ∧ e = .returned (.slice (some ⟨g, 0, none⟩) l.length (l.length + 3)) ∧ Blk w' g 3 (nums .i64 l ++ [.int .i64 x, .int .i64 x, .int .i64 x]) ∧ Below w.heap.size w w'
theorem nums_get (l : List Int) (j : Nat) (u : Value) (h : (nums .i64 l)[j]? = some u) : j < l.length ∧ u = .int .i64 (rd l (j : Int)) := by
  have hj : j < l.length := by
    rcases Nat.lt_or_ge j l.length with h' | h'
    · exact h'
    · rw [List.getElem?_eq_none (by rw [nums_length]; exact h')] at h; cases h
  refine ⟨hj, ?_⟩
  rw [rd_nat l j hj]
  simp [nums, hj] at h
  exact h.symm
theorem put_at (k : IntKind) (l : List Int) (ts : List Value) (j : Nat) (u : Value) : (nums k l ++ ts).set (l.length + j) u = nums k l ++ ts.set j u := by
  rw [List.set_append_right _ _ (by rw [nums_length]; omega), nums_length]
  congr 2; omega
theorem take_put {ts : List Value} {u : Value} {k : Nat} (hl : ts.length = 3) (hk : k < 3) (h : ts.take k = [u, u, u].take k) : (ts.set k u).take (k + 1) = [u, u, u].take (k + 1) := by
  match ts, hl with
  | [a, b, c], _ =>
    rcases (by omega : k = 0 ∨ k = 1 ∨ k = 2) with rfl | rfl | rfl
    · simp
    · simp at h; simp [h]
    · simp at h; simp [h]
theorem news_of {w w1 : World} {ad : Addr} {l : List Int} (hr : Kd.C (Kd.int .i64) w (some ad) l.length l) (hb : Below w.heap.size w w1) : ∀ j u, (nums .i64 l)[j]? = some u → w1.cell? (ad.add j) = some u := by
  intro j u hu
  obtain ⟨hj, rfl⟩ := nums_get l j u hu
  obtain ⟨ad', e', hc⟩ := Kd.at_int (Kd.C_below hr hb) (j : Int) (by omega) (by omega)
  obtain rfl := Option.some.inj e'
  rw [Int.toNat_natCast] at hc
  exact hc
set_option maxRecDepth 100000 in
set_option maxHeartbeats 1000000 in
theorem own_some (ad : Addr) (c0 : Nat) (l : List Int) (x : Int) (w : World) (hr0 : Kd.C (Kd.int .i64) w (some ad) l.length l) (hc0 : l.length ≤ c0) (hm : l.length ≤ 1000000) :
    Calls Try.prog 14 #[.slice (some ad) l.length c0, .int .i64 x] w (Owned l x w) := by
  obtain ⟨i0, hi, hz0, hz1, hz2⟩ := info_parts info_intL
  have HR0 := Aside0.mk hr0
  clear hr0
  go_enter Try.func14, Try.ntmps14
  go_wp2_with (first | (refine wpList_make_own _ rfl _ _ 25 rfl w.heap.size 3 i0 (.int .i64 0) 1 Try.underlying25 hi hz0 hz1 .i64 .i64 _ (l.length + 3) rfl rfl (by simp) (by rw [hz2]; omega) (by unfold maxLen; omega) (Nat.le_refl _) ?_; intro w1 hown1 hgrow1; have HB1 := Aside0.mk ((Below.refl w.heap.size w).grown hgrow1 (Nat.le_refl _) (fun k hk => by cases hk)); have HO := Aside0.mk hown1; have HN := Aside0.mk (news_of HR0.out HB1.out); clear hown1 hgrow1) | (at_builtin; refine wpList_append_fits _ rfl _ _ 25 rfl w.heap.size 3 i0 1 Try.underlying25 hi hz1 w.heap.size 0 (l.length + 3) [] rfl HO.out ad l.length c0 (nums .i64 l) rfl (by simp [nums]) HN.out (by intro u hu; simp [nums] at hu; obtain ⟨a, _, rfl⟩ := hu; rfl) (by omega) ?_; intro w2 hown2 hgrow2; have HB2 := Aside0.mk (HB1.out.grown hgrow2 HB1.out.size (fun k hk => by cases hk; exact Nat.le_refl _)); obtain ⟨t0, ht0, hblk, _⟩ := Blk.ofOwn hown2; have HT0 := Aside0.mk (show t0.length = 3 by rw [ht0]; omega); have HRW := Aside0.mk (show Blk w2 w.heap.size 3 (nums .i64 l ++ t0) from hblk); clear hown2 hgrow2 ht0 hblk))
  go_loopg [7] 4 (fun gq iv w' => ∃ (k : Nat) (ts : List Value), k ≤ 3 ∧ iv = .int .i64 ((l.length : Int) + (k : Int)) ∧ Aside0 (ts.length = 3) ∧ Aside0 (gq = 4 - k) ∧ Aside0 (ts.take k = [Value.int .i64 x, .int .i64 x, .int .i64 x].take k) ∧ Aside0 (Blk w' w.heap.size 3 (nums .i64 l ++ ts)) ∧ Aside0 (Below w.heap.size w w'))
  case atStart => exact ⟨0, t0, by omega, by simp, HT0, ⟨rfl⟩, ⟨rfl⟩, HRW, HB2⟩
  case round =>
    obtain ⟨k, ts, k3, rfl, hts, hg, htk, hR, hB⟩ := hrel
    by_cases hlt : k < 3
    · obtain ⟨u, hu⟩ : ∃ u, ts[k]? = some u := ⟨_, List.getElem?_eq_getElem (by rw [hts.out]; exact hlt)⟩
      have hc : wr.cell? ⟨w.heap.size, l.length + k, none⟩ = some u := by rw [hR.out.cell, List.getElem?_append_right (by rw [nums_length]; simp), nums_length, ← hu]; congr 1; simp
      have hf := hR.out.frozen (l.length + k)
      have R2 := Aside0.mk (show Blk (wr.setCell ⟨w.heap.size, l.length + k, none⟩ (.int .i64 x)) w.heap.size 3 (nums .i64 l ++ ts.set k (.int .i64 x)) by rw [← put_at]; exact hR.out.put _ _)
      have B2 := Aside0.mk (hB.out.setCell (p := ⟨w.heap.size, l.length + k, none⟩) (Nat.le_refl _) (.int .i64 x))
      clear hu
      go_wp2_with fail
      go_roundg (4 - (k + 1))
      case measure => have := hg.out; omega
      case rel => exact ⟨k + 1, ts.set k (.int .i64 x), by omega, by simp; omega, ⟨by rw [List.length_set]; exact hts.out⟩, ⟨rfl⟩, ⟨take_put hts.out hlt htk.out⟩, R2, B2⟩
    · obtain rfl : k = 3 := by omega
      have e : ts = [Value.int .i64 x, .int .i64 x, .int .i64 x] := by
        have := htk.out
        rw [List.take_of_length_le (by rw [hts.out]; exact Nat.le_refl _)] at this
        exact this
      subst e
      go_wp2_with fail
      go_ret
      exact ⟨w.heap.size, Nat.le_refl _, rfl, hR.out, hB.out⟩
set_option maxRecDepth 100000 in
set_option maxHeartbeats 1000000 in
theorem own_nil  (x : Int) (w : World)  :
    Calls Try.prog 14 #[.slice none 0 0, .int .i64 x] w (Owned [] x w) := by
  obtain ⟨i0, hi, hz0, hz1, hz2⟩ := info_parts info_intL
  go_enter Try.func14, Try.ntmps14
  go_wp2_with ((refine wpList_make_own _ rfl _ _ 25 rfl w.heap.size 3 i0 (.int .i64 0) 1 Try.underlying25 hi hz0 hz1 .i64 .i64 _ (0 + 3) rfl rfl (by simp) (by rw [hz2]; omega) (by unfold maxLen; omega) (Nat.le_refl _) ?_); intro w1 hown1 hgrow1)
  have hb1 := (Below.refl w.heap.size w).grown hgrow1 (Nat.le_refl _) (fun k hk => by cases hk)
  have HB2 := Aside0.mk hb1
  obtain ⟨t0, ht0, hblk, _⟩ := Blk.ofOwn hown1
  have HT0 := Aside0.mk (show t0.length = 3 by rw [ht0])
  have HRW := Aside0.mk (show Blk w1 w.heap.size 3 (nums .i64 [] ++ t0) from hblk)
  clear ht0 hblk
  clear hown1 hgrow1 hb1
  go_wp2_with fail
  go_loopg [7] 4 (fun gq iv w' => ∃ (k : Nat) (ts : List Value), k ≤ 3 ∧ iv = .int .i64 (k : Int) ∧ Aside0 (ts.length = 3) ∧ Aside0 (gq = 4 - k) ∧ Aside0 (ts.take k = [Value.int .i64 x, .int .i64 x, .int .i64 x].take k) ∧ Aside0 (Blk w' w.heap.size 3 (nums .i64 [] ++ ts)) ∧ Aside0 (Below w.heap.size w w'))
  case atStart => exact ⟨0, t0, by omega, by simp, HT0, ⟨rfl⟩, ⟨rfl⟩, HRW, HB2⟩
  case round =>
    obtain ⟨k, ts, k3, rfl, hts, hg, htk, hR, hB⟩ := hrel
    by_cases hlt : k < 3
    · obtain ⟨u, hu⟩ : ∃ u, ts[k]? = some u := ⟨_, List.getElem?_eq_getElem (by rw [hts.out]; exact hlt)⟩
      have hc : wr.cell? ⟨w.heap.size, k, none⟩ = some u := by rw [hR.out.cell]; exact hu
      have hf := hR.out.frozen (k)
      have R2 := Aside0.mk (show Blk (wr.setCell ⟨w.heap.size, k, none⟩ (.int .i64 x)) w.heap.size 3 (nums .i64 [] ++ ts.set k (.int .i64 x)) by exact hR.out.put k (.int .i64 x))
      have B2 := Aside0.mk (hB.out.setCell (p := ⟨w.heap.size, k, none⟩) (Nat.le_refl _) (.int .i64 x))
      clear hu
      go_wp2_with fail
      go_roundg (4 - (k + 1))
      case measure => have := hg.out; omega
      case rel => exact ⟨k + 1, ts.set k (.int .i64 x), by omega, by simp, ⟨by rw [List.length_set]; exact hts.out⟩, ⟨rfl⟩, ⟨take_put hts.out hlt htk.out⟩, R2, B2⟩
    · obtain rfl : k = 3 := by omega
      have e : ts = [Value.int .i64 x, .int .i64 x, .int .i64 x] := by
        have := htk.out
        rw [List.take_of_length_le (by rw [hts.out]; exact Nat.le_refl _)] at this
        exact this
      subst e
      go_wp2_with fail
      go_ret
      exact ⟨w.heap.size, Nat.le_refl _, rfl, hR.out, hB.out⟩
theorem own_any (A0 : Option Addr) (c0 : Nat) (l : List Int) (x : Int) (w : World) (hr0 : Kd.C (Kd.int .i64) w A0 l.length l) (hc0 : l.length ≤ c0) (hn : A0 = none → c0 = 0) (hm : l.length ≤ 1000000) :
    Calls Try.prog 14 #[.slice A0 l.length c0, .int .i64 x] w (Owned l x w) := by
  cases A0 with
  | some ad => exact own_some ad c0 l x w hr0 hc0 hm
  | none =>
    obtain rfl := hn rfl
    obtain rfl : l = [] := List.eq_nil_of_length_eq_zero (by omega)
    exact own_nil x w
set_option maxRecDepth 100000 in
set_option maxHeartbeats 1000000 in
theorem plainI1 (x : Int) (w : World) : Calls Try.prog 60 #[.int .i64 x, .int .i64 x] w fun e w' => e = .returned (.bool true) ∧ w' = w := by
  go_enter Try.func60, Try.ntmps60
  go_wp2_with fail
  go_ret
  exact ⟨by simp, rfl⟩
set_option maxRecDepth 100000 in
set_option maxHeartbeats 1000000 in
theorem sameI (A0 A1 : Option Addr) (c0 c1 : Nat) (l : List Int) (w : World) (hr0 : Kd.C (Kd.int .i64) w A0 l.length l) (hr1 : Kd.C (Kd.int .i64) w A1 l.length l) (hm : l.length ≤ 1000000) :
    Calls Try.prog 59 #[.slice A0 l.length c0, .slice A1 l.length c1, .func (.func 60) #[] #[]] w fun e w' => e = .returned (.bool true) ∧ Below w.heap.size w w' := by
  have HR0 := Aside0.mk hr0
  have HR1 := Aside0.mk hr1
  clear hr0 hr1
  go_enter Try.func59, Try.ntmps59
  go_wp2_with fail
  go_loopg [7] (l.length + 1) (fun gq iv w' => ∃ (k : Nat), k ≤ l.length ∧ iv = .int .i64 (k : Int) ∧ Aside0 (gq = l.length + 1 - k) ∧ Aside0 (Below w.heap.size w w'))
  case atStart => exact ⟨0, Nat.zero_le _, rfl, ⟨rfl⟩, ⟨Below.refl _ _⟩⟩
  case round =>
    obtain ⟨k, hk, rfl, hgq, hbl⟩ := hrel
    by_cases hlt : k < l.length
    · obtain ⟨ad0, e0, p0⟩ := Kd.at_int (Kd.C_below HR0.out hbl.out) (k : Int) (by omega) (by omega)
      obtain ⟨ad1, e1, p1⟩ := Kd.at_int (Kd.C_below HR1.out hbl.out) (k : Int) (by omega) (by omega)
      subst e0 e1
      rw [Int.toNat_natCast] at p0 p1
      obtain ⟨x, hx⟩ : ∃ x, rd l (k : Int) = x := ⟨_, rfl⟩
      rw [hx] at p0 p1
      have kk0 : (0 : Int) ≤ (k : Int) := by omega
      have kk1 : (k : Int) < (l.length : Int) := by omega
      clear hx
      go_wp2_with fail
      go_quiet ((go_at_call 60; refine (plainI1 x _).mono ?_; rintro e w' ⟨rfl, rfl⟩; exact ⟨rfl, _, rfl⟩))
      go_wp2_with fail
      go_roundg (l.length + 1 - (k + 1))
      case measure => have := hgq.out; omega
      case rel => exact ⟨k + 1, by omega, by simp, ⟨rfl⟩, ⟨by first | exact pw_below_drewN hbl.out _ | exact hbl.out⟩⟩
    · have hk2 : k = l.length := by omega
      subst hk2
      go_wp2_with fail
      go_ret
      exact ⟨rfl, hbl.out⟩
set_option maxRecDepth 100000 in
set_option maxHeartbeats 1000000 in
theorem plainI (A0 A1 : Option Addr) (c0 c1 : Nat) (l : List Int) (w : World) (hr0 : Kd.C (Kd.int .i64) w A0 l.length l) (hr1 : Kd.C (Kd.int .i64) w A1 l.length l) (hm : l.length ≤ 1000000) :
    Calls Try.prog 46 #[.slice A0 l.length c0, .slice A1 l.length c1] w fun e w' => e = .returned (.bool true) ∧ Below w.heap.size w w' := by
  have HR0 := Aside0.mk hr0
  have HR1 := Aside0.mk hr1
  clear hr0 hr1
  go_enter Try.func46, Try.ntmps46
  go_wp2_with fail
  refine (sameI A0 A1 c0 c1 l _ HR0.out HR1.out hm).mono ?_
  rintro e v1 ⟨rfl, hb⟩
  have B1 := Aside0.mk hb
  clear hb
  go_wp2_with fail
  go_ret
  exact ⟨rfl, B1.out⟩
set_option maxRecDepth 100000 in
set_option maxHeartbeats 1000000 in
theorem keptI {A1 : Option Addr} {c1 : Nat} {l : List Int} {x : Int} {g : Nat} {w : World} (hb : Blk w g 3 (nums .i64 l ++ [.int .i64 x, .int .i64 x, .int .i64 x])) (hr1 : Kd.C (Kd.int .i64) w A1 l.length l) (hm : l.length ≤ 1000000) :
    Calls Try.prog 21 #[.slice (some ⟨g, 0, none⟩) l.length (l.length + 3), .slice A1 l.length c1, .int .i64 x] w fun e w' => e = .returned (.bool true) ∧ Below w.heap.size w w' := by
  have HB := Aside0.mk hb
  have HR1 := Aside0.mk hr1
  clear hb hr1
  go_enter Try.func21, Try.ntmps21
  go_wp2_with fail
  refine (plainI (some ⟨g, 0, none⟩) A1 (l.length + 3) c1 l _ (HB.out.reads (by omega)) HR1.out hm).mono ?_
  rintro e w1 ⟨rfl, hb⟩
  have BL := Aside0.mk hb
  clear hb
  go_wp2_with fail
  go_loopg [8] 4 (fun gq iv w' => ∃ (k : Nat), k ≤ 3 ∧ iv = .int .i64 ((l.length : Int) + (k : Int)) ∧ Aside0 (gq = 4 - k) ∧ Aside0 (Below w.heap.size w w'))
  case atStart => exact ⟨0, by omega, by simp, ⟨rfl⟩, BL⟩
  case round =>
    obtain ⟨k, k3, rfl, hg, hbl⟩ := hrel
    by_cases hlt : k < 3
    · have hc : wr.cell? ⟨g, l.length + k, none⟩ = some (.int .i64 x) := by
        rw [(HB.out.below hbl.out).cell, List.getElem?_append_right (by rw [nums_length]; simp), nums_length]
        rcases (by omega : k = 0 ∨ k = 1 ∨ k = 2) with rfl | rfl | rfl
        · rw [show l.length + 0 - l.length = 0 by omega]; rfl
        · rw [show l.length + 1 - l.length = 1 by omega]; rfl
        · rw [show l.length + 2 - l.length = 2 by omega]; rfl
      go_wp2_with fail
      go_roundg (4 - (k + 1))
      case measure => have := hg.out; omega
      case rel => exact ⟨k + 1, by omega, by simp; omega, ⟨rfl⟩, hbl⟩
    · obtain rfl : k = 3 := by omega
      go_wp2_with fail
      go_ret
      exact ⟨rfl, hbl.out⟩
end Go.Proofs.Ytcbebbiedegjlaa.H
