/- Contracts by hand: the document's names. -/
import Derived.Test.YtcbebbiedegjlaaPg
import Derived.Test.YtcbebbiedegjlaaRw
import Derived.Deep.LoopGhost
namespace Go.Proofs.Ytcbebbiedegjlaa.Pd
open Go.RowKit Go.Proofs.YtcbebbiedegjlaaW.PrintWords Go.Proofs.YtcbebbiedegjlaaW.PrintLast Go.Proofs.YtcbebbiedegjlaaW.PrintMore Go.Proofs.Ytcbebbiedegjlaa.HW
open Pm
set_option linter.unusedVariables false
set_option linter.unusedSimpArgs false
theorem within_r (v a b : Int) (w : World) : Calls Try.prog 37 #[.int .i64 v, .int .i64 a, .int .i64 b] w fun e w' => e = .returned (.bool (decide (a ≤ v ∧ v ≤ b))) ∧ w = w' := by
  by_cases h1 : a ≤ v
  · by_cases h2 : v ≤ b
    · have hd : decide (a ≤ v ∧ v ≤ b) = true := decide_eq_true ⟨h1, h2⟩
      rw [hd]
      clear hd
      go_enter Try.func37, Try.ntmps37
      go_wp2
      go_ret
      exact ⟨rfl, rfl⟩
    · have hd : decide (a ≤ v ∧ v ≤ b) = false := decide_eq_false (fun h => h2 h.2)
      rw [hd]
      have q : decide (v ≤ b) = false := decide_eq_false h2
      clear hd
      go_enter Try.func37, Try.ntmps37
      go_wp2
      go_ret
      exact ⟨rfl, rfl⟩
  · have hd : decide (a ≤ v ∧ v ≤ b) = false := decide_eq_false (fun h => h1 h.1)
    rw [hd]
    have q : decide (a ≤ v) = false := decide_eq_false h1
    clear hd
    go_enter Try.func37, Try.ntmps37
    go_wp2
    go_ret
    exact ⟨rfl, rfl⟩
theorem within_r_is {v a b : Int} {r : Bool} (h : decide (a ≤ v ∧ v ≤ b) = r) (w : World) : Calls Try.prog 37 #[.int .i64 v, .int .i64 a, .int .i64 b] w fun e w' => e = .returned (.bool r) ∧ w = w' := h ▸ within_r v a b w
theorem within_r0 {v a b : Int} {r : Bool} (h : decide (a ≤ v ∧ v ≤ b) = r) (w : World) : Calls Try.prog 37 #[.int .i64 v, .int .i64 a, .int .i64 b] w fun e w' => e = .returned (.bool r) ∧ w' = w := (within_r_is h w).mono fun _ _ h => ⟨h.1, h.2.symm⟩
theorem is_any (n : Int) (w : World) : Calls Try.prog 53 #[.int .i64 n] w fun e w' => e = .returned (.bool (decide (-25567 ≤ n ∧ n ≤ 84370))) ∧ w = w' := by
  by_cases h1 : -25567 ≤ n
  · by_cases h2 : n ≤ 84370
    · have hd : decide (-25567 ≤ n ∧ n ≤ 84370) = true := decide_eq_true ⟨h1, h2⟩
      rw [hd]
      clear hd
      go_enter Try.func53, Try.ntmps53
      go_wp2
      go_ret
      exact ⟨rfl, rfl⟩
    · have hd : decide (-25567 ≤ n ∧ n ≤ 84370) = false := decide_eq_false (fun h => h2 h.2)
      rw [hd]
      have q : decide (n ≤ 84370) = false := decide_eq_false h2
      clear hd
      go_enter Try.func53, Try.ntmps53
      go_wp2
      go_ret
      exact ⟨rfl, rfl⟩
  · have hd : decide (-25567 ≤ n ∧ n ≤ 84370) = false := decide_eq_false (fun h => h1 h.1)
    rw [hd]
    have q : decide (-25567 ≤ n) = false := decide_eq_false h1
    clear hd
    go_enter Try.func53, Try.ntmps53
    go_wp2
    go_ret
    exact ⟨rfl, rfl⟩
theorem is_is {n : Int} {r : Bool} (h : decide (-25567 ≤ n ∧ n ≤ 84370) = r) (w : World) : Calls Try.prog 53 #[.int .i64 n] w fun e w' => e = .returned (.bool r) ∧ w = w' := h ▸ is_any n w
/-- Is one among some numbers that lie in a block? -/
theorem in_int (g : Nat) (l : List Int) (c : Nat) (t : TypeId) (x : Int) (w : World) (hb : w.heap[g]? = some (.cells (l.map (Value.int .i64)).toArray t (0, 0))) (hm : l.length ≤ 1000000) :
    Calls Try.prog 38 #[.slice (some ⟨g, 0, none⟩) l.length c, .int .i64 x] w fun e w' => e = .returned (.bool (l.contains x)) ∧ w = w' := by
  obtain ⟨bb, hbb⟩ : ∃ bb, l.contains x = bb := ⟨_, rfl⟩
  rw [hbb]
  have HB := Aside0.mk hb
  have HBB := Aside0.mk hbb
  clear hb hbb
  go_enter Try.func38, Try.ntmps38
  go_wp2_with fail
  go_loop [5] (fun i => ∃ (k : Nat), k ≤ l.length ∧ i = .int .i64 k ∧ Aside0 ((l.drop k).contains x = bb)) (fun i => l.length - (intOf i).toNat)
  case atStart => exact ⟨0, Nat.zero_le _, rfl, ⟨HBB.out⟩⟩
  case round =>
    obtain ⟨k, hk, rfl, hq⟩ := hrel
    by_cases hlt : k < l.length
    · have hc : w.cell? ⟨g, k, none⟩ = some (.int .i64 (l.getD k 0)) := by
        rw [blk_cell HB.out k, List.getElem?_toArray, List.getElem?_map, List.getD_eq_getElem?_getD, List.getElem?_eq_getElem hlt]; rfl
      have hd : l.drop k = l.getD k 0 :: l.drop (k + 1) := by
        rw [List.drop_eq_getElem_cons hlt, List.getD_eq_getElem?_getD, List.getElem?_eq_getElem hlt]; rfl
      have hcs := hq.out
      rw [hd, List.contains_cons] at hcs
      generalize l.getD k 0 = y at *
      have kk0 : (0 : Int) ≤ (k : Int) := by omega
      clear hd hq
      cases hy : (x == y) with
      | true =>
        rw [hy, Bool.true_or] at hcs
        subst hcs
        have hy2 : (y == x) = true := by rw [beq_iff_eq] at hy ⊢; exact hy.symm
        clear hy
        go_wp2_with fail
        go_ret
        exact ⟨rfl, rfl⟩
      | false =>
        rw [hy, Bool.false_or] at hcs
        have HC := Aside0.mk hcs
        have hy2 : (y == x) = false := by rw [beq_eq_false_iff_ne] at hy ⊢; exact fun h => hy h.symm
        clear hy hcs
        go_wp2_with fail
        go_round
        case rel => exact ⟨k + 1, by omega, by go_num, HC⟩
        case measure => simp [intOf]; omega
    · have hk2 : k = l.length := by omega
      subst hk2
      have hcs := hq.out
      rw [List.drop_length] at hcs
      obtain rfl : false = bb := hcs
      clear hq
      go_wp2_with fail
      go_ret
      exact ⟨rfl, rfl⟩
theorem str_eq (x y : ByteArray) : (x.toList == y.toList) = true ↔ x = y := by
  rw [beq_iff_eq, ByteArray.toList_eq, ByteArray.toList_eq]
  constructor
  · intro h
    obtain ⟨⟨a⟩⟩ := x
    obtain ⟨⟨b⟩⟩ := y
    simp at h
    rw [h]
  · rintro rfl; rfl
/-- Is one among some texts that lie in a block? -/
theorem in_str (g : Nat) (l : List ByteArray) (c : Nat) (t : TypeId) (x : ByteArray) (bb : Bool) (hbb : bb = true ↔ x ∈ l) (w : World) (hb : w.heap[g]? = some (.cells (l.map Value.string).toArray t (0, 0))) (hm : l.length ≤ 1000000) :
    Calls Try.prog 43 #[.slice (some ⟨g, 0, none⟩) l.length c, .string x] w fun e w' => e = .returned (.bool bb) ∧ w = w' := by
  have HB := Aside0.mk hb
  have HBB := Aside0.mk hbb
  clear hb hbb
  go_enter Try.func43, Try.ntmps43
  go_wp2_with fail
  go_loop [5] (fun i => ∃ (k : Nat), k ≤ l.length ∧ i = .int .i64 k ∧ Aside0 (bb = true ↔ x ∈ l.drop k)) (fun i => l.length - (intOf i).toNat)
  case atStart => exact ⟨0, Nat.zero_le _, rfl, ⟨HBB.out⟩⟩
  case round =>
    obtain ⟨k, hk, rfl, hq⟩ := hrel
    by_cases hlt : k < l.length
    · have hc : w.cell? ⟨g, k, none⟩ = some (.string (l.getD k ByteArray.empty)) := by
        rw [blk_cell HB.out k, List.getElem?_toArray, List.getElem?_map, List.getD_eq_getElem?_getD, List.getElem?_eq_getElem hlt]; rfl
      have hd : l.drop k = l.getD k ByteArray.empty :: l.drop (k + 1) := by
        rw [List.drop_eq_getElem_cons hlt, List.getD_eq_getElem?_getD, List.getElem?_eq_getElem hlt]; rfl
      have hcs := hq.out
      rw [hd, List.mem_cons] at hcs
      generalize l.getD k ByteArray.empty = y at *
      have kk0 : (0 : Int) ≤ (k : Int) := by omega
      clear hd hq
      by_cases hy : y = x
      · have hbt : bb = true := hcs.2 (Or.inl hy.symm)
        subst hbt
        have hy2 : (y.toList == x.toList) = true := (str_eq y x).2 hy
        clear hy hcs
        go_wp2_with fail
        go_ret
        exact ⟨rfl, rfl⟩
      · have HC := Aside0.mk (show bb = true ↔ x ∈ l.drop (k + 1) from ⟨fun h => (hcs.1 h).resolve_left (fun e => hy e.symm), fun h => hcs.2 (Or.inr h)⟩)
        have hy2 : (y.toList == x.toList) = false := by
          cases h : (y.toList == x.toList) with
          | true => exact absurd ((str_eq y x).1 h) hy
          | false => rfl
        clear hy hcs
        go_wp2_with fail
        go_round
        case rel => exact ⟨k + 1, by omega, by go_num, HC⟩
        case measure => simp [intOf]; omega
    · have hk2 : k = l.length := by omega
      subst hk2
      have hcs := hq.out
      rw [List.drop_length] at hcs
      have hbf : bb = false := by
        cases bb with
        | true => exact absurd (hcs.1 rfl) (by simp)
        | false => rfl
      subst hbf
      clear hq hcs
      go_wp2_with fail
      go_ret
      exact ⟨rfl, rfl⟩
/-- The words of grammar. -/
def wordsB : List ByteArray := wordsL.map txt
def WordsE (w : World) (e : Ending) (w' : World) : Prop := ∃ g, e = .returned (.slice (some ⟨g, 0, none⟩) 34 34) ∧ w'.heap[g]? = some (.cells (wordsB.map Value.string).toArray 9 (0, 0)) ∧ Below w.heap.size w w'
set_option maxRecDepth 100000 in
theorem words_any (w : World) : Calls Try.prog 24 #[] w (WordsE w) := by
  go_enter Try.func24, Try.ntmps24
  go_wp2_with fail
  go_ret
  exact ⟨w.heap.size, rfl, heap_alloc_new _ _, (Below.refl _ _).alloc (Nat.le_refl _) _⟩
theorem txt_toList (s : ByteArray) : txt s.data.toList = s := by
  obtain ⟨⟨l⟩⟩ := s; rfl
theorem wordsB_is (s : ByteArray) : isWord s.data.toList = true ↔ s ∈ wordsB := by
  unfold wordsB isWord
  rw [List.contains_iff_mem, List.mem_map]
  constructor
  · intro h; exact ⟨_, h, txt_toList s⟩
  · rintro ⟨l, hl, rfl⟩; exact hl
end Go.Proofs.Ytcbebbiedegjlaa.Pd
