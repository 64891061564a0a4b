/- The law BusinessTells, walked. -/
import Derived.Test.YtabdgpjkjpbolaaG5
import Derived.Test.YtabdgpjkjpbolaaB4
import Derived.Test.YtabdgpjkjpbolaaHa
namespace Go.Proofs.Ytabdgpjkjpbolaa.H
open Go.RowKit Go.Proofs.YtabdgpjkjpbolaaW.PrintWords Go.Proofs.YtabdgpjkjpbolaaW.PrintLast Go.Proofs.YtabdgpjkjpbolaaW.PrintMore Go.Proofs.Ytabdgpjkjpbolaa.HW
open Go.Proofs.Ytabdgpjkjpbolaa.Math
set_option linter.unusedVariables false
set_option linter.unusedSimpArgs false
theorem cell_lt {w : World} {ad : Addr} {v : Value} (h : w.cell? ad = some v) : ad.block < w.heap.size := by
  rcases Nat.lt_or_ge ad.block w.heap.size with h1 | h1
  · exact h1
  · exfalso
    have e : w.heap[ad.block]? = none := Array.getElem?_eq_none h1
    simp [World.cell?, e] at h
theorem C_but {w w1 : World} {A : Option Addr} {n g : Nat} {l : List Int} {k : IntKind} (h : Kd.C (Kd.int k) w A n l) (hb : But g w w1) (hA : ∀ ad, A = some ad → ad.block ≠ g) : Kd.C (Kd.int k) w1 A n l := by
  have h' := Kd.reads_of_C (d := (0 : Int)) h
  refine Kd.C_of_reads (d := (0 : Int)) ⟨h'.1, h'.2.1, fun hn => ?_⟩
  obtain ⟨ad, e, hc⟩ := h'.2.2 hn
  refine ⟨ad, e, fun j hj => ?_⟩
  have hj' := hc j hj
  have hlt := cell_lt hj'
  rw [hb.cell hlt (by have := hA ad e; simp only [Addr.add]; split <;> exact this)]
  exact hj'
theorem CalIn.but {B : Nat} {w w1 : World} {gb g : Nat} {l : List Int} (h : CalIn B w gb l) (hb : But g w w1) (h1 : gb ≠ g) (h2 : g < B) : CalAt w1 gb l := by
  obtain ⟨A, c, c1, c2, c3, c4, c5, c6, c7⟩ := h
  exact ⟨A, c, by rw [hb.cell (by exact c6) (by exact h1)]; exact c1, C_but c2 hb (fun ad e => by have := c7 ad e; omega), c3, c4, c5, Nat.lt_of_lt_of_le c6 hb.size⟩
theorem CalIn.below {B : Nat} {w w1 : World} {gb : Nat} {l : List Int} (h : CalIn B w gb l) (hb : Below w.heap.size w w1) : CalIn B w1 gb l := by
  obtain ⟨A, c, h1, h2, h3, h4, h5, h6, h7⟩ := h
  exact ⟨A, c, by rw [hb.cell (by exact h6)]; exact h1, Kd.C_below h2 hb, h3, h4, h5, Nat.lt_of_lt_of_le h6 hb.size, h7⟩
theorem new_any2 (A0 : Option Addr) (c0 : Nat) (l : List Int) (w : World) (hr0 : Kd.C (Kd.int .i64) w A0 l.length l) (hc0 : l.length ≤ c0) (hn : A0 = none → c0 = 0) (hm : l.length ≤ 1000000) :
    Calls Try.prog 46 #[.slice A0 l.length c0] w (Made2 l (rightB l) w) := by
  by_cases h : 200 < l.length
  · refine (new_many A0 c0 l w h hm).mono ?_
    rintro e w1 ⟨rfl, hd⟩
    exact ⟨hd.below, fun _ => rfl, fun hb => by
      unfold rightB at hb
      rw [decide_eq_false (show ¬ l.length ≤ 200 by omega), Bool.and_false] at hb
      cases hb⟩
  · have e : rightB l = rises (-25568) l := by unfold rightB; rw [decide_eq_true (show l.length ≤ 200 by omega), Bool.and_true]
    rw [e]
    exact new_few2 A0 c0 l _ w hr0 hc0 hn (by omega) rfl
theorem count_all {gb : Nat} {l : List Int} {a b : Int} {w : World} (h : CalAt w gb l) : Calls Try.prog 55 #[.pointer (some ⟨gb, 0, none⟩), .int .i64 a, .int .i64 b] w fun e w' => e = .returned (.tuple #[.int .i64 (countA l a b).1, .int .i64 (countA l a b).2]) ∧ Drawn0 w w' := by
  unfold countA
  by_cases hc : isDay a ∧ isDay b ∧ a ≤ b
  · rw [if_pos hc]; exact count_any h hc.1 hc.2.1 hc.2.2 rfl
  · rw [if_neg hc]; exact count_no hc w
theorem rroll_any {A0 : Option Addr} {c0 : Nat} {l : List Int} {w : World} (hr0 : Kd.C (Kd.int .i64) w A0 l.length l) (hc0 : l.length ≤ c0) (hm : l.length ≤ 1000000) (day how : Int) : Calls Try.prog 54 #[.slice A0 l.length c0, .int .i64 day, .int .i64 how] w fun e w' => e = .returned (.tuple #[.int .i64 (rollS l day how).1, .int .i64 (rollS l day how).2]) ∧ Below w.heap.size w w' :=
  PBU.quittanceref05_Roll.calls 200010 A0 c0 l day how _ _ w hr0 hc0 (rRoll l (by omega) day how)
theorem rcount_any {A0 : Option Addr} {c0 : Nat} {l : List Int} {w : World} (hr0 : Kd.C (Kd.int .i64) w A0 l.length l) (hc0 : l.length ≤ c0) (hm : l.length ≤ 1000000) (a b : Int) : Calls Try.prog 56 #[.slice A0 l.length c0, .int .i64 a, .int .i64 b] w fun e w' => e = .returned (.tuple #[.int .i64 (countA l a b).1, .int .i64 (countA l a b).2]) ∧ Drawn0 w w' :=
  PBU.quittanceref05_Count.calls 200010 A0 c0 l a b _ _ w hr0 hc0 (rCount l (by omega) a b)
theorem ropen_any {A0 : Option Addr} {c0 : Nat} {l : List Int} {w : World} (hr0 : Kd.C (Kd.int .i64) w A0 l.length l) (hc0 : l.length ≤ c0) (hm : l.length ≤ 1000000) (x : Int) : Calls Try.prog 57 #[.slice A0 l.length c0, .int .i64 x] w fun e w' => e = .returned (.bool (openB l x)) ∧ Drawn0 w w' :=
  PBU.quittanceref05_Open.calls A0 c0 l x _ w hr0 hc0 (rOpen l (by omega) x)
set_option maxHeartbeats 4000000 in
set_option maxRecDepth 100000 in
theorem businessTells_walk (a0 : Option Addr) (c0 : Nat) (l : List Int) (a1 a2 a3 a4 : Int) (w : World) (hr0 : Kd.C (Kd.int .i64) w a0 l.length l) (hc0 : l.length ≤ c0) (hn0 : a0 = none → c0 = 0) (hy : l.length * 8 ≤ 140737488351232) (hw0 : ∀ x ∈ l, (Lit.int .i64 x).wf = true) (w1 : (Lit.int .i64 a1).wf = true) (w2 : (Lit.int .i64 a2).wf = true) (w3 : (Lit.int .i64 a3).wf = true) (w4 : (Lit.int .i64 a4).wf = true) :
    Calls Try.prog 16 #[.slice a0 l.length c0, .int .i64 a1, .int .i64 a2, .int .i64 a3, .int .i64 a4] w fun e w' => e = .returned (.bool true) ∧ Below w.heap.size w w' := by
  have HR0 := Aside0.mk hr0
  have HN0 := Aside0.mk hn0
  clear hr0 hw0 hn0 w1 w2 w3 w4
  by_cases h300 : 300 < l.length
  · go_enter Try.func16, Try.ntmps16
    go_wp2_with fail
    refine (bus_awake _).mono ?_
    rintro e w1 ⟨rfl, hb⟩
    have HB := Aside0.mk hb
    clear hb
    go_wp2_with fail
    go_ret
    exact ⟨rfl, HB.out⟩
  · obtain ⟨s4, hs4⟩ : ∃ s4, IntKind.i64.wrap (a3 + 400) = s4 := ⟨_, rfl⟩
    have hs4' : wrap64 (a3 + 400) = s4 := by rw [← hs4, IntKind.wrap_i64]; unfold wrap64; first | rfl | omega
    rcases (by
      by_cases h1 : s4 < a4
      · by_cases h2 : a4 ≤ 84370
        · by_cases h3 : -25567 ≤ a3
          · exact Or.inr (Or.inr (Or.inr ⟨h1, h2, h3⟩))
          · exact Or.inr (Or.inr (Or.inl ⟨h1, h2, by omega⟩))
        · exact Or.inr (Or.inl ⟨h1, by omega⟩)
      · exact Or.inl (by omega) : a4 ≤ s4 ∨ (s4 < a4 ∧ 84370 < a4) ∨ (s4 < a4 ∧ a4 ≤ 84370 ∧ a3 < -25567) ∨ (s4 < a4 ∧ a4 ≤ 84370 ∧ -25567 ≤ a3)) with q1 | ⟨q1, q2⟩ | ⟨q1, q2, q3⟩ | ⟨q1, q2, q3⟩
    all_goals
      go_enter Try.func16, Try.ntmps16
      go_wp2_with fail
      clear hs4 hs4'
      refine (own_any a0 c0 l 71 _ HR0.out hc0 HN0.out (by omega)).mono ?_
      rintro e w1 ⟨g, hg, rfl, hblk, hb⟩
      have HK1 := Aside0.mk hblk
      have HB1 := Aside0.mk hb
      have HL1 := Aside0.mk (Kd.C_below HR0.out hb)
      clear hb hblk
      go_wp2_with fail
      refine (new_any2 (some ⟨g, 0, none⟩) (l.length + 3) l _ (HK1.out.reads (by omega)) (by omega) (fun h => by cases h) (by omega)).mono ?_
      rintro e w2 ⟨hb, hno, hyes⟩
      have HK2 := Aside0.mk (HK1.out.below hb)
      have HL2 := Aside0.mk (Kd.C_below HL1.out hb)
      have HB2 := Aside0.mk (below_step HB1.out hb)
      have hglt := HK1.out.lt
      cases hrb : rightB l with
      | false =>
        obtain rfl := hno hrb
        have HRB := Aside0.mk hrb
        clear hb hno hyes hrb
        go_wp2_with fail
        refine (bus_awake _).mono ?_
        rintro e w3 ⟨rfl, hb⟩
        have HK3 := Aside0.mk (HK2.out.below hb)
        have HL3 := Aside0.mk (Kd.C_below HL2.out hb)
        have HB3 := Aside0.mk (below_step HB2.out hb)
        clear hb
        go_wp2_with fail
        refine (ref05_Right.calls a0 c0 l false _ HL3.out hc0 (by unfold ref05_Right.f; rw [if_pos (by omega), HRB.out])).mono ?_
        rintro e w4 ⟨rfl, ⟨m1, rfl⟩⟩
        go_wp2_with fail
        refine (kept_yes (HK3.out.below (Drawn0.below ⟨_, rfl⟩)) (Kd.C_drewN HL3.out _) hc0 (by omega)).mono ?_
        rintro e w5 ⟨rfl, ⟨m2, rfl⟩⟩
        go_wp2_with fail
        go_ret
        exact ⟨rfl, pw_below_drewN HB3.out _⟩
      | true =>
        obtain ⟨gb, hgb, rfl, hc⟩ := hyes hrb
        have HRB := Aside0.mk hrb
        have HC2 := Aside0.mk hc
        clear hb hno hyes hrb hc
        go_wp2_with fail
        refine (bus_awake _).mono ?_
        rintro e w3 ⟨rfl, hb⟩
        have HK3 := Aside0.mk (HK2.out.below hb)
        have HL3 := Aside0.mk (Kd.C_below HL2.out hb)
        have HB3 := Aside0.mk (below_step HB2.out hb)
        have HC3 := Aside0.mk (HC2.out.below hb)
        clear hb
        go_wp2_with fail
        refine (ref05_Right.calls a0 c0 l true _ HL3.out hc0 (by unfold ref05_Right.f; rw [if_pos (by omega), HRB.out])).mono ?_
        rintro e w4 ⟨rfl, ⟨m1, rfl⟩⟩
        go_wp2_with fail
        refine (kept_yes (HK3.out.below (Drawn0.below ⟨_, rfl⟩)) (Kd.C_drewN HL3.out _) hc0 (by omega)).mono ?_
        rintro e w5 ⟨rfl, ⟨m2, rfl⟩⟩
        have HK5 := Aside0.mk (HK3.out.below (w1 := w3.drewN (m1 + m2)) (Drawn0.below ⟨_, rfl⟩))
        have HB5 := Aside0.mk (pw_below_drewN HB3.out (m1 + m2))
        have HC5 := Aside0.mk (HC3.out.below (w1 := w3.drewN (m1 + m2)) (Drawn0.below ⟨_, rfl⟩))
        go_wp2_with fail
        refine (spoil_any HK5.out (n := l.length) (c := l.length + 3) (by simp [nums]) (by omega) (by omega)).mono ?_
        rintro e w6 ⟨rfl, hbt⟩
        have HB6 := Aside0.mk (hbt.below HB5.out HB5.out.size hg)
        have HC6 := Aside0.mk (HC5.out.but hbt (by omega) hglt)
        have HL6 := Aside0.mk (Kd.C_below HR0.out HB6.out)
        clear hbt
        go_wp2_with fail
        refine (roll_any HC6.out (r1 := (rollS l a1 a2).1) (r2 := (rollS l a1 a2).2) rfl).mono ?_
        rintro e w7 ⟨rfl, hb⟩
        have HB7 := Aside0.mk (below_step HB6.out hb)
        have HC7 := Aside0.mk (HC6.out.below hb)
        have HL7 := Aside0.mk (Kd.C_below HL6.out hb)
        clear hb
        go_wp2_with fail
        refine (rroll_any HL7.out hc0 (by omega) a1 a2).mono ?_
        rintro e w8 ⟨rfl, hb⟩
        have HB8 := Aside0.mk (below_step HB7.out hb)
        have HC8 := Aside0.mk (HC7.out.below hb)
        have HL8 := Aside0.mk (Kd.C_below HL7.out hb)
        clear hb
        generalize rollS l a1 a2 = rr
        obtain ⟨rr1, rr2⟩ := rr
        go_wp2_with fail
        refine (count_all HC8.out).mono ?_
        rintro e w9 ⟨rfl, hb⟩
        have HB9 := Aside0.mk (below_step HB8.out hb.below)
        have HC9 := Aside0.mk (HC8.out.drawn hb)
        have HL9 := Aside0.mk (Kd.C_below HL8.out hb.below)
        clear hb
        go_wp2_with fail
        refine (rcount_any HL9.out hc0 (by omega) _ _).mono ?_
        rintro e wA ⟨rfl, hb⟩
        have HBA := Aside0.mk (below_step HB9.out hb.below)
        have HCA := Aside0.mk (HC9.out.drawn hb)
        have HLA := Aside0.mk (Kd.C_below HL9.out hb.below)
        clear hb
        go_wp2_with fail
        refine (open_any HCA.out rfl).mono ?_
        rintro e wB ⟨rfl, ⟨m3, rfl⟩⟩
        go_wp2_with fail
        refine (ropen_any (Kd.C_drewN HLA.out _) hc0 (by omega) a1).mono ?_
        rintro e wC ⟨rfl, ⟨m4, rfl⟩⟩
        go_wp2_with fail
        go_ret
        exact ⟨rfl, pw_below_drewN HBA.out _⟩
end Go.Proofs.Ytabdgpjkjpbolaa.H
