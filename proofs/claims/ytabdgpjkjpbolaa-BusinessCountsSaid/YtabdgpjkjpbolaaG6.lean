/- The law BusinessRolls, walked. -/
import Derived.Test.YtabdgpjkjpbolaaB2
namespace Go.Proofs.Ytabdgpjkjpbolaa.H
open Go.RowKit Go.Proofs.YtabdgpjkjpbolaaW.PrintWords Go.Proofs.YtabdgpjkjpbolaaW.PrintLast Go.Proofs.YtabdgpjkjpbolaaW.PrintMore Go.Proofs.Ytabdgpjkjpbolaa.HW
open Go.Proofs.Ytabdgpjkjpbolaa.Math
set_option linter.unusedVariables false
set_option linter.unusedSimpArgs false
theorem u64_bd (x : Int) : 0 ≤ IntKind.u64.wrap x ∧ IntKind.u64.wrap x ≤ 18446744073709551615 := by
  rw [IntKind.wrap_u64]; omega
/-- Some days of the call's own, in a row. -/
def Kept (w W : World) (v : Value) (lo hi : Int) (n : Nat) : Prop := ∃ (s : List Int), s.length ≤ n ∧ Some lo hi s ∧ W.ownsRow w.heap.size 3 1 v s.length (nums .i64 s) ∧ Below w.heap.size w W
theorem Kept.start (w : World) (lo hi : Int) : Kept w w (.slice none 0 0) lo hi 0 := ⟨[], Nat.le_refl _, Some.nil _ _, ⟨rfl, Or.inl ⟨rfl, rfl⟩⟩, Below.refl _ _⟩
theorem Kept.form {w W : World} {v : Value} {lo hi : Int} {n : Nat} (h : Kept w W v lo hi n) : ∃ A c s, v = .slice A s.length c ∧ (A = none → c = 0) ∧ s.length ≤ c ∧ s.length ≤ n ∧ Some lo hi s ∧ Kd.C (Kd.int .i64) W A s.length s ∧ W.ownsRow w.heap.size 3 1 v s.length (nums .i64 s) ∧ Below w.heap.size w W := by
  obtain ⟨s, h1, h2, h3, h4⟩ := h
  have h3' : W.ownsRow w.heap.size 3 1 v s.length (encs (Value.int .i64) s) := h3
  obtain ⟨A, c, rfl, hle, hr⟩ := own_reads_of_le (d := (0 : Int)) h3'
  refine ⟨A, c, s, rfl, fun hA => ?_, hle, h1, h2, Kd.C_of_reads hr, h3, h4⟩
  subst hA
  rcases h3.2 with ⟨e, _⟩ | ⟨g, cap, cur, e, _⟩
  · injection e
  · injection e with e1
    cases e1
theorem new_one (w : World) (x : Int) (e : TypeId) : ∀ j u, [Value.int .i64 x][j]? = some u → (w.alloc (.cells #[.int .i64 x] e)).cell? ((⟨w.heap.size, 0, none⟩ : Addr).add j) = some u := by
  intro j u hu
  have hj : j < 1 := by
    rcases Nat.lt_or_ge j 1 with h | h
    · exact h
    · rw [List.getElem?_eq_none (by simpa using h)] at hu; cases hu
  obtain rfl : j = 0 := by omega
  simp at hu
  subst hu
  simp [go_sem, Addr.add]
theorem one_one (x : Int) : ∀ u ∈ [Value.int .i64 x], u.oneCell' = true := by
  intro u hu
  simp at hu
  subst hu
  rfl
/-- One more. -/
theorem Kept.more {w W w1 : World} {A : Option Addr} {c : Nat} {lo hi x : Int} {s : List Int} {n : Nat} {v' : Value} (hS : Some lo hi s) (hn : s.length ≤ n) (h1 : lo ≤ x) (h2 : x ≤ hi) (h3 : s = [] ∨ rd s ((s.length : Int) - 1) < x)
    (hbase : ∀ k, (Value.slice A s.length c).ownBlock = some k → w.heap.size ≤ k) (hb : Below w.heap.size w W) (hown : w1.ownsRow w.heap.size 3 1 v' (s.length + 1) (nums .i64 s ++ [.int .i64 x])) (hg : (W.alloc (.cells #[.int .i64 x] 3)).grownBy w1 (Value.slice A s.length c).ownBlock) : Kept w w1 v' lo hi (n + 1) :=
  ⟨s ++ [x], by simp; omega, hS.snoc h1 h2 h3, by simpa [nums] using hown, (hb.alloc hb.size _).grown hg (by have := hb.size; simp; omega) hbase⟩
theorem rdate_any (n : Int) (hd : isDay n) (w : World) : Calls Try.prog 26 #[.int .i64 n] w fun e w' => e = .returned (.tuple #[.agg #[.int .i64 (yearOf n), .int .i64 (monthOf n), .int .i64 (dayOf n)], .int .i64 0]) ∧ Below w.heap.size w w' :=
  quittanceref03_Date.calls n _ _ _ _ w (by unfold quittanceref03_Date.f; rw [date_yes hd])
theorem rolls_to {s : List Int} {d how : Int} (hS : Some (d - 20) (d + 19) s) (d1 : -25167 ≤ d) (d2 : d ≤ 74832) (h1 : 1 ≤ how) (h2 : how ≤ 4) :
    ∃ x, rollS s d how = (x, 0) ∧ rollS s x how = (x, 0) ∧ isDay x ∧ (how = 1 ∧ x = d ∨ 2 ≤ how ∧ openB s x = true ∧ (how = 2 → d ≤ x) ∧ (how = 4 → x ≤ d) ∧ (how = 3 → x ≤ d ∨ monthOf d = monthOf x)) := by
  have hd : isDay d := ⟨by omega, by omega⟩
  have stay : ∀ n, isDay n → rollS s n 1 = (n, 0) := fun n hn => by
    unfold rollS
    rw [if_neg (fun h => h hn), if_neg (by omega), if_pos rfl]
  by_cases e1 : how = 1
  · subst e1
    exact ⟨d, stay d hd, stay d hd, hd, Or.inl ⟨rfl, rfl⟩⟩
  · obtain ⟨ya, ya1, ya2, ya3⟩ := week_open (l := s) (n := d + 20) ⟨by omega, by omega⟩ ⟨by omega, by omega⟩ (fun x hx => by have := hS.2 x hx; omega)
    obtain ⟨yb, yb1, yb2, yb3⟩ := week_open (l := s) (n := d - 23) ⟨by omega, by omega⟩ ⟨by omega, by omega⟩ (fun x hx => by have := hS.2 x hx; omega)
    obtain ⟨a, b, ea, eb, a1, a2, b1, b2, oa, ob, _, h⟩ := roll_spec (how := how) hd ya3 yb3 (by omega) (by omega) (by omega) h2
    rcases h with ⟨e, h⟩ | ⟨e, h⟩
    · refine ⟨a, e, roll_self oa h1 h2, openB_day oa, Or.inr ⟨by omega, oa, fun _ => a1, fun h4 => by omega, fun h3 => Or.inr ?_⟩⟩
      rcases h with h | ⟨_, h⟩
      · omega
      · have := mon_month (openB_day oa) hd h
        rw [date_yes (openB_day oa), date_yes hd] at this
        exact this.symm
    · exact ⟨b, e, roll_self ob h1 h2, openB_day ob, Or.inr ⟨by omega, ob, fun h2 => by omega, fun _ => b1, fun _ => Or.inl b1⟩⟩
set_option maxHeartbeats 2000000 in
set_option maxRecDepth 100000 in
theorem businessRolls_walk (a0 : Option Addr) (c0 : Nat) (l : List Int) (a1 a2 : Int) (w : World) (hr0 : Kd.C (Kd.int .i64) w a0 l.length l) (hc0 : l.length ≤ c0) (hn0 : a0 = none → c0 = 0) (hy : l.length * 8 ≤ 140737488351232) (hw0 : ∀ x ∈ l, (Lit.int .i64 x).wf = true) (w1 : (Lit.int .i64 a1).wf = true) (w2 : (Lit.int .i64 a2).wf = true) :
    Calls Try.prog 14 #[.slice a0 l.length c0, .int .i64 a1, .int .i64 a2] w fun e w' => e = .returned (.bool true) ∧ Below w.heap.size w w' := by
  have HR0 := Aside0.mk hr0
  clear hr0 hw0 hn0
  obtain ⟨u, hu⟩ : ∃ u, IntKind.u64.wrap a1 = u := ⟨_, rfl⟩
  obtain ⟨v, hv⟩ : ∃ v, IntKind.u64.wrap a2 = v := ⟨_, rfl⟩
  have hu0 := u64_bd a1
  have hv0 := u64_bd a2
  rw [hu] at hu0
  rw [hv] at hv0
  obtain ⟨u1, u2⟩ := hu0
  obtain ⟨v1, v2⟩ := hv0
  obtain ⟨d, hd⟩ : ∃ d, -25167 + u % 100000 = d := ⟨_, rfl⟩
  obtain ⟨how, hh⟩ : ∃ how, 1 + v % 4 = how := ⟨_, rfl⟩
  have d1 : -25167 ≤ d := by omega
  have d2 : d ≤ 74832 := by omega
  have how1 : 1 ≤ how := by omega
  have how2 : how ≤ 4 := by omega
  clear w1 w2
  go_enter Try.func14, Try.ntmps14
  go_wp2_with fail
  clear hu hv u1 u2 v1 v2 hd hh
  go_loopg [7, 8] 41 (fun gq sv i w' => ∃ (k : Nat), k ≤ 40 ∧ k ≤ l.length ∧ i = .int .i64 k ∧ Aside0 (gq = 41 - k) ∧ Kept w w' sv (d - 20) (d + 19) k)
  case atStart => exact ⟨0, by omega, by omega, rfl, ⟨rfl⟩, Kept.start _ _ _⟩
  case round =>
    obtain ⟨k, k40, kl, rfl, hg, hK⟩ := hrel
    obtain ⟨A, c, s, rfl, hA, hsc, hsk, hS, hC, hown, hbel⟩ := hK.form
    have HS := Aside0.mk hS
    have HC := Aside0.mk hC
    have HO := Aside0.mk hown
    have HB := Aside0.mk hbel
    have HA := Aside0.mk hA
    clear hS hC hown hbel hK hA
    by_cases hlt : k < l.length ∧ k < 40
    · obtain ⟨hlt1, hlt2⟩ := hlt
      obtain ⟨ad, e0, hx0⟩ := Kd.at_int (Kd.C_below HR0.out HB.out) (k : Int) (by omega) (by omega)
      subst e0
      rw [Int.toNat_natCast] at hx0
      obtain ⟨u, hu⟩ : ∃ u, IntKind.u64.wrap (rd l (k : Int)) = u := ⟨_, rfl⟩
      have hu0 := u64_bd (rd l (k : Int))
      rw [hu] at hu0
      obtain ⟨u1, u2⟩ := hu0
      obtain ⟨x, hx⟩ : ∃ x, d - 20 + u % 40 = x := ⟨_, rfl⟩
      have x1 : d - 20 ≤ x := by omega
      have x2 : x ≤ d + 19 := by omega
      obtain ⟨i0, hi, hz0, hz1, hz2⟩ := info_parts info_int
      rcases (by omega : s.length = 0 ∨ 0 < s.length) with hs | hs
      · obtain rfl : s = [] := List.eq_nil_of_length_eq_zero hs
        have HO0 := Aside0.mk (show wr.ownsRow w.heap.size 3 1 (.slice A 0 c) 0 [] from HO.out)
        clear hs
        go_wp2_with ((at_builtin; refine wpList_append_own _ rfl _ _ 42 rfl w.heap.size 3 i0 (.int .i64 0) 1 8 Try.underlying42 hi hz0 hz1 hz2 rfl (by decide) _ _ _ rfl (HO0.out.alloc _) ⟨wr.heap.size, 0, none⟩ 1 1 [.int .i64 x] rfl rfl (new_one wr x 3) (one_one x) (by unfold maxLen; omega) (by omega) (by have := HB.out.size; simp; omega) ?_); intro v' w1 hown1 hgrow _)
        have HK := Aside0.mk (Kept.more (n := k) HS.out hsk x1 x2 (Or.inl rfl) (own_base HO.out) HB.out hown1 hgrow)
        clear hown1 hgrow
        go_wp2_with fail
        go_roundg (41 - (k + 1))
        case measure => have := hg.out; omega
        case rel => exact ⟨k + 1, by omega, by omega, by simp, ⟨rfl⟩, HK.out⟩
      · obtain ⟨ad2, e2, hx2⟩ := Kd.at_int HC.out ((s.length - 1 : Nat) : Int) (by omega) (by omega)
        subst e2
        rw [Int.toNat_natCast] at hx2
        obtain ⟨y, hyy⟩ : ∃ y, rd s ((s.length - 1 : Nat) : Int) = y := ⟨_, rfl⟩
        rw [hyy] at hx2
        have HY := Aside0.mk hyy
        clear hyy
        have g0 : (s = []) = False := by simp; intro h; rw [h] at hs; exact absurd hs (by decide)
        have g1 : (0 : Int) ≤ (s.length : Int) - 1 := by omega
        by_cases hgt : y < x
        · go_wp2_with ((at_builtin; refine wpList_append_own _ rfl _ _ 42 rfl w.heap.size 3 i0 (.int .i64 0) 1 8 Try.underlying42 hi hz0 hz1 hz2 rfl (by decide) _ _ _ rfl (HO.out.alloc _) ⟨wr.heap.size, 0, none⟩ 1 1 [.int .i64 x] rfl rfl (new_one wr x 3) (one_one x) (by unfold maxLen; omega) (by omega) (by have := HB.out.size; simp; omega) ?_); intro v' w1 hown1 hgrow _)
          have HK := Aside0.mk (Kept.more (n := k) HS.out hsk x1 x2 (Or.inr (by rw [show ((s.length : Int) - 1) = ((s.length - 1 : Nat) : Int) by omega, HY.out]; exact hgt)) (own_base HO.out) HB.out hown1 hgrow)
          clear hown1 hgrow
          go_wp2_with fail
          go_roundg (41 - (k + 1))
          case measure => have := hg.out; omega
          case rel => exact ⟨k + 1, by omega, by omega, by simp, ⟨rfl⟩, HK.out⟩
        · go_wp2_with fail
          go_roundg (41 - (k + 1))
          case measure => have := hg.out; omega
          case rel => exact ⟨k + 1, by omega, by omega, by simp, ⟨rfl⟩, ⟨s, by omega, HS.out, HO.out, HB.out⟩⟩
    · rcases (by omega : l.length ≤ k ∨ (k < l.length ∧ 40 ≤ k)) with h1 | ⟨h1, h2⟩
      all_goals
        clear hlt
        go_wp2_with fail
        refine (new_any A c s _ HC.out hsc HA.out (by omega)).mono ?_
        rintro e w1 ⟨hb, _, hm⟩
        obtain ⟨gb, hg, rfl, hc⟩ := hm (HS.out.right ⟨by omega, by omega⟩ ⟨by omega, by omega⟩ (by omega))
        have HC1 := Aside0.mk hc
        have HB1 := Aside0.mk (below_step HB.out hb)
        clear hb hm hc HC HO HB HA
        go_wp2_with fail
        refine (bus_awake _).mono ?_
        rintro e w2 ⟨rfl, hb⟩
        have HC2 := Aside0.mk (HC1.out.below hb)
        have HB2 := Aside0.mk (below_step HB1.out hb)
        clear hb HC1 HB1
        obtain ⟨x, er, er2, hx, hcase⟩ := rolls_to HS.out d1 d2 how1 how2
        have ER := Aside0.mk er
        have ER2 := Aside0.mk er2
        have HX := Aside0.mk hx
        have HCS := Aside0.mk hcase
        clear er er2 hx hcase
        go_wp2_with fail
        refine (roll_any HC2.out ER.out).mono ?_
        rintro e w3 ⟨rfl, hb⟩
        have HC3 := Aside0.mk (HC2.out.below hb)
        have HB3 := Aside0.mk (below_step HB2.out hb)
        clear hb HC2 HB2
        go_wp2_with fail
        refine (roll_any HC3.out ER2.out).mono ?_
        rintro e w4 ⟨rfl, hb⟩
        have HC4 := Aside0.mk (HC3.out.below hb)
        have HB4 := Aside0.mk (below_step HB3.out hb)
        clear hb HC3 HB3
        go_wp2_with fail
        refine (rdate_any d ⟨by omega, by omega⟩ _).mono ?_
        rintro e w5 ⟨rfl, hb⟩
        have HC5 := Aside0.mk (HC4.out.below hb)
        have HB5 := Aside0.mk (below_step HB4.out hb)
        clear hb HC4 HB4
        go_wp2_with fail
        refine (rdate_any x HX.out _).mono ?_
        rintro e w6 ⟨rfl, hb⟩
        have hm1 : w6.cell? ⟨w5.heap.size, 1, none⟩ = some (.int .i64 (monthOf d)) := by
          rw [hb.cell (by simp)]
          simp [go_sem]
        have hsz : w5.heap.size < w6.heap.size := by have := hb.size; simp at this; omega
        have HC6 := Aside0.mk ((HC5.out.below ((Below.refl _ _).alloc (Nat.le_refl _) _)).below hb)
        have HB6 := Aside0.mk (below_step (HB5.out.alloc HB5.out.size _) hb)
        have HM1 := Aside0.mk hm1
        clear hb HC5 HB5 hm1
        have HC7 := Aside0.mk (HC6.out.below ((Below.refl _ _).alloc (Nat.le_refl _) (.cells #[.int .i64 (yearOf x), .int .i64 (monthOf x), .int .i64 (dayOf x)] 34)))
        have HB7 := Aside0.mk (HB6.out.alloc HB6.out.size (.cells #[.int .i64 (yearOf x), .int .i64 (monthOf x), .int .i64 (dayOf x)] 34))
        rcases HCS.out with ⟨rfl, rfl⟩ | ⟨hw2, ho, q2, q4, q3⟩
        · go_wp2_with fail
          go_ret
          exact ⟨rfl, HB7.out⟩
        · have HOX := Aside0.mk ho
          clear ho HCS
          rcases (by omega : how = 2 ∨ how = 4 ∨ how = 3) with rfl | rfl | rfl
          · have q := q2 rfl
            clear q2 q3 q4 HM1
            go_wp2_with fail
            refine (open_any HC7.out HOX.out).mono ?_
            rintro e w7 ⟨rfl, ⟨m1, rfl⟩⟩
            go_wp2_with fail
            go_ret
            exact ⟨rfl, pw_below_drewN HB7.out _⟩
          · have q := q4 rfl
            clear q2 q3 q4 HM1
            go_wp2_with fail
            refine (open_any HC7.out HOX.out).mono ?_
            rintro e w7 ⟨rfl, ⟨m1, rfl⟩⟩
            go_wp2_with fail
            go_ret
            exact ⟨rfl, pw_below_drewN HB7.out _⟩
          · rcases (by by_cases h : x ≤ d; exact Or.inl h; exact Or.inr ⟨by omega, by rcases q3 rfl with h' | h'; exact absurd h' h; exact h'⟩ : x ≤ d ∨ (d < x ∧ monthOf d = monthOf x)) with q | ⟨q, qm⟩
            · clear q2 q3 q4 HM1
              go_wp2_with fail
              refine (open_any HC7.out HOX.out).mono ?_
              rintro e w7 ⟨rfl, ⟨m1, rfl⟩⟩
              go_wp2_with fail
              go_ret
              exact ⟨rfl, pw_below_drewN HB7.out _⟩
            · clear q2 q3 q4
              go_wp2_with fail
              refine (open_any HC7.out HOX.out).mono ?_
              rintro e w7 ⟨rfl, ⟨m1, rfl⟩⟩
              have hm1 := HM1.out
              rw [qm] at hm1
              go_wp2_with fail
              go_ret
              exact ⟨rfl, pw_below_drewN HB7.out _⟩
end Go.Proofs.Ytabdgpjkjpbolaa.H
