/- Contracts by hand: a day rolled. -/
import Derived.Test.YtabdgpjkjpbolaaH6
namespace Go.Proofs.Ytabdgpjkjpbolaa.H
open Go.RowKit Go.Proofs.YtabdgpjkjpbolaaW.PrintWords Go.Proofs.YtabdgpjkjpbolaaW.PrintLast Go.Proofs.YtabdgpjkjpbolaaW.PrintMore Go.Proofs.Ytabdgpjkjpbolaa.HW
open Go.Proofs.Ytabdgpjkjpbolaa.Math
set_option linter.unusedVariables false
set_option linter.unusedSimpArgs false
/-- A day's month, of all. -/
def mon (n : Int) : Int := 12 * (date n).1 + (date n).2.1
theorem month_any (n : Int) (w : World) : Calls Try.prog 75 #[.int .i64 n] w fun e w' => e = .returned (.int .i64 (mon n)) ∧ Below w.heap.size w w' := business_month.calls n _ w rfl
/-- Where a day is rolled. -/
def rollS (l : List Int) (day how : Int) : Int × Int :=
  if ¬ isDay day then (0, 5) else if how < 1 ∨ 4 < how then (0, 1) else if how = 1 then (day, 0) else if how = 4 then seekS l (-1) 200000 day else
    if how = 3 ∧ ((seekS l 1 200000 day).2 ≠ 0 ∨ mon (seekS l 1 200000 day).1 ≠ mon day) then seekS l (-1) 200000 day else seekS l 1 200000 day
theorem seek_up {gb : Nat} {l : List Int} {day : Int} {r1 r2 : Int} {w : World} (h : CalAt w gb l) (hd : isDay day) (hr : seekS l 1 200000 day = (r1, r2)) :
    Calls Try.prog 74 #[.func (.func 49) #[.pointer (some ⟨gb, 0, none⟩)] #[], .int .i64 day, .int .i64 1] w fun e w' => e = .returned (.tuple #[.int .i64 r1, .int .i64 r2]) ∧ Drawn0 w w' := by
  obtain ⟨h1, h2⟩ := hd
  exact seek_any h (Or.inl rfl) 200000 (by rw [if_pos rfl]; omega) (by omega) (by omega) hr
theorem seek_down {gb : Nat} {l : List Int} {day : Int} {r1 r2 : Int} {w : World} (h : CalAt w gb l) (hd : isDay day) (hr : seekS l (-1) 200000 day = (r1, r2)) :
    Calls Try.prog 74 #[.func (.func 49) #[.pointer (some ⟨gb, 0, none⟩)] #[], .int .i64 day, .int .i64 (-1)] w fun e w' => e = .returned (.tuple #[.int .i64 r1, .int .i64 r2]) ∧ Drawn0 w w' := by
  obtain ⟨h1, h2⟩ := hd
  exact seek_any h (Or.inr rfl) 200000 (by rw [if_neg (by decide)]; omega) (by omega) (by omega) hr
theorem roll_nil (day how : Int) (w : World) : Calls Try.prog 48 #[.pointer none, .int .i64 day, .int .i64 how] w fun e w' => e = .returned (.tuple #[.int .i64 0, .int .i64 2]) ∧ Drawn0 w w' := by
  go_enter Try.func48, Try.ntmps48
  go_wp2_with fail
  go_ret2
  exact ⟨rfl, Drawn0.refl _⟩
set_option maxHeartbeats 1000000 in
theorem roll_any {gb : Nat} {l : List Int} {day how r1 r2 : Int} {w : World} (h : CalAt w gb l) (hr : rollS l day how = (r1, r2)) :
    Calls Try.prog 48 #[.pointer (some ⟨gb, 0, none⟩), .int .i64 day, .int .i64 how] w fun e w' => e = .returned (.tuple #[.int .i64 r1, .int .i64 r2]) ∧ Below w.heap.size w w' := by
  have HA := Aside0.mk h
  have HR := Aside0.mk hr
  clear h hr
  by_cases hd : isDay day
  · have d1 := decide_eq_true hd
    have HD := Aside0.mk hd
    have e1 := HR.out
    unfold rollS at e1
    rw [if_neg (fun h => h hd)] at e1
    clear hd HR
    by_cases h1 : how < 1 ∨ 4 < how
    · rw [if_pos h1] at e1
      obtain ⟨rfl, rfl⟩ := Prod.mk.inj e1
      clear e1
      by_cases h2 : how < 1
      · clear h1
        go_enter Try.func48, Try.ntmps48
        go_wp2_with fail
        refine (there_any day _).mono ?_
        rintro e w1 ⟨rfl, ⟨m2, rfl⟩⟩
        go_wp2_with fail
        go_ret2
        exact ⟨rfl, pw_below_drewN (Below.refl _ _) _⟩
      · have h3 : 4 < how := by omega
        clear h1
        go_enter Try.func48, Try.ntmps48
        go_wp2_with fail
        refine (there_any day _).mono ?_
        rintro e w1 ⟨rfl, ⟨m2, rfl⟩⟩
        go_wp2_with fail
        go_ret2
        exact ⟨rfl, pw_below_drewN (Below.refl _ _) _⟩
    · rw [if_neg h1] at e1
      have q1 : 1 ≤ how := by omega
      have q2 : how ≤ 4 := by omega
      clear h1
      by_cases h2 : how = 1
      · subst h2
        rw [if_pos rfl] at e1
        obtain ⟨rfl, rfl⟩ := Prod.mk.inj e1
        clear e1
        go_enter Try.func48, Try.ntmps48
        go_wp2_with fail
        refine (there_any day _).mono ?_
        rintro e w1 ⟨rfl, ⟨m2, rfl⟩⟩
        go_wp2_with fail
        go_ret2
        exact ⟨rfl, pw_below_drewN (Below.refl _ _) _⟩
      · rw [if_neg h2] at e1
        by_cases h3 : how = 4
        · subst h3
          rw [if_pos rfl] at e1
          have E1 := Aside0.mk e1
          clear e1 h2
          go_enter Try.func48, Try.ntmps48
          go_wp2_with fail
          refine (there_any day _).mono ?_
          rintro e w1 ⟨rfl, ⟨m2, rfl⟩⟩
          go_wp2_with fail
          refine (seek_down (HA.out.drawn ⟨_, rfl⟩) HD.out E1.out).mono ?_
          rintro e w1 ⟨rfl, ⟨m3, rfl⟩⟩
          go_wp2_with fail
          go_ret2
          exact ⟨rfl, pw_below_drewN (Below.refl _ _) _⟩
        · rw [if_neg h3] at e1
          obtain ⟨n1, n2, hn⟩ : ∃ n1 n2, seekS l 1 200000 day = (n1, n2) := ⟨_, _, rfl⟩
          rw [hn] at e1
          have HN := Aside0.mk hn
          clear hn
          by_cases h4 : how = 3
          · subst h4
            by_cases h5 : n2 = 0
            · subst h5
              obtain ⟨ma, hma⟩ : ∃ x, mon n1 = x := ⟨_, rfl⟩
              obtain ⟨mb, hmb⟩ : ∃ x, mon day = x := ⟨_, rfl⟩
              rw [hma, hmb] at e1
              have MA := Aside0.mk hma
              have MB := Aside0.mk hmb
              clear hma hmb h2 h3
              by_cases h6 : ma = mb
              · rw [if_neg (by intro h; rcases h.2 with h | h; exact h rfl; exact h h6)] at e1
                obtain ⟨rfl, rfl⟩ := Prod.mk.inj e1
                subst h6
                clear e1
                go_enter Try.func48, Try.ntmps48
                go_wp2_with fail
                refine (there_any day _).mono ?_
                rintro e w1 ⟨rfl, ⟨m2, rfl⟩⟩
                go_wp2_with fail
                refine (seek_up (HA.out.drawn ⟨_, rfl⟩) HD.out HN.out).mono ?_
                rintro e w1 ⟨rfl, ⟨m3, rfl⟩⟩
                go_wp2_with fail
                refine (month_any n1 _).mono ?_
                rw [MA.out]
                rintro e w1 ⟨rfl, hb1⟩
                have B1 := Aside0.mk (below_step (pw_below_drewN (Below.refl w.heap.size w) _) hb1)
                clear hb1
                go_wp2_with fail
                refine (month_any day _).mono ?_
                rw [MB.out]
                rintro e w2 ⟨rfl, hb2⟩
                have B2 := Aside0.mk (below_step B1.out hb2)
                clear hb2
                go_wp2_with fail
                go_ret2
                exact ⟨rfl, B2.out⟩
              · rw [if_pos ⟨rfl, Or.inr h6⟩] at e1
                have E1 := Aside0.mk e1
                clear e1
                go_enter Try.func48, Try.ntmps48
                go_wp2_with fail
                refine (there_any day _).mono ?_
                rintro e w1 ⟨rfl, ⟨m2, rfl⟩⟩
                go_wp2_with fail
                refine (seek_up (HA.out.drawn ⟨_, rfl⟩) HD.out HN.out).mono ?_
                rintro e w1 ⟨rfl, ⟨m3, rfl⟩⟩
                go_wp2_with fail
                refine (month_any n1 _).mono ?_
                rw [MA.out]
                rintro e w1 ⟨rfl, hb1⟩
                have B1 := Aside0.mk (below_step (pw_below_drewN (Below.refl w.heap.size w) _) hb1)
                clear hb1
                go_wp2_with fail
                refine (month_any day _).mono ?_
                rw [MB.out]
                rintro e w2 ⟨rfl, hb2⟩
                have B2 := Aside0.mk (below_step B1.out hb2)
                clear hb2
                go_wp2_with fail
                refine (seek_down (HA.out.below B2.out) HD.out E1.out).mono ?_
                rintro e w3 ⟨rfl, ⟨m4, rfl⟩⟩
                go_wp2_with fail
                go_ret2
                exact ⟨rfl, pw_below_drewN B2.out _⟩
            · rw [if_pos ⟨rfl, Or.inl h5⟩] at e1
              have E1 := Aside0.mk e1
              have h5b : (n2 != 0) = true := by simpa using h5
              clear e1 h2 h3 h5
              go_enter Try.func48, Try.ntmps48
              go_wp2_with fail
              refine (there_any day _).mono ?_
              rintro e w1 ⟨rfl, ⟨m2, rfl⟩⟩
              go_wp2_with fail
              refine (seek_up (HA.out.drawn ⟨_, rfl⟩) HD.out HN.out).mono ?_
              rintro e w1 ⟨rfl, ⟨m3, rfl⟩⟩
              go_wp2_with fail
              refine (seek_down (HA.out.drawn ⟨_, rfl⟩) HD.out E1.out).mono ?_
              rintro e w3 ⟨rfl, ⟨m4, rfl⟩⟩
              go_wp2_with fail
              go_ret2
              exact ⟨rfl, pw_below_drewN (Below.refl _ _) _⟩
          · rw [if_neg (fun h => h4 h.1)] at e1
            obtain ⟨rfl, rfl⟩ := Prod.mk.inj e1
            obtain rfl : how = 2 := by omega
            clear e1 h2 h3 h4
            go_enter Try.func48, Try.ntmps48
            go_wp2_with fail
            refine (there_any day _).mono ?_
            rintro e w1 ⟨rfl, ⟨m2, rfl⟩⟩
            go_wp2_with fail
            refine (seek_up (HA.out.drawn ⟨_, rfl⟩) HD.out HN.out).mono ?_
            rintro e w1 ⟨rfl, ⟨m3, rfl⟩⟩
            go_wp2_with fail
            go_ret2
            exact ⟨rfl, pw_below_drewN (Below.refl _ _) _⟩
  · have d1 := decide_eq_false hd
    have e1 := HR.out
    unfold rollS at e1
    rw [if_pos hd] at e1
    obtain ⟨rfl, rfl⟩ := Prod.mk.inj e1
    clear hd HR e1
    go_enter Try.func48, Try.ntmps48
    go_wp2_with fail
    refine (there_any day _).mono ?_
    rintro e w1 ⟨rfl, ⟨m2, rfl⟩⟩
    go_wp2_with fail
    go_ret2
    exact ⟨rfl, pw_below_drewN (Below.refl _ _) _⟩
end Go.Proofs.Ytabdgpjkjpbolaa.H
