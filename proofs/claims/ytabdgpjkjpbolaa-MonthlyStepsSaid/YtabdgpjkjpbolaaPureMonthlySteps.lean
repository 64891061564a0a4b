/- MonthlySteps: each day is of the number of the first, or its month's last; they rise; for every input. -/
import Derived.Test.YtabdgpjkjpbolaaPMonthlyStepsx2
import Derived.Test.YtabdgpjkjpbolaaG2
import Derived.Test.YtabdgpjkjpbolaaArith
namespace Go.Proofs.Ytabdgpjkjpbolaa.Pure
open Go.RowKit Go.Proofs.Ytabdgpjkjpbolaa.PMonthlySteps Go.Proofs.YtabdgpjkjpbolaaW.PrintWords Go.Proofs.YtabdgpjkjpbolaaW.PrintLast
open Go.Proofs.Ytabdgpjkjpbolaa.Math Go.Proofs.Ytabdgpjkjpbolaa.H Go.Proofs.Ytabdgpjkjpbolaa.Steps
set_option linter.unusedVariables false
set_option linter.unusedSimpArgs false

theorem awakeSteps : quittancelaw04_awake.f = some true := by kernel_rfl
theorem civ_loop : ∀ (m : Nat) {n e t i : Int} (l : List Int), 1 ≤ e → e ≤ 12 → 0 ≤ i → t ≤ 24 → i + m = t → l.length ≤ 100000 - m → m ≤ 600 → ∀ k, m + 1 ≤ k →
    monthly_Dates.l0 k n e l t i = some (dates m n e i l)
  | 0, n, e, t, i, l, e1, e2, i0, t0, h, hl, hm, k + 1, hk => by
    simp only [monthly_Dates.l0]
    rw [if_neg (by omega)]
    rfl
  | m + 1, n, e, t, i, l, e1, e2, i0, t0, h, hl, hm, k + 1, hk => by
    rw [monthly_Dates.l0]
    obtain ⟨p1, p2⟩ := mul_small (i := i + 1) (by omega) (by omega) e1 e2
    rw [if_pos (by omega), w64 (x := i + 1) (by omega) (by omega), w64 (x := (i + 1) * e) (by omega) (by omega)]
    simp only [monthly_from_add.f, monthly_Add.f, Option.bind_some]
    rw [dates]
    by_cases hz : (add n ((i + 1) * e)).2 = 0
    · rw [if_pos hz, if_pos hz, if_pos (by omega)]
      exact civ_loop m _ e1 e2 (by omega) t0 (by omega) (by simp; omega) (by omega) k (by omega)
    · rw [if_neg hz, if_neg hz]
theorem rd_row (n e : Int) : ∀ (m : Nat) (i : Int) (j : Nat), j < m → (row n e m i).getD j 0 = D n ((i + j + 1) * e)
  | 0, i, j, h => by omega
  | m + 1, i, 0, h => by simp [row]
  | m + 1, i, j + 1, h => by
    rw [row, List.getD_cons_succ, rd_row n e m (i + 1) j (by omega)]
    congr 2
    omega
theorem D_spec {n k : Int} (hd : isDay n) (k0 : 0 ≤ k) (k1 : k ≤ 3612) (h : idx n + k ≤ 26411) :
    isDay (D n k) ∧ 12 * yearOf (D n k) + monthOf (D n k) - (12 * yearOf n + monthOf n) = k ∧ (dayOf (D n k) = dayOf n ∨ dayOf (D n k) = mlen (yearOf (D n k)) (monthOf (D n k)) ∧ dayOf (D n k) ≤ dayOf n) ∧ (0 < k → n < D n k) := by
  have hs := idx_spec hd
  obtain ⟨a1, a2, a3, a4⟩ := add_ok hd (k := k) (by omega) k1 (by omega) h
  obtain ⟨s1, s2, s3, s4, s5, s6, s7⟩ := idx_spec a2
  refine ⟨a2, by have a5 : idx (D n k) = idx n + k := a3; unfold idx at a5; omega, ?_, fun hk => ?_⟩
  · show dayOf (dayAt (idx n + k) _) = _ ∨ dayOf (dayAt (idx n + k) _) = mlen (yearOf (dayAt (idx n + k) _)) (monthOf (dayAt (idx n + k) _)) ∧ dayOf (dayAt (idx n + k) _) ≤ dayOf n
    rw [← s6, ← s7, a3, a4]
    show _ ∨ min _ (ml (idx n + k)) = ml (idx n + k) ∧ _
    omega
  · have hb := ml_bd (idx n + k)
    obtain ⟨_, _, h3, h4, h5, _, _⟩ := hs
    have := dayAt_less (t := idx n) (t' := idx n + k) (d := dayOf n) (d' := min (dayOf n) (ml (idx n + k))) (by omega) (by omega) h4
    rw [← h5] at this
    exact this
theorem D_less {n k k' : Int} (hd : isDay n) (h : k < k') : D n k < D n k' := by
  obtain ⟨_, _, h3, h4, h5, _, _⟩ := idx_spec hd
  have hb := ml_bd (idx n + k)
  have hb' := ml_bd (idx n + k')
  exact dayAt_less (by omega) (by omega) (by omega)
theorem steps_loop {n e : Int} (T : Nat) (hd : isDay n) (e1 : 1 ≤ e) (e2 : e ≤ 12) (hT : T ≤ 24) (hmax : idx n + T * e ≤ 26411) : ∀ (m : Nat) (i : Nat), i + m = T → ∀ k, 2 * m + 1 ≤ k →
    quittancelaw04_MonthlySteps.l0 k n e (row n e T 0) i (yearOf n) (monthOf n) (dayOf n) = some true
  | 0, i, h, k + 1, hk => by
    rw [quittancelaw04_MonthlySteps.l0, row_len, if_neg (by omega)]
  | m + 1, i, h, k + 2, hk => by
    have hr : ∀ j : Nat, j < T → rd (row n e T 0) (j : Int) = D n ((j + 1) * e) := fun j hj => by
      unfold rd
      rw [show ((j : Int)).toNat = j by omega, rd_row n e T 0 j hj]
      congr 2
      omega
    obtain ⟨p1, p2⟩ := mul_small (i := (i : Int) + 1) (by omega) (by omega) e1 e2
    have hmono : ((i : Int) + 1) * e ≤ T * e := Int.mul_le_mul_of_nonneg_right (by omega) (by omega)
    have hpos : 0 < ((i : Int) + 1) * e := Int.mul_pos (by omega) (by omega)
    obtain ⟨d1, d2, d3, d4⟩ := D_spec hd p1 (by omega) (by omega : idx n + ((i : Int) + 1) * e ≤ 26411)
    have h4 := d4 hpos
    obtain ⟨dy1, dy2⟩ := id d1
    obtain ⟨_, m1, m2, _⟩ := date_ok d1
    obtain ⟨_, n1, n2, _⟩ := date_ok hd
    obtain ⟨s1, s2, _⟩ := idx_spec d1
    obtain ⟨z1, z2, _⟩ := idx_spec hd
    unfold idx at s1 s2 z1 z2
    have hj2 : quittancelaw04_MonthlySteps.j2 (k + 1) n e (row n e T 0) i false (yearOf n) (monthOf n) (dayOf n) (yearOf (D n ((i + 1) * e))) (monthOf (D n ((i + 1) * e))) (dayOf (D n ((i + 1) * e))) = some true := by
      rw [quittancelaw04_MonthlySteps.j2, if_neg (by simp)]
      rw [w64 (x := 12 * yearOf (D n ((i + 1) * e))) (by omega) (by omega), w64 (x := 12 * yearOf n) (by omega) (by omega), w64 (x := 12 * yearOf n + monthOf n) (by omega) (by omega),
        w64 (x := 12 * yearOf (D n ((i + 1) * e)) + monthOf (D n ((i + 1) * e))) (by omega) (by omega), w64 (x := (i : Int) + 1) (by omega) (by omega), w64 (x := ((i : Int) + 1) * e) (by omega) (by omega), w64 (by omega) (by omega), if_pos d2]
      exact steps_loop T hd e1 e2 hT hmax m (i + 1) (by omega) k (by omega)
    rw [quittancelaw04_MonthlySteps.l0, row_len, if_pos (by omega), if_pos (by omega), hr i (by omega)]
    simp only [H.quittanceref03_Date.f, H.quittanceref03_Month.f, Option.bind_some]
    rw [date_yes d1]
    simp only [if_true]
    have hprev : (i : Int) > 0 → ¬ (D n ((i + 1) * e) ≤ rd (row n e T 0) (wrap64 ((i : Int) - 1))) := fun hi => by
      rw [w64 (by omega) (by omega), show (i : Int) - 1 = ((i - 1 : Nat) : Int) by omega, hr (i - 1) (by omega)]
      have := D_less (k := (((i - 1 : Nat) : Int) + 1) * e) (k' := ((i : Int) + 1) * e) hd (Int.mul_lt_mul_of_pos_right (by omega) (by omega))
      omega
    have hle : decide (D n ((i + 1) * e) ≤ n) = false := decide_eq_false (by omega)
    rw [hle, hj2]
    have hcond : (if (i : Int) > 0 then if 0 ≤ wrap64 ((i : Int) - 1) then if wrap64 ((i : Int) - 1) < (T : Int) then if D n ((i + 1) * e) ≤ rd (row n e T 0) (wrap64 ((i : Int) - 1)) then quittancelaw04_MonthlySteps.j2 (k + 1) n e (row n e T 0) i true (yearOf n) (monthOf n) (dayOf n) (yearOf (D n ((i + 1) * e))) (monthOf (D n ((i + 1) * e))) (dayOf (D n ((i + 1) * e))) else some true else none else none else some true) = some true := by
      by_cases hi : (i : Int) > 0
      · rw [if_pos hi, if_neg (hprev hi), w64 (by omega) (by omega), if_pos (by omega), if_pos (by omega)]
      · rw [if_neg hi]
    rw [hcond]
    rcases d3 with d3 | ⟨d3, d5⟩
    · rw [if_pos d3]
    · by_cases h5 : dayOf (D n ((i + 1) * e)) = dayOf n
      · rw [if_pos h5]
      · rw [if_neg h5, if_pos d3, if_neg (by omega)]
theorem civ_dates {n e t : Int} (e1 : 1 ≤ e) (e2 : e ≤ 12) (t1 : 1 ≤ t) (t2 : t ≤ 24) : monthly_Dates.f 60 n e t = some (dates t.toNat n e 0 []) := by
  unfold monthly_Dates.f
  rw [if_neg (by omega), if_neg (by omega), if_neg (by omega), decide_eq_false (by omega)]
  simp only [monthly_Dates.j0, Bool.false_eq_true, if_false]
  exact civ_loop t.toNat [] e1 e2 (by omega) t2 (by omega) (by simp) (by omega) 59 (by omega)
theorem MonthlySteps : quittancelaw04_MonthlySteps.Pure := by
  intro a0 a1 a2 _ _ _
  refine ⟨60, ?_⟩
  unfold quittancelaw04_MonthlySteps.f
  obtain ⟨n1, n2⟩ := umod a0 100000 (by omega) (by omega)
  obtain ⟨k1, k2⟩ := umod a1 12 (by omega) (by omega)
  obtain ⟨t1, t2⟩ := umod a2 24 (by omega) (by omega)
  generalize wrap64 (Int.tmod (IntKind.u64.wrap a0) 100000) = n0 at *
  generalize wrap64 (Int.tmod (IntKind.u64.wrap a1) 12) = e0 at *
  generalize wrap64 (Int.tmod (IntKind.u64.wrap a2) 24) = t0 at *
  rw [w64 (x := -25567 + n0) (by omega) (by omega), w64 (x := 1 + e0) (by omega) (by omega), w64 (x := 1 + t0) (by omega) (by omega)]
  have hd : isDay (-25567 + n0) := ⟨by omega, by omega⟩
  have he : 1 ≤ 1 + e0 ∧ 1 + e0 ≤ 12 := by omega
  have ht : 1 ≤ 1 + t0 ∧ 1 + t0 ≤ 24 := by omega
  generalize -25567 + n0 = n at *
  generalize 1 + e0 = e at *
  generalize 1 + t0 = t at *
  rw [civ_dates he.1 he.2 ht.1 ht.2, awakeSteps]
  simp only [Option.bind_some, if_true]
  rcases dates_spec hd he.1 he.2 t.toNat 0 [] (by omega) (by omega) with ⟨b, c⟩ | b | ⟨b, c⟩
  · rw [b]
    simp only [List.nil_append, if_true, row_len]
    rw [show ((t.toNat : Int) != t) = false by simp; omega]
    simp only [quittancelaw04_MonthlySteps.j0, Bool.false_eq_true, if_false, H.quittanceref03_Date.f, Option.bind_some]
    rw [date_yes hd]
    exact steps_loop t.toNat hd he.1 he.2 (by omega) (by rw [Int.zero_add] at c; exact c) t.toNat 0 (by omega) 59 (by omega)
  · rw [b]
    rw [if_neg (by decide), if_pos (by decide)]
    simp only [quittancelaw04_MonthlySteps.j0, Bool.false_eq_true, if_false, H.quittanceref03_Date.f, Option.bind_some]
    rw [quittancelaw04_MonthlySteps.l0, if_neg (by simp)]
  · omega
end Go.Proofs.Ytabdgpjkjpbolaa.Pure
