/- Contracts by hand: the document's look at a product. -/
import Derived.Test.YtcbebbiedegjlaaQc
import Derived.Deep.DeepCutAuto
import Derived.BigFrame
namespace Go.Proofs.Ytcbebbiedegjlaa.Pd
open Go.RowKit Go.Proofs.YtcbebbiedegjlaaW.PrintWords Go.Proofs.YtcbebbiedegjlaaW.PrintLast Go.Proofs.YtcbebbiedegjlaaW.PrintMore Go.Proofs.Ytcbebbiedegjlaa.HW
open Pm
set_option linter.unusedVariables false
set_option linter.unusedSimpArgs false
theorem load_want {P : Program} {ops : Array Oper} {rest : List Oper} {o : Oper} {a : Act} {w : World} {Q : Exit → Act → World → Prop} (hw : Region.wanted o (yielded ops a.tmps) = true) (ty : TypeId) (x : Operand) (ho : o.op = .load ty x)
    (g : Nat) (hx : a.eval x = .pointer (some ⟨g, 0, none⟩)) (t : TypeId) (cs : Array Value) (fr : Nat × Nat) (d : TypeDesc) (hg : w.heap[g]? = some (.cells cs t fr))
    (hu : P.underlying ty = some d) (hd : (match d with | .struct _ | .array _ _ => true | _ => false) = true) (hi : (P.info? ty).map (·.size) = some cs.size)
    (h : wpList P ops Q rest (a.put o.dst (.agg cs)) w) : wpList P ops Q (o :: rest) a w :=
  Go.BigFrame.wpList_want hw fun _ hK => wp_load_row ty x ho g hx t cs fr d hg hu hd hi (hK _ _ h)
theorem in_six (g : Nat) (c : Nat) (x : Int) (r : Bool) (h : [(1 : Int), 2, 3, 4, 6, 12].contains x = r) (w : World) (hb : w.heap[g]? = some (.cells #[.int .i64 1, .int .i64 2, .int .i64 3, .int .i64 4, .int .i64 6, .int .i64 12] 3 (0, 0))) :
    Calls Try.prog 38 #[.slice (some ⟨g, 0, none⟩) 6 c, .int .i64 x] w fun e w' => e = .returned (.bool r) ∧ w = w' := by
  have := in_int g [1, 2, 3, 4, 6, 12] c 3 x w hb (by decide)
  rw [h] at this
  exact this

theorem times_b2 {b1 : Bool} {p : Prod} (h : true = (b1 && [(1 : Int), 2, 3, 4, 6, 12].contains p.every && decide (1 ≤ p.times ∧ p.times ≤ 600) && decide (0 ≤ p.grace ∧ p.grace ≤ p.times - 1) && decide (p.kind = 3 → p.grace = 0))) : 1 ≤ p.times ∧ p.times ≤ 600 := by
  have h := h.symm
  simp only [Bool.and_eq_true] at h
  exact of_decide_eq_true h.1.1.2

set_option maxRecDepth 100000 in
set_option maxHeartbeats 4000000 in
theorem rcheck_0 (p : Prod) (A1 : Option Addr) (c1 : Nat) (A2 : Option Addr) (c2 : Nat) (A3 : Option Addr) (c3 : Nat) (w : World) (hp : ProdAt w p A1 c1 A2 c2 A3 c3) (hs : p.name.size ≤ 140737488351232 ∧ p.resets.length ≤ 140737488355328 ∧ p.late.length ≤ 140737488355328 ∧ p.hol.length ≤ 140737488355328)
    (b1 b2 b3 b4 : Bool)
    (h1 : b1 = (nameOk p.name.data.toList && decide (1 ≤ p.count ∧ p.count ≤ 3) && decide (p.round = 1 ∨ p.round = 3) && decide (1 ≤ p.kind ∧ p.kind ≤ 3)))
    (h2 : b2 = (b1 && [(1 : Int), 2, 3, 4, 6, 12].contains p.every && decide (1 ≤ p.times ∧ p.times ≤ 600) && decide (0 ≤ p.grace ∧ p.grace ≤ p.times - 1) && decide (p.kind = 3 → p.grace = 0)))
    (h3 : b3 = (b2 && decide (0 ≤ p.rate ∧ p.rate ≤ 1000000000) && decide (0 ≤ p.penalty ∧ p.penalty ≤ 1000000000) && (resetsOk p.times 0 p.resets && decide (p.resets.length ≤ 20)) && orderOk p.o1 p.o2 p.o3 p.o4 && decide (1 ≤ p.over ∧ p.over ≤ 3) && lateOk p))
    (h4 : b4 = (b3 && decide (1 ≤ p.roll ∧ p.roll ≤ 4) && (Nw.rises (-25568) p.hol && decide (p.hol.length ≤ 200)) && decide (p.roll = 1 → p.hol = []))) :
    Calls Try.prog 16 #[pv p A1 c1 A2 c2 A3 c3] w fun e w' => e = .returned (.int .i64 (if b4 = true then 0 else 9)) ∧ Below w.heap.size w w' := by
  have HP := Aside0.mk hp
  have HS := Aside0.mk hs
  have K1 := Aside0.mk h1
  have K2 := Aside0.mk h2
  have K3 := Aside0.mk h3
  have K4 := Aside0.mk h4
  clear hp hs h1 h2 h3 h4
  go_enter Try.func16, Try.ntmps16
  go_upto_region 1 with ((with_reducible refine gate_dst (N := 1) rfl ?_); refine box_event ?hg (N := 1) ?hd (cs := pcs p A1 c1 A2 c2 A3 c3) (t := 27) ?hr ?_; (case hd => rfl); (case hg => rfl); (case hr => first | (go_simp; done) | (go_simp; rfl)); intro g1 hg w1 hb1 hbl1; clear hg; have HB1 := Aside0.mk hb1; have BL1 := Aside0.mk hbl1; clear hb1 hbl1)
  have BLx := Aside0.mk (Below.refl w1.heap.size w1)
  have HBx := HB1
  go_cut [3] (fun s3 wx => s3 = .bool b1 ∧ Aside0 (Below w1.heap.size w1 wx))
  case first =>
    obtain ⟨q0, q1, q2, q3, -⟩ := pc_cells HBx.out
    have g1l := blk_lt HBx.out
    cases hn : nameOk p.name.data.toList with
    | false =>
      obtain rfl : b1 = false := by rw [K1.out, hn]; rfl
      have HN := Aside0.mk hn
      clear hn
      go_wp2_with (first
        | (go_at_call 18; refine (rname_any p.name _ HS.out.1).mono ?_; rw [HN.out]; rintro e w' ⟨rfl, hb⟩; have BLx := Aside0.mk (below_step BLx.out hb); have HBx := Aside0.mk (blk_below HBx.out hb); clear hb; obtain ⟨q0, q1, q2, q3, -⟩ := pc_cells HBx.out))
      go_meet
      case rel => exact ⟨rfl, ⟨by first | exact BLx.out | exact BLx.out.alloc BLx.out.size _⟩⟩
    | true =>
      have HN := Aside0.mk hn
      cases ha : decide (1 ≤ p.count ∧ p.count ≤ 3) with
      | false =>
        obtain rfl : b1 = false := by rw [K1.out, ha]; simp
        have HA := Aside0.mk ha
        clear hn ha
        go_wp2_with (first
          | (go_at_call 18; refine (rname_any p.name _ HS.out.1).mono ?_; rw [HN.out]; rintro e w' ⟨rfl, hb⟩; have BLx := Aside0.mk (below_step BLx.out hb); have HBx := Aside0.mk (blk_below HBx.out hb); clear hb; obtain ⟨q0, q1, q2, q3, -⟩ := pc_cells HBx.out)
          | (go_at_call 37; (with_reducible refine (within_r_is (v := p.count) HA.out _).mono ?_); rintro e w' ⟨rfl, rfl⟩))
        go_meet
        case rel => exact ⟨rfl, ⟨by first | exact BLx.out | exact BLx.out.alloc BLx.out.size _⟩⟩
      | true =>
        have HA := Aside0.mk ha
        by_cases hr : p.round = 1 ∨ p.round = 3
        · cases hb : decide (1 ≤ p.kind ∧ p.kind ≤ 3) with
          | false =>
            obtain rfl : b1 = false := by rw [K1.out, hb]; simp
            have HB := Aside0.mk hb
            clear hn ha hb
            rcases hr with hr | hr
            · have r1 := beqt hr
              clear hr
              go_wp2_with (first
                | (go_at_call 18; refine (rname_any p.name _ HS.out.1).mono ?_; rw [HN.out]; rintro e w' ⟨rfl, hb⟩; have BLx := Aside0.mk (below_step BLx.out hb); have HBx := Aside0.mk (blk_below HBx.out hb); clear hb; obtain ⟨q0, q1, q2, q3, -⟩ := pc_cells HBx.out)
                | (go_at_call 37; (with_reducible refine (within_r_is (v := p.count) HA.out _).mono ?_); rintro e w' ⟨rfl, rfl⟩)
                | (go_at_call 37; (with_reducible refine (within_r_is (v := p.kind) HB.out _).mono ?_); rintro e w' ⟨rfl, rfl⟩))
              go_meet
              case rel => exact ⟨rfl, ⟨by first | exact BLx.out | exact BLx.out.alloc BLx.out.size _⟩⟩
            · have r1 : (p.round == 1) = false := beqf (by omega)
              have r3 := beqt hr
              clear hr
              go_wp2_with (first
                | (go_at_call 18; refine (rname_any p.name _ HS.out.1).mono ?_; rw [HN.out]; rintro e w' ⟨rfl, hb⟩; have BLx := Aside0.mk (below_step BLx.out hb); have HBx := Aside0.mk (blk_below HBx.out hb); clear hb; obtain ⟨q0, q1, q2, q3, -⟩ := pc_cells HBx.out)
                | (go_at_call 37; (with_reducible refine (within_r_is (v := p.count) HA.out _).mono ?_); rintro e w' ⟨rfl, rfl⟩)
                | (go_at_call 37; (with_reducible refine (within_r_is (v := p.kind) HB.out _).mono ?_); rintro e w' ⟨rfl, rfl⟩))
              go_meet
              case rel => exact ⟨rfl, ⟨by first | exact BLx.out | exact BLx.out.alloc BLx.out.size _⟩⟩
          | true =>
            obtain rfl : b1 = true := by rw [K1.out, hn, ha, hb, decide_eq_true hr]; rfl
            have HB := Aside0.mk hb
            clear hn ha hb
            rcases hr with hr | hr
            · have r1 := beqt hr
              clear hr
              go_wp2_with (first
                | (go_at_call 18; refine (rname_any p.name _ HS.out.1).mono ?_; rw [HN.out]; rintro e w' ⟨rfl, hb⟩; have BLx := Aside0.mk (below_step BLx.out hb); have HBx := Aside0.mk (blk_below HBx.out hb); clear hb; obtain ⟨q0, q1, q2, q3, -⟩ := pc_cells HBx.out)
                | (go_at_call 37; (with_reducible refine (within_r_is (v := p.count) HA.out _).mono ?_); rintro e w' ⟨rfl, rfl⟩)
                | (go_at_call 37; (with_reducible refine (within_r_is (v := p.kind) HB.out _).mono ?_); rintro e w' ⟨rfl, rfl⟩))
              go_meet
              case rel => exact ⟨rfl, ⟨by first | exact BLx.out | exact BLx.out.alloc BLx.out.size _⟩⟩
            · have r1 : (p.round == 1) = false := beqf (by omega)
              have r3 := beqt hr
              clear hr
              go_wp2_with (first
                | (go_at_call 18; refine (rname_any p.name _ HS.out.1).mono ?_; rw [HN.out]; rintro e w' ⟨rfl, hb⟩; have BLx := Aside0.mk (below_step BLx.out hb); have HBx := Aside0.mk (blk_below HBx.out hb); clear hb; obtain ⟨q0, q1, q2, q3, -⟩ := pc_cells HBx.out)
                | (go_at_call 37; (with_reducible refine (within_r_is (v := p.count) HA.out _).mono ?_); rintro e w' ⟨rfl, rfl⟩)
                | (go_at_call 37; (with_reducible refine (within_r_is (v := p.kind) HB.out _).mono ?_); rintro e w' ⟨rfl, rfl⟩))
              go_meet
              case rel => exact ⟨rfl, ⟨by first | exact BLx.out | exact BLx.out.alloc BLx.out.size _⟩⟩
        · obtain rfl : b1 = false := by rw [K1.out, decide_eq_false hr]; simp
          have r1 : (p.round == 1) = false := beqf (fun h => hr (Or.inl h))
          have r3 : (p.round == 3) = false := beqf (fun h => hr (Or.inr h))
          clear hn ha hr
          go_wp2_with (first
            | (go_at_call 18; refine (rname_any p.name _ HS.out.1).mono ?_; rw [HN.out]; rintro e w' ⟨rfl, hb⟩; have BLx := Aside0.mk (below_step BLx.out hb); have HBx := Aside0.mk (blk_below HBx.out hb); clear hb; obtain ⟨q0, q1, q2, q3, -⟩ := pc_cells HBx.out)
            | (go_at_call 37; (with_reducible refine (within_r_is (v := p.count) HA.out _).mono ?_); rintro e w' ⟨rfl, rfl⟩))
          go_meet
          case rel => exact ⟨rfl, ⟨by first | exact BLx.out | exact BLx.out.alloc BLx.out.size _⟩⟩
  case rest =>
    obtain ⟨rfl, BLy⟩ := hcut
    clear HBx BLx
    have BLx := BLy
    clear BLy
    have HBx := Aside0.mk (blk_below HB1.out BLx.out)
    go_upto_region 2 with fail
    go_cut [3] (fun s3 wx => s3 = .bool b2 ∧ Aside0 (Below w1.heap.size w1 wx))
    case first =>
      obtain ⟨-, -, -, q3, q4, q5, q6, -⟩ := pc_cells HBx.out
      have g1l := blk_lt HBx.out
      cases b1 with
      | false =>
        obtain rfl : b2 = false := by rw [K2.out]; rfl
        go_wp2_with fail
        go_meet
        case rel => exact ⟨rfl, ⟨by first | exact BLx.out | exact BLx.out.alloc BLx.out.size _⟩⟩
      | true =>
        cases he : [(1 : Int), 2, 3, 4, 6, 12].contains p.every with
        | false =>
          obtain rfl : b2 = false := by rw [K2.out, he]; simp
          have HE := Aside0.mk he
          clear he
          go_wp2_with (first
            | (go_at_call 38; refine (in_six _ _ _ _ HE.out _ (heap_alloc_new _ _)).mono ?_; rintro e w' ⟨rfl, rfl⟩))
          go_meet
          case rel => exact ⟨rfl, ⟨by first | exact BLx.out | exact BLx.out.alloc BLx.out.size _⟩⟩
        | true =>
          have HE := Aside0.mk he
          cases hc : decide (1 ≤ p.times ∧ p.times ≤ 600) with
          | false =>
            obtain rfl : b2 = false := by rw [K2.out, hc]; simp
            have HC := Aside0.mk hc
            clear he hc
            go_wp2_with (first
              | (go_at_call 38; refine (in_six _ _ _ _ HE.out _ (heap_alloc_new _ _)).mono ?_; rintro e w' ⟨rfl, rfl⟩)
              | (go_at_call 37; (with_reducible refine (within_r_is (v := p.times) HC.out _).mono ?_); rintro e w' ⟨rfl, rfl⟩))
            go_meet
            case rel => exact ⟨rfl, ⟨by first | exact BLx.out | exact BLx.out.alloc BLx.out.size _⟩⟩
          | true =>
            obtain ⟨t1, t2⟩ := of_decide_eq_true hc
            have HC := Aside0.mk hc
            cases hd : decide (0 ≤ p.grace ∧ p.grace ≤ p.times - 1) with
            | false =>
              obtain rfl : b2 = false := by rw [K2.out, hd]; simp
              have HD := Aside0.mk hd
              clear he hc hd
              go_wp2_with (first
                | (go_at_call 38; refine (in_six _ _ _ _ HE.out _ (heap_alloc_new _ _)).mono ?_; rintro e w' ⟨rfl, rfl⟩)
                | (go_at_call 37; (with_reducible refine (within_r_is (v := p.times) HC.out _).mono ?_); rintro e w' ⟨rfl, rfl⟩)
                | (go_at_call 37; (with_reducible refine (within_r_is (v := p.grace) HD.out _).mono ?_); rintro e w' ⟨rfl, rfl⟩))
              go_meet
              case rel => exact ⟨rfl, ⟨by first | exact BLx.out | exact BLx.out.alloc BLx.out.size _⟩⟩
            | true =>
              have HD := Aside0.mk hd
              by_cases hk : p.kind = 3
              · have k1 : (p.kind != 3) = false := by rw [hk]; rfl
                by_cases h0 : p.grace = 0
                · have g0 := beqt h0
                  obtain rfl : b2 = true := by rw [K2.out, he, hc, hd, decide_eq_true (fun _ => h0)]; rfl
                  clear he hc hd hk h0
                  go_wp2_with (first
                    | (go_at_call 38; refine (in_six _ _ _ _ HE.out _ (heap_alloc_new _ _)).mono ?_; rintro e w' ⟨rfl, rfl⟩)
                    | (go_at_call 37; (with_reducible refine (within_r_is (v := p.times) HC.out _).mono ?_); rintro e w' ⟨rfl, rfl⟩)
                    | (go_at_call 37; (with_reducible refine (within_r_is (v := p.grace) HD.out _).mono ?_); rintro e w' ⟨rfl, rfl⟩))
                  go_meet
                  case rel => exact ⟨rfl, ⟨by first | exact BLx.out | exact BLx.out.alloc BLx.out.size _⟩⟩
                · have g0 := beqf h0
                  obtain rfl : b2 = false := by rw [K2.out, decide_eq_false (p := p.kind = 3 → p.grace = 0) (fun h => h0 (h hk))]; simp
                  clear he hc hd hk h0
                  go_wp2_with (first
                    | (go_at_call 38; refine (in_six _ _ _ _ HE.out _ (heap_alloc_new _ _)).mono ?_; rintro e w' ⟨rfl, rfl⟩)
                    | (go_at_call 37; (with_reducible refine (within_r_is (v := p.times) HC.out _).mono ?_); rintro e w' ⟨rfl, rfl⟩)
                    | (go_at_call 37; (with_reducible refine (within_r_is (v := p.grace) HD.out _).mono ?_); rintro e w' ⟨rfl, rfl⟩))
                  go_meet
                  case rel => exact ⟨rfl, ⟨by first | exact BLx.out | exact BLx.out.alloc BLx.out.size _⟩⟩
              · have k1 : (p.kind != 3) = true := by simpa using hk
                obtain rfl : b2 = true := by rw [K2.out, he, hc, hd, decide_eq_true (fun h => absurd h hk)]; rfl
                clear he hc hd hk
                go_wp2_with (first
                  | (go_at_call 38; refine (in_six _ _ _ _ HE.out _ (heap_alloc_new _ _)).mono ?_; rintro e w' ⟨rfl, rfl⟩)
                  | (go_at_call 37; (with_reducible refine (within_r_is (v := p.times) HC.out _).mono ?_); rintro e w' ⟨rfl, rfl⟩)
                  | (go_at_call 37; (with_reducible refine (within_r_is (v := p.grace) HD.out _).mono ?_); rintro e w' ⟨rfl, rfl⟩))
                go_meet
                case rel => exact ⟨rfl, ⟨by first | exact BLx.out | exact BLx.out.alloc BLx.out.size _⟩⟩
    case rest =>
      obtain ⟨rfl, BLy⟩ := hcut
      clear HBx BLx
      have BLx := BLy
      clear BLy
      have HBx := Aside0.mk (blk_below HB1.out BLx.out)
      go_upto_region 3 with fail
      go_cut [3] (fun s3 wx => s3 = .bool b3 ∧ Aside0 (Below w1.heap.size w1 wx))
      case first =>
        obtain ⟨-, -, -, -, -, -, -, q7, q8, q9, q10, q11, q12, q13, q14, q15, -⟩ := pc_cells HBx.out
        have g1l := blk_lt HBx.out
        cases b2 with
        | false =>
          obtain rfl : b3 = false := by rw [K3.out]; rfl
          go_wp2_with fail
          go_meet
          case rel => exact ⟨rfl, ⟨by first | exact BLx.out | exact BLx.out.alloc BLx.out.size _⟩⟩
        | true =>
          have HT := Aside0.mk (times_b2 K2.out)
          cases ha : decide (0 ≤ p.rate ∧ p.rate ≤ 1000000000) with
          | false =>
            obtain rfl : b3 = false := by rw [K3.out, ha]; simp
            have HA := Aside0.mk ha
            clear ha
            go_wp2_with (first
              | (go_at_call 37; (with_reducible refine (within_r_is (v := p.rate) HA.out _).mono ?_); rintro e w' ⟨rfl, rfl⟩))
            go_meet
            case rel => exact ⟨rfl, ⟨by first | exact BLx.out | exact BLx.out.alloc BLx.out.size _⟩⟩
          | true =>
            have HA := Aside0.mk ha
            cases hb : decide (0 ≤ p.penalty ∧ p.penalty ≤ 1000000000) with
            | false =>
              obtain rfl : b3 = false := by rw [K3.out, hb]; simp
              have HB := Aside0.mk hb
              clear ha hb
              go_wp2_with (first
                | (go_at_call 37; (with_reducible refine (within_r_is (v := p.rate) HA.out _).mono ?_); rintro e w' ⟨rfl, rfl⟩)
                | (go_at_call 37; (with_reducible refine (within_r_is (v := p.penalty) HB.out _).mono ?_); rintro e w' ⟨rfl, rfl⟩))
              go_meet
              case rel => exact ⟨rfl, ⟨by first | exact BLx.out | exact BLx.out.alloc BLx.out.size _⟩⟩
            | true =>
              have HB := Aside0.mk hb
              cases hre : (resetsOk p.times 0 p.resets && decide (p.resets.length ≤ 20)) with
              | false =>
                obtain rfl : b3 = false := by rw [K3.out, hre]; simp
                have HRE := Aside0.mk hre
                clear ha hb hre
                go_wp2_with (first
                  | (go_at_call 37; (with_reducible refine (within_r_is (v := p.rate) HA.out _).mono ?_); rintro e w' ⟨rfl, rfl⟩)
                  | (go_at_call 37; (with_reducible refine (within_r_is (v := p.penalty) HB.out _).mono ?_); rintro e w' ⟨rfl, rfl⟩)
                  | ((with_reducible refine gate_dst (N := 69) rfl ?_); refine load_want rfl 27 (.tmp 1) rfl g1 rfl 27 _ (0, 0) _ HBx.out Try.underlying27 rfl info_prod ?_)
                  | (go_at_call 39; refine (rresets_1 p A1 c1 A2 c2 A3 c3 _ HT.out.1 HT.out.2 (HP.out.below (below_step BL1.out BLx.out)).r1 HS.out.2.1 _ rfl).mono ?_; rw [HRE.out]; rintro e w' ⟨rfl, hb⟩; have BLx := Aside0.mk (below_step BLx.out hb); have HBx := Aside0.mk (blk_below HBx.out hb); clear hb; obtain ⟨-, -, -, -, -, -, -, q7, q8, q9, q10, q11, q12, q13, q14, q15, -⟩ := pc_cells HBx.out))
                go_meet
                case rel => exact ⟨rfl, ⟨by first | exact BLx.out | exact BLx.out.alloc BLx.out.size _⟩⟩
              | true =>
                have HRE := Aside0.mk hre
                cases ho : orderOk p.o1 p.o2 p.o3 p.o4 with
                | false =>
                  obtain rfl : b3 = false := by rw [K3.out, ho]; simp
                  have HO := Aside0.mk ho
                  clear ha hb hre ho
                  go_wp2_with (first
                    | (go_at_call 37; (with_reducible refine (within_r_is (v := p.rate) HA.out _).mono ?_); rintro e w' ⟨rfl, rfl⟩)
                    | (go_at_call 37; (with_reducible refine (within_r_is (v := p.penalty) HB.out _).mono ?_); rintro e w' ⟨rfl, rfl⟩)
                    | ((with_reducible refine gate_dst (N := 69) rfl ?_); refine load_want rfl 27 (.tmp 1) rfl g1 rfl 27 _ (0, 0) _ HBx.out Try.underlying27 rfl info_prod ?_)
                    | (go_at_call 39; refine (rresets_1 p A1 c1 A2 c2 A3 c3 _ HT.out.1 HT.out.2 (HP.out.below (below_step BL1.out BLx.out)).r1 HS.out.2.1 _ rfl).mono ?_; rw [HRE.out]; rintro e w' ⟨rfl, hb⟩; have BLx := Aside0.mk (below_step BLx.out hb); have HBx := Aside0.mk (blk_below HBx.out hb); clear hb; obtain ⟨-, -, -, -, -, -, -, q7, q8, q9, q10, q11, q12, q13, q14, q15, -⟩ := pc_cells HBx.out)
                    | (go_at_call 23; refine (rorder_any p.o1 p.o2 p.o3 p.o4 _).mono ?_; rw [HO.out]; rintro e w' ⟨rfl, hb⟩; have BLx := Aside0.mk (below_step BLx.out hb); have HBx := Aside0.mk (blk_below HBx.out hb); clear hb; obtain ⟨-, -, -, -, -, -, -, q7, q8, q9, q10, q11, q12, q13, q14, q15, -⟩ := pc_cells HBx.out))
                  go_meet
                  case rel => exact ⟨rfl, ⟨by first | exact BLx.out | exact BLx.out.alloc BLx.out.size _⟩⟩
                | true =>
                  have HO := Aside0.mk ho
                  cases hv : decide (1 ≤ p.over ∧ p.over ≤ 3) with
                  | false =>
                    obtain rfl : b3 = false := by rw [K3.out, hv]; simp
                    have HV := Aside0.mk hv
                    clear ha hb hre ho hv
                    go_wp2_with (first
                      | (go_at_call 37; (with_reducible refine (within_r_is (v := p.rate) HA.out _).mono ?_); rintro e w' ⟨rfl, rfl⟩)
                      | (go_at_call 37; (with_reducible refine (within_r_is (v := p.penalty) HB.out _).mono ?_); rintro e w' ⟨rfl, rfl⟩)
                      | ((with_reducible refine gate_dst (N := 69) rfl ?_); refine load_want rfl 27 (.tmp 1) rfl g1 rfl 27 _ (0, 0) _ HBx.out Try.underlying27 rfl info_prod ?_)
                      | (go_at_call 39; refine (rresets_1 p A1 c1 A2 c2 A3 c3 _ HT.out.1 HT.out.2 (HP.out.below (below_step BL1.out BLx.out)).r1 HS.out.2.1 _ rfl).mono ?_; rw [HRE.out]; rintro e w' ⟨rfl, hb⟩; have BLx := Aside0.mk (below_step BLx.out hb); have HBx := Aside0.mk (blk_below HBx.out hb); clear hb; obtain ⟨-, -, -, -, -, -, -, q7, q8, q9, q10, q11, q12, q13, q14, q15, -⟩ := pc_cells HBx.out)
                      | (go_at_call 23; refine (rorder_any p.o1 p.o2 p.o3 p.o4 _).mono ?_; rw [HO.out]; rintro e w' ⟨rfl, hb⟩; have BLx := Aside0.mk (below_step BLx.out hb); have HBx := Aside0.mk (blk_below HBx.out hb); clear hb; obtain ⟨-, -, -, -, -, -, -, q7, q8, q9, q10, q11, q12, q13, q14, q15, -⟩ := pc_cells HBx.out)
                      | (go_at_call 37; (with_reducible refine (within_r_is (v := p.over) HV.out _).mono ?_); rintro e w' ⟨rfl, rfl⟩))
                    go_meet
                    case rel => exact ⟨rfl, ⟨by first | exact BLx.out | exact BLx.out.alloc BLx.out.size _⟩⟩
                  | true =>
                    have HV := Aside0.mk hv
                    obtain ⟨r, hti⟩ : ∃ r, lateOk p = r := ⟨_, rfl⟩
                    have HTI := Aside0.mk (show (decide (p.late.length ≤ 8 ∧ (0 ≤ p.cap ∧ p.cap ≤ 10000000000000) ∧ (p.late = [] → p.cap = 0)) && tiersOk 0 0 p.late) = r from hti)
                    obtain rfl : b3 = r := by rw [K3.out, ha, hb, hre, ho, hv, hti]; rfl
                    clear ha hb hre ho hv hti
                    go_wp2_with (first
                      | (go_at_call 37; (with_reducible refine (within_r_is (v := p.rate) HA.out _).mono ?_); rintro e w' ⟨rfl, rfl⟩)
                      | (go_at_call 37; (with_reducible refine (within_r_is (v := p.penalty) HB.out _).mono ?_); rintro e w' ⟨rfl, rfl⟩)
                      | ((with_reducible refine gate_dst (N := 69) rfl ?_); refine load_want rfl 27 (.tmp 1) rfl g1 rfl 27 _ (0, 0) _ HBx.out Try.underlying27 rfl info_prod ?_)
                      | (go_at_call 39; refine (rresets_1 p A1 c1 A2 c2 A3 c3 _ HT.out.1 HT.out.2 (HP.out.below (below_step BL1.out BLx.out)).r1 HS.out.2.1 _ rfl).mono ?_; rw [HRE.out]; rintro e w' ⟨rfl, hb⟩; have BLx := Aside0.mk (below_step BLx.out hb); have HBx := Aside0.mk (blk_below HBx.out hb); clear hb; obtain ⟨-, -, -, -, -, -, -, q7, q8, q9, q10, q11, q12, q13, q14, q15, -⟩ := pc_cells HBx.out)
                      | (go_at_call 23; refine (rorder_any p.o1 p.o2 p.o3 p.o4 _).mono ?_; rw [HO.out]; rintro e w' ⟨rfl, hb⟩; have BLx := Aside0.mk (below_step BLx.out hb); have HBx := Aside0.mk (blk_below HBx.out hb); clear hb; obtain ⟨-, -, -, -, -, -, -, q7, q8, q9, q10, q11, q12, q13, q14, q15, -⟩ := pc_cells HBx.out)
                      | (go_at_call 37; (with_reducible refine (within_r_is (v := p.over) HV.out _).mono ?_); rintro e w' ⟨rfl, rfl⟩)
                      | ((with_reducible refine gate_dst (N := 83) rfl ?_); refine load_want rfl 27 (.tmp 1) rfl g1 rfl 27 _ (0, 0) _ HBx.out Try.underlying27 rfl info_prod ?_)
                      | (go_at_call 40; refine (rtiers_1 p A1 c1 A2 c2 A3 c3 _ (HP.out.below (below_step BL1.out BLx.out)).r2 HS.out.2.2.1 _ rfl _ HTI.out).mono ?_; rintro e w' ⟨rfl, hb⟩; have BLx := Aside0.mk (below_step BLx.out hb); have HBx := Aside0.mk (blk_below HBx.out hb); clear hb; obtain ⟨-, -, -, -, -, -, -, q7, q8, q9, q10, q11, q12, q13, q14, q15, -⟩ := pc_cells HBx.out))
                    go_meet
                    case rel => exact ⟨rfl, ⟨by first | exact BLx.out | exact BLx.out.alloc BLx.out.size _⟩⟩
      case rest =>
        obtain ⟨rfl, BLy⟩ := hcut
        clear HBx BLx
        have BLx := BLy
        clear BLy
        have HBx := Aside0.mk (blk_below HB1.out BLx.out)
        go_upto_region 4 with fail
        go_cut [3] (fun s3 wx => s3 = .bool b4 ∧ Aside0 (Below w1.heap.size w1 wx))
        case first =>
          obtain ⟨-, -, -, -, -, -, -, -, -, -, -, -, -, -, -, -, -, q17, q18⟩ := pc_cells HBx.out
          have g1l := blk_lt HBx.out
          cases b3 with
          | false =>
            obtain rfl : b4 = false := by rw [K4.out]; rfl
            go_wp2_with fail
            go_meet
            case rel => exact ⟨rfl, ⟨by first | exact BLx.out | exact BLx.out.alloc BLx.out.size _⟩⟩
          | true =>
            cases ha : decide (1 ≤ p.roll ∧ p.roll ≤ 4) with
            | false =>
              obtain rfl : b4 = false := by rw [K4.out, ha]; simp
              have HA := Aside0.mk ha
              clear ha
              go_wp2_with (first
                | (go_at_call 37; (with_reducible refine (within_r_is (v := p.roll) HA.out _).mono ?_); rintro e w' ⟨rfl, rfl⟩))
              go_meet
              case rel => exact ⟨rfl, ⟨by first | exact BLx.out | exact BLx.out.alloc BLx.out.size _⟩⟩
            | true =>
              have HA := Aside0.mk ha
              cases hri : (Nw.rises (-25568) p.hol && decide (p.hol.length ≤ 200)) with
              | false =>
                obtain rfl : b4 = false := by rw [K4.out, hri]; simp
                have HRI := Aside0.mk hri
                clear ha hri
                go_wp2_with (first
                  | (go_at_call 37; (with_reducible refine (within_r_is (v := p.roll) HA.out _).mono ?_); rintro e w' ⟨rfl, rfl⟩)
                  | (go_at_call 41; refine (rright_1 A3 c3 p.hol _ (HP.out.below (below_step BL1.out BLx.out)).r3 HS.out.2.2.2 _ rfl).mono ?_; rw [HRI.out]; rintro e w' ⟨rfl, hd⟩; have hb := hd.below; clear hd; have BLx := Aside0.mk (below_step BLx.out hb); have HBx := Aside0.mk (blk_below HBx.out hb); clear hb; obtain ⟨-, -, -, -, -, -, -, -, -, -, -, -, -, -, -, -, -, q17, q18⟩ := pc_cells HBx.out))
                go_meet
                case rel => exact ⟨rfl, ⟨by first | exact BLx.out | exact BLx.out.alloc BLx.out.size _⟩⟩
              | true =>
                have HRI := Aside0.mk hri
                by_cases h1 : p.roll = 1
                · have r1 : (p.roll != 1) = false := by rw [h1]; rfl
                  obtain ⟨r, hz⟩ : ∃ r, ((p.hol.length : Int) == 0) = r := ⟨_, rfl⟩
                  obtain rfl : b4 = r := by
                    rw [K4.out, ha, hri, ← hz]
                    by_cases h0 : p.hol.length = 0
                    · rw [decide_eq_true (fun _ => List.eq_nil_of_length_eq_zero h0), beqt (by omega)]; rfl
                    · rw [decide_eq_false (fun h => h0 (by rw [h h1]; rfl)), beqf (by omega)]; rfl
                  clear ha hri h1
                  go_wp2_with (first
                    | (go_at_call 37; (with_reducible refine (within_r_is (v := p.roll) HA.out _).mono ?_); rintro e w' ⟨rfl, rfl⟩)
                    | (go_at_call 41; refine (rright_1 A3 c3 p.hol _ (HP.out.below (below_step BL1.out BLx.out)).r3 HS.out.2.2.2 _ rfl).mono ?_; rw [HRI.out]; rintro e w' ⟨rfl, hd⟩; have hb := hd.below; clear hd; have BLx := Aside0.mk (below_step BLx.out hb); have HBx := Aside0.mk (blk_below HBx.out hb); clear hb; obtain ⟨-, -, -, -, -, -, -, -, -, -, -, -, -, -, -, -, -, q17, q18⟩ := pc_cells HBx.out))
                  go_meet
                  case rel => exact ⟨rfl, ⟨by first | exact BLx.out | exact BLx.out.alloc BLx.out.size _⟩⟩
                · have r1 : (p.roll != 1) = true := by simpa using h1
                  obtain rfl : b4 = true := by rw [K4.out, ha, hri, decide_eq_true (fun h => absurd h h1)]; rfl
                  clear ha hri h1
                  go_wp2_with (first
                    | (go_at_call 37; (with_reducible refine (within_r_is (v := p.roll) HA.out _).mono ?_); rintro e w' ⟨rfl, rfl⟩)
                    | (go_at_call 41; refine (rright_1 A3 c3 p.hol _ (HP.out.below (below_step BL1.out BLx.out)).r3 HS.out.2.2.2 _ rfl).mono ?_; rw [HRI.out]; rintro e w' ⟨rfl, hd⟩; have hb := hd.below; clear hd; have BLx := Aside0.mk (below_step BLx.out hb); have HBx := Aside0.mk (blk_below HBx.out hb); clear hb; obtain ⟨-, -, -, -, -, -, -, -, -, -, -, -, -, -, -, -, -, q17, q18⟩ := pc_cells HBx.out))
                  go_meet
                  case rel => exact ⟨rfl, ⟨by first | exact BLx.out | exact BLx.out.alloc BLx.out.size _⟩⟩
        case rest =>
          obtain ⟨rfl, BLy⟩ := hcut
          clear HBx BLx
          have BLx := BLy
          clear BLy
          have HBx := Aside0.mk (blk_below HB1.out BLx.out)
          cases b4 with
          | false =>
            go_wp2_with fail
            go_ret
            exact ⟨rfl, below_step BL1.out BLx.out⟩
          | true =>
            go_wp2_with fail
            go_ret
            exact ⟨rfl, below_step BL1.out BLx.out⟩

end Go.Proofs.Ytcbebbiedegjlaa.Pd
