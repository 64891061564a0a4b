/- Texts of this claim, joined in build order. -/
import Derived.RowKit
import Derived.Below
import Derived.Deep.Draws
import Derived.Deep.AppendLies
import Derived.Maps.AppendAt
import Derived.OwnWalk
import Derived.Laws.BytesArg
import Derived.Laws.MakeOwn
import Derived.Laws.OwnMore
import Derived.Tactics
import Derived.Lib.ConvBytes
import Derived.Laws.Slices
import Derived.WalkKit
import Derived.KernelRfl
import Derived.RowKit3
import Derived.Deep.LoopGhost
import Derived.Deep.QuietTactic
import Derived.BigQuiet
import Derived.WideLaws
import Derived.Deep.DeepCutAuto
import Derived.Deep.CutBlock
import Derived.Deep.RegionHeld3
import Derived.Lib.AppendStr
import Derived.ArgAppend
import Derived.Laws.IdiomCopy
import Derived.OrdersHeld
import Derived.Laws.BitsLemmas
import Derived.Test.YtcfpkkgdofblfaaProg
import Derived.WalkLawsBesides
import Derived.WalkSpells
import Derived.Lib.IndexMore
import Derived.Deep.Slices
import Derived.Deep.Fields
import Derived.ChangeSame
import Derived.Lib.SmallJoins
import Derived.ProofKit
import Derived.Defers
import Derived.Laws.Tables
import Derived.Deep.WholeRow
import Derived.Recover
import Derived.StillTailTactics
import Derived.Shelf.Small.Bits
import Derived.Shelf.Strconv.Itoa0
import Derived.Shelf.Strings.Search1
import Derived.Shelf.Strings.Search2
import Derived.Shelf.Strings.Search3
import Derived.Shelf.LaysM
import Derived.Shelf.Strings.Shaped
import Derived.Shelf.Bits.Mul64
import Derived.Lib.SlBytesConst
import Derived.Deep.RegionWith
import Derived.IntWalk
import Derived.Lib.Hide
import Derived.BigFrame
import Derived.Laws.StructEq
import Derived.Lib.BitFns
import Derived.Laws.BitsAllLaws
import Derived.Laws.Externs
import Derived.RegionTactic
import Derived.Deep.MidRow
import Derived.OpenShut
import Derived.ShutString
import Derived.ChangeOld
import Derived.Laws.IdiomArrays
import Derived.SizedLaws
import Derived.HandedShaped
import Derived.Shelf.Vars
import Derived.ChangeSlices
import Derived.Test.YtcfpkkgdofblfaaJX1
import Derived.Test.YtcfpkkgdofblfaaJX2
import Derived.Test.YtcfpkkgdofblfaaJX3
import Derived.Test.YtcfpkkgdofblfaaJX4
import Derived.Test.YtcfpkkgdofblfaaJX5
import Derived.Test.YtcfpkkgdofblfaaJX6
set_option linter.unusedVariables false
set_option linter.unusedSimpArgs false
/- dues.Parts, where there are days: how many parts of a year lie between. -/
namespace Go.Proofs.Ytcfpkkgdofblfaa.Du
open Go.RowKit Go.Proofs.YtcfpkkgdofblfaaW.PrintWords Go.Proofs.YtcfpkkgdofblfaaW.PrintLast Go.Proofs.YtcfpkkgdofblfaaW.PrintMore Go.Proofs.Ytcfpkkgdofblfaa.HW
open Go.Proofs.Ytcfpkkgdofblfaa.Math Go.Proofs.Ytcfpkkgdofblfaa.H Go.Proofs.Ytcfpkkgdofblfaa.Pd Pm
set_option linter.unusedVariables false
set_option linter.unusedSimpArgs false
def RowL (w : World) (B : Nat) (v : Value) (l : List Int) : Prop :=
 (v = .slice none 0 0 ∧ l = []) ∨ ∃ g c t, v = .slice (some ⟨g, 0, none⟩) l.length c ∧ B ≤ g ∧ l.length ≤ c ∧ H.Blk w g 2 (nums .i64 l ++ t)
theorem rowL_of_R {w : World} {B : Nat} {ok : Nat → Prop} {v : Value} {l : List Int} (h : Kd.R (Kd.int .i64) 2 w B ok v l) : RowL w B v l := by
 obtain ⟨-, inner, ho, hr⟩ := h
 obtain rfl := reps_nums .i64 l inner hr
 have ho2 := ho.2
 rcases ho2 with ⟨hv, hn⟩ | ⟨g, cap, cur, hv, hg, hh, r⟩
 ·refine Or.inl ⟨hv, ?_⟩
  cases l with
  | nil => rfl
  | cons a r => simp at hn
 ·subst hv
  obtain ⟨t, -, hb, hc⟩ := H.Blk.ofOwn ho
  exact Or.inr ⟨g, cap, t, rfl, hg, hc, hb⟩
theorem RL_slice {W : World} {B : Nat} {ok : Nat → Prop} {v : Value} {l : List Int} (h : Kd.R (Kd.int .i64) 2 W B ok v l) (hl : l ≠ []) : ∃ g c, v = .slice (some ⟨g, 0, none⟩) l.length c := by
 rcases rowL_of_R h with ⟨-, e⟩ | ⟨g, c, t, e, -⟩
 ·exact absurd e hl
 ·exact ⟨g, c, e⟩
theorem info_l : (Try.prog.info? 2).map (fun i => (i.zero, i.size, i.bytes)) = some (some (.int .i64 0), 1, 8) := by kernel_rfl
def partsAll (c : Int) : Int → List Int → List Int × Int
 | _, [] => ([], 0)
 | s, d :: r => if (between c s d).2 = 0 then after [(between c s d).1] (partsAll c d r) else ([], (between c s d).2)
theorem partsAll_err (c s : Int) (l : List Int) : (partsAll c s l).2 ≠ 0 → (partsAll c s l).1 = [] := by
 cases l with
 | nil => intro h; exact absurd rfl h
 | cons d r =>
  rw [partsAll]
  split
  ·unfold after
   split
   ·intro h; exact absurd rfl h
   ·intro; rfl
  ·intro; rfl
def ListedL (r : List Int × Int) (w : World) (e : Ending) (w' : World) : Prop := ∃ v, e = .returned (.tuple #[v, .int .i64 r.2]) ∧ RowL w' w.heap.size v r.1 ∧ Below w.heap.size w w'
theorem between_any (c a b v e : Int) (h : between c a b = (v, e)) (w : World) : Calls Try.prog 38 #[.int .i64 c, .int .i64 a, .int .i64 b] w fun en w' => en = .returned (.tuple #[.int .i64 v, .int .i64 e]) ∧ Below w.heap.size w w' :=
 fraction_Between.calls c a b v e w (by unfold fraction_Between.f; rw [h])
set_option maxRecDepth 100000 in
set_option maxHeartbeats 8000000 in
theorem parts_main (p : Prod) (A1 : Option Addr) (c1 : Nat) (A2 : Option Addr) (c2 : Nat) (A3 : Option Addr) (c3 : Nat) (start : Int) (w : World) (hg : GV w) (hp : ProdAt w p A1 c1 A2 c2 A3 c3) (hs : Small p) (l : List Int) (hl0 : l ≠ []) (hln : l.length ≤ 600) (hd : daysP p start = (l, 0)) :
  Calls Try.prog 16 #[pv p A1 c1 A2 c2 A3 c3, .int .i64 start] w (ListedL (partsAll p.count start l) w) := by
 generalize hR : partsAll p.count start l = R
 have RR := Aside0.mk hR
 clear hR
 have HG := Aside0.mk hg
 have HP := Aside0.mk hp
 have DA := Aside0.mk (fun w1 (hb : Below w.heap.size w w1) => show Calls Try.prog 14 #[pv p A1 c1 A2 c2 A3 c3, .int .i64 start] w1 (Listed1 l w1) from (days_any p A1 c1 A2 c2 A3 c3 start w1 (HG.out.below hb) (HP.out.below hb) hs).mono fun e w' h => by rw [hd] at h; exact h.one hl0)
 have hlp : 0 < l.length := by cases l with | nil => exact absurd rfl hl0 | cons a r => simp
 clear hg hp hd hs hl0
 go_enter Try.func16, Try.ntmps16
 go_wp2_with ((with_reducible refine gate_dst (N := 2) rfl ?_); refine box_event ?hg (N := 2) ?hd (cs := pcs p A1 c1 A2 c2 A3 c3) (t := 27) ?hr ?_; (case hd => rfl); (case hg => rfl); (case hr => first | (go_simp; done) | (go_simp; rfl)); intro g2 hg v0 hb1 hbl1; clear hg; have G2 := Aside0.mk hb1; have HB := Aside0.mk hbl1; clear hb1 hbl1; refine Hid.out ?_)
 refine Lib.hid ?_
 have g2lt0 := blk_lt G2.out
 go_wp2_with (first
  | ((with_reducible refine gate_dst (N := 14) rfl ?_); refine wpList_load_row rfl 27 (.tmp 2) rfl g2 rfl 27 _ (0, 0) _ G2.out Try.underlying27 rfl info_prod ?_)
  | (go_at_call 14; (with_reducible refine (DA.out _ HB.out).mono ?_); rintro e w3 ⟨g, c, t, rfl, hge, hc, hbk, hb⟩; have gne := (show g2 ≠ g by omega); have BK := Aside0.mk hbk; have gsz := Blk.lt hbk; have hgw := Nat.le_trans HB.out.size hge; have HB := Aside0.mk (below_step HB.out hb); have G2 := Aside0.mk (Pd.blk_below G2.out hb); clear hb hbk))
 go_loopg [1, 8, 24] (l.length + 1) (fun gq sv ov iv w' => ∃ (k : Nat) (s : Int) (A : Option Addr) (cw : Nat) (ls : List Int), k ≤ l.length ∧ iv = .int .i64 (k : Int) ∧ sv = .int .i64 s ∧ ov = .slice A ls.length cw ∧ Aside0 (ls.length = k) ∧ Aside0 (gq = l.length + 1 - k) ∧ Aside0 (R = after ls (partsAll p.count s (l.drop k))) ∧ Aside0 (Kd.R (Kd.int .i64) 2 w' w.heap.size (fun b => b ≠ g ∧ b ≠ g2) (.slice A ls.length cw) ls) ∧ Aside0 (H.Blk w' g 3 (nums .i64 l ++ t)) ∧ Aside0 (w'.heap[g2]? = some (.cells (pcs p A1 c1 A2 c2 A3 c3) 27 (0, 0))) ∧ Aside0 (Below w.heap.size w w'))
 case atStart => exact ⟨0, start, none, 0, [], by omega, rfl, rfl, rfl, ⟨rfl⟩, ⟨rfl⟩, ⟨RR.out.symm.trans (after_nil (partsAll_err _ _ _)).symm⟩, ⟨Kd.R_nil _ _ _ _ _⟩, BK, G2, HB⟩
 case round =>
  obtain ⟨k, s, A, cw, ls, kn, rfl, rfl, rfl, hlen, hgq, hra, hr, hbk, G2, hbel⟩ := hrel
  have gszr := Blk.lt hbk.out
  have g2lt := blk_lt G2.out
  have gsz0 := hbel.out.size
  by_cases hlt : k < l.length
  ·have hdr : l.drop k = l[k] :: l.drop (k + 1) := List.drop_eq_getElem_cons hlt
   rw [hdr] at hra
   have hcl := (hbk.out.cell k).trans (show (nums .i64 l ++ t)[k]? = some (.int .i64 l[k]) by rw [List.getElem?_append_left (by simp [nums]; omega)]; simp [nums] <;> omega)
   have hsz : (k : Int) < (l.length : Int) := by omega
   obtain ⟨-, q1, -, -, -, -, -, -, -, -, -, -, -, -, -, -, -, -, -⟩ := pc_cells G2.out
   obtain ⟨v, e1, hx⟩ : ∃ v e1, between p.count s l[k] = (v, e1) := ⟨_, _, rfl⟩
   have BT := Aside0.mk (fun w => between_any _ _ _ _ _ hx w)
   by_cases he1 : e1 = 0
   ·subst he1
    have hra2 := Aside0.mk (show R = after (ls ++ [v]) (partsAll p.count l[k] (l.drop (k + 1))) by
     have e := hra.out
     rw [partsAll, hx, if_pos rfl] at e
     rw [e, after_after])
    clear hra hx hdr
    go_wp2_with (first
     | (go_at_call 38; (with_reducible refine (BT.out _).mono ?_); rintro e w9 ⟨rfl, hb⟩; have HO := Aside0.mk (Kd.R_below hr.out hb); have BK9 := Aside0.mk (hbk.out.below hb); have G9 := Aside0.mk (Pd.blk_below G2.out hb); have HB9 := Aside0.mk (below_step hbel.out hb); have gs9 := Blk.lt BK9.out; have g29 := blk_lt G9.out; have gw9 := HB9.out.size; clear hb)
     | ((with_reducible refine gate_builtin (b := .append) (xs := #[.tmp 39, .tmp 41]) rfl ?_); at_builtin; refine Kd.R_append (Kd.int .i64) (w0 := w) w.heap.size rfl (.tmp 39) (.tmp 41) 35 2 (.int .i64 0) 8 rfl Try.underlying35 info_l rfl (by decide) (by omega) (.slice A ls.length cw) ls v [.int .i64 v] (fun b => b ≠ g ∧ b ≠ g2) (fun _ => False) rfl rfl ?aP (fun _ hk => hk.elim) ?aF ?aO ?aB ?aS ?aL ?_; (case aP => exact rfl); (case aF => exact fun b hb => ⟨by omega, by omega⟩); (case aO => exact HO.out); (case aB => exact HB9.out); (case aS => exact gw9); (case aL => have := hlen.out; omega); intro v1 w11 hr1 hb1 hg1 hat1; obtain ⟨l2, hl2⟩ : ∃ l2, l2 = ls ++ [v] := ⟨_, rfl⟩; rw [← hl2] at hr1; obtain ⟨gn, cn, rfl⟩ := RL_slice hr1 (by rw [hl2]; simp); have L2 := Aside0.mk hl2; clear hl2; have R1 := Aside0.mk hr1; have HB1 := Aside0.mk hb1; have HK := Aside0.mk ((hg1.block g gs9 (fun e => (HO.out.1 g e.symm).1 rfl)).trans BK9.out); have HK2 := Aside0.mk ((hg1.block g2 g29 (fun e => (HO.out.1 g2 e.symm).2 rfl)).trans G9.out); clear hr1 hb1 hg1 hat1))
    have hlen2 : l2.length = k + 1 := by rw [L2.out, List.length_append, hlen.out]; rfl
    have L3 := Aside0.mk hlen2
    clear hlen2
    go_roundg (l.length + 1 - (k + 1))
    case measure => have := hgq.out; omega
    case rel => exact ⟨k + 1, l[k], some ⟨gn, 0, none⟩, cn, l2, by omega, by simp, rfl, rfl, L3, ⟨rfl⟩, ⟨by rw [hra2.out, L2.out]⟩, R1, HK, HK2, HB1⟩
   ·have he : (e1 != 0) = true := by simpa using he1
    have fin := Aside0.mk (show R = ([], e1) by
     have e := hra.out
     rw [partsAll, hx, if_neg he1, after_err ls he1] at e
     exact e)
    clear hra hx hdr he1
    go_wp2_with (go_at_call 38; (with_reducible refine (BT.out _).mono ?_); rintro e w9 ⟨rfl, hb⟩; have HB9 := Aside0.mk (below_step hbel.out hb); clear hb)
    go_ret2
    rw [fin.out]
    exact ⟨_, rfl, Or.inl ⟨rfl, rfl⟩, HB9.out⟩
  ·obtain rfl : k = l.length := by omega
   have fin := Aside0.mk (show R = (ls, 0) by
    have e := hra.out
    rw [List.drop_length, partsAll, after, if_pos rfl, List.append_nil] at e
    exact e)
   clear hra
   go_wp2_with fail
   go_ret2
   rw [fin.out]
   exact ⟨_, rfl, rowL_of_R hr.out, hbel.out⟩
end Go.Proofs.Ytcfpkkgdofblfaa.Du
/- quittanceref11.Days: the document's days. -/
namespace Go.Proofs.Ytcfpkkgdofblfaa.Du
open Go.RowKit Go.Proofs.YtcfpkkgdofblfaaW.PrintWords Go.Proofs.YtcfpkkgdofblfaaW.PrintLast Go.Proofs.YtcfpkkgdofblfaaW.PrintMore Go.Proofs.Ytcfpkkgdofblfaa.HW
open Go.Proofs.Ytcfpkkgdofblfaa.Math Go.Proofs.Ytcfpkkgdofblfaa.H Go.Proofs.Ytcfpkkgdofblfaa.Pd Pm
set_option linter.unusedVariables false
set_option linter.unusedSimpArgs false
theorem RI_slice {W : World} {B : Nat} {ok : Nat → Prop} {v : Value} {l : List Int} (h : Kd.R (Kd.int .i64) 3 W B ok v l) (hl : l ≠ []) : ∃ g c, v = .slice (some ⟨g, 0, none⟩) l.length c := by
 rcases row_of_R h with ⟨-, e⟩ | ⟨g, c, t, e, -⟩
 ·exact absurd e hl
 ·exact ⟨g, c, e⟩
theorem rdates_any (n e t : Int) (w : World) : Calls Try.prog 36 #[.int .i64 n, .int .i64 e, .int .i64 t] w (Listed (datesP n e t) w) := by
 refine (PDA.quittanceref04_Dates.calls (t.toNat + 2) n e t _ _ w civ_dates.2.2).mono ?_
 rintro e w' ⟨v, he, hr, hb⟩
 exact ⟨v, he, row_of_R hr, hb⟩
theorem rroll_any (A3 : Option Addr) (c3 : Nat) (l : List Int) (day how r1 r2 : Int) (w : World) (hr : Kd.C (Kd.int .i64) w A3 l.length l) (hc : l.length ≤ c3) (hm : l.length ≤ 1000000) (h : rollS l day how = (r1, r2)) :
  Calls Try.prog 37 #[.slice A3 l.length c3, .int .i64 day, .int .i64 how] w fun e w' => e = .returned (.tuple #[.int .i64 r1, .int .i64 r2]) ∧ Below w.heap.size w w' :=
 PBU.quittanceref05_Roll.calls 200010 A3 c3 l day how r1 r2 w hr hc ((rRoll l (by omega) day how).trans (by rw [h]))
set_option maxRecDepth 100000 in
set_option maxHeartbeats 2000000 in
theorem rdays_refused (p : Prod) (A1 : Option Addr) (c1 : Nat) (A2 : Option Addr) (c2 : Nat) (A3 : Option Addr) (c3 : Nat) (start : Int) (w : World) (hp : ProdAt w p A1 c1 A2 c2 A3 c3) (hs : Held p) (ho : ok p = false) :
  Calls Try.prog 15 #[pv p A1 c1 A2 c2 A3 c3, .int .i64 start] w (Listed (daysP p start) w) := by
 have er : err p = 9 := by unfold err; rw [ho]; rfl
 have ed : daysP p start = ([], 9) := by unfold daysP; rw [ho]; rfl
 rw [ed]
 have HP := Aside0.mk hp
 have CK := Aside0.mk (fun w1 (hb : Below w.heap.size w w1) => rcheck_any p A1 c1 A2 c2 A3 c3 w1 (HP.out.below hb) hs)
 rw [er] at CK
 clear hp ed er ho hs
 go_enter Try.func15, Try.ntmps15
 go_wp2_with ((with_reducible refine gate_dst (N := 2) rfl ?_); refine box_event ?hg (N := 2) ?hd (cs := pcs p A1 c1 A2 c2 A3 c3) (t := 27) ?hr ?_; (case hd => rfl); (case hg => rfl); (case hr => first | (go_simp; done) | (go_simp; rfl)); intro g2 hg v0 hb1 hbl1; clear hg; have G2 := Aside0.mk hb1; have HB := Aside0.mk hbl1; clear hb1 hbl1; refine Hid.out ?_)
 refine Lib.hid ?_
 go_wp2_with (first
  | ((with_reducible refine gate_dst (N := 14) rfl ?_); refine wpList_load_row rfl 27 (.tmp 2) rfl g2 rfl 27 _ (0, 0) _ G2.out Try.underlying27 rfl info_prod ?_)
  | (go_at_call 30; (with_reducible refine (CK.out _ HB.out).mono ?_); rintro e w2 ⟨rfl, hb⟩; have HB := Aside0.mk (below_step HB.out hb); have G2 := Aside0.mk (Pd.blk_below G2.out hb); clear hb; obtain ⟨-, -, -, -, q4, q5, -, -, -, -, -, -, -, -, -, -, -, q17, q18⟩ := pc_cells G2.out))
 go_ret2
 exact ⟨_, rfl, Or.inl ⟨rfl, rfl⟩, HB.out⟩
set_option maxRecDepth 100000 in
set_option maxHeartbeats 2000000 in
theorem rdays_none (p : Prod) (A1 : Option Addr) (c1 : Nat) (A2 : Option Addr) (c2 : Nat) (A3 : Option Addr) (c3 : Nat) (start : Int) (w : World) (hp : ProdAt w p A1 c1 A2 c2 A3 c3) (hs : Held p) (ho : ok p = true) (hd : (datesP start p.every p.times).2 ≠ 0) :
  Calls Try.prog 15 #[pv p A1 c1 A2 c2 A3 c3, .int .i64 start] w (Listed (daysP p start) w) := by
 have er : err p = 0 := by unfold err; rw [ho]; rfl
 have ed : daysP p start = ([], (datesP start p.every p.times).2) := by unfold daysP; rw [if_pos ho, if_neg hd]
 rw [ed]
 have HP := Aside0.mk hp
 have CK := Aside0.mk (fun w1 (hb : Below w.heap.size w w1) => rcheck_any p A1 c1 A2 c2 A3 c3 w1 (HP.out.below hb) hs)
 rw [er] at CK
 have dt := fun w => rdates_any start p.every p.times w
 generalize datesP start p.every p.times = D at dt hd ⊢
 obtain ⟨l, e0⟩ := D
 have DT := Aside0.mk dt
 have he : (e0 != 0) = true := by simpa using hd
 clear hp ed er ho hs dt hd
 go_enter Try.func15, Try.ntmps15
 go_wp2_with ((with_reducible refine gate_dst (N := 2) rfl ?_); refine box_event ?hg (N := 2) ?hd (cs := pcs p A1 c1 A2 c2 A3 c3) (t := 27) ?hr ?_; (case hd => rfl); (case hg => rfl); (case hr => first | (go_simp; done) | (go_simp; rfl)); intro g2 hg v0 hb1 hbl1; clear hg; have G2 := Aside0.mk hb1; have HB := Aside0.mk hbl1; clear hb1 hbl1; refine Hid.out ?_)
 refine Lib.hid ?_
 go_wp2_with (first
  | ((with_reducible refine gate_dst (N := 14) rfl ?_); refine wpList_load_row rfl 27 (.tmp 2) rfl g2 rfl 27 _ (0, 0) _ G2.out Try.underlying27 rfl info_prod ?_)
  | (go_at_call 30; (with_reducible refine (CK.out _ HB.out).mono ?_); rintro e w2 ⟨rfl, hb⟩; have HB := Aside0.mk (below_step HB.out hb); have G2 := Aside0.mk (Pd.blk_below G2.out hb); clear hb; obtain ⟨-, -, -, -, q4, q5, -, -, -, -, -, -, -, -, -, -, -, q17, q18⟩ := pc_cells G2.out)
  | (go_at_call 36; (with_reducible refine (DT.out _).mono ?_); rintro e w3 ⟨v, rfl, hr, hb⟩; have RW := Aside0.mk hr; have HB := Aside0.mk (below_step HB.out hb); have G2 := Aside0.mk (Pd.blk_below G2.out hb); clear hr hb; obtain ⟨-, -, -, -, q4, q5, -, -, -, -, -, -, -, -, -, -, -, q17, q18⟩ := pc_cells G2.out))
 go_ret2
 exact ⟨_, rfl, Or.inl ⟨rfl, rfl⟩, HB.out⟩
set_option maxRecDepth 100000 in
set_option maxHeartbeats 8000000 in
theorem rdays_main (p : Prod) (A1 : Option Addr) (c1 : Nat) (A2 : Option Addr) (c2 : Nat) (A3 : Option Addr) (c3 : Nat) (start : Int) (w : World) (hp : ProdAt w p A1 c1 A2 c2 A3 c3) (hs : Held p) (hh : p.hol.length ≤ 1000000) (ho : ok p = true) (l : List Int) (hd : datesP start p.every p.times = (l, 0)) :
  Calls Try.prog 15 #[pv p A1 c1 A2 c2 A3 c3, .int .i64 start] w (Listed (risen start (rollAll p.hol p.roll l)) w) := by
 generalize hR : risen start (rollAll p.hol p.roll l) = R
 have RR := Aside0.mk hR
 clear hR
 have er : err p = 0 := by unfold err; rw [ho]; rfl
 have hfull := datesP_full (n := start) (e := p.every) (t := p.times) (by rw [hd])
 rw [hd] at hfull
 have hne : l ≠ [] := fun e => by rw [e] at hfull; have := hfull.1; simp at this; omega
 have hln : l.length ≤ 600 := by have := hfull.1; simp only [] at this; omega
 have HP := Aside0.mk hp
 have HH := Aside0.mk hh
 have CK := Aside0.mk (fun w1 (hb : Below w.heap.size w w1) => rcheck_any p A1 c1 A2 c2 A3 c3 w1 (HP.out.below hb) hs)
 rw [er] at CK
 have DT := Aside0.mk (fun w => show Calls Try.prog 36 #[.int .i64 start, .int .i64 p.every, .int .i64 p.times] w (Listed1 l w) from (rdates_any start p.every p.times w).mono fun e w' h => by rw [hd] at h; exact h.one hne)
 have hlp : 0 < l.length := by cases l with | nil => exact absurd rfl hne | cons a r => simp
 clear hp er ho hs hd hfull hne hh
 go_enter Try.func15, Try.ntmps15
 go_wp2_with ((with_reducible refine gate_dst (N := 2) rfl ?_); refine box_event ?hg (N := 2) ?hd (cs := pcs p A1 c1 A2 c2 A3 c3) (t := 27) ?hr ?_; (case hd => rfl); (case hg => rfl); (case hr => first | (go_simp; done) | (go_simp; rfl)); intro g2 hg v0 hb1 hbl1; clear hg; have G2 := Aside0.mk hb1; have HB := Aside0.mk hbl1; clear hb1 hbl1; refine Hid.out ?_)
 refine Lib.hid ?_
 go_wp2_with (first
  | ((with_reducible refine gate_dst (N := 14) rfl ?_); refine wpList_load_row rfl 27 (.tmp 2) rfl g2 rfl 27 _ (0, 0) _ G2.out Try.underlying27 rfl info_prod ?_)
  | (go_at_call 30; (with_reducible refine (CK.out _ HB.out).mono ?_); rintro e w2 ⟨rfl, hb⟩; have HB := Aside0.mk (below_step HB.out hb); have G2 := Aside0.mk (Pd.blk_below G2.out hb); clear hb; obtain ⟨-, -, -, -, q4, q5, -, -, -, -, -, -, -, -, -, -, -, q17, q18⟩ := pc_cells G2.out)
  | (go_at_call 36; (with_reducible refine (DT.out _).mono ?_); rintro e w3 ⟨g, c, t, rfl, hge, hc, hbk, hb⟩; have gne := (show g2 ≠ g by have := blk_lt G2.out; omega); have hgw := Nat.le_trans HB.out.size hge; have BK := Aside0.mk hbk; have HB := Aside0.mk (below_step HB.out hb); have G2 := Aside0.mk (Pd.blk_below G2.out hb); clear hb hbk; obtain ⟨-, -, -, -, q4, q5, -, -, -, -, -, -, -, -, -, -, -, q17, q18⟩ := pc_cells G2.out))
 go_loopg [8, 9] (l.length + 1) (fun gq ov iv w' => ∃ (k : Nat) (A : Option Addr) (cw : Nat) (ls : List Int), k ≤ l.length ∧ iv = .int .i64 (k : Int) ∧ ov = .slice A ls.length cw ∧ Aside0 (ls.length = k) ∧ Aside0 (gq = l.length + 1 - k) ∧ Aside0 (rollAll p.hol p.roll l = after ls (rollAll p.hol p.roll (l.drop k))) ∧ Aside0 (Kd.R (Kd.int .i64) 3 w' w.heap.size (fun b => b ≠ g ∧ b ≠ g2) (.slice A ls.length cw) ls) ∧ Aside0 (H.Blk w' g 3 (nums .i64 l ++ t)) ∧ Aside0 (w'.heap[g2]? = some (.cells (pcs p A1 c1 A2 c2 A3 c3) 27 (0, 0))) ∧ Aside0 (Below w.heap.size w w'))
 case atStart => exact ⟨0, none, 0, [], by omega, rfl, rfl, ⟨rfl⟩, ⟨rfl⟩, ⟨(after_nil (rollAll_err _ _ _)).symm⟩, ⟨Kd.R_nil _ _ _ _ _⟩, BK, G2, HB⟩
 case round =>
  obtain ⟨k, A, cw, ls, kn, rfl, rfl, hlen, hgq, hra, hr, hbk, G2, hbel⟩ := hrel
  have gszr := Blk.lt hbk.out
  have g2lt := blk_lt G2.out
  have gsz0 := hbel.out.size
  by_cases hlt : k < l.length
  ·have hdr : l.drop k = l[k] :: l.drop (k + 1) := List.drop_eq_getElem_cons hlt
   rw [hdr] at hra
   have HAT := Aside0.mk (show (nums .i64 l ++ t)[k]? = some (.int .i64 l[k]) by rw [List.getElem?_append_left (by simp [nums]; omega)]; simp [nums] <;> omega)
   have hcl := (hbk.out.cell k).trans HAT.out
   have hsz : (k : Int) < (l.length : Int) := by omega
   obtain ⟨v, e1, hx⟩ : ∃ v e1, rollS p.hol l[k] p.roll = (v, e1) := ⟨_, _, rfl⟩
   have RO := Aside0.mk (fun W (hb : Below w.heap.size w W) => rroll_any A3 c3 p.hol _ _ _ _ W (HP.out.below hb).r3 HP.out.l3 HH.out hx)
   by_cases he1 : e1 = 0
   ·subst he1
    have hra2 := Aside0.mk (show rollAll p.hol p.roll l = after (ls ++ [v]) (rollAll p.hol p.roll (l.drop (k + 1))) by
     have e := hra.out
     rw [rollAll, hx, if_pos rfl] at e
     rw [e, after_after])
    clear hra hx hdr
    have U := Aside0.mk (Below.refl wr.heap.size wr)
    obtain ⟨-, -, -, -, -, -, -, -, -, -, -, -, -, -, -, -, -, q17, q18⟩ := pc_cells G2.out
    go_wp2_with fail
    go_region_held3 (fun W => W.cell? ⟨g2, 17, none⟩ = some (.int .i64 p.roll) ∧ W.cell? ⟨g2, 18, none⟩ = some (.slice A3 p.hol.length c3) ∧ W.cell? ⟨g, k, none⟩ = some (.int .i64 l[k])) (first | exact ⟨q17, q18, hcl⟩ | go_keep) (first
     | (go_at_call 37; (with_reducible refine (RO.out _ (below_step hbel.out (by first | exact pw_below_drewN U.out _ | exact Below.drew U.out | exact U.out))).mono ?_); rintro e w9 ⟨rfl, hb⟩; have U := Aside0.mk (below_step (by first | exact pw_below_drewN U.out _ | exact Below.drew U.out | exact U.out) hb); obtain ⟨-, -, -, -, -, -, -, -, -, -, -, -, -, -, -, -, -, q17, q18⟩ := pc_cells (Pd.blk_below G2.out U.out); have hcl := ((hbk.out.below U.out).cell k).trans HAT.out; clear hb))
    have HO := Aside0.mk (Kd.R_below hr.out U.out)
    have BK9 := Aside0.mk (hbk.out.below U.out)
    have G9 := Aside0.mk (Pd.blk_below G2.out U.out)
    have HB9 := Aside0.mk (below_step hbel.out U.out)
    have gs9 := Blk.lt BK9.out
    have g29 := blk_lt G9.out
    have gw9 := HB9.out.size
    go_wp2_with ((with_reducible refine gate_builtin (b := .append) (xs := #[.tmp 52, .tmp 54]) rfl ?_); at_builtin; refine Kd.R_append (Kd.int .i64) (w0 := w) w.heap.size rfl (.tmp 52) (.tmp 54) 25 3 (.int .i64 0) 8 rfl Try.underlying25 info_int rfl (by decide) (by omega) (.slice A ls.length cw) ls v [.int .i64 v] (fun b => b ≠ g ∧ b ≠ g2) (fun _ => False) rfl rfl ?aP (fun _ hk => hk.elim) ?aF ?aO ?aB ?aS ?aL ?_; (case aP => exact rfl); (case aF => exact fun b hb => ⟨by omega, by omega⟩); (case aO => exact HO.out); (case aB => exact HB9.out); (case aS => exact gw9); (case aL => have := hlen.out; omega); intro v1 w11 hr1 hb1 hg1 hat1; obtain ⟨l2, hl2⟩ : ∃ l2, l2 = ls ++ [v] := ⟨_, rfl⟩; rw [← hl2] at hr1; obtain ⟨gn, cn, rfl⟩ := RI_slice hr1 (by rw [hl2]; simp); have L2 := Aside0.mk hl2; clear hl2; have R1 := Aside0.mk hr1; have HB1 := Aside0.mk hb1; have HK := Aside0.mk ((hg1.block g gs9 (fun e => (HO.out.1 g e.symm).1 rfl)).trans BK9.out); have HK2 := Aside0.mk ((hg1.block g2 g29 (fun e => (HO.out.1 g2 e.symm).2 rfl)).trans G9.out); clear hr1 hb1 hg1 hat1)
    have hlen2 : l2.length = k + 1 := by rw [L2.out, List.length_append, hlen.out]; rfl
    have L3 := Aside0.mk hlen2
    clear hlen2
    go_roundg (l.length + 1 - (k + 1))
    case measure => have := hgq.out; omega
    case rel => exact ⟨k + 1, some ⟨gn, 0, none⟩, cn, l2, by omega, by simp, rfl, L3, ⟨rfl⟩, ⟨by rw [hra2.out, L2.out]⟩, R1, HK, HK2, HB1⟩
   ·have he : (e1 != 0) = true := by simpa using he1
    have fin := Aside0.mk (show R = ([], e1) by
     have e := hra.out
     rw [rollAll, hx, if_neg he1, after_err ls he1] at e
     rw [← RR.out]
     unfold risen
     rw [e, if_neg he1])
    clear hra hx hdr he1
    have U := Aside0.mk (Below.refl wr.heap.size wr)
    obtain ⟨-, -, -, -, -, -, -, -, -, -, -, -, -, -, -, -, -, q17, q18⟩ := pc_cells G2.out
    go_wp2_with fail
    go_region_held3 (fun W => W.cell? ⟨g2, 17, none⟩ = some (.int .i64 p.roll) ∧ W.cell? ⟨g2, 18, none⟩ = some (.slice A3 p.hol.length c3) ∧ W.cell? ⟨g, k, none⟩ = some (.int .i64 l[k])) (first | exact ⟨q17, q18, hcl⟩ | go_keep) (first
     | (go_at_call 37; (with_reducible refine (RO.out _ (below_step hbel.out (by first | exact pw_below_drewN U.out _ | exact Below.drew U.out | exact U.out))).mono ?_); rintro e w9 ⟨rfl, hb⟩; have U := Aside0.mk (below_step (by first | exact pw_below_drewN U.out _ | exact Below.drew U.out | exact U.out) hb); obtain ⟨-, -, -, -, -, -, -, -, -, -, -, -, -, -, -, -, -, q17, q18⟩ := pc_cells (Pd.blk_below G2.out U.out); have hcl := ((hbk.out.below U.out).cell k).trans HAT.out; clear hb))
    go_wp2_with fail
    go_ret2
    rw [fin.out]
    exact ⟨_, rfl, Or.inl ⟨rfl, rfl⟩, below_step hbel.out (by first | exact pw_below_drewN U.out _ | exact Below.drew U.out | exact U.out)⟩
  ·obtain rfl : k = l.length := by omega
   have hra2 := hra.out
   rw [List.drop_length, rollAll, after, if_pos rfl, List.append_nil] at hra2
   have RR2 := Aside0.mk (show R = (if rise start ls = true then (ls, 0) else ([], 11)) by rw [← RR.out, hra2]; rfl)
   have hl0 : ls ≠ [] := fun e => by have := hlen.out; rw [e] at this; simp at this; omega
   have hln2 : ls.length ≤ 600 := by have := hlen.out; omega
   rcases row_of_R hr.out with ⟨-, e⟩ | ⟨gn, cn, tn, e, hgn, hcn, hkn⟩
   ·exact absurd e hl0
   injection e with e1 e2 e3
   subst e1; subst e3
   have BK2 := Aside0.mk hkn
   clear hra hra2 hr hbk CK DT HP RR hkn hl0 e2 G2
   go_wp2_with fail
   go_loopg [12, 13] (ls.length + 1) (fun gq pvv iv w' => ∃ (k : Nat) (pv : Int), k ≤ ls.length ∧ iv = .int .i64 (k : Int) ∧ pvv = .int .i64 pv ∧ Aside0 (gq = ls.length + 1 - k) ∧ Aside0 (rise start ls = rise pv (ls.drop k)) ∧ Aside0 (H.Blk w' gn 3 (nums .i64 ls ++ tn)) ∧ Aside0 (Below w.heap.size w w'))
   case atStart => exact ⟨0, start, by omega, rfl, rfl, ⟨rfl⟩, ⟨rfl⟩, BK2, hbel⟩
   case round =>
    obtain ⟨k, pv, kn, rfl, rfl, hgq2, hri, hbk, hbel2⟩ := hrel
    by_cases hlt : k < ls.length
    ·have hdr : ls.drop k = ls[k] :: ls.drop (k + 1) := List.drop_eq_getElem_cons (by omega)
     have hcl := (hbk.out.cell k).trans (show (nums .i64 ls ++ tn)[k]? = some (.int .i64 (ls[k]'(by omega))) by rw [List.getElem?_append_left (by simp [nums]; omega)]; simp [nums] <;> omega)
     have hsz : (k : Int) < (ls.length : Int) := by omega
     have hri2 := hri.out
     rw [hdr, rise] at hri2
     generalize hd : ls[k]'(by omega) = d at *
     clear hd hdr
     by_cases hle : d ≤ pv
     ·have fin := Aside0.mk (show R = ([], 11) by rw [RR2.out, hri2, decide_eq_false (by omega)]; rfl)
      have tl : decide (d ≤ pv) = true := decide_eq_true hle
      clear hri hri2 hle
      go_wp2_with fail
      go_ret2
      rw [fin.out]
      exact ⟨_, rfl, Or.inl ⟨rfl, rfl⟩, hbel2.out⟩
     ·have tl : decide (d ≤ pv) = false := decide_eq_false hle
      have hri3 := Aside0.mk (show rise start ls = rise d (ls.drop (k + 1)) by rw [hri2, decide_eq_true (by omega)]; simp)
      clear hri hri2 hle
      go_wp2_with fail
      go_roundg (ls.length + 1 - (k + 1))
      case measure => have := hgq2.out; omega
      case rel => exact ⟨k + 1, d, by omega, by simp, rfl, ⟨rfl⟩, hri3, hbk, hbel2⟩
    ·obtain rfl : k = ls.length := by omega
     have hri2 := hri.out
     rw [List.drop_eq_nil_of_le (by omega), rise] at hri2
     have fin := Aside0.mk (show R = (ls, 0) by rw [RR2.out, hri2]; rfl)
     clear hri hri2
     go_wp2_with fail
     go_ret2
     rw [fin.out]
     exact ⟨_, rfl, Or.inr ⟨gn, cw, tn, rfl, hgn, hcn, hbk.out⟩, hbel2.out⟩
theorem rdays_any (p : Prod) (A1 : Option Addr) (c1 : Nat) (A2 : Option Addr) (c2 : Nat) (A3 : Option Addr) (c3 : Nat) (start : Int) (w : World) (hp : ProdAt w p A1 c1 A2 c2 A3 c3) (hs : Held p) (hh : p.hol.length ≤ 1000000) :
  Calls Try.prog 15 #[pv p A1 c1 A2 c2 A3 c3, .int .i64 start] w (Listed (daysP p start) w) := by
 cases ho : ok p with
 | false => exact rdays_refused p A1 c1 A2 c2 A3 c3 start w hp hs ho
 | true =>
  by_cases hd : (datesP start p.every p.times).2 = 0
  ·have e : daysP p start = risen start (rollAll p.hol p.roll (datesP start p.every p.times).1) := by
    unfold daysP risen
    rw [if_pos ho, if_pos hd]
   rw [e]
   exact rdays_main p A1 c1 A2 c2 A3 c3 start w hp hs hh ho _ (by rw [← hd])
  ·exact rdays_none p A1 c1 A2 c2 A3 c3 start w hp hs ho hd
end Go.Proofs.Ytcfpkkgdofblfaa.Du
/- quittanceref11.Parts: the document's parts between days; both parts are one where all may be. -/
namespace Go.Proofs.Ytcfpkkgdofblfaa.Du
open Go.RowKit Go.Proofs.YtcfpkkgdofblfaaW.PrintWords Go.Proofs.YtcfpkkgdofblfaaW.PrintLast Go.Proofs.YtcfpkkgdofblfaaW.PrintMore Go.Proofs.Ytcfpkkgdofblfaa.HW
open Go.Proofs.Ytcfpkkgdofblfaa.Math Go.Proofs.Ytcfpkkgdofblfaa.H Go.Proofs.Ytcfpkkgdofblfaa.Pd Pm
set_option linter.unusedVariables false
set_option linter.unusedSimpArgs false
def rpartsL (c : Int) : Int → List Int → List Int
 | _, [] => []
 | s, d :: r => (between c s d).1 :: rpartsL c d r
theorem rbetween_any (c a b v e : Int) (h : between c a b = (v, e)) (w : World) : Calls Try.prog 21 #[.int .i64 c, .int .i64 a, .int .i64 b] w fun en w' => en = .returned (.tuple #[.int .i64 v, .int .i64 e]) ∧ Below w.heap.size w w' :=
 quittanceref06_Between.calls c a b v e w (by unfold quittanceref06_Between.f; rw [h])
set_option maxRecDepth 100000 in
set_option maxHeartbeats 2000000 in
theorem rparts_err (p : Prod) (A1 : Option Addr) (c1 : Nat) (A2 : Option Addr) (c2 : Nat) (A3 : Option Addr) (c3 : Nat) (start : Int) (w : World) (hp : ProdAt w p A1 c1 A2 c2 A3 c3) (hs : Held p) (hh : p.hol.length ≤ 1000000) (l : List Int) (e0 : Int) (h0 : e0 ≠ 0) (hd : daysP p start = (l, e0)) :
  Calls Try.prog 17 #[pv p A1 c1 A2 c2 A3 c3, .int .i64 start] w (ListedL ([], e0) w) := by
 have HP := Aside0.mk hp
 have DA := Aside0.mk (fun w1 (hb : Below w.heap.size w w1) => show Calls Try.prog 15 #[pv p A1 c1 A2 c2 A3 c3, .int .i64 start] w1 fun e w' => (∃ v, e = .returned (.tuple #[v, .int .i64 e0])) ∧ Below w1.heap.size w1 w' from (rdays_any p A1 c1 A2 c2 A3 c3 start w1 (HP.out.below hb) hs hh).mono fun e w' h => by rw [hd] at h; obtain ⟨v, he, -, hb⟩ := h; exact ⟨⟨v, he⟩, hb⟩)
 have hn : (e0 != 0) = true := by simpa using h0
 clear hp hd h0 hs hh
 go_enter Try.func17, Try.ntmps17
 go_wp2_with ((with_reducible refine gate_dst (N := 2) rfl ?_); refine box_event ?hg (N := 2) ?hd (cs := pcs p A1 c1 A2 c2 A3 c3) (t := 27) ?hr ?_; (case hd => rfl); (case hg => rfl); (case hr => first | (go_simp; done) | (go_simp; rfl)); intro g2 hg v0 hb1 hbl1; clear hg; have G2 := Aside0.mk hb1; have HB := Aside0.mk hbl1; clear hb1 hbl1; refine Hid.out ?_)
 refine Lib.hid ?_
 go_wp2_with (first
  | ((with_reducible refine gate_dst (N := 14) rfl ?_); refine wpList_load_row rfl 27 (.tmp 2) rfl g2 rfl 27 _ (0, 0) _ G2.out Try.underlying27 rfl info_prod ?_)
  | (go_at_call 15; (with_reducible refine (DA.out _ HB.out).mono ?_); rintro e w2 ⟨⟨v, rfl⟩, hb⟩; have HB := Aside0.mk (below_step HB.out hb); have G2 := Aside0.mk (Pd.blk_below G2.out hb); clear hb))
 go_ret2
 exact ⟨_, rfl, Or.inl ⟨rfl, rfl⟩, HB.out⟩
set_option maxRecDepth 100000 in
set_option maxHeartbeats 8000000 in
theorem rparts_main (p : Prod) (A1 : Option Addr) (c1 : Nat) (A2 : Option Addr) (c2 : Nat) (A3 : Option Addr) (c3 : Nat) (start : Int) (w : World) (hp : ProdAt w p A1 c1 A2 c2 A3 c3) (hs : Held p) (hh : p.hol.length ≤ 1000000) (l : List Int) (hl0 : l ≠ []) (hln : l.length ≤ 600) (hd : daysP p start = (l, 0)) :
  Calls Try.prog 17 #[pv p A1 c1 A2 c2 A3 c3, .int .i64 start] w (ListedL (rpartsL p.count start l, 0) w) := by
 generalize hR : rpartsL p.count start l = R
 have RR := Aside0.mk hR
 clear hR
 have HP := Aside0.mk hp
 have DA := Aside0.mk (fun w1 (hb : Below w.heap.size w w1) => show Calls Try.prog 15 #[pv p A1 c1 A2 c2 A3 c3, .int .i64 start] w1 (Listed1 l w1) from (rdays_any p A1 c1 A2 c2 A3 c3 start w1 (HP.out.below hb) hs hh).mono fun e w' h => by rw [hd] at h; exact h.one hl0)
 have hlp : 0 < l.length := by cases l with | nil => exact absurd rfl hl0 | cons a r => simp
 clear hp hd hs hl0 hh
 go_enter Try.func17, Try.ntmps17
 go_wp2_with ((with_reducible refine gate_dst (N := 2) rfl ?_); refine box_event ?hg (N := 2) ?hd (cs := pcs p A1 c1 A2 c2 A3 c3) (t := 27) ?hr ?_; (case hd => rfl); (case hg => rfl); (case hr => first | (go_simp; done) | (go_simp; rfl)); intro g2 hg v0 hb1 hbl1; clear hg; have G2 := Aside0.mk hb1; have HB := Aside0.mk hbl1; clear hb1 hbl1; refine Hid.out ?_)
 refine Lib.hid ?_
 have g2lt0 := blk_lt G2.out
 go_wp2_with (first
  | ((with_reducible refine gate_dst (N := 14) rfl ?_); refine wpList_load_row rfl 27 (.tmp 2) rfl g2 rfl 27 _ (0, 0) _ G2.out Try.underlying27 rfl info_prod ?_)
  | (go_at_call 15; (with_reducible refine (DA.out _ HB.out).mono ?_); rintro e w3 ⟨g, c, t, rfl, hge, hc, hbk, hb⟩; have gne := (show g2 ≠ g by omega); have BK := Aside0.mk hbk; have gsz := Blk.lt hbk; have hgw := Nat.le_trans HB.out.size hge; have HB := Aside0.mk (below_step HB.out hb); have G2 := Aside0.mk (Pd.blk_below G2.out hb); clear hb hbk))
 go_loopg [8, 9, 10] (l.length + 1) (fun gq ov sv iv w' => ∃ (k : Nat) (s : Int) (A : Option Addr) (cw : Nat) (ls : List Int), k ≤ l.length ∧ iv = .int .i64 (k : Int) ∧ sv = .int .i64 s ∧ ov = .slice A ls.length cw ∧ Aside0 (ls.length = k) ∧ Aside0 (gq = l.length + 1 - k) ∧ Aside0 (R = ls ++ rpartsL p.count s (l.drop k)) ∧ Aside0 (Kd.R (Kd.int .i64) 2 w' w.heap.size (fun b => b ≠ g ∧ b ≠ g2) (.slice A ls.length cw) ls) ∧ Aside0 (H.Blk w' g 3 (nums .i64 l ++ t)) ∧ Aside0 (w'.heap[g2]? = some (.cells (pcs p A1 c1 A2 c2 A3 c3) 27 (0, 0))) ∧ Aside0 (Below w.heap.size w w'))
 case atStart => exact ⟨0, start, none, 0, [], by omega, rfl, rfl, rfl, ⟨rfl⟩, ⟨rfl⟩, ⟨RR.out.symm⟩, ⟨Kd.R_nil _ _ _ _ _⟩, BK, G2, HB⟩
 case round =>
  obtain ⟨k, s, A, cw, ls, kn, rfl, rfl, rfl, hlen, hgq, hra, hr, hbk, G2, hbel⟩ := hrel
  have gszr := Blk.lt hbk.out
  have g2lt := blk_lt G2.out
  have gsz0 := hbel.out.size
  by_cases hlt : k < l.length
  ·have hdr : l.drop k = l[k] :: l.drop (k + 1) := List.drop_eq_getElem_cons hlt
   rw [hdr] at hra
   have HAT := Aside0.mk (show (nums .i64 l ++ t)[k]? = some (.int .i64 l[k]) by rw [List.getElem?_append_left (by simp [nums]; omega)]; simp [nums] <;> omega)
   have hcl := (hbk.out.cell k).trans HAT.out
   have hsz : (k : Int) < (l.length : Int) := by omega
   obtain ⟨v, e1, hx⟩ : ∃ v e1, between p.count s l[k] = (v, e1) := ⟨_, _, rfl⟩
   have BT := Aside0.mk (fun w => rbetween_any _ _ _ _ _ hx w)
   have hra2 := Aside0.mk (show R = (ls ++ [v]) ++ rpartsL p.count l[k] (l.drop (k + 1)) by
    have e := hra.out
    rw [rpartsL, hx] at e
    rw [e, List.append_assoc]; rfl)
   clear hra hx hdr
   have U := Aside0.mk (Below.refl wr.heap.size wr)
   obtain ⟨-, q1, -, -, -, -, -, -, -, -, -, -, -, -, -, -, -, -, -⟩ := pc_cells G2.out
   go_wp2_with fail
   go_region_held3 (fun W => W.cell? ⟨g2, 1, none⟩ = some (.int .i64 p.count) ∧ W.cell? ⟨g, k, none⟩ = some (.int .i64 l[k])) (first | exact ⟨q1, hcl⟩ | go_keep) (first
    | (go_at_call 21; (with_reducible refine (BT.out _).mono ?_); rintro e w9 ⟨rfl, hb⟩; have U := Aside0.mk (below_step (by first | exact pw_below_drewN U.out _ | exact Below.drew U.out | exact U.out) hb); obtain ⟨-, q1, -, -, -, -, -, -, -, -, -, -, -, -, -, -, -, -, -⟩ := pc_cells (Pd.blk_below G2.out U.out); have hcl := ((hbk.out.below U.out).cell k).trans HAT.out; clear hb))
   have HO := Aside0.mk (Kd.R_below hr.out U.out)
   have BK9 := Aside0.mk (hbk.out.below U.out)
   have G9 := Aside0.mk (Pd.blk_below G2.out U.out)
   have HB9 := Aside0.mk (below_step hbel.out U.out)
   have gs9 := Blk.lt BK9.out
   have g29 := blk_lt G9.out
   have gw9 := HB9.out.size
   go_wp2_with ((with_reducible refine gate_builtin (b := .append) (xs := #[.tmp 40, .tmp 42]) rfl ?_); at_builtin; refine Kd.R_append (Kd.int .i64) (w0 := w) w.heap.size rfl (.tmp 40) (.tmp 42) 35 2 (.int .i64 0) 8 rfl Try.underlying35 info_l rfl (by decide) (by omega) (.slice A ls.length cw) ls v [.int .i64 v] (fun b => b ≠ g ∧ b ≠ g2) (fun _ => False) rfl rfl ?aP (fun _ hk => hk.elim) ?aF ?aO ?aB ?aS ?aL ?_; (case aP => exact rfl); (case aF => exact fun b hb => ⟨by omega, by omega⟩); (case aO => exact HO.out); (case aB => exact HB9.out); (case aS => exact gw9); (case aL => have := hlen.out; omega); intro v1 w11 hr1 hb1 hg1 hat1; obtain ⟨l2, hl2⟩ : ∃ l2, l2 = ls ++ [v] := ⟨_, rfl⟩; rw [← hl2] at hr1; obtain ⟨gn, cn, rfl⟩ := RL_slice hr1 (by rw [hl2]; simp); have L2 := Aside0.mk hl2; clear hl2; have R1 := Aside0.mk hr1; have HB1 := Aside0.mk hb1; have HK := Aside0.mk ((hg1.block g gs9 (fun e => (HO.out.1 g e.symm).1 rfl)).trans BK9.out); have HK2 := Aside0.mk ((hg1.block g2 g29 (fun e => (HO.out.1 g2 e.symm).2 rfl)).trans G9.out); have hcl := (Blk.cell HK.out k).trans HAT.out; clear hr1 hb1 hg1 hat1)
   have hlen2 : l2.length = k + 1 := by rw [L2.out, List.length_append, hlen.out]; rfl
   have L3 := Aside0.mk hlen2
   clear hlen2
   go_roundg (l.length + 1 - (k + 1))
   case measure => have := hgq.out; omega
   case rel => exact ⟨k + 1, l[k], some ⟨gn, 0, none⟩, cn, l2, by omega, by simp, rfl, rfl, L3, ⟨rfl⟩, ⟨by rw [hra2.out, L2.out]⟩, R1, HK, HK2, HB1⟩
  ·obtain rfl : k = l.length := by omega
   have fin := Aside0.mk (show R = ls by
    have e := hra.out
    rw [List.drop_length, rpartsL, List.append_nil] at e
    exact e)
   clear hra
   go_wp2_with fail
   go_ret2
   rw [fin.out]
   exact ⟨_, rfl, rowL_of_R hr.out, hbel.out⟩
end Go.Proofs.Ytcfpkkgdofblfaa.Du
/- Plain: days behind the last year; holidays that leave no day between two instalments. -/
namespace Go.Proofs.Ytcfpkkgdofblfaa.Du
open Go.RowKit Go.Proofs.YtcfpkkgdofblfaaW.PrintWords Go.Proofs.YtcfpkkgdofblfaaW.PrintLast Go.Proofs.YtcfpkkgdofblfaaW.PrintMore Go.Proofs.Ytcfpkkgdofblfaa.HW
open Go.Proofs.Ytcfpkkgdofblfaa.Math Go.Proofs.Ytcfpkkgdofblfaa.H Go.Proofs.Ytcfpkkgdofblfaa.Pd Pm
set_option linter.unusedVariables false
set_option linter.unusedSimpArgs false
theorem dates_zero : ∀ (m : Nat) (n e i : Int) (l : List Int), (dates m n e i l).2 = 0 → ∀ j : Int, i < j → j ≤ i + m → (add n (j * e)).2 = 0
 | 0, n, e, i, l => fun _ j h1 h2 => by omega
 | m + 1, n, e, i, l => by
  unfold dates
  split
  ·rename_i h
   intro h0 j h1 h2
   by_cases hj : j = i + 1
   ·rw [hj]; exact h
   ·exact dates_zero m n e (i + 1) _ h0 j (by omega) (by omega)
  ·rename_i h; intro h0; exact absurd h0 h
end Go.Proofs.Ytcfpkkgdofblfaa.Du
/- Both parts between days are one. -/
namespace Go.Proofs.Ytcfpkkgdofblfaa.Du
open Go.RowKit Go.Proofs.YtcfpkkgdofblfaaW.PrintWords Go.Proofs.YtcfpkkgdofblfaaW.PrintLast Go.Proofs.YtcfpkkgdofblfaaW.PrintMore Go.Proofs.Ytcfpkkgdofblfaa.HW
open Go.Proofs.Ytcfpkkgdofblfaa.Math Go.Proofs.Ytcfpkkgdofblfaa.H Go.Proofs.Ytcfpkkgdofblfaa.Pd Pm
set_option linter.unusedVariables false
set_option linter.unusedSimpArgs false
theorem seekS_day (l : List Int) (step : Int) : ∀ (k : Nat) (day : Int), (seekS l step k day).2 = 0 → isDay (seekS l step k day).1
 | 0, day => by intro h; simp [seekS] at h
 | k + 1, day => by
  rw [seekS_succ]
  split
  ·rename_i hd
   split
   ·intro; exact hd
   ·exact seekS_day l step k (day + step)
  ·intro h; simp at h
theorem rollS_day {l : List Int} {day how : Int} (h : (rollS l day how).2 = 0) : isDay (rollS l day how).1 := by
 unfold rollS at h ⊢
 split
 ·rename_i hd; rw [if_pos hd] at h; simp at h
 ·rename_i hd
  rw [if_neg hd] at h
  split
  ·rename_i hb; rw [if_pos hb] at h; simp at h
  ·rename_i hb
   rw [if_neg hb] at h
   split
   ·exact Classical.not_not.1 hd
   ·rename_i h1
    rw [if_neg h1] at h
    split
    ·rename_i h4; rw [if_pos h4] at h; exact seekS_day _ _ _ _ h
    ·rename_i h4
     rw [if_neg h4] at h
     split
     ·rename_i h3; rw [if_pos h3] at h; exact seekS_day _ _ _ _ h
     ·rename_i h3; rw [if_neg h3] at h; exact seekS_day _ _ _ _ h
theorem rollAll_day (hol : List Int) (how : Int) (l : List Int) : (rollAll hol how l).2 = 0 → ∀ d ∈ (rollAll hol how l).1, isDay d := by
 induction l with
 | nil => intro _ d hd; simp [rollAll] at hd
 | cons a r ih =>
  rw [rollAll]
  split
  ·rename_i h0
   unfold after
   split
   ·rename_i h
    intro _ d hd
    rcases List.mem_append.1 hd with h1 | h1
    ·rw [List.mem_singleton.1 h1]; exact rollS_day h0
    ·exact ih h d h1
   ·rename_i h; intro e; exact absurd e h
  ·rename_i h; intro e; exact absurd e h
theorem between_ok {c a b : Int} (hc : c = 1 ∨ c = 2 ∨ c = 3) (ha : isDay a) (hb : isDay b) : between c a b = (place c b - place c a, 0) := by
 unfold between
 rw [if_pos hc, if_pos ⟨ha, hb⟩]
theorem partsAll_ok {c : Int} (hc : c = 1 ∨ c = 2 ∨ c = 3) : ∀ (l : List Int) (s : Int), isDay s → (∀ d ∈ l, isDay d) → partsAll c s l = (rpartsL c s l, 0)
 | [], s, _, _ => rfl
 | d :: r, s, hs, hd => by
  rw [partsAll, between_ok hc hs (hd d (by simp)), if_pos rfl, partsAll_ok hc r d (hd d (by simp)) (fun x hx => hd x (by simp [hx])), rpartsL, between_ok hc hs (hd d (by simp))]
  rfl
theorem dates_start {n e t : Int} (h : (datesP n e t).2 = 0) : isDay n := by
 have hf := datesP_full h
 unfold datesP at h
 split at h
 ·rename_i hc
  have := dates_zero t.toNat n e 0 [] h 1 (by omega) (by omega)
  by_cases hd : isDay n
  ·exact hd
  ·unfold add at this; rw [if_neg hd] at this; simp at this
 ·simp at h
theorem days_known {p : Prod} {start : Int} {l : List Int} (h : daysP p start = (l, 0)) : ok p = true ∧ isDay start ∧ (∀ d ∈ l, isDay d) ∧ (l.length : Int) = p.times ∧ 1 ≤ p.times ∧ p.times ≤ 600 ∧ rise start l = true ∧ l = (rollAll p.hol p.roll (datesP start p.every p.times).1).1 ∧ (rollAll p.hol p.roll (datesP start p.every p.times).1).2 = 0 ∧ (datesP start p.every p.times).2 = 0 := by
 unfold daysP at h
 split at h
 ·rename_i ho
  split at h
  ·rename_i hd
   split at h
   ·rename_i hr
    split at h
    ·rename_i hi
     obtain ⟨rfl, -⟩ := Prod.mk.inj h
     obtain ⟨f1, f2, f3⟩ := datesP_full hd
     have hl := rollAll_len p.hol p.roll _ hr
     exact ⟨ho, dates_start hd, rollAll_day _ _ _ hr, by rw [hl]; exact f1, f2, f3, hi, rfl, hr, hd⟩
    ·simp at h
   ·rename_i hr; exact absurd (Prod.mk.inj h).2 hr
  ·rename_i hd; exact absurd (Prod.mk.inj h).2 hd
 ·simp at h
theorem count_known {p : Prod} (h : ok p = true) : p.count = 1 ∨ p.count = 2 ∨ p.count = 3 := by
 simp only [ok, shapeOk, Bool.and_eq_true, decide_eq_true_eq] at h
 omega
def partsP (p : Prod) (start : Int) : List Int × Int := if (daysP p start).2 = 0 then (rpartsL p.count start (daysP p start).1, 0) else ([], (daysP p start).2)
theorem daysP_err (p : Prod) (start : Int) : (daysP p start).2 ≠ 0 → (daysP p start).1 = [] := by
 unfold daysP
 repeat' split
 all_goals first | (intro; rfl) | (intro h; exact absurd rfl h)
theorem parts_any (p : Prod) (A1 : Option Addr) (c1 : Nat) (A2 : Option Addr) (c2 : Nat) (A3 : Option Addr) (c3 : Nat) (start : Int) (w : World) (hg : GV w) (hp : ProdAt w p A1 c1 A2 c2 A3 c3) (hs : Small p) :
  Calls Try.prog 16 #[pv p A1 c1 A2 c2 A3 c3, .int .i64 start] w (ListedL (partsP p start) w) := by
 by_cases h : (daysP p start).2 = 0
 ·have hd : daysP p start = ((daysP p start).1, 0) := by rw [← h]
  obtain ⟨ho, hs0, hds, hl, t1, t2, -⟩ := days_known hd
  have e : partsP p start = partsAll p.count start (daysP p start).1 := by
   rw [partsAll_ok (count_known ho) _ _ hs0 hds]; unfold partsP; rw [if_pos h]
  rw [e]
  exact parts_main p A1 c1 A2 c2 A3 c3 start w hg hp hs _ (fun e => by rw [e] at hl; simp at hl; omega) (by omega) hd
 ·have e : partsP p start = ([], (daysP p start).2) := by unfold partsP; rw [if_neg h]
  rw [e]
  refine (parts_err p A1 c1 A2 c2 A3 c3 start w hg hp hs _ h (by rw [← daysP_err p start h])).mono ?_
  rintro en w' ⟨he, hb⟩
  exact ⟨_, he, Or.inl ⟨rfl, rfl⟩, hb⟩
theorem rparts_any (p : Prod) (A1 : Option Addr) (c1 : Nat) (A2 : Option Addr) (c2 : Nat) (A3 : Option Addr) (c3 : Nat) (start : Int) (w : World) (hp : ProdAt w p A1 c1 A2 c2 A3 c3) (hs : Held p) (hh : p.hol.length ≤ 1000000) :
  Calls Try.prog 17 #[pv p A1 c1 A2 c2 A3 c3, .int .i64 start] w (ListedL (partsP p start) w) := by
 by_cases h : (daysP p start).2 = 0
 ·have hd : daysP p start = ((daysP p start).1, 0) := by rw [← h]
  obtain ⟨ho, hs0, hds, hl, t1, t2, -⟩ := days_known hd
  have e : partsP p start = (rpartsL p.count start (daysP p start).1, 0) := by unfold partsP; rw [if_pos h]
  rw [e]
  exact rparts_main p A1 c1 A2 c2 A3 c3 start w hp hs hh _ (fun e => by rw [e] at hl; simp at hl; omega) (by omega) hd
 ·have e : partsP p start = ([], (daysP p start).2) := by unfold partsP; rw [if_neg h]
  rw [e]
  exact rparts_err p A1 c1 A2 c2 A3 c3 start w hp hs hh [] _ h (by rw [← daysP_err p start h])
end Go.Proofs.Ytcfpkkgdofblfaa.Du
/- quittanceplay.Product: this product, or one near it. -/
namespace Go.Proofs.Ytcfpkkgdofblfaa.Du
open Go.RowKit Go.Proofs.YtcfpkkgdofblfaaW.PrintWords Go.Proofs.YtcfpkkgdofblfaaW.PrintLast Go.Proofs.YtcfpkkgdofblfaaW.PrintMore Go.Proofs.Ytcfpkkgdofblfaa.HW
open Go.Proofs.Ytcfpkkgdofblfaa.Math Go.Proofs.Ytcfpkkgdofblfaa.H Go.Proofs.Ytcfpkkgdofblfaa.Pd Pm
set_option linter.unusedVariables false
set_option linter.unusedSimpArgs false
section
variable {P : Program} {ops : Array Oper} {rest : List Oper} {a : Act} {Q : Exit → Act → World → Prop}
theorem But.setRow (g : Nat) (w : World) (cs : Array Value) : H.But g w (w.setRow g cs) := ⟨rfl, rfl, rfl, by rw [size_setRow]; exact Nat.le_refl _, fun k _ hk => setRow_other w g k cs hk⟩
theorem row_event {W : World} {o : Oper} (hgd : o.guard = none) {t : TypeId} {p : Tmp} {v : Operand} (ho : o.op = .store t (.tmp p) v) (hd : o.dst = none) {g : Nat} {cs zs : Array Value}
  (hp : a.eval (.tmp p) = .pointer (some ⟨g, 0, none⟩)) (hv : a.eval v = .agg cs) (hb : W.heap[g]? = some (.cells zs t (0, 0))) (hi : (P.info? t).map (·.size) = some cs.size) (hz : zs.size = cs.size) (h1 : cs.all (·.oneCell') = true)
  (h : ∀ w1, w1.heap[g]? = some (.cells cs t (0, 0)) → H.But g W w1 → wpList P ops Q rest a w1) : wpList P ops Q (o :: rest) a W := by
 refine wpList_store_row hgd t (.tmp p) v ho g cs hp hv t zs hb hi hz h1 ?_
 rw [hd]
 exact h _ (setRow_heap W g zs cs t (0, 0) hb) (But.setRow g W cs)
end
def U (x : Int) (m : Int) : Int := x % 18446744073709551616 % m
theorem U_bd (x : Int) {m : Int} (h : 0 < m) : 0 ≤ U x m ∧ U x m < m := ⟨Int.emod_nonneg _ (by omega), Int.emod_lt_of_pos _ h⟩
theorem U_is (x : Int) {m : Int} (h : 0 < m) (h2 : m ≤ 1000000000) : IntKind.i64.wrap (Int.tmod (IntKind.u64.wrap x) m) = U x m := by
 have e : IntKind.u64.wrap x = x % 18446744073709551616 := rfl
 have hn := Int.emod_nonneg x (show (18446744073709551616 : Int) ≠ 0 by omega)
 have hb := U_bd x h
 rw [e, Int.tmod_eq_emod_of_nonneg hn]
 show IntKind.i64.wrap (U x m) = U x m
 generalize U x m = j at *
 rw [i64_w]
 exact w64 (x := j) (by omega) (by omega)
def nearB (p : Prod) (n : Int) : Prod :=
 { plainP with count := 1 + U p.count 3, round := if U p.round 2 = 0 then 1 else 3, kind := 1 + U p.kind 3, every := if U p.every 6 = 0 then 1 else if U p.every 6 = 1 then 2 else if U p.every 6 = 2 then 3 else if U p.every 6 = 3 then 4 else if U p.every 6 = 4 then 6 else 12, times := 1 + U p.times n, rate := U p.rate 300000000, penalty := U p.penalty 500000000, over := 1 + U p.over 3 }
def nearD (q : Prod) : Prod := if q.times ≤ q.grace ∨ q.kind = 3 then { q with grace := 0 } else q
def nearP (p : Prod) (n : Int) : Prod := if ok p = true then nearD (if n < p.times then { p with times := n, resets := [] } else p) else nearD (nearB p n)
def NearE (p : Prod) (A1 : Option Addr) (c1 : Nat) (A2 : Option Addr) (c2 : Nat) (A3 : Option Addr) (c3 : Nat) (q : Prod) (w : World) (e : Ending) (w' : World) : Prop := ∃ B1 d1 B2 d2 B3 d3, e = .returned (pv q B1 d1 B2 d2 B3 d3) ∧ (∀ w0, ProdAt w0 p A1 c1 A2 c2 A3 c3 → ProdAt w0 q B1 d1 B2 d2 B3 d3) ∧ Below w.heap.size w w'
set_option maxRecDepth 100000 in
set_option maxHeartbeats 8000000 in
theorem near_ok (p : Prod) (A1 : Option Addr) (c1 : Nat) (A2 : Option Addr) (c2 : Nat) (A3 : Option Addr) (c3 : Nat) (n : Int) (w : World) (hp : ProdAt w p A1 c1 A2 c2 A3 c3) (hs : Held p) (ho : ok p = true) :
  Calls Try.prog 12 #[pv p A1 c1 A2 c2 A3 c3, .int .i64 n] w (NearE p A1 c1 A2 c2 A3 c3 (nearP p n) w) := by
 have er : err p = 0 := by unfold err; rw [ho]; rfl
 have en : nearP p n = nearD (if n < p.times then { p with times := n, resets := [] } else p) := by unfold nearP; rw [if_pos ho]
 have HP := Aside0.mk hp
 have CK := Aside0.mk (fun w1 (hb : Below w.heap.size w w1) => rcheck_any p A1 c1 A2 c2 A3 c3 w1 (HP.out.below hb) hs)
 rw [er] at CK
 rw [en]
 have EN : True := trivial
 clear hp er en ho hs
 by_cases hn : n < p.times
 ·have k1 : decide (n < p.times) = true := decide_eq_true hn
  rw [if_pos hn]
  unfold nearD
  dsimp only
  by_cases hg : n ≤ p.grace
  ·rw [if_pos (Or.inl hg)]
   have k2 : decide (n ≤ p.grace) = true := decide_eq_true hg
   clear hn hg
   go_enter Try.func12, Try.ntmps12
   go_wp2_with ((with_reducible refine gate_dst (N := 2) rfl ?_); refine box_event ?hg (N := 2) ?hd (cs := pcs p A1 c1 A2 c2 A3 c3) (t := 27) ?hr ?_; (case hd => rfl); (case hg => rfl); (case hr => first | (go_simp; done) | (go_simp; rfl)); intro g2 hg v0 hb1 hbl1; clear hg; have G2 := Aside0.mk hb1; have HB := Aside0.mk hbl1; clear hb1 hbl1; refine Hid.out ?_)
   refine Lib.hid ?_
   go_wp2_with (first
    | ((with_reducible refine gate_dst (N := 4) rfl ?_); refine box_event ?hg (N := 4) ?hd (cs := pzs) (t := 27) ?hr ?_; (case hd => rfl); (case hg => rfl); (case hr => first | (go_simp; done) | (go_simp; rfl)); intro g4 hg w4 hb1 hbl1; have ge4 := (show w.heap.size ≤ g4 by rw [hg]; exact HB.out.size); have ne42 := (show g4 ≠ g2 by have := blk_lt G2.out; omega); clear hg; have G2 := Aside0.mk (Pd.blk_below G2.out hbl1); have G4 := Aside0.mk hb1; have HB := Aside0.mk (below_step HB.out hbl1); clear hb1 hbl1)
    | (go_at_call 22; (with_reducible refine (plain_any _).mono ?_); rintro e w5 ⟨rfl, hb⟩; have G2 := Aside0.mk (Pd.blk_below G2.out hb); have G4 := Aside0.mk (Pd.blk_below G4.out hb); have HB := Aside0.mk (below_step HB.out hb); clear hb)
    | ((with_reducible refine gate_dst (N := 5) rfl ?_); refine copy_event rfl (N := 5) rfl rfl rfl (t := 27) (v := .tmp 6) rfl (cs := plainC) (zs := pzs) ?hr rfl rfl info_prod ?hz plainC_one ?_; (case hr => first | (go_simp; done) | (go_simp; rfl)); (case hz => rfl); intro g5 hg w6 hb0 hb; have ge5 := (show w.heap.size ≤ g5 by rw [hg]; exact HB.out.size); have ne52 := (show g5 ≠ g2 by have := blk_lt G2.out; omega); have ne54 := (show g5 ≠ g4 by have := blk_lt G4.out; omega); clear hg; have G2 := Aside0.mk (Pd.blk_below G2.out hb); have G4 := Aside0.mk (Pd.blk_below G4.out hb); have G5 := Aside0.mk hb0; have HB := Aside0.mk (below_step HB.out hb); clear hb0 hb)
    | ((with_reducible refine gate_dst (N := 7) rfl ?_); refine wpList_load_row rfl 27 (.tmp 2) rfl g2 rfl 27 _ (0, 0) _ G2.out Try.underlying27 rfl info_prod ?_)
    | (go_at_call 30; (with_reducible refine (CK.out _ HB.out).mono ?_); rintro e w7 ⟨rfl, hb⟩; have G2 := Aside0.mk (Pd.blk_below G2.out hb); have G4 := Aside0.mk (Pd.blk_below G4.out hb); have G5 := Aside0.mk (Pd.blk_below G5.out hb); have HB := Aside0.mk (below_step HB.out hb); clear hb)
    | ((with_reducible refine gate_dst (N := 10) rfl ?_); refine wpList_load_row rfl 27 (.tmp 2) rfl g2 rfl 27 _ (0, 0) _ G2.out Try.underlying27 rfl info_prod ?_)
    | ((with_reducible refine gate_store (t := 27) (p := 5) rfl ?_); refine row_event rfl (t := 27) (p := 5) (v := .tmp 10) rfl rfl (g := g5) (cs := pcs p A1 c1 A2 c2 A3 c3) (zs := plainC) rfl rfl G5.out info_prod rfl (pcs_one _ _ _ _ _ _ _) ?_; intro w8 hb8 hbut; have G5 := Aside0.mk hb8; have G2 := Aside0.mk ((hbut.block g2 (blk_lt G2.out) (Ne.symm ne52)).trans G2.out); have G4 := Aside0.mk ((hbut.block g4 (blk_lt G4.out) (Ne.symm ne54)).trans G4.out); have HB := Aside0.mk (But.below HB.out HB.out.size ge5 hbut); clear hb8 hbut; refine Hid.out ?_))
   refine Lib.hid ?_
   try go_frame
   obtain ⟨-, -, -, u3, -, u5, u6, -, u8, -, -, -, -, -, -, -, -, -, -⟩ := pc_cells G5.out
   have f5 := frozen_of_row w8 g5 5 _ _ G5.out
   have f6 := frozen_of_row w8 g5 6 _ _ G5.out
   have f8 := frozen_of_row w8 g5 8 _ _ G5.out
   have bfin : (((w8.setCell ⟨g5, 5, none⟩ (.int .i64 n)).setCell ⟨g5, 8, none⟩ (.slice none 0 0)).setCell ⟨g5, 6, none⟩ (.int .i64 0)).heap[g5]? = some (.cells (pcs { p with times := n, resets := [], grace := 0 } none 0 A2 c2 A3 c3) 27 (0, 0)) := (heap_setCell_same _ g5 6 _ _ _ (heap_setCell_same _ g5 8 _ _ _ (heap_setCell_same _ g5 5 _ _ _ G5.out))).trans rfl
   have hbut : H.But g5 w8 (((w8.setCell ⟨g5, 5, none⟩ (.int .i64 n)).setCell ⟨g5, 8, none⟩ (.slice none 0 0)).setCell ⟨g5, 6, none⟩ (.int .i64 0)) := ((((H.But.of (Below.refl w8.heap.size w8)).setCell (p := ⟨g5, 5, none⟩) (Or.inl rfl) (.int .i64 n)).setCell (p := ⟨g5, 8, none⟩) (Or.inl rfl) (.slice none 0 0)).setCell (p := ⟨g5, 6, none⟩) (Or.inl rfl) (.int .i64 0))
   have g4fin : (((w8.setCell ⟨g5, 5, none⟩ (.int .i64 n)).setCell ⟨g5, 8, none⟩ (.slice none 0 0)).setCell ⟨g5, 6, none⟩ (.int .i64 0)).heap[g4]? = some (.cells pzs 27 (0, 0)) := (hbut.block g4 (blk_lt G4.out) (Ne.symm ne54)).trans G4.out
   have hbfin : Below w.heap.size w (((w8.setCell ⟨g5, 5, none⟩ (.int .i64 n)).setCell ⟨g5, 8, none⟩ (.slice none 0 0)).setCell ⟨g5, 6, none⟩ (.int .i64 0)) := But.below HB.out HB.out.size ge5 hbut
   have F5 := Aside0.mk bfin
   have F4 := Aside0.mk g4fin
   have FB := Aside0.mk hbfin
   clear bfin hbut g4fin hbfin
   go_wp2_with (first
    | ((with_reducible refine gate_dst (N := 89) rfl ?_); refine wpList_load_row rfl 27 (.tmp 5) rfl g5 rfl 27 _ (0, 0) _ F5.out Try.underlying27 rfl info_prod ?_)
    | ((with_reducible refine gate_store (t := 27) (p := 4) rfl ?_); refine Hid.out ?_))
   refine Lib.hid ?_
   refine row_event rfl (t := 27) (p := 4) (v := .tmp 89) rfl rfl (g := g4) (cs := pcs { p with times := n, resets := [], grace := 0 } none 0 A2 c2 A3 c3) (zs := pzs) rfl rfl F4.out info_prod rfl (pcs_one _ _ _ _ _ _ _) ?_
   intro w20 hb20 hbut20
   have H20 := Aside0.mk hb20
   have HB20 := Aside0.mk (But.below FB.out FB.out.size ge4 hbut20)
   clear hb20 hbut20
   try go_frame
   go_wp2_with fail
   exact bodyPost_ret (v := pv { p with times := n, resets := [], grace := 0 } none 0 A2 c2 A3 c3) (results_cell_row (g := g4) Try.results12 _ _ _ _ _ _ rfl H20.out Try.underlying27 rfl info_prod) rfl ⟨none, 0, A2, c2, A3, c3, rfl, (fun w0 h => ⟨nilRows _, Nat.le_refl _, fun _ => rfl, h.r2, h.l2, h.n2, h.r3, h.l3, h.n3⟩), HB20.out⟩
  ·have k2 : decide (n ≤ p.grace) = false := decide_eq_false hg
   by_cases h3 : p.kind = 3
   ·rw [if_pos (Or.inr h3)]
    have k3 : (p.kind == 3) = true := by simpa using h3
    clear hn hg h3
    go_enter Try.func12, Try.ntmps12
    go_wp2_with ((with_reducible refine gate_dst (N := 2) rfl ?_); refine box_event ?hg (N := 2) ?hd (cs := pcs p A1 c1 A2 c2 A3 c3) (t := 27) ?hr ?_; (case hd => rfl); (case hg => rfl); (case hr => first | (go_simp; done) | (go_simp; rfl)); intro g2 hg v0 hb1 hbl1; clear hg; have G2 := Aside0.mk hb1; have HB := Aside0.mk hbl1; clear hb1 hbl1; refine Hid.out ?_)
    refine Lib.hid ?_
    go_wp2_with (first
     | ((with_reducible refine gate_dst (N := 4) rfl ?_); refine box_event ?hg (N := 4) ?hd (cs := pzs) (t := 27) ?hr ?_; (case hd => rfl); (case hg => rfl); (case hr => first | (go_simp; done) | (go_simp; rfl)); intro g4 hg w4 hb1 hbl1; have ge4 := (show w.heap.size ≤ g4 by rw [hg]; exact HB.out.size); have ne42 := (show g4 ≠ g2 by have := blk_lt G2.out; omega); clear hg; have G2 := Aside0.mk (Pd.blk_below G2.out hbl1); have G4 := Aside0.mk hb1; have HB := Aside0.mk (below_step HB.out hbl1); clear hb1 hbl1)
     | (go_at_call 22; (with_reducible refine (plain_any _).mono ?_); rintro e w5 ⟨rfl, hb⟩; have G2 := Aside0.mk (Pd.blk_below G2.out hb); have G4 := Aside0.mk (Pd.blk_below G4.out hb); have HB := Aside0.mk (below_step HB.out hb); clear hb)
     | ((with_reducible refine gate_dst (N := 5) rfl ?_); refine copy_event rfl (N := 5) rfl rfl rfl (t := 27) (v := .tmp 6) rfl (cs := plainC) (zs := pzs) ?hr rfl rfl info_prod ?hz plainC_one ?_; (case hr => first | (go_simp; done) | (go_simp; rfl)); (case hz => rfl); intro g5 hg w6 hb0 hb; have ge5 := (show w.heap.size ≤ g5 by rw [hg]; exact HB.out.size); have ne52 := (show g5 ≠ g2 by have := blk_lt G2.out; omega); have ne54 := (show g5 ≠ g4 by have := blk_lt G4.out; omega); clear hg; have G2 := Aside0.mk (Pd.blk_below G2.out hb); have G4 := Aside0.mk (Pd.blk_below G4.out hb); have G5 := Aside0.mk hb0; have HB := Aside0.mk (below_step HB.out hb); clear hb0 hb)
     | ((with_reducible refine gate_dst (N := 7) rfl ?_); refine wpList_load_row rfl 27 (.tmp 2) rfl g2 rfl 27 _ (0, 0) _ G2.out Try.underlying27 rfl info_prod ?_)
     | (go_at_call 30; (with_reducible refine (CK.out _ HB.out).mono ?_); rintro e w7 ⟨rfl, hb⟩; have G2 := Aside0.mk (Pd.blk_below G2.out hb); have G4 := Aside0.mk (Pd.blk_below G4.out hb); have G5 := Aside0.mk (Pd.blk_below G5.out hb); have HB := Aside0.mk (below_step HB.out hb); clear hb)
     | ((with_reducible refine gate_dst (N := 10) rfl ?_); refine wpList_load_row rfl 27 (.tmp 2) rfl g2 rfl 27 _ (0, 0) _ G2.out Try.underlying27 rfl info_prod ?_)
     | ((with_reducible refine gate_store (t := 27) (p := 5) rfl ?_); refine row_event rfl (t := 27) (p := 5) (v := .tmp 10) rfl rfl (g := g5) (cs := pcs p A1 c1 A2 c2 A3 c3) (zs := plainC) rfl rfl G5.out info_prod rfl (pcs_one _ _ _ _ _ _ _) ?_; intro w8 hb8 hbut; have G5 := Aside0.mk hb8; have G2 := Aside0.mk ((hbut.block g2 (blk_lt G2.out) (Ne.symm ne52)).trans G2.out); have G4 := Aside0.mk ((hbut.block g4 (blk_lt G4.out) (Ne.symm ne54)).trans G4.out); have HB := Aside0.mk (But.below HB.out HB.out.size ge5 hbut); clear hb8 hbut; refine Hid.out ?_))
    refine Lib.hid ?_
    try go_frame
    obtain ⟨-, -, -, u3, -, u5, u6, -, u8, -, -, -, -, -, -, -, -, -, -⟩ := pc_cells G5.out
    have f5 := frozen_of_row w8 g5 5 _ _ G5.out
    have f6 := frozen_of_row w8 g5 6 _ _ G5.out
    have f8 := frozen_of_row w8 g5 8 _ _ G5.out
    have bfin : (((w8.setCell ⟨g5, 5, none⟩ (.int .i64 n)).setCell ⟨g5, 8, none⟩ (.slice none 0 0)).setCell ⟨g5, 6, none⟩ (.int .i64 0)).heap[g5]? = some (.cells (pcs { p with times := n, resets := [], grace := 0 } none 0 A2 c2 A3 c3) 27 (0, 0)) := (heap_setCell_same _ g5 6 _ _ _ (heap_setCell_same _ g5 8 _ _ _ (heap_setCell_same _ g5 5 _ _ _ G5.out))).trans rfl
    have hbut : H.But g5 w8 (((w8.setCell ⟨g5, 5, none⟩ (.int .i64 n)).setCell ⟨g5, 8, none⟩ (.slice none 0 0)).setCell ⟨g5, 6, none⟩ (.int .i64 0)) := ((((H.But.of (Below.refl w8.heap.size w8)).setCell (p := ⟨g5, 5, none⟩) (Or.inl rfl) (.int .i64 n)).setCell (p := ⟨g5, 8, none⟩) (Or.inl rfl) (.slice none 0 0)).setCell (p := ⟨g5, 6, none⟩) (Or.inl rfl) (.int .i64 0))
    have g4fin : (((w8.setCell ⟨g5, 5, none⟩ (.int .i64 n)).setCell ⟨g5, 8, none⟩ (.slice none 0 0)).setCell ⟨g5, 6, none⟩ (.int .i64 0)).heap[g4]? = some (.cells pzs 27 (0, 0)) := (hbut.block g4 (blk_lt G4.out) (Ne.symm ne54)).trans G4.out
    have hbfin : Below w.heap.size w (((w8.setCell ⟨g5, 5, none⟩ (.int .i64 n)).setCell ⟨g5, 8, none⟩ (.slice none 0 0)).setCell ⟨g5, 6, none⟩ (.int .i64 0)) := But.below HB.out HB.out.size ge5 hbut
    have F5 := Aside0.mk bfin
    have F4 := Aside0.mk g4fin
    have FB := Aside0.mk hbfin
    clear bfin hbut g4fin hbfin
    go_wp2_with (first
     | ((with_reducible refine gate_dst (N := 89) rfl ?_); refine wpList_load_row rfl 27 (.tmp 5) rfl g5 rfl 27 _ (0, 0) _ F5.out Try.underlying27 rfl info_prod ?_)
     | ((with_reducible refine gate_store (t := 27) (p := 4) rfl ?_); refine Hid.out ?_))
    refine Lib.hid ?_
    refine row_event rfl (t := 27) (p := 4) (v := .tmp 89) rfl rfl (g := g4) (cs := pcs { p with times := n, resets := [], grace := 0 } none 0 A2 c2 A3 c3) (zs := pzs) rfl rfl F4.out info_prod rfl (pcs_one _ _ _ _ _ _ _) ?_
    intro w20 hb20 hbut20
    have H20 := Aside0.mk hb20
    have HB20 := Aside0.mk (But.below FB.out FB.out.size ge4 hbut20)
    clear hb20 hbut20
    try go_frame
    go_wp2_with fail
    exact bodyPost_ret (v := pv { p with times := n, resets := [], grace := 0 } none 0 A2 c2 A3 c3) (results_cell_row (g := g4) Try.results12 _ _ _ _ _ _ rfl H20.out Try.underlying27 rfl info_prod) rfl ⟨none, 0, A2, c2, A3, c3, rfl, (fun w0 h => ⟨nilRows _, Nat.le_refl _, fun _ => rfl, h.r2, h.l2, h.n2, h.r3, h.l3, h.n3⟩), HB20.out⟩
   ·rw [if_neg (fun h => h.elim hg h3)]
    have k3 : (p.kind == 3) = false := by simpa using h3
    clear hn hg h3
    go_enter Try.func12, Try.ntmps12
    go_wp2_with ((with_reducible refine gate_dst (N := 2) rfl ?_); refine box_event ?hg (N := 2) ?hd (cs := pcs p A1 c1 A2 c2 A3 c3) (t := 27) ?hr ?_; (case hd => rfl); (case hg => rfl); (case hr => first | (go_simp; done) | (go_simp; rfl)); intro g2 hg v0 hb1 hbl1; clear hg; have G2 := Aside0.mk hb1; have HB := Aside0.mk hbl1; clear hb1 hbl1; refine Hid.out ?_)
    refine Lib.hid ?_
    go_wp2_with (first
     | ((with_reducible refine gate_dst (N := 4) rfl ?_); refine box_event ?hg (N := 4) ?hd (cs := pzs) (t := 27) ?hr ?_; (case hd => rfl); (case hg => rfl); (case hr => first | (go_simp; done) | (go_simp; rfl)); intro g4 hg w4 hb1 hbl1; have ge4 := (show w.heap.size ≤ g4 by rw [hg]; exact HB.out.size); have ne42 := (show g4 ≠ g2 by have := blk_lt G2.out; omega); clear hg; have G2 := Aside0.mk (Pd.blk_below G2.out hbl1); have G4 := Aside0.mk hb1; have HB := Aside0.mk (below_step HB.out hbl1); clear hb1 hbl1)
     | (go_at_call 22; (with_reducible refine (plain_any _).mono ?_); rintro e w5 ⟨rfl, hb⟩; have G2 := Aside0.mk (Pd.blk_below G2.out hb); have G4 := Aside0.mk (Pd.blk_below G4.out hb); have HB := Aside0.mk (below_step HB.out hb); clear hb)
     | ((with_reducible refine gate_dst (N := 5) rfl ?_); refine copy_event rfl (N := 5) rfl rfl rfl (t := 27) (v := .tmp 6) rfl (cs := plainC) (zs := pzs) ?hr rfl rfl info_prod ?hz plainC_one ?_; (case hr => first | (go_simp; done) | (go_simp; rfl)); (case hz => rfl); intro g5 hg w6 hb0 hb; have ge5 := (show w.heap.size ≤ g5 by rw [hg]; exact HB.out.size); have ne52 := (show g5 ≠ g2 by have := blk_lt G2.out; omega); have ne54 := (show g5 ≠ g4 by have := blk_lt G4.out; omega); clear hg; have G2 := Aside0.mk (Pd.blk_below G2.out hb); have G4 := Aside0.mk (Pd.blk_below G4.out hb); have G5 := Aside0.mk hb0; have HB := Aside0.mk (below_step HB.out hb); clear hb0 hb)
     | ((with_reducible refine gate_dst (N := 7) rfl ?_); refine wpList_load_row rfl 27 (.tmp 2) rfl g2 rfl 27 _ (0, 0) _ G2.out Try.underlying27 rfl info_prod ?_)
     | (go_at_call 30; (with_reducible refine (CK.out _ HB.out).mono ?_); rintro e w7 ⟨rfl, hb⟩; have G2 := Aside0.mk (Pd.blk_below G2.out hb); have G4 := Aside0.mk (Pd.blk_below G4.out hb); have G5 := Aside0.mk (Pd.blk_below G5.out hb); have HB := Aside0.mk (below_step HB.out hb); clear hb)
     | ((with_reducible refine gate_dst (N := 10) rfl ?_); refine wpList_load_row rfl 27 (.tmp 2) rfl g2 rfl 27 _ (0, 0) _ G2.out Try.underlying27 rfl info_prod ?_)
     | ((with_reducible refine gate_store (t := 27) (p := 5) rfl ?_); refine row_event rfl (t := 27) (p := 5) (v := .tmp 10) rfl rfl (g := g5) (cs := pcs p A1 c1 A2 c2 A3 c3) (zs := plainC) rfl rfl G5.out info_prod rfl (pcs_one _ _ _ _ _ _ _) ?_; intro w8 hb8 hbut; have G5 := Aside0.mk hb8; have G2 := Aside0.mk ((hbut.block g2 (blk_lt G2.out) (Ne.symm ne52)).trans G2.out); have G4 := Aside0.mk ((hbut.block g4 (blk_lt G4.out) (Ne.symm ne54)).trans G4.out); have HB := Aside0.mk (But.below HB.out HB.out.size ge5 hbut); clear hb8 hbut; refine Hid.out ?_))
    refine Lib.hid ?_
    try go_frame
    obtain ⟨-, -, -, u3, -, u5, u6, -, u8, -, -, -, -, -, -, -, -, -, -⟩ := pc_cells G5.out
    have f5 := frozen_of_row w8 g5 5 _ _ G5.out
    have f6 := frozen_of_row w8 g5 6 _ _ G5.out
    have f8 := frozen_of_row w8 g5 8 _ _ G5.out
    have bfin : ((w8.setCell ⟨g5, 5, none⟩ (.int .i64 n)).setCell ⟨g5, 8, none⟩ (.slice none 0 0)).heap[g5]? = some (.cells (pcs { p with times := n, resets := [] } none 0 A2 c2 A3 c3) 27 (0, 0)) := (heap_setCell_same _ g5 8 _ _ _ (heap_setCell_same _ g5 5 _ _ _ G5.out)).trans rfl
    have hbut : H.But g5 w8 ((w8.setCell ⟨g5, 5, none⟩ (.int .i64 n)).setCell ⟨g5, 8, none⟩ (.slice none 0 0)) := (((H.But.of (Below.refl w8.heap.size w8)).setCell (p := ⟨g5, 5, none⟩) (Or.inl rfl) (.int .i64 n)).setCell (p := ⟨g5, 8, none⟩) (Or.inl rfl) (.slice none 0 0))
    have g4fin : ((w8.setCell ⟨g5, 5, none⟩ (.int .i64 n)).setCell ⟨g5, 8, none⟩ (.slice none 0 0)).heap[g4]? = some (.cells pzs 27 (0, 0)) := (hbut.block g4 (blk_lt G4.out) (Ne.symm ne54)).trans G4.out
    have hbfin : Below w.heap.size w ((w8.setCell ⟨g5, 5, none⟩ (.int .i64 n)).setCell ⟨g5, 8, none⟩ (.slice none 0 0)) := But.below HB.out HB.out.size ge5 hbut
    have F5 := Aside0.mk bfin
    have F4 := Aside0.mk g4fin
    have FB := Aside0.mk hbfin
    clear bfin hbut g4fin hbfin
    go_wp2_with (first
     | ((with_reducible refine gate_dst (N := 89) rfl ?_); refine wpList_load_row rfl 27 (.tmp 5) rfl g5 rfl 27 _ (0, 0) _ F5.out Try.underlying27 rfl info_prod ?_)
     | ((with_reducible refine gate_store (t := 27) (p := 4) rfl ?_); refine Hid.out ?_))
    refine Lib.hid ?_
    refine row_event rfl (t := 27) (p := 4) (v := .tmp 89) rfl rfl (g := g4) (cs := pcs { p with times := n, resets := [] } none 0 A2 c2 A3 c3) (zs := pzs) rfl rfl F4.out info_prod rfl (pcs_one _ _ _ _ _ _ _) ?_
    intro w20 hb20 hbut20
    have H20 := Aside0.mk hb20
    have HB20 := Aside0.mk (But.below FB.out FB.out.size ge4 hbut20)
    clear hb20 hbut20
    try go_frame
    go_wp2_with fail
    exact bodyPost_ret (v := pv { p with times := n, resets := [] } none 0 A2 c2 A3 c3) (results_cell_row (g := g4) Try.results12 _ _ _ _ _ _ rfl H20.out Try.underlying27 rfl info_prod) rfl ⟨none, 0, A2, c2, A3, c3, rfl, (fun w0 h => ⟨nilRows _, Nat.le_refl _, fun _ => rfl, h.r2, h.l2, h.n2, h.r3, h.l3, h.n3⟩), HB20.out⟩
 ·have k1 : decide (n < p.times) = false := decide_eq_false hn
  rw [if_neg hn]
  unfold nearD
  by_cases hg : p.times ≤ p.grace
  ·rw [if_pos (Or.inl hg)]
   have k2 : decide (p.times ≤ p.grace) = true := decide_eq_true hg
   clear hn hg
   go_enter Try.func12, Try.ntmps12
   go_wp2_with ((with_reducible refine gate_dst (N := 2) rfl ?_); refine box_event ?hg (N := 2) ?hd (cs := pcs p A1 c1 A2 c2 A3 c3) (t := 27) ?hr ?_; (case hd => rfl); (case hg => rfl); (case hr => first | (go_simp; done) | (go_simp; rfl)); intro g2 hg v0 hb1 hbl1; clear hg; have G2 := Aside0.mk hb1; have HB := Aside0.mk hbl1; clear hb1 hbl1; refine Hid.out ?_)
   refine Lib.hid ?_
   go_wp2_with (first
    | ((with_reducible refine gate_dst (N := 4) rfl ?_); refine box_event ?hg (N := 4) ?hd (cs := pzs) (t := 27) ?hr ?_; (case hd => rfl); (case hg => rfl); (case hr => first | (go_simp; done) | (go_simp; rfl)); intro g4 hg w4 hb1 hbl1; have ge4 := (show w.heap.size ≤ g4 by rw [hg]; exact HB.out.size); have ne42 := (show g4 ≠ g2 by have := blk_lt G2.out; omega); clear hg; have G2 := Aside0.mk (Pd.blk_below G2.out hbl1); have G4 := Aside0.mk hb1; have HB := Aside0.mk (below_step HB.out hbl1); clear hb1 hbl1)
    | (go_at_call 22; (with_reducible refine (plain_any _).mono ?_); rintro e w5 ⟨rfl, hb⟩; have G2 := Aside0.mk (Pd.blk_below G2.out hb); have G4 := Aside0.mk (Pd.blk_below G4.out hb); have HB := Aside0.mk (below_step HB.out hb); clear hb)
    | ((with_reducible refine gate_dst (N := 5) rfl ?_); refine copy_event rfl (N := 5) rfl rfl rfl (t := 27) (v := .tmp 6) rfl (cs := plainC) (zs := pzs) ?hr rfl rfl info_prod ?hz plainC_one ?_; (case hr => first | (go_simp; done) | (go_simp; rfl)); (case hz => rfl); intro g5 hg w6 hb0 hb; have ge5 := (show w.heap.size ≤ g5 by rw [hg]; exact HB.out.size); have ne52 := (show g5 ≠ g2 by have := blk_lt G2.out; omega); have ne54 := (show g5 ≠ g4 by have := blk_lt G4.out; omega); clear hg; have G2 := Aside0.mk (Pd.blk_below G2.out hb); have G4 := Aside0.mk (Pd.blk_below G4.out hb); have G5 := Aside0.mk hb0; have HB := Aside0.mk (below_step HB.out hb); clear hb0 hb)
    | ((with_reducible refine gate_dst (N := 7) rfl ?_); refine wpList_load_row rfl 27 (.tmp 2) rfl g2 rfl 27 _ (0, 0) _ G2.out Try.underlying27 rfl info_prod ?_)
    | (go_at_call 30; (with_reducible refine (CK.out _ HB.out).mono ?_); rintro e w7 ⟨rfl, hb⟩; have G2 := Aside0.mk (Pd.blk_below G2.out hb); have G4 := Aside0.mk (Pd.blk_below G4.out hb); have G5 := Aside0.mk (Pd.blk_below G5.out hb); have HB := Aside0.mk (below_step HB.out hb); clear hb)
    | ((with_reducible refine gate_dst (N := 10) rfl ?_); refine wpList_load_row rfl 27 (.tmp 2) rfl g2 rfl 27 _ (0, 0) _ G2.out Try.underlying27 rfl info_prod ?_)
    | ((with_reducible refine gate_store (t := 27) (p := 5) rfl ?_); refine row_event rfl (t := 27) (p := 5) (v := .tmp 10) rfl rfl (g := g5) (cs := pcs p A1 c1 A2 c2 A3 c3) (zs := plainC) rfl rfl G5.out info_prod rfl (pcs_one _ _ _ _ _ _ _) ?_; intro w8 hb8 hbut; have G5 := Aside0.mk hb8; have G2 := Aside0.mk ((hbut.block g2 (blk_lt G2.out) (Ne.symm ne52)).trans G2.out); have G4 := Aside0.mk ((hbut.block g4 (blk_lt G4.out) (Ne.symm ne54)).trans G4.out); have HB := Aside0.mk (But.below HB.out HB.out.size ge5 hbut); clear hb8 hbut; refine Hid.out ?_))
   refine Lib.hid ?_
   try go_frame
   obtain ⟨-, -, -, u3, -, u5, u6, -, u8, -, -, -, -, -, -, -, -, -, -⟩ := pc_cells G5.out
   have f5 := frozen_of_row w8 g5 5 _ _ G5.out
   have f6 := frozen_of_row w8 g5 6 _ _ G5.out
   have f8 := frozen_of_row w8 g5 8 _ _ G5.out
   have bfin : (w8.setCell ⟨g5, 6, none⟩ (.int .i64 0)).heap[g5]? = some (.cells (pcs { p with grace := 0 } A1 c1 A2 c2 A3 c3) 27 (0, 0)) := (heap_setCell_same _ g5 6 _ _ _ G5.out).trans rfl
   have hbut : H.But g5 w8 (w8.setCell ⟨g5, 6, none⟩ (.int .i64 0)) := ((H.But.of (Below.refl w8.heap.size w8)).setCell (p := ⟨g5, 6, none⟩) (Or.inl rfl) (.int .i64 0))
   have g4fin : (w8.setCell ⟨g5, 6, none⟩ (.int .i64 0)).heap[g4]? = some (.cells pzs 27 (0, 0)) := (hbut.block g4 (blk_lt G4.out) (Ne.symm ne54)).trans G4.out
   have hbfin : Below w.heap.size w (w8.setCell ⟨g5, 6, none⟩ (.int .i64 0)) := But.below HB.out HB.out.size ge5 hbut
   have F5 := Aside0.mk bfin
   have F4 := Aside0.mk g4fin
   have FB := Aside0.mk hbfin
   clear bfin hbut g4fin hbfin
   go_wp2_with (first
    | ((with_reducible refine gate_dst (N := 89) rfl ?_); refine wpList_load_row rfl 27 (.tmp 5) rfl g5 rfl 27 _ (0, 0) _ F5.out Try.underlying27 rfl info_prod ?_)
    | ((with_reducible refine gate_store (t := 27) (p := 4) rfl ?_); refine Hid.out ?_))
   refine Lib.hid ?_
   refine row_event rfl (t := 27) (p := 4) (v := .tmp 89) rfl rfl (g := g4) (cs := pcs { p with grace := 0 } A1 c1 A2 c2 A3 c3) (zs := pzs) rfl rfl F4.out info_prod rfl (pcs_one _ _ _ _ _ _ _) ?_
   intro w20 hb20 hbut20
   have H20 := Aside0.mk hb20
   have HB20 := Aside0.mk (But.below FB.out FB.out.size ge4 hbut20)
   clear hb20 hbut20
   try go_frame
   go_wp2_with fail
   exact bodyPost_ret (v := pv { p with grace := 0 } A1 c1 A2 c2 A3 c3) (results_cell_row (g := g4) Try.results12 _ _ _ _ _ _ rfl H20.out Try.underlying27 rfl info_prod) rfl ⟨A1, c1, A2, c2, A3, c3, rfl, (fun w0 h => ⟨h.r1, h.l1, h.n1, h.r2, h.l2, h.n2, h.r3, h.l3, h.n3⟩), HB20.out⟩
  ·have k2 : decide (p.times ≤ p.grace) = false := decide_eq_false hg
   by_cases h3 : p.kind = 3
   ·rw [if_pos (Or.inr h3)]
    have k3 : (p.kind == 3) = true := by simpa using h3
    clear hn hg h3
    go_enter Try.func12, Try.ntmps12
    go_wp2_with ((with_reducible refine gate_dst (N := 2) rfl ?_); refine box_event ?hg (N := 2) ?hd (cs := pcs p A1 c1 A2 c2 A3 c3) (t := 27) ?hr ?_; (case hd => rfl); (case hg => rfl); (case hr => first | (go_simp; done) | (go_simp; rfl)); intro g2 hg v0 hb1 hbl1; clear hg; have G2 := Aside0.mk hb1; have HB := Aside0.mk hbl1; clear hb1 hbl1; refine Hid.out ?_)
    refine Lib.hid ?_
    go_wp2_with (first
     | ((with_reducible refine gate_dst (N := 4) rfl ?_); refine box_event ?hg (N := 4) ?hd (cs := pzs) (t := 27) ?hr ?_; (case hd => rfl); (case hg => rfl); (case hr => first | (go_simp; done) | (go_simp; rfl)); intro g4 hg w4 hb1 hbl1; have ge4 := (show w.heap.size ≤ g4 by rw [hg]; exact HB.out.size); have ne42 := (show g4 ≠ g2 by have := blk_lt G2.out; omega); clear hg; have G2 := Aside0.mk (Pd.blk_below G2.out hbl1); have G4 := Aside0.mk hb1; have HB := Aside0.mk (below_step HB.out hbl1); clear hb1 hbl1)
     | (go_at_call 22; (with_reducible refine (plain_any _).mono ?_); rintro e w5 ⟨rfl, hb⟩; have G2 := Aside0.mk (Pd.blk_below G2.out hb); have G4 := Aside0.mk (Pd.blk_below G4.out hb); have HB := Aside0.mk (below_step HB.out hb); clear hb)
     | ((with_reducible refine gate_dst (N := 5) rfl ?_); refine copy_event rfl (N := 5) rfl rfl rfl (t := 27) (v := .tmp 6) rfl (cs := plainC) (zs := pzs) ?hr rfl rfl info_prod ?hz plainC_one ?_; (case hr => first | (go_simp; done) | (go_simp; rfl)); (case hz => rfl); intro g5 hg w6 hb0 hb; have ge5 := (show w.heap.size ≤ g5 by rw [hg]; exact HB.out.size); have ne52 := (show g5 ≠ g2 by have := blk_lt G2.out; omega); have ne54 := (show g5 ≠ g4 by have := blk_lt G4.out; omega); clear hg; have G2 := Aside0.mk (Pd.blk_below G2.out hb); have G4 := Aside0.mk (Pd.blk_below G4.out hb); have G5 := Aside0.mk hb0; have HB := Aside0.mk (below_step HB.out hb); clear hb0 hb)
     | ((with_reducible refine gate_dst (N := 7) rfl ?_); refine wpList_load_row rfl 27 (.tmp 2) rfl g2 rfl 27 _ (0, 0) _ G2.out Try.underlying27 rfl info_prod ?_)
     | (go_at_call 30; (with_reducible refine (CK.out _ HB.out).mono ?_); rintro e w7 ⟨rfl, hb⟩; have G2 := Aside0.mk (Pd.blk_below G2.out hb); have G4 := Aside0.mk (Pd.blk_below G4.out hb); have G5 := Aside0.mk (Pd.blk_below G5.out hb); have HB := Aside0.mk (below_step HB.out hb); clear hb)
     | ((with_reducible refine gate_dst (N := 10) rfl ?_); refine wpList_load_row rfl 27 (.tmp 2) rfl g2 rfl 27 _ (0, 0) _ G2.out Try.underlying27 rfl info_prod ?_)
     | ((with_reducible refine gate_store (t := 27) (p := 5) rfl ?_); refine row_event rfl (t := 27) (p := 5) (v := .tmp 10) rfl rfl (g := g5) (cs := pcs p A1 c1 A2 c2 A3 c3) (zs := plainC) rfl rfl G5.out info_prod rfl (pcs_one _ _ _ _ _ _ _) ?_; intro w8 hb8 hbut; have G5 := Aside0.mk hb8; have G2 := Aside0.mk ((hbut.block g2 (blk_lt G2.out) (Ne.symm ne52)).trans G2.out); have G4 := Aside0.mk ((hbut.block g4 (blk_lt G4.out) (Ne.symm ne54)).trans G4.out); have HB := Aside0.mk (But.below HB.out HB.out.size ge5 hbut); clear hb8 hbut; refine Hid.out ?_))
    refine Lib.hid ?_
    try go_frame
    obtain ⟨-, -, -, u3, -, u5, u6, -, u8, -, -, -, -, -, -, -, -, -, -⟩ := pc_cells G5.out
    have f5 := frozen_of_row w8 g5 5 _ _ G5.out
    have f6 := frozen_of_row w8 g5 6 _ _ G5.out
    have f8 := frozen_of_row w8 g5 8 _ _ G5.out
    have bfin : (w8.setCell ⟨g5, 6, none⟩ (.int .i64 0)).heap[g5]? = some (.cells (pcs { p with grace := 0 } A1 c1 A2 c2 A3 c3) 27 (0, 0)) := (heap_setCell_same _ g5 6 _ _ _ G5.out).trans rfl
    have hbut : H.But g5 w8 (w8.setCell ⟨g5, 6, none⟩ (.int .i64 0)) := ((H.But.of (Below.refl w8.heap.size w8)).setCell (p := ⟨g5, 6, none⟩) (Or.inl rfl) (.int .i64 0))
    have g4fin : (w8.setCell ⟨g5, 6, none⟩ (.int .i64 0)).heap[g4]? = some (.cells pzs 27 (0, 0)) := (hbut.block g4 (blk_lt G4.out) (Ne.symm ne54)).trans G4.out
    have hbfin : Below w.heap.size w (w8.setCell ⟨g5, 6, none⟩ (.int .i64 0)) := But.below HB.out HB.out.size ge5 hbut
    have F5 := Aside0.mk bfin
    have F4 := Aside0.mk g4fin
    have FB := Aside0.mk hbfin
    clear bfin hbut g4fin hbfin
    go_wp2_with (first
     | ((with_reducible refine gate_dst (N := 89) rfl ?_); refine wpList_load_row rfl 27 (.tmp 5) rfl g5 rfl 27 _ (0, 0) _ F5.out Try.underlying27 rfl info_prod ?_)
     | ((with_reducible refine gate_store (t := 27) (p := 4) rfl ?_); refine Hid.out ?_))
    refine Lib.hid ?_
    refine row_event rfl (t := 27) (p := 4) (v := .tmp 89) rfl rfl (g := g4) (cs := pcs { p with grace := 0 } A1 c1 A2 c2 A3 c3) (zs := pzs) rfl rfl F4.out info_prod rfl (pcs_one _ _ _ _ _ _ _) ?_
    intro w20 hb20 hbut20
    have H20 := Aside0.mk hb20
    have HB20 := Aside0.mk (But.below FB.out FB.out.size ge4 hbut20)
    clear hb20 hbut20
    try go_frame
    go_wp2_with fail
    exact bodyPost_ret (v := pv { p with grace := 0 } A1 c1 A2 c2 A3 c3) (results_cell_row (g := g4) Try.results12 _ _ _ _ _ _ rfl H20.out Try.underlying27 rfl info_prod) rfl ⟨A1, c1, A2, c2, A3, c3, rfl, (fun w0 h => ⟨h.r1, h.l1, h.n1, h.r2, h.l2, h.n2, h.r3, h.l3, h.n3⟩), HB20.out⟩
   ·rw [if_neg (fun h => h.elim hg h3)]
    have k3 : (p.kind == 3) = false := by simpa using h3
    clear hn hg h3
    go_enter Try.func12, Try.ntmps12
    go_wp2_with ((with_reducible refine gate_dst (N := 2) rfl ?_); refine box_event ?hg (N := 2) ?hd (cs := pcs p A1 c1 A2 c2 A3 c3) (t := 27) ?hr ?_; (case hd => rfl); (case hg => rfl); (case hr => first | (go_simp; done) | (go_simp; rfl)); intro g2 hg v0 hb1 hbl1; clear hg; have G2 := Aside0.mk hb1; have HB := Aside0.mk hbl1; clear hb1 hbl1; refine Hid.out ?_)
    refine Lib.hid ?_
    go_wp2_with (first
     | ((with_reducible refine gate_dst (N := 4) rfl ?_); refine box_event ?hg (N := 4) ?hd (cs := pzs) (t := 27) ?hr ?_; (case hd => rfl); (case hg => rfl); (case hr => first | (go_simp; done) | (go_simp; rfl)); intro g4 hg w4 hb1 hbl1; have ge4 := (show w.heap.size ≤ g4 by rw [hg]; exact HB.out.size); have ne42 := (show g4 ≠ g2 by have := blk_lt G2.out; omega); clear hg; have G2 := Aside0.mk (Pd.blk_below G2.out hbl1); have G4 := Aside0.mk hb1; have HB := Aside0.mk (below_step HB.out hbl1); clear hb1 hbl1)
     | (go_at_call 22; (with_reducible refine (plain_any _).mono ?_); rintro e w5 ⟨rfl, hb⟩; have G2 := Aside0.mk (Pd.blk_below G2.out hb); have G4 := Aside0.mk (Pd.blk_below G4.out hb); have HB := Aside0.mk (below_step HB.out hb); clear hb)
     | ((with_reducible refine gate_dst (N := 5) rfl ?_); refine copy_event rfl (N := 5) rfl rfl rfl (t := 27) (v := .tmp 6) rfl (cs := plainC) (zs := pzs) ?hr rfl rfl info_prod ?hz plainC_one ?_; (case hr => first | (go_simp; done) | (go_simp; rfl)); (case hz => rfl); intro g5 hg w6 hb0 hb; have ge5 := (show w.heap.size ≤ g5 by rw [hg]; exact HB.out.size); have ne52 := (show g5 ≠ g2 by have := blk_lt G2.out; omega); have ne54 := (show g5 ≠ g4 by have := blk_lt G4.out; omega); clear hg; have G2 := Aside0.mk (Pd.blk_below G2.out hb); have G4 := Aside0.mk (Pd.blk_below G4.out hb); have G5 := Aside0.mk hb0; have HB := Aside0.mk (below_step HB.out hb); clear hb0 hb)
     | ((with_reducible refine gate_dst (N := 7) rfl ?_); refine wpList_load_row rfl 27 (.tmp 2) rfl g2 rfl 27 _ (0, 0) _ G2.out Try.underlying27 rfl info_prod ?_)
     | (go_at_call 30; (with_reducible refine (CK.out _ HB.out).mono ?_); rintro e w7 ⟨rfl, hb⟩; have G2 := Aside0.mk (Pd.blk_below G2.out hb); have G4 := Aside0.mk (Pd.blk_below G4.out hb); have G5 := Aside0.mk (Pd.blk_below G5.out hb); have HB := Aside0.mk (below_step HB.out hb); clear hb)
     | ((with_reducible refine gate_dst (N := 10) rfl ?_); refine wpList_load_row rfl 27 (.tmp 2) rfl g2 rfl 27 _ (0, 0) _ G2.out Try.underlying27 rfl info_prod ?_)
     | ((with_reducible refine gate_store (t := 27) (p := 5) rfl ?_); refine row_event rfl (t := 27) (p := 5) (v := .tmp 10) rfl rfl (g := g5) (cs := pcs p A1 c1 A2 c2 A3 c3) (zs := plainC) rfl rfl G5.out info_prod rfl (pcs_one _ _ _ _ _ _ _) ?_; intro w8 hb8 hbut; have G5 := Aside0.mk hb8; have G2 := Aside0.mk ((hbut.block g2 (blk_lt G2.out) (Ne.symm ne52)).trans G2.out); have G4 := Aside0.mk ((hbut.block g4 (blk_lt G4.out) (Ne.symm ne54)).trans G4.out); have HB := Aside0.mk (But.below HB.out HB.out.size ge5 hbut); clear hb8 hbut; refine Hid.out ?_))
    refine Lib.hid ?_
    try go_frame
    obtain ⟨-, -, -, u3, -, u5, u6, -, u8, -, -, -, -, -, -, -, -, -, -⟩ := pc_cells G5.out
    have f5 := frozen_of_row w8 g5 5 _ _ G5.out
    have f6 := frozen_of_row w8 g5 6 _ _ G5.out
    have f8 := frozen_of_row w8 g5 8 _ _ G5.out
    have bfin : w8.heap[g5]? = some (.cells (pcs p A1 c1 A2 c2 A3 c3) 27 (0, 0)) := G5.out
    have hbut : H.But g5 w8 w8 := (H.But.of (Below.refl w8.heap.size w8))
    have g4fin : w8.heap[g4]? = some (.cells pzs 27 (0, 0)) := (hbut.block g4 (blk_lt G4.out) (Ne.symm ne54)).trans G4.out
    have hbfin : Below w.heap.size w w8 := But.below HB.out HB.out.size ge5 hbut
    have F5 := Aside0.mk bfin
    have F4 := Aside0.mk g4fin
    have FB := Aside0.mk hbfin
    clear bfin hbut g4fin hbfin
    go_wp2_with (first
     | ((with_reducible refine gate_dst (N := 89) rfl ?_); refine wpList_load_row rfl 27 (.tmp 5) rfl g5 rfl 27 _ (0, 0) _ F5.out Try.underlying27 rfl info_prod ?_)
     | ((with_reducible refine gate_store (t := 27) (p := 4) rfl ?_); refine Hid.out ?_))
    refine Lib.hid ?_
    refine row_event rfl (t := 27) (p := 4) (v := .tmp 89) rfl rfl (g := g4) (cs := pcs p A1 c1 A2 c2 A3 c3) (zs := pzs) rfl rfl F4.out info_prod rfl (pcs_one _ _ _ _ _ _ _) ?_
    intro w20 hb20 hbut20
    have H20 := Aside0.mk hb20
    have HB20 := Aside0.mk (But.below FB.out FB.out.size ge4 hbut20)
    clear hb20 hbut20
    try go_frame
    go_wp2_with fail
    exact bodyPost_ret (v := pv p A1 c1 A2 c2 A3 c3) (results_cell_row (g := g4) Try.results12 _ _ _ _ _ _ rfl H20.out Try.underlying27 rfl info_prod) rfl ⟨A1, c1, A2, c2, A3, c3, rfl, (fun w0 h => ⟨h.r1, h.l1, h.n1, h.r2, h.l2, h.n2, h.r3, h.l3, h.n3⟩), HB20.out⟩
end Go.Proofs.Ytcfpkkgdofblfaa.Du
/- quittanceplay.Product, where the product may not be: one that is near. -/
namespace Go.Proofs.Ytcfpkkgdofblfaa.Du
open Go.RowKit Go.Proofs.YtcfpkkgdofblfaaW.PrintWords Go.Proofs.YtcfpkkgdofblfaaW.PrintLast Go.Proofs.YtcfpkkgdofblfaaW.PrintMore Go.Proofs.Ytcfpkkgdofblfaa.HW
open Go.Proofs.Ytcfpkkgdofblfaa.Math Go.Proofs.Ytcfpkkgdofblfaa.H Go.Proofs.Ytcfpkkgdofblfaa.Pd Pm
set_option linter.unusedVariables false
set_option linter.unusedSimpArgs false
section
variable {P : Program} {ops : Array Oper} {rest : List Oper} {a : Act} {Q : Exit → Act → World → Prop}
theorem But.one (g i : Nat) (W : World) (x : Value) : H.But g W (W.setCell ⟨g, i, none⟩ x) := (H.But.of (Below.refl W.heap.size W)).setCell (p := ⟨g, i, none⟩) (Or.inl rfl) x
theorem put_event {W : World} {o : Oper} (hgd : o.guard = none) {t : TypeId} {p : Tmp} {v : Operand} (_ho : o.op = .store t (.tmp p) v) (hd : o.dst = none) {g i : Nat} {cs cs' : Array Value} {T : TypeId} {x : Value}
  (hrun : (execOp a.eval o).run P W = .ok .skip (W.setCell ⟨g, i, none⟩ x)) (hb : W.heap[g]? = some (.cells cs T (0, 0))) (hc : cs.setIfInBounds i x = cs')
  (h : ∀ w1, w1.heap[g]? = some (.cells cs' T (0, 0)) → H.But g W w1 → wpList P ops Q rest a w1) : wpList P ops Q (o :: rest) a W := by
 refine store_event hgd _ho hd hrun ?_
 rintro w' rfl
 exact h _ (by rw [heap_setCell_same W g i cs T x hb, hc]) (But.one g i W x)
theorem lit_event {W : World} {o : Oper} (hgd : o.guard = none) {N : Tmp} (_hd : o.dst = some N) {cs : Array Value} {t : TypeId} {n : Nat}
  (hrun : (execOp a.eval o).run P W = .ok (.value (.slice (some ⟨W.heap.size, 0, none⟩) n n)) (W.alloc (.cells cs t (0, 0))))
  (h : ∀ g, g = W.heap.size → ∀ w1, w1.heap[g]? = some (.cells cs t (0, 0)) → Below W.heap.size W w1 → wpList P ops Q rest (a.put o.dst (.slice (some ⟨g, 0, none⟩) n n)) w1) : wpList P ops Q (o :: rest) a W :=
 Kd.event_run hgd hrun (h _ rfl _ (blk_new W _) (below_alloc (Below.refl _ _) _))
end
theorem U_nat (x : Int) (m : Nat) (h : 0 < m) (h2 : m ≤ 1000000000) : ∃ r : Nat, r < m ∧ U x m = (r : Int) := by
 have b := U_bd x (m := (m : Int)) (by omega)
 exact ⟨(U x m).toNat, by omega, by omega⟩
theorem pick2 (x : Int) : ∃ r : Nat, (r : Int) < 2 ∧ IntKind.i64.wrap (Int.tmod (IntKind.u64.wrap x) 2) = (r : Int) ∧ (#[Value.int .i64 1, .int .i64 3] : Array Value)[r]? = some (.int .i64 (if U x 2 = 0 then (1 : Int) else 3)) := by
 obtain ⟨r, hr, e⟩ := U_nat x 2 (by omega) (by omega)
 have e2 : U x 2 = (r : Int) := e
 refine ⟨r, by omega, (U_is x (m := 2) (by omega) (by omega)).trans e2, ?_⟩
 rw [e2]
 rcases (by omega : r = 0 ∨ r = 1) with rfl | rfl <;> rfl
theorem pick6 (x : Int) : ∃ r : Nat, (r : Int) < 6 ∧ IntKind.i64.wrap (Int.tmod (IntKind.u64.wrap x) 6) = (r : Int) ∧ (#[Value.int .i64 1, .int .i64 2, .int .i64 3, .int .i64 4, .int .i64 6, .int .i64 12] : Array Value)[r]? = some (.int .i64 (if U x 6 = 0 then (1 : Int) else if U x 6 = 1 then 2 else if U x 6 = 2 then 3 else if U x 6 = 3 then 4 else if U x 6 = 4 then 6 else 12)) := by
 obtain ⟨r, hr, e⟩ := U_nat x 6 (by omega) (by omega)
 have e2 : U x 6 = (r : Int) := e
 refine ⟨r, by omega, (U_is x (m := 6) (by omega) (by omega)).trans e2, ?_⟩
 rw [e2]
 rcases (by omega : r = 0 ∨ r = 1 ∨ r = 2 ∨ r = 3 ∨ r = 4 ∨ r = 5) with rfl | rfl | rfl | rfl | rfl | rfl <;> rfl
set_option maxRecDepth 100000 in
set_option maxHeartbeats 8000000 in
theorem near_not (p : Prod) (A1 : Option Addr) (c1 : Nat) (A2 : Option Addr) (c2 : Nat) (A3 : Option Addr) (c3 : Nat) (n : Int) (w : World) (hp : ProdAt w p A1 c1 A2 c2 A3 c3) (hs : Held p) (ho : ok p = false) (n1 : 1 ≤ n) (n2 : n ≤ 1000) :
  Calls Try.prog 12 #[pv p A1 c1 A2 c2 A3 c3, .int .i64 n] w (NearE p A1 c1 A2 c2 A3 c3 (nearP p n) w) := by
 have er : err p = 9 := by unfold err; rw [ho]; rfl
 have en : nearP p n = nearB p n := by unfold nearP; rw [if_neg (by rw [ho]; decide)]; unfold nearD; split <;> rfl
 have HP := Aside0.mk hp
 have CK := Aside0.mk (fun w1 (hb : Below w.heap.size w w1) => rcheck_any p A1 c1 A2 c2 A3 c3 w1 (HP.out.below hb) hs)
 rw [er] at CK
 obtain ⟨x2, hx2⟩ : ∃ x, x = (if U p.round 2 = 0 then (1 : Int) else 3) := ⟨_, rfl⟩
 obtain ⟨x6, hx6⟩ : ∃ x, x = (if U p.every 6 = 0 then (1 : Int) else if U p.every 6 = 1 then 2 else if U p.every 6 = 2 then 3 else if U p.every 6 = 3 then 4 else if U p.every 6 = 4 then 6 else 12) := ⟨_, rfl⟩
 obtain ⟨qf, hqf⟩ : ∃ q, q = (show Prod from { plainP with count := 1 + U p.count 3, kind := 1 + U p.kind 3, round := x2, every := x6, times := 1 + U p.times n, rate := U p.rate 300000000, penalty := U p.penalty 500000000, over := 1 + U p.over 3 }) := ⟨_, rfl⟩
 have en2 : nearB p n = qf := by rw [hqf, hx2, hx6]; rfl
 have HQ := Aside0.mk hqf
 clear hqf
 rw [en, en2]
 have m1 := U_is p.count (m := 3) (by omega) (by omega)
 obtain ⟨b1a, b1b⟩ := U_bd p.count (m := 3) (by omega)
 have m3 := U_is p.kind (m := 3) (by omega) (by omega)
 obtain ⟨b3a, b3b⟩ := U_bd p.kind (m := 3) (by omega)
 obtain ⟨r2, r2b, m2, p2⟩ := pick2 p.round
 obtain ⟨r6, r6b, m6, p6⟩ := pick6 p.every
 have m5 := U_is p.times (m := n) (by omega) (by omega)
 obtain ⟨b5a, b5b⟩ := U_bd p.times (m := n) (by omega)
 have m7 := U_is p.rate (m := 300000000) (by omega) (by omega)
 have m9 := U_is p.penalty (m := 500000000) (by omega) (by omega)
 have m14 := U_is p.over (m := 3) (by omega) (by omega)
 obtain ⟨b14a, b14b⟩ := U_bd p.over (m := 3) (by omega)
 have mn : IntKind.u64.wrap n = n := by show n % 18446744073709551616 = n; omega
 have nz : (n == 0) = false := by simp; omega
 rw [← hx2] at p2
 rw [← hx6] at p6
 clear hx2 hx6 en2
 have P2 := Aside0.mk p2
 have P6 := Aside0.mk p6
 clear hp er en ho hs p2 p6
 go_enter Try.func12, Try.ntmps12
 go_wp2_with ((with_reducible refine gate_dst (N := 2) rfl ?_); refine box_event ?hg (N := 2) ?hd (cs := pcs p A1 c1 A2 c2 A3 c3) (t := 27) ?hr ?_; (case hd => rfl); (case hg => rfl); (case hr => first | (go_simp; done) | (go_simp; rfl)); intro g2 hg v0 hb1 hbl1; clear hg; have G2 := Aside0.mk hb1; have HB := Aside0.mk hbl1; clear hb1 hbl1; refine Hid.out ?_)
 refine Lib.hid ?_
 go_wp2_with (first
  | ((with_reducible refine gate_dst (N := 4) rfl ?_); refine box_event ?hg (N := 4) ?hd (cs := pzs) (t := 27) ?hr ?_; (case hd => rfl); (case hg => rfl); (case hr => first | (go_simp; done) | (go_simp; rfl)); intro g4 hg w4 hb1 hbl1; have ge4 := (show w.heap.size ≤ g4 by rw [hg]; exact HB.out.size); have ne42 := (show g4 ≠ g2 by have := blk_lt G2.out; omega); clear hg; have G2 := Aside0.mk (Pd.blk_below G2.out hbl1); have G4 := Aside0.mk hb1; have HB := Aside0.mk (below_step HB.out hbl1); clear hb1 hbl1)
  | (go_at_call 22; (with_reducible refine (plain_any _).mono ?_); rintro e w5 ⟨rfl, hb⟩; have G2 := Aside0.mk (Pd.blk_below G2.out hb); have G4 := Aside0.mk (Pd.blk_below G4.out hb); have HB := Aside0.mk (below_step HB.out hb); clear hb)
  | ((with_reducible refine gate_dst (N := 5) rfl ?_); refine copy_event rfl (N := 5) rfl rfl rfl (t := 27) (v := .tmp 6) rfl (cs := plainC) (zs := pzs) ?hr rfl rfl info_prod ?hz plainC_one ?_; (case hr => first | (go_simp; done) | (go_simp; rfl)); (case hz => rfl); intro g5 hg w6 hb0 hb; have ge5 := (show w.heap.size ≤ g5 by rw [hg]; exact HB.out.size); have ne52 := (show g5 ≠ g2 by have := blk_lt G2.out; omega); have ne54 := (show g5 ≠ g4 by have := blk_lt G4.out; omega); clear hg; have G2 := Aside0.mk (Pd.blk_below G2.out hb); have G4 := Aside0.mk (Pd.blk_below G4.out hb); have G5 := Aside0.mk hb0; have HB := Aside0.mk (below_step HB.out hb); clear hb0 hb)
  | ((with_reducible refine gate_dst (N := 7) rfl ?_); refine wpList_load_row rfl 27 (.tmp 2) rfl g2 rfl 27 _ (0, 0) _ G2.out Try.underlying27 rfl info_prod ?_)
  | (go_at_call 30; (with_reducible refine (CK.out _ HB.out).mono ?_); rintro e w7 ⟨rfl, hb⟩; have G2 := Aside0.mk (Pd.blk_below G2.out hb); have G4 := Aside0.mk (Pd.blk_below G4.out hb); have G5 := Aside0.mk (Pd.blk_below G5.out hb); have HB := Aside0.mk (below_step HB.out hb); clear hb))
 obtain ⟨-, q1, q2, q3, q4, q5, -, q7, -, q9, -, -, -, -, q14, -, -, -, -⟩ := pc_cells G2.out
 obtain ⟨-, u1, -, u3, -, -, -, -, -, -, -, -, -, -, -, -, -, -, -⟩ := pc_cells (p := plainP) (A1 := none) (c1 := 0) (A2 := none) (c2 := 0) (A3 := none) (c3 := 0) G5.out
 have f1 := frozen_of_row w7 g5 1 _ _ G5.out
 have f3 := frozen_of_row w7 g5 3 _ _ G5.out
 go_region
 obtain ⟨W5, hW5⟩ : ∃ W, W = ((w7.setCell ⟨g5, 1, none⟩ (.int .i64 (1 + U p.count 3))).setCell ⟨g5, 3, none⟩ (.int .i64 (1 + U p.kind 3))).drew := ⟨_, rfl⟩
 rw [← hW5]
 have n5 : W5.heap[g5]? = some (.cells (pcs { plainP with count := 1 + U p.count 3, kind := 1 + U p.kind 3 } none 0 none 0 none 0) 27 (0, 0)) := by rw [hW5]; exact (heap_setCell_same _ g5 3 _ _ _ (heap_setCell_same _ g5 1 _ _ _ G5.out)).trans rfl
 have nb : H.But g5 w7 W5 := by rw [hW5]; exact (let h : H.But g5 w7 ((w7.setCell ⟨g5, 1, none⟩ (.int .i64 (1 + U p.count 3))).setCell ⟨g5, 3, none⟩ (.int .i64 (1 + U p.kind 3))) := (But.one g5 1 w7 _).setCell (p := ⟨g5, 3, none⟩) (Or.inl rfl) _; ⟨h.os, h.tape, h.output, h.size, h.block⟩)
 have n2 := (nb.block g2 (blk_lt G2.out) (Ne.symm ne52)).trans G2.out
 have n4 := (nb.block g4 (blk_lt G4.out) (Ne.symm ne54)).trans G4.out
 have nH := But.below HB.out HB.out.size ge5 nb
 have G5 := Aside0.mk n5
 have G2 := Aside0.mk n2
 have G4 := Aside0.mk n4
 have HB := Aside0.mk nH
 clear hW5 nb n5 n2 n4 nH q1 q2 q3 q4 q5 q7 q9 q14 u1 u3 f1 f3
 obtain ⟨-, q1, q2, q3, q4, q5, -, q7, -, q9, -, -, -, -, q14, -, -, -, -⟩ := pc_cells G2.out
 go_wp2_with (first
  | ((with_reducible refine gate_dst (N := 25) rfl ?_); refine lit_event rfl (N := 25) rfl (cs := #[.int .i64 1, .int .i64 3]) (t := 3) (n := 2) ?hr ?_; (case hr => first | (go_simp; done) | (go_simp; rfl)); intro gl25 hgl wl25 hbl hb; have cl := (blk_cell hbl r2).trans P2.out; have G2 := Aside0.mk (Pd.blk_below G2.out hb); have G4 := Aside0.mk (Pd.blk_below G4.out hb); have G5 := Aside0.mk (Pd.blk_below G5.out hb); have HB := Aside0.mk (below_step HB.out hb); clear hgl hbl hb; obtain ⟨-, q1, q2, q3, q4, q5, -, q7, -, q9, -, -, -, -, q14, -, -, -, -⟩ := pc_cells G2.out; obtain ⟨-, -, u2, -, u4, u5, -, u7, -, u9, -, -, -, -, u14, -, -, -, -⟩ := pc_cells (c1 := 0) (c2 := 0) (c3 := 0) G5.out; have f2 := frozen_of_row wl25 g5 2 _ _ G5.out; have f4 := frozen_of_row wl25 g5 4 _ _ G5.out)
  | ((with_reducible refine gate_store (t := 3) (p := 33) rfl ?_); refine put_event rfl (t := 3) (p := 33) (v := .tmp 32) rfl rfl (g := g5) (i := 2) (cs := pcs { plainP with count := 1 + U p.count 3, kind := 1 + U p.kind 3 } none 0 none 0 none 0) (cs' := pcs { plainP with count := 1 + U p.count 3, kind := 1 + U p.kind 3, round := x2 } none 0 none 0 none 0) (x := .int .i64 x2) ?hr G5.out ?hc ?_; (case hc => rfl); (case hr => go_simp); intro w31 hb8 hbut; have G5 := Aside0.mk hb8; have G2 := Aside0.mk ((hbut.block g2 (blk_lt G2.out) (Ne.symm ne52)).trans G2.out); have G4 := Aside0.mk ((hbut.block g4 (blk_lt G4.out) (Ne.symm ne54)).trans G4.out); have HB := Aside0.mk (But.below HB.out HB.out.size ge5 hbut); clear hb8 hbut; obtain ⟨-, q1, q2, q3, q4, q5, -, q7, -, q9, -, -, -, -, q14, -, -, -, -⟩ := pc_cells G2.out; obtain ⟨-, -, u2, u3, u4, u5, u6, u7, -, u9, -, -, -, -, u14, -, -, -, -⟩ := pc_cells (c1 := 0) (c2 := 0) (c3 := 0) G5.out; have f6 := frozen_of_row w31 g5 6 _ _ G5.out; have f2 := frozen_of_row w31 g5 2 _ _ G5.out; have f4 := frozen_of_row w31 g5 4 _ _ G5.out; have f5 := frozen_of_row w31 g5 5 _ _ G5.out; have f7 := frozen_of_row w31 g5 7 _ _ G5.out; have f9 := frozen_of_row w31 g5 9 _ _ G5.out)
  | ((with_reducible refine gate_dst (N := 34) rfl ?_); refine lit_event rfl (N := 34) rfl (cs := #[.int .i64 1, .int .i64 2, .int .i64 3, .int .i64 4, .int .i64 6, .int .i64 12]) (t := 3) (n := 6) ?hr ?_; (case hr => first | (go_simp; done) | (go_simp; rfl)); intro gl34 hgl wl34 hbl hb; have cl := (blk_cell hbl r6).trans P6.out; have G2 := Aside0.mk (Pd.blk_below G2.out hb); have G4 := Aside0.mk (Pd.blk_below G4.out hb); have G5 := Aside0.mk (Pd.blk_below G5.out hb); have HB := Aside0.mk (below_step HB.out hb); clear hgl hbl hb; obtain ⟨-, q1, q2, q3, q4, q5, -, q7, -, q9, -, -, -, -, q14, -, -, -, -⟩ := pc_cells G2.out; obtain ⟨-, -, u2, -, u4, u5, -, u7, -, u9, -, -, -, -, u14, -, -, -, -⟩ := pc_cells (c1 := 0) (c2 := 0) (c3 := 0) G5.out; have f2 := frozen_of_row wl34 g5 2 _ _ G5.out; have f4 := frozen_of_row wl34 g5 4 _ _ G5.out)
  | ((with_reducible refine gate_store (t := 3) (p := 42) rfl ?_); refine put_event rfl (t := 3) (p := 42) (v := .tmp 41) rfl rfl (g := g5) (i := 4) (cs := pcs { plainP with count := 1 + U p.count 3, kind := 1 + U p.kind 3, round := x2 } none 0 none 0 none 0) (cs' := pcs { plainP with count := 1 + U p.count 3, kind := 1 + U p.kind 3, round := x2, every := x6 } none 0 none 0 none 0) (x := .int .i64 x6) ?hr G5.out ?hc ?_; (case hc => rfl); (case hr => go_simp); intro w32 hb8 hbut; have G5 := Aside0.mk hb8; have G2 := Aside0.mk ((hbut.block g2 (blk_lt G2.out) (Ne.symm ne52)).trans G2.out); have G4 := Aside0.mk ((hbut.block g4 (blk_lt G4.out) (Ne.symm ne54)).trans G4.out); have HB := Aside0.mk (But.below HB.out HB.out.size ge5 hbut); clear hb8 hbut; obtain ⟨-, q1, q2, q3, q4, q5, -, q7, -, q9, -, -, -, -, q14, -, -, -, -⟩ := pc_cells G2.out; obtain ⟨-, -, u2, u3, u4, u5, u6, u7, -, u9, -, -, -, -, u14, -, -, -, -⟩ := pc_cells (c1 := 0) (c2 := 0) (c3 := 0) G5.out; have f6 := frozen_of_row w32 g5 6 _ _ G5.out; have f2 := frozen_of_row w32 g5 2 _ _ G5.out; have f4 := frozen_of_row w32 g5 4 _ _ G5.out; have f5 := frozen_of_row w32 g5 5 _ _ G5.out; have f7 := frozen_of_row w32 g5 7 _ _ G5.out; have f9 := frozen_of_row w32 g5 9 _ _ G5.out)
  | ((with_reducible refine gate_store (t := 3) (p := 51) rfl ?_); refine put_event rfl (t := 3) (p := 51) (v := .tmp 50) rfl rfl (g := g5) (i := 5) (cs := pcs { plainP with count := 1 + U p.count 3, kind := 1 + U p.kind 3, round := x2, every := x6 } none 0 none 0 none 0) (cs' := pcs { plainP with count := 1 + U p.count 3, kind := 1 + U p.kind 3, round := x2, every := x6, times := 1 + U p.times n } none 0 none 0 none 0) (x := .int .i64 (1 + U p.times n)) ?hr G5.out ?hc ?_; (case hc => rfl); (case hr => go_simp); intro w33 hb8 hbut; have G5 := Aside0.mk hb8; have G2 := Aside0.mk ((hbut.block g2 (blk_lt G2.out) (Ne.symm ne52)).trans G2.out); have G4 := Aside0.mk ((hbut.block g4 (blk_lt G4.out) (Ne.symm ne54)).trans G4.out); have HB := Aside0.mk (But.below HB.out HB.out.size ge5 hbut); clear hb8 hbut; obtain ⟨-, q1, q2, q3, q4, q5, -, q7, -, q9, -, -, -, -, q14, -, -, -, -⟩ := pc_cells G2.out; obtain ⟨-, -, u2, u3, u4, u5, u6, u7, -, u9, -, -, -, -, u14, -, -, -, -⟩ := pc_cells (c1 := 0) (c2 := 0) (c3 := 0) G5.out; have f6 := frozen_of_row w33 g5 6 _ _ G5.out; have f2 := frozen_of_row w33 g5 2 _ _ G5.out; have f4 := frozen_of_row w33 g5 4 _ _ G5.out; have f5 := frozen_of_row w33 g5 5 _ _ G5.out; have f7 := frozen_of_row w33 g5 7 _ _ G5.out; have f9 := frozen_of_row w33 g5 9 _ _ G5.out))
 go_region
 obtain ⟨W8, hW8⟩ : ∃ W, W = ((w33.setCell ⟨g5, 7, none⟩ (.int .i64 (U p.rate 300000000))).setCell ⟨g5, 9, none⟩ (.int .i64 (U p.penalty 500000000))).drew := ⟨_, rfl⟩
 rw [← hW8]
 have n5 : W8.heap[g5]? = some (.cells (pcs { plainP with count := 1 + U p.count 3, kind := 1 + U p.kind 3, round := x2, every := x6, times := 1 + U p.times n, rate := U p.rate 300000000, penalty := U p.penalty 500000000 } none 0 none 0 none 0) 27 (0, 0)) := by rw [hW8]; exact (heap_setCell_same _ g5 9 _ _ _ (heap_setCell_same _ g5 7 _ _ _ G5.out)).trans rfl
 have nb : H.But g5 w33 W8 := by rw [hW8]; exact (let h : H.But g5 w33 ((w33.setCell ⟨g5, 7, none⟩ (.int .i64 (U p.rate 300000000))).setCell ⟨g5, 9, none⟩ (.int .i64 (U p.penalty 500000000))) := (But.one g5 7 w33 _).setCell (p := ⟨g5, 9, none⟩) (Or.inl rfl) _; ⟨h.os, h.tape, h.output, h.size, h.block⟩)
 have n2 := (nb.block g2 (blk_lt G2.out) (Ne.symm ne52)).trans G2.out
 have n4 := (nb.block g4 (blk_lt G4.out) (Ne.symm ne54)).trans G4.out
 have nH := But.below HB.out HB.out.size ge5 nb
 have G5 := Aside0.mk n5
 have G2 := Aside0.mk n2
 have G4 := Aside0.mk n4
 have HB := Aside0.mk nH
 clear hW8 nb n5 n2 n4 nH q1 q2 q3 q4 q5 q7 q9 q14 u2 u4 u5 u7 u9 u14 f2 f4 f5 f7 f9
 obtain ⟨-, q1, q2, q3, q4, q5, -, q7, -, q9, -, -, -, -, q14, -, -, -, -⟩ := pc_cells G2.out
 obtain ⟨-, -, u2, -, u4, u5, -, u7, -, u9, -, -, -, -, u14, -, -, -, -⟩ := pc_cells (c1 := 0) (c2 := 0) (c3 := 0) G5.out
 have f14 := frozen_of_row W8 g5 14 _ _ G5.out
 have hgp : plainP.grace = 0 := rfl
 have tl : decide (n < 1 + U p.times n) = false := decide_eq_false (by omega)
 have tg : decide (1 + U p.times n ≤ 0) = false := decide_eq_false (by omega)
 cases hk : (1 + U p.kind 3 == 3) with
 | true =>
  go_wp2_with ((with_reducible refine gate_store (t := 3) (p := 70) rfl ?_); refine put_event rfl (t := 3) (p := 70) (v := .tmp 69) rfl rfl (g := g5) (i := 14) (cs := pcs { plainP with count := 1 + U p.count 3, kind := 1 + U p.kind 3, round := x2, every := x6, times := 1 + U p.times n, rate := U p.rate 300000000, penalty := U p.penalty 500000000 } none 0 none 0 none 0) (cs' := pcs { plainP with count := 1 + U p.count 3, kind := 1 + U p.kind 3, round := x2, every := x6, times := 1 + U p.times n, rate := U p.rate 300000000, penalty := U p.penalty 500000000, over := 1 + U p.over 3 } none 0 none 0 none 0) (x := .int .i64 (1 + U p.over 3)) ?hr G5.out ?hc ?_; (case hc => rfl); (case hr => go_simp); intro w34 hb8 hbut; have G5 := Aside0.mk hb8; have G2 := Aside0.mk ((hbut.block g2 (blk_lt G2.out) (Ne.symm ne52)).trans G2.out); have G4 := Aside0.mk ((hbut.block g4 (blk_lt G4.out) (Ne.symm ne54)).trans G4.out); have HB := Aside0.mk (But.below HB.out HB.out.size ge5 hbut); clear hb8 hbut; obtain ⟨-, q1, q2, q3, q4, q5, -, q7, -, q9, -, -, -, -, q14, -, -, -, -⟩ := pc_cells G2.out; obtain ⟨-, -, u2, u3, u4, u5, u6, u7, -, u9, -, -, -, -, u14, -, -, -, -⟩ := pc_cells (c1 := 0) (c2 := 0) (c3 := 0) G5.out; have f6 := frozen_of_row w34 g5 6 _ _ G5.out; have f2 := frozen_of_row w34 g5 2 _ _ G5.out; have f4 := frozen_of_row w34 g5 4 _ _ G5.out; have f5 := frozen_of_row w34 g5 5 _ _ G5.out; have f7 := frozen_of_row w34 g5 7 _ _ G5.out; have f9 := frozen_of_row w34 g5 9 _ _ G5.out; refine Hid.out ?_)
  refine Lib.hid ?_
  try go_frame
  have bfin : (w34.setCell ⟨g5, 6, none⟩ (.int .i64 0)).heap[g5]? = some (.cells (pcs qf none 0 none 0 none 0) 27 (0, 0)) := by rw [HQ.out]; exact (heap_setCell_same _ g5 6 _ _ _ G5.out).trans rfl
  have hbut : H.But g5 w34 (w34.setCell ⟨g5, 6, none⟩ (.int .i64 0)) := ((H.But.of (Below.refl w34.heap.size w34)).setCell (p := ⟨g5, 6, none⟩) (Or.inl rfl) (.int .i64 0))
  have g4fin : (w34.setCell ⟨g5, 6, none⟩ (.int .i64 0)).heap[g4]? = some (.cells pzs 27 (0, 0)) := (hbut.block g4 (blk_lt G4.out) (Ne.symm ne54)).trans G4.out
  have hbfin : Below w.heap.size w (w34.setCell ⟨g5, 6, none⟩ (.int .i64 0)) := But.below HB.out HB.out.size ge5 hbut
  have F5 := Aside0.mk bfin
  have F4 := Aside0.mk g4fin
  have FB := Aside0.mk hbfin
  clear bfin hbut g4fin hbfin
  go_wp2_with (first
   | ((with_reducible refine gate_dst (N := 89) rfl ?_); refine wpList_load_row rfl 27 (.tmp 5) rfl g5 rfl 27 _ (0, 0) _ F5.out Try.underlying27 rfl info_prod ?_)
   | ((with_reducible refine gate_store (t := 27) (p := 4) rfl ?_); refine Hid.out ?_))
  refine Lib.hid ?_
  refine row_event rfl (t := 27) (p := 4) (v := .tmp 89) rfl rfl (g := g4) (cs := pcs qf none 0 none 0 none 0) (zs := pzs) rfl rfl F4.out info_prod rfl (pcs_one _ _ _ _ _ _ _) ?_
  intro w20 hb20 hbut20
  have H20 := Aside0.mk hb20
  have HB20 := Aside0.mk (But.below FB.out FB.out.size ge4 hbut20)
  clear hb20 hbut20
  try go_frame
  go_wp2_with fail
  exact bodyPost_ret (v := pv qf none 0 none 0 none 0) (results_cell_row (g := g4) Try.results12 _ _ _ _ _ _ rfl H20.out Try.underlying27 rfl info_prod) rfl ⟨none, 0, none, 0, none, 0, rfl, fun w0 _ => nilAt (by rw [HQ.out]; rfl) (by rw [HQ.out]; rfl) (by rw [HQ.out]; rfl), HB20.out⟩
 | false =>
  go_wp2_with ((with_reducible refine gate_store (t := 3) (p := 70) rfl ?_); refine put_event rfl (t := 3) (p := 70) (v := .tmp 69) rfl rfl (g := g5) (i := 14) (cs := pcs { plainP with count := 1 + U p.count 3, kind := 1 + U p.kind 3, round := x2, every := x6, times := 1 + U p.times n, rate := U p.rate 300000000, penalty := U p.penalty 500000000 } none 0 none 0 none 0) (cs' := pcs { plainP with count := 1 + U p.count 3, kind := 1 + U p.kind 3, round := x2, every := x6, times := 1 + U p.times n, rate := U p.rate 300000000, penalty := U p.penalty 500000000, over := 1 + U p.over 3 } none 0 none 0 none 0) (x := .int .i64 (1 + U p.over 3)) ?hr G5.out ?hc ?_; (case hc => rfl); (case hr => go_simp); intro w34 hb8 hbut; have G5 := Aside0.mk hb8; have G2 := Aside0.mk ((hbut.block g2 (blk_lt G2.out) (Ne.symm ne52)).trans G2.out); have G4 := Aside0.mk ((hbut.block g4 (blk_lt G4.out) (Ne.symm ne54)).trans G4.out); have HB := Aside0.mk (But.below HB.out HB.out.size ge5 hbut); clear hb8 hbut; obtain ⟨-, q1, q2, q3, q4, q5, -, q7, -, q9, -, -, -, -, q14, -, -, -, -⟩ := pc_cells G2.out; obtain ⟨-, -, u2, u3, u4, u5, u6, u7, -, u9, -, -, -, -, u14, -, -, -, -⟩ := pc_cells (c1 := 0) (c2 := 0) (c3 := 0) G5.out; have f6 := frozen_of_row w34 g5 6 _ _ G5.out; have f2 := frozen_of_row w34 g5 2 _ _ G5.out; have f4 := frozen_of_row w34 g5 4 _ _ G5.out; have f5 := frozen_of_row w34 g5 5 _ _ G5.out; have f7 := frozen_of_row w34 g5 7 _ _ G5.out; have f9 := frozen_of_row w34 g5 9 _ _ G5.out; refine Hid.out ?_)
  refine Lib.hid ?_
  try go_frame
  have bfin : w34.heap[g5]? = some (.cells (pcs qf none 0 none 0 none 0) 27 (0, 0)) := by rw [HQ.out]; exact G5.out
  have hbut : H.But g5 w34 w34 := (H.But.of (Below.refl w34.heap.size w34))
  have g4fin : w34.heap[g4]? = some (.cells pzs 27 (0, 0)) := (hbut.block g4 (blk_lt G4.out) (Ne.symm ne54)).trans G4.out
  have hbfin : Below w.heap.size w w34 := But.below HB.out HB.out.size ge5 hbut
  have F5 := Aside0.mk bfin
  have F4 := Aside0.mk g4fin
  have FB := Aside0.mk hbfin
  clear bfin hbut g4fin hbfin
  go_wp2_with (first
   | ((with_reducible refine gate_dst (N := 89) rfl ?_); refine wpList_load_row rfl 27 (.tmp 5) rfl g5 rfl 27 _ (0, 0) _ F5.out Try.underlying27 rfl info_prod ?_)
   | ((with_reducible refine gate_store (t := 27) (p := 4) rfl ?_); refine Hid.out ?_))
  refine Lib.hid ?_
  refine row_event rfl (t := 27) (p := 4) (v := .tmp 89) rfl rfl (g := g4) (cs := pcs qf none 0 none 0 none 0) (zs := pzs) rfl rfl F4.out info_prod rfl (pcs_one _ _ _ _ _ _ _) ?_
  intro w20 hb20 hbut20
  have H20 := Aside0.mk hb20
  have HB20 := Aside0.mk (But.below FB.out FB.out.size ge4 hbut20)
  clear hb20 hbut20
  try go_frame
  go_wp2_with fail
  exact bodyPost_ret (v := pv qf none 0 none 0 none 0) (results_cell_row (g := g4) Try.results12 _ _ _ _ _ _ rfl H20.out Try.underlying27 rfl info_prod) rfl ⟨none, 0, none, 0, none, 0, rfl, fun w0 _ => nilAt (by rw [HQ.out]; rfl) (by rw [HQ.out]; rfl) (by rw [HQ.out]; rfl), HB20.out⟩
end Go.Proofs.Ytcfpkkgdofblfaa.Du
/- What a law of days asks of lists that calls hand back. -/
namespace Go.Proofs.Ytcfpkkgdofblfaa.Du
open Go.RowKit Go.Proofs.YtcfpkkgdofblfaaW.PrintWords Go.Proofs.YtcfpkkgdofblfaaW.PrintLast Go.Proofs.YtcfpkkgdofblfaaW.PrintMore Go.Proofs.Ytcfpkkgdofblfaa.HW
open Go.Proofs.Ytcfpkkgdofblfaa.Math Go.Proofs.Ytcfpkkgdofblfaa.H Go.Proofs.Ytcfpkkgdofblfaa.Pd Pm
set_option linter.unusedVariables false
set_option linter.unusedSimpArgs false
theorem near_any (p : Prod) (A1 : Option Addr) (c1 : Nat) (A2 : Option Addr) (c2 : Nat) (A3 : Option Addr) (c3 : Nat) (n : Int) (w : World) (hp : ProdAt w p A1 c1 A2 c2 A3 c3) (hs : Held p) (n1 : 1 ≤ n) (n2 : n ≤ 1000) :
  Calls Try.prog 12 #[pv p A1 c1 A2 c2 A3 c3, .int .i64 n] w (NearE p A1 c1 A2 c2 A3 c3 (nearP p n) w) := by
 cases ho : ok p with
 | false => exact near_not p A1 c1 A2 c2 A3 c3 n w hp hs ho n1 n2
 | true => exact near_ok p A1 c1 A2 c2 A3 c3 n w hp hs ho
theorem C_nil (w : World) : Kd.C (Kd.int .i64) w none 0 [] := Kd.C_of_reads (d := (0 : Int)) ⟨rfl, by omega, fun h => absurd h (by omega)⟩
end Go.Proofs.Ytcfpkkgdofblfaa.Du
/- Plain law of level at no rate; the law's awake. -/
namespace Go.Proofs.Ytcfpkkgdofblfaa.Lv
open Go.RowKit Go.Proofs.YtcfpkkgdofblfaaW.PrintWords Go.Proofs.YtcfpkkgdofblfaaW.PrintLast Go.Proofs.YtcfpkkgdofblfaaW.PrintMore Go.Proofs.Ytcfpkkgdofblfaa.HW
open Pm Pd
set_option linter.unusedVariables false
set_option linter.unusedSimpArgs false
open Go.Proofs.Ytcfpkkgdofblfaa.H Go.Proofs.Ytcfpkkgdofblfaa.Du
theorem div_uniq {n v a : Int} (hn : 0 < n) (h1 : a ≤ n * v) (h2 : n * (v - 1) < a) : v = (a + n - 1) / n := by
 have e : n * (v - 1) = n * v - n := by rw [Int.mul_sub, Int.mul_one]
 rw [e] at h2
 have h3 : (a + n - 1) / n < v + 1 := Int.ediv_lt_of_lt_mul hn (by rw [Int.mul_comm, Int.mul_add, Int.mul_one]; omega)
 have h4 : v ≤ (a + n - 1) / n := (Int.le_ediv_iff_mul_le hn).2 (by rw [Int.mul_comm]; omega)
 omega
theorem of_rate {p : Prod} {l : List Int} {m : Int} (h : askE p l m = 0) (hr : p.rate = 0) (hg : p.grace < l.length) : ofE p l m = ((m + (l.length - p.grace) - 1) / (l.length - p.grace), 0) := by
 obtain ⟨k1, k2, k3, k4, m0, m1⟩ := ask_known h
 have hf : fine l = true := by
  unfold askE at h
  split at h
  ·simp at h
  ·split at h
   ·rename_i h2; exact h2.2.2.2
   ·simp at h
 have G := good_new p.count p.round
 have gw := G.w0
 have g0 := G.h0
 have g1 := G.h1
 have hl : ∀ n ∈ l, 0 ≤ n ∧ n ≤ 53436000 := by
  intro n hn
  unfold fine at hf
  have := of_decide_eq_true (List.all_eq_true.1 hf n hn)
  omega
 obtain ⟨N, hN⟩ : ∃ N, (l.length : Int) - p.grace = N := ⟨_, rfl⟩
 have key : ∀ x, 0 ≤ x → (lf p l m x ≤ 0 ↔ m ≤ N * x) := by
  intro x x0
  unfold lf
  rw [hr, wk_grace (by omega) g0 (by omega) l 0 m (by omega) (by omega) k4.1 (by omega) (by omega) hl, wk_rate (by omega) g0 (by omega) x0 _ _ _ (Int.le_refl _) (by omega) (by omega) (fun n hn => hl n (List.mem_of_mem_drop hn))]
  rw [List.length_drop, show (((l.length - (p.grace - 0).toNat : Nat) : Int)) = N by omega]
 rw [hN]
 have hN0 : 0 < N := by omega
 have big : lf p l m 1000000000000000 ≤ 0 := (key _ (by decide)).2 (by omega)
 obtain ⟨hm, hz⟩ := lf_mono h
 have L := srch_least (lf p l m) 50 0 1000000000000000 (by decide) (by decide) (by decide) (by decide) hz big
 have hn : ¬ askE p l m ≠ 0 := by rw [h]; decide
 unfold ofE
 rw [if_neg hn, if_neg (by omega)]
 obtain ⟨a1, a2, a3, a4⟩ := L
 generalize srch (lf p l m) 50 0 1000000000000000 = v at *
 have b1 := (key v (by omega)).1 a1
 have b2 : N * (v - 1) < m := by
  have : ¬ m ≤ N * (v - 1) := fun h => by have := (key (v - 1) (by omega)).2 h; omega
  omega
 rw [div_uniq hN0 b1 b2]
theorem small_q {p : Prod} (h1 : p.name = plainP.name) (h2 : p.resets = []) (h3 : p.late = []) (h4 : p.hol = []) : Small p := ⟨by rw [h1]; decide, by rw [h2]; decide, by rw [h3]; decide, by rw [h4]; decide⟩
abbrev awP : Prod := { plainP with rate := 0, times := 3 }
theorem aw_ask : askE awP [31, 28, 31] 100 = 0 := by decide +kernel
theorem aw_of : ofE awP [31, 28, 31] 100 = (34, 0) := by rw [of_rate aw_ask rfl (by decide)]; decide
set_option maxRecDepth 100000 in
set_option maxHeartbeats 2000000 in
theorem level_awake (w : World) (hg : GV w) : Calls Try.prog 24 #[] w fun e w' => e = .returned (.bool true) ∧ Below w.heap.size w w' := by
 have OF := Aside0.mk (fun (A : Option Addr) (c : Nat) (W : World) (hb : Below w.heap.size w W) (hc : Kd.C (Kd.int .i64) W A [31, 28, 31].length [31, 28, 31]) => show Calls Try.prog 23 #[pv awP none 0 none 0 none 0, .slice A 3 c, .int .i64 100] W (Two (34, 0) W) from by have := Of_any awP none 0 none 0 none 0 A [31, 28, 31] c 100 W (hg.below hb) (nilAt rfl rfl rfl) (small_q rfl rfl rfl rfl) hc (by decide); rw [aw_of] at this; exact this)
 clear hg
 go_enter Try.func24, Try.ntmps24
 go_wp2_with (first
  | (go_at_call 22; (with_reducible refine (plain_any _).mono ?_); rintro e w0 ⟨rfl, hb⟩; have HB := Aside0.mk hb; clear hb)
  | ((with_reducible refine gate_dst (N := 1) rfl ?_); refine copy_event rfl (N := 1) rfl rfl rfl (t := 27) (v := .tmp 4) rfl (cs := pcs plainP none 0 none 0 none 0) (zs := pzs) ?hr rfl rfl info_prod ?hz (pcs_one _ _ _ _ _ _ _) ?_; (case hr => first | (go_simp; done) | (go_simp; rfl)); (case hz => rfl); intro g hg w1 hb1 hbl1; have gge := (show w.heap.size ≤ g by rw [hg]; exact HB.out.size); have HB := Aside0.mk (below_step HB.out hbl1); have GG := Aside0.mk hb1; clear hg hb1 hbl1; have u7 : w1.cell? ⟨g, 7, none⟩ = some (.int .i64 _) := (blk_cell GG.out 7).trans rfl; have f7 := frozen_of_row w1 g 7 _ _ GG.out)
  | ((with_reducible refine gate_store (t := 2) (p := 5) rfl ?_); refine put_event rfl (t := 2) (p := 5) (v := (.const (.int .i64 0))) rfl rfl (g := g) (i := 7) (cs := pcs plainP none 0 none 0 none 0) (cs' := pcs { plainP with rate := 0 } none 0 none 0 none 0) (x := .int .i64 0) ?hr GG.out ?hc ?_; (case hc => rfl); (case hr => go_simp); intro w2 hb8 hbut; have GG := Aside0.mk hb8; have HB := Aside0.mk (But.below HB.out HB.out.size gge hbut); clear hbut; clear hb8; have u5 : w2.cell? ⟨g, 5, none⟩ = some (.int .i64 _) := (blk_cell GG.out 5).trans rfl; have f5 := frozen_of_row w2 g 5 _ _ GG.out)
  | ((with_reducible refine gate_store (t := 3) (p := 6) rfl ?_); refine put_event rfl (t := 3) (p := 6) (v := (.const (.int .i64 3))) rfl rfl (g := g) (i := 5) (cs := pcs { plainP with rate := 0 } none 0 none 0 none 0) (cs' := pcs { plainP with rate := 0, times := 3 } none 0 none 0 none 0) (x := .int .i64 3) ?hr GG.out ?hc ?_; (case hc => rfl); (case hr => go_simp); intro w3 hb8 hbut; have GG := Aside0.mk hb8; have HB := Aside0.mk (But.below HB.out HB.out.size gge hbut); clear hbut; clear hb8; skip)
  | ((with_reducible refine gate_dst (N := 8) rfl ?_); refine wpList_load_row rfl 27 (.tmp 1) rfl g rfl 27 _ (0, 0) _ GG.out Try.underlying27 rfl info_prod ?_)
  | ((with_reducible refine gate_dst (N := 9) rfl ?_); refine lit_event rfl (N := 9) rfl (cs := #[.int .i64 31, .int .i64 28, .int .i64 31]) (t := 2) (n := 3) ?hr ?_; (case hr => first | (go_simp; done) | (go_simp; rfl)); intro gl hgl w4 hbl hb; have HB := Aside0.mk (below_step HB.out hb); have RD := Aside0.mk (Blk.reads (w := w4) (g := gl) (k := .i64) (l := [31, 28, 31]) (t := []) (e := 2) hbl (by decide)); clear hgl hbl hb)
  | (go_at_call 23; (with_reducible refine (OF.out _ _ _ HB.out RD.out).mono ?_); rintro e w5 ⟨rfl, hb⟩; have HB := Aside0.mk (below_step HB.out hb); clear hb))
 go_ret
 exact ⟨rfl, HB.out⟩
end Go.Proofs.Ytcfpkkgdofblfaa.Lv
/- Plain: a product near another one may be, whatever its way of rolling, without holidays. -/
namespace Go.Proofs.Ytcfpkkgdofblfaa.Du
open Go.RowKit Go.Proofs.YtcfpkkgdofblfaaW.PrintWords Go.Proofs.YtcfpkkgdofblfaaW.PrintLast Go.Proofs.YtcfpkkgdofblfaaW.PrintMore Go.Proofs.Ytcfpkkgdofblfaa.HW
open Go.Proofs.Ytcfpkkgdofblfaa.Math Go.Proofs.Ytcfpkkgdofblfaa.H Go.Proofs.Ytcfpkkgdofblfaa.Pd Pm
set_option linter.unusedVariables false
set_option linter.unusedSimpArgs false
theorem ok_iff (p : Prod) : ok p = true ↔ ((((nameOk p.name.data.toList = true ∧ (1 ≤ p.count ∧ p.count ≤ 3) ∧ (p.round = 1 ∨ p.round = 3) ∧ (1 ≤ p.kind ∧ p.kind ≤ 3) ∧ (p.every = 1 ∨ p.every = 2 ∨ p.every = 3 ∨ p.every = 4 ∨ p.every = 6 ∨ p.every = 12) ∧ (1 ≤ p.times ∧ p.times ≤ 600) ∧ (0 ≤ p.grace ∧ p.grace ≤ p.times - 1) ∧ (p.kind = 3 → p.grace = 0)) ∧
  ((0 ≤ p.rate ∧ p.rate ≤ 1000000000) ∧ (0 ≤ p.penalty ∧ p.penalty ≤ 1000000000) ∧ p.resets.length ≤ 20) ∧ resetsOk p.times 0 p.resets = true) ∧ orderOk p.o1 p.o2 p.o3 p.o4 = true ∧ 1 ≤ p.over ∧ p.over ≤ 3) ∧
  (p.late.length ≤ 8 ∧ (0 ≤ p.cap ∧ p.cap ≤ 10000000000000) ∧ (p.late = [] → p.cap = 0)) ∧ tiersOk 0 0 p.late = true) ∧ (p.hol.length ≤ 200 ∧ (1 ≤ p.roll ∧ p.roll ≤ 4) ∧ (p.roll = 1 → p.hol = [])) ∧ holsOk (-25568) p.hol = true := by
 simp only [ok, shapeOk, ratesOk, ordOk, lateOk, daysOk, Bool.and_eq_true, decide_eq_true_eq]
theorem ok_graced {q : Prod} (h : (ok { q with grace := 0 } = true)) (hg : ¬ (q.times ≤ q.grace ∨ q.kind = 3)) (g0 : 0 ≤ q.grace) : ok q = true := by
 have h' := (ok_iff _).1 h
 obtain ⟨⟨⟨⟨⟨a1, a2, a3, a4, a5, a6, a7, a8⟩, b⟩, c⟩, d⟩, e⟩ := h'
 exact (ok_iff _).2 ⟨⟨⟨⟨⟨a1, a2, a3, a4, a5, a6, ⟨g0, by omega⟩, fun h => absurd (Or.inr h) hg⟩, b⟩, c⟩, d⟩, e⟩
theorem ok_nearD {q : Prod} (h : (ok { q with grace := 0 } = true)) (g0 : 0 ≤ q.grace) : ok (nearD q) = true := by
 unfold nearD
 split
 ·exact h
 ·rename_i hg; exact ok_graced h hg g0
theorem nearD_times (q : Prod) : (nearD q).times = q.times ∧ (nearD q).count = q.count ∧ (nearD q).every = q.every := by
 unfold nearD
 split <;> exact ⟨rfl, rfl, rfl⟩
theorem plain_good : ok plainP = true := by decide +kernel
theorem near_valid (p : Prod) {n : Int} (n1 : 1 ≤ n) (n2 : n ≤ 600) : ok (nearP p n) = true ∧ (nearP p n).times ≤ n := by
 unfold nearP
 split
 ·rename_i h
  obtain ⟨⟨⟨⟨⟨a1, a2, a3, a4, a5, a6, a7, a8⟩, ⟨b1, b2, b3⟩, b4⟩, c⟩, d⟩, e⟩ := (ok_iff _).1 h
  split
  ·rename_i hn
   refine ⟨ok_nearD ((ok_iff _).2 ⟨⟨⟨⟨⟨a1, a2, a3, a4, a5, ⟨n1, n2⟩, ⟨by show (0 : Int) ≤ 0; omega, by show (0 : Int) ≤ n - 1; omega⟩, fun _ => rfl⟩, ⟨b1, b2, by show (0 : Nat) ≤ 20; omega⟩, rfl⟩, c⟩, d⟩, e⟩) a7.1, ?_⟩
   rw [(nearD_times _).1]
   exact Int.le_refl n
  ·rename_i hn
   refine ⟨ok_nearD ((ok_iff _).2 ⟨⟨⟨⟨⟨a1, a2, a3, a4, a5, a6, ⟨by show (0 : Int) ≤ 0; omega, by show (0 : Int) ≤ p.times - 1; omega⟩, fun _ => rfl⟩, ⟨b1, b2, b3⟩, b4⟩, c⟩, d⟩, e⟩) a7.1, ?_⟩
   rw [(nearD_times _).1]
   omega
 ·have u1 := U_bd p.count (m := 3) (by omega)
  have u2 := U_bd p.kind (m := 3) (by omega)
  have u3 := U_bd p.every (m := 6) (by omega)
  have u4 := U_bd p.times (m := n) (by omega)
  have u5 := U_bd p.rate (m := 300000000) (by omega)
  have u6 := U_bd p.penalty (m := 500000000) (by omega)
  have u7 := U_bd p.over (m := 3) (by omega)
  obtain ⟨⟨⟨⟨⟨a1, a2, a3, a4, a5, a6, a7, a8⟩, ⟨b1, b2, b3⟩, b4⟩, c⟩, d⟩, e⟩ := (ok_iff _).1 plain_good
  refine ⟨ok_nearD ((ok_iff _).2 ⟨⟨⟨⟨⟨a1, ⟨by show 1 ≤ 1 + U p.count 3; omega, by show 1 + U p.count 3 ≤ 3; omega⟩, ?_, ⟨by show 1 ≤ 1 + U p.kind 3; omega, by show 1 + U p.kind 3 ≤ 3; omega⟩, ?_, ⟨by show 1 ≤ 1 + U p.times n; omega, by show 1 + U p.times n ≤ 600; omega⟩, ⟨by show (0 : Int) ≤ 0; omega, by show (0 : Int) ≤ 1 + U p.times n - 1; omega⟩, fun _ => rfl⟩, ⟨⟨by show 0 ≤ U p.rate 300000000; omega, by show U p.rate 300000000 ≤ 1000000000; omega⟩, ⟨by show 0 ≤ U p.penalty 500000000; omega, by show U p.penalty 500000000 ≤ 1000000000; omega⟩, b3⟩, rfl⟩, ⟨c.1, by show 1 ≤ 1 + U p.over 3; omega, by show 1 + U p.over 3 ≤ 3; omega⟩⟩, d⟩, e⟩) (by show (0 : Int) ≤ 0; omega), ?_⟩
  ·show (if U p.round 2 = 0 then (1 : Int) else 3) = 1 ∨ (if U p.round 2 = 0 then (1 : Int) else 3) = 3
   split
   ·exact Or.inl rfl
   ·exact Or.inr rfl
  ·generalize hx : (nearB p n).every = x
   have hx' : (if U p.every 6 = 0 then (1 : Int) else if U p.every 6 = 1 then 2 else if U p.every 6 = 2 then 3 else if U p.every 6 = 3 then 4 else if U p.every 6 = 4 then 6 else 12) = x := hx
   show x = 1 ∨ x = 2 ∨ x = 3 ∨ x = 4 ∨ x = 6 ∨ x = 12
   repeat' split at hx'
   all_goals omega
  ·rw [(nearD_times _).1]
   show 1 + U p.times n ≤ n
   omega
end Go.Proofs.Ytcfpkkgdofblfaa.Du
/- The law LevelNothing, walked. -/
namespace Go.Proofs.Ytcfpkkgdofblfaa.Lv
open Go.RowKit Go.Proofs.YtcfpkkgdofblfaaW.PrintWords Go.Proofs.YtcfpkkgdofblfaaW.PrintLast Go.Proofs.YtcfpkkgdofblfaaW.PrintMore Go.Proofs.Ytcfpkkgdofblfaa.HW
open Pm Pd
set_option linter.unusedVariables false
set_option linter.unusedSimpArgs false
open Go.Proofs.Ytcfpkkgdofblfaa.H Go.Proofs.Ytcfpkkgdofblfaa.Du
theorem U_isB (x : Int) {m : Int} (h : 0 < m) (h2 : m ≤ 9000000000000000000) : IntKind.i64.wrap (Int.tmod (IntKind.u64.wrap x) m) = U x m := by
 have e : IntKind.u64.wrap x = x % 18446744073709551616 := rfl
 have hn := Int.emod_nonneg x (show (18446744073709551616 : Int) ≠ 0 by omega)
 have hb := U_bd x h
 rw [e, Int.tmod_eq_emod_of_nonneg hn]
 show IntKind.i64.wrap (U x m) = U x m
 exact IntWalk.i64_in _ (by omega)
end Go.Proofs.Ytcfpkkgdofblfaa.Lv
/- Plain: the days of a product near another one, from a day of thirty years: they are there, and lie far apart. -/
namespace Go.Proofs.Ytcfpkkgdofblfaa.Du
open Go.RowKit Go.Proofs.YtcfpkkgdofblfaaW.PrintWords Go.Proofs.YtcfpkkgdofblfaaW.PrintLast Go.Proofs.YtcfpkkgdofblfaaW.PrintMore Go.Proofs.Ytcfpkkgdofblfaa.HW
open Go.Proofs.Ytcfpkkgdofblfaa.Math Go.Proofs.Ytcfpkkgdofblfaa.H Go.Proofs.Ytcfpkkgdofblfaa.Pd Pm
set_option linter.unusedVariables false
set_option linter.unusedSimpArgs false
def A (n k : Int) : Int := dayAt (idx n + k) (min (dayOf n) (ml (idx n + k)))
end Go.Proofs.Ytcfpkkgdofblfaa.Du
/- Plain: parts between days far apart are above nothing; their sum is what lies between the first day and the last one. -/
namespace Go.Proofs.Ytcfpkkgdofblfaa.Du
open Go.RowKit Go.Proofs.YtcfpkkgdofblfaaW.PrintWords Go.Proofs.YtcfpkkgdofblfaaW.PrintLast Go.Proofs.YtcfpkkgdofblfaaW.PrintMore Go.Proofs.Ytcfpkkgdofblfaa.HW
open Go.Proofs.Ytcfpkkgdofblfaa.Math Go.Proofs.Ytcfpkkgdofblfaa.H Go.Proofs.Ytcfpkkgdofblfaa.Pd Pm
set_option linter.unusedVariables false
set_option linter.unusedSimpArgs false
def prev (s : Int) (l : List Int) (k : Nat) : Int := if k = 0 then s else l.getD (k - 1) 0
end Go.Proofs.Ytcfpkkgdofblfaa.Du
/- Plain: days rolled lie near; parts between instalments are two years at most. -/
namespace Go.Proofs.Ytcfpkkgdofblfaa.Lv
open Go.RowKit Go.Proofs.YtcfpkkgdofblfaaW.PrintWords Go.Proofs.YtcfpkkgdofblfaaW.PrintLast Go.Proofs.YtcfpkkgdofblfaaW.PrintMore Go.Proofs.Ytcfpkkgdofblfaa.HW
open Go.Proofs.Ytcfpkkgdofblfaa.Math Go.Proofs.Ytcfpkkgdofblfaa.H Go.Proofs.Ytcfpkkgdofblfaa.Pd Go.Proofs.Ytcfpkkgdofblfaa.Du Pm
set_option linter.unusedVariables false
set_option linter.unusedSimpArgs false
def RB (how day x : Int) : Prop := how = 1 ∧ x = day ∨ how = 2 ∧ day ≤ x ∧ x ≤ day + 290 ∨ how = 4 ∧ day - 290 ≤ x ∧ x ≤ day ∨ how = 3 ∧ day - 290 ≤ x ∧ x ≤ day + 31
end Go.Proofs.Ytcfpkkgdofblfaa.Lv
/- The law LevelLeast, walked. -/
namespace Go.Proofs.Ytcfpkkgdofblfaa.Lv
open Go.RowKit Go.Proofs.YtcfpkkgdofblfaaW.PrintWords Go.Proofs.YtcfpkkgdofblfaaW.PrintLast Go.Proofs.YtcfpkkgdofblfaaW.PrintMore Go.Proofs.Ytcfpkkgdofblfaa.HW
open Pm Pd
set_option linter.unusedVariables false
set_option linter.unusedSimpArgs false
open Go.Proofs.Ytcfpkkgdofblfaa.H Go.Proofs.Ytcfpkkgdofblfaa.Du
attribute [local go_sem] max2_int min2_int max_two min_two
theorem ok_small2 {q : Prod} (h : ok q = true) : Small q := by
 obtain ⟨⟨⟨⟨⟨a1, _⟩, ⟨_, _, b3⟩, _⟩, _⟩, ⟨d1, _⟩, _⟩, ⟨e1, _⟩, _⟩ := (ok_iff q).1 h
 simp only [nameOk, Bool.and_eq_true, decide_eq_true_eq] at a1
 have hn : q.name.data.toList.length = q.name.size := rfl
 exact ⟨by omega, by omega, by omega, by omega⟩
theorem times_of_ok {q : Prod} (h : ok q = true) : 1 ≤ q.times ∧ q.times ≤ 600 := by
 obtain ⟨⟨⟨⟨⟨a1, a2, a3, a4, a5, a6, a7, a8⟩, _⟩, _⟩, _⟩, _⟩ := (ok_iff q).1 h
 exact a6
end Go.Proofs.Ytcfpkkgdofblfaa.Lv
/- Contracts by hand: a list of one's own; whether it was kept; spoilt. -/
namespace Go.Proofs.Ytcfpkkgdofblfaa.HL
open Go.RowKit Go.Proofs.YtcfpkkgdofblfaaW.PrintWords Go.Proofs.YtcfpkkgdofblfaaW.PrintLast Go.Proofs.YtcfpkkgdofblfaaW.PrintMore Go.Proofs.Ytcfpkkgdofblfaa.HW Go.Proofs.Ytcfpkkgdofblfaa.H
set_option linter.unusedVariables false
set_option linter.unusedSimpArgs false
theorem info_int' : (Try.prog.info? 2).map (fun i => (i.zero, i.size, i.bytes)) = some (some (.int .i64 0), 1, 8) := by kernel_rfl
def Owned (l : List Int) (x : Int) (w : World) (e : Ending) (w' : World) : Prop := ∃ g, w.heap.size ≤ g ∧ e = .returned (.slice (some ⟨g, 0, none⟩) l.length (l.length + 3)) ∧ Blk w' g 2 (nums .i64 l ++ [.int .i64 x, .int .i64 x, .int .i64 x]) ∧ Below w.heap.size w w'
theorem nums_get (l : List Int) (j : Nat) (u : Value) (h : (nums .i64 l)[j]? = some u) : j < l.length ∧ u = .int .i64 (rd l (j : Int)) := by
 have hj : j < l.length := by
  rcases Nat.lt_or_ge j l.length with h' | h'
  ·exact h'
  ·rw [List.getElem?_eq_none (by rw [nums_length]; exact h')] at h; cases h
 refine ⟨hj, ?_⟩
 rw [rd_nat l j hj]
 simp [nums, hj] at h
 exact h.symm
theorem put_at (k : IntKind) (l : List Int) (ts : List Value) (j : Nat) (u : Value) : (nums k l ++ ts).set (l.length + j) u = nums k l ++ ts.set j u := by
 rw [List.set_append_right _ _ (by rw [nums_length]; omega), nums_length]
 congr 2; omega
theorem take_put {ts : List Value} {u : Value} {k : Nat} (hl : ts.length = 3) (hk : k < 3) (h : ts.take k = [u, u, u].take k) : (ts.set k u).take (k + 1) = [u, u, u].take (k + 1) := by
 match ts, hl with
 | [a, b, c], _ =>
  rcases (by omega : k = 0 ∨ k = 1 ∨ k = 2) with rfl | rfl | rfl
  ·simp
  ·simp at h; simp [h]
  ·simp at h; simp [h]
theorem news_of {w w1 : World} {ad : Addr} {l : List Int} (hr : Kd.C (Kd.int .i64) w (some ad) l.length l) (hb : Below w.heap.size w w1) : ∀ j u, (nums .i64 l)[j]? = some u → w1.cell? (ad.add j) = some u := by
 intro j u hu
 obtain ⟨hj, rfl⟩ := nums_get l j u hu
 obtain ⟨ad', e', hc⟩ := Kd.at_int (Kd.C_below hr hb) (j : Int) (by omega) (by omega)
 obtain rfl := Option.some.inj e'
 rw [Int.toNat_natCast] at hc
 exact hc
set_option maxRecDepth 100000 in
set_option maxHeartbeats 2000000 in
theorem own_some (ad : Addr) (c0 : Nat) (l : List Int) (x : Int) (w : World) (hr0 : Kd.C (Kd.int .i64) w (some ad) l.length l) (hc0 : l.length ≤ c0) (hm : l.length ≤ 1000000) :
  Calls Try.prog 25 #[.slice (some ad) l.length c0, .int .i64 x] w (Owned l x w) := by
 obtain ⟨i0, hi, hz0, hz1, hz2⟩ := info_parts info_int'
 have HR0 := Aside0.mk hr0
 clear hr0
 go_enter Try.func25, Try.ntmps25
 go_wp2_with (first | (refine wpList_make_own _ rfl _ _ 35 rfl w.heap.size 2 i0 (.int .i64 0) 1 Try.underlying35 hi hz0 hz1 .i64 .i64 _ (l.length + 3) rfl rfl (by simp) (by rw [hz2]; omega) (by unfold maxLen; omega) (Nat.le_refl _) ?_; intro w1 hown1 hgrow1; have HB1 := Aside0.mk ((Below.refl w.heap.size w).grown hgrow1 (Nat.le_refl _) (fun k hk => by cases hk)); have HO := Aside0.mk hown1; have HN := Aside0.mk (news_of HR0.out HB1.out); clear hown1 hgrow1) | (at_builtin; refine wpList_append_fits _ rfl _ _ 35 rfl w.heap.size 2 i0 1 Try.underlying35 hi hz1 w.heap.size 0 (l.length + 3) [] rfl HO.out ad l.length c0 (nums .i64 l) rfl (by simp [nums]) HN.out (by intro u hu; simp [nums] at hu; obtain ⟨a, _, rfl⟩ := hu; rfl) (by omega) ?_; intro w2 hown2 hgrow2; have HB2 := Aside0.mk (HB1.out.grown hgrow2 HB1.out.size (fun k hk => by cases hk; exact Nat.le_refl _)); obtain ⟨t0, ht0, hblk, _⟩ := Blk.ofOwn hown2; have HT0 := Aside0.mk (show t0.length = 3 by rw [ht0]; omega); have HRW := Aside0.mk (show Blk w2 w.heap.size 2 (nums .i64 l ++ t0) from hblk); clear hown2 hgrow2 ht0 hblk))
 go_loopg [7] 4 (fun gq iv w' => ∃ (k : Nat) (ts : List Value), k ≤ 3 ∧ iv = .int .i64 ((l.length : Int) + (k : Int)) ∧ Aside0 (ts.length = 3) ∧ Aside0 (gq = 4 - k) ∧ Aside0 (ts.take k = [Value.int .i64 x, .int .i64 x, .int .i64 x].take k) ∧ Aside0 (Blk w' w.heap.size 2 (nums .i64 l ++ ts)) ∧ Aside0 (Below w.heap.size w w'))
 case atStart => exact ⟨0, t0, by omega, by simp, HT0, ⟨rfl⟩, ⟨rfl⟩, HRW, HB2⟩
 case round =>
  obtain ⟨k, ts, k3, rfl, hts, hg, htk, hR, hB⟩ := hrel
  by_cases hlt : k < 3
  ·obtain ⟨u, hu⟩ : ∃ u, ts[k]? = some u := ⟨_, List.getElem?_eq_getElem (by rw [hts.out]; exact hlt)⟩
   have hc : wr.cell? ⟨w.heap.size, l.length + k, none⟩ = some u := by rw [hR.out.cell, List.getElem?_append_right (by rw [nums_length]; simp), nums_length, ← hu]; congr 1; simp
   have hf := hR.out.frozen (l.length + k)
   have R2 := Aside0.mk (show Blk (wr.setCell ⟨w.heap.size, l.length + k, none⟩ (.int .i64 x)) w.heap.size 2 (nums .i64 l ++ ts.set k (.int .i64 x)) by rw [← put_at]; exact hR.out.put _ _)
   have B2 := Aside0.mk (hB.out.setCell (p := ⟨w.heap.size, l.length + k, none⟩) (Nat.le_refl _) (.int .i64 x))
   clear hu
   go_wp2_with fail
   go_roundg (4 - (k + 1))
   case measure => have := hg.out; omega
   case rel => exact ⟨k + 1, ts.set k (.int .i64 x), by omega, by simp; omega, ⟨by rw [List.length_set]; exact hts.out⟩, ⟨rfl⟩, ⟨take_put hts.out hlt htk.out⟩, R2, B2⟩
  ·obtain rfl : k = 3 := by omega
   have e : ts = [Value.int .i64 x, .int .i64 x, .int .i64 x] := by
    have := htk.out
    rw [List.take_of_length_le (by rw [hts.out]; exact Nat.le_refl _)] at this
    exact this
   subst e
   go_wp2_with fail
   go_ret
   exact ⟨w.heap.size, Nat.le_refl _, rfl, hR.out, hB.out⟩
set_option maxRecDepth 100000 in
set_option maxHeartbeats 2000000 in
theorem own_nil  (x : Int) (w : World)  :
  Calls Try.prog 25 #[.slice none 0 0, .int .i64 x] w (Owned [] x w) := by
 obtain ⟨i0, hi, hz0, hz1, hz2⟩ := info_parts info_int'
 go_enter Try.func25, Try.ntmps25
 go_wp2_with ((refine wpList_make_own _ rfl _ _ 35 rfl w.heap.size 2 i0 (.int .i64 0) 1 Try.underlying35 hi hz0 hz1 .i64 .i64 _ (0 + 3) rfl rfl (by simp) (by rw [hz2]; omega) (by unfold maxLen; omega) (Nat.le_refl _) ?_); intro w1 hown1 hgrow1)
 have hb1 := (Below.refl w.heap.size w).grown hgrow1 (Nat.le_refl _) (fun k hk => by cases hk)
 have HB2 := Aside0.mk hb1
 obtain ⟨t0, ht0, hblk, _⟩ := Blk.ofOwn hown1
 have HT0 := Aside0.mk (show t0.length = 3 by rw [ht0])
 have HRW := Aside0.mk (show Blk w1 w.heap.size 2 (nums .i64 [] ++ t0) from hblk)
 clear ht0 hblk
 clear hown1 hgrow1 hb1
 go_wp2_with fail
 go_loopg [7] 4 (fun gq iv w' => ∃ (k : Nat) (ts : List Value), k ≤ 3 ∧ iv = .int .i64 (k : Int) ∧ Aside0 (ts.length = 3) ∧ Aside0 (gq = 4 - k) ∧ Aside0 (ts.take k = [Value.int .i64 x, .int .i64 x, .int .i64 x].take k) ∧ Aside0 (Blk w' w.heap.size 2 (nums .i64 [] ++ ts)) ∧ Aside0 (Below w.heap.size w w'))
 case atStart => exact ⟨0, t0, by omega, by simp, HT0, ⟨rfl⟩, ⟨rfl⟩, HRW, HB2⟩
 case round =>
  obtain ⟨k, ts, k3, rfl, hts, hg, htk, hR, hB⟩ := hrel
  by_cases hlt : k < 3
  ·obtain ⟨u, hu⟩ : ∃ u, ts[k]? = some u := ⟨_, List.getElem?_eq_getElem (by rw [hts.out]; exact hlt)⟩
   have hc : wr.cell? ⟨w.heap.size, k, none⟩ = some u := by rw [hR.out.cell]; exact hu
   have hf := hR.out.frozen (k)
   have R2 := Aside0.mk (show Blk (wr.setCell ⟨w.heap.size, k, none⟩ (.int .i64 x)) w.heap.size 2 (nums .i64 [] ++ ts.set k (.int .i64 x)) by exact hR.out.put k (.int .i64 x))
   have B2 := Aside0.mk (hB.out.setCell (p := ⟨w.heap.size, k, none⟩) (Nat.le_refl _) (.int .i64 x))
   clear hu
   go_wp2_with fail
   go_roundg (4 - (k + 1))
   case measure => have := hg.out; omega
   case rel => exact ⟨k + 1, ts.set k (.int .i64 x), by omega, by simp, ⟨by rw [List.length_set]; exact hts.out⟩, ⟨rfl⟩, ⟨take_put hts.out hlt htk.out⟩, R2, B2⟩
  ·obtain rfl : k = 3 := by omega
   have e : ts = [Value.int .i64 x, .int .i64 x, .int .i64 x] := by
    have := htk.out
    rw [List.take_of_length_le (by rw [hts.out]; exact Nat.le_refl _)] at this
    exact this
   subst e
   go_wp2_with fail
   go_ret
   exact ⟨w.heap.size, Nat.le_refl _, rfl, hR.out, hB.out⟩
theorem own_any (A0 : Option Addr) (c0 : Nat) (l : List Int) (x : Int) (w : World) (hr0 : Kd.C (Kd.int .i64) w A0 l.length l) (hc0 : l.length ≤ c0) (hn : A0 = none → c0 = 0) (hm : l.length ≤ 1000000) :
  Calls Try.prog 25 #[.slice A0 l.length c0, .int .i64 x] w (Owned l x w) := by
 cases A0 with
 | some ad => exact own_some ad c0 l x w hr0 hc0 hm
 | none =>
  obtain rfl := hn rfl
  obtain rfl : l = [] := List.eq_nil_of_length_eq_zero (by omega)
  exact own_nil x w
end Go.Proofs.Ytcfpkkgdofblfaa.HL
/- Contracts by hand: whether a list of one's own was kept; spoilt. -/
namespace Go.Proofs.Ytcfpkkgdofblfaa.HL
open Go.RowKit Go.Proofs.YtcfpkkgdofblfaaW.PrintWords Go.Proofs.YtcfpkkgdofblfaaW.PrintLast Go.Proofs.YtcfpkkgdofblfaaW.PrintMore Go.Proofs.Ytcfpkkgdofblfaa.HW Go.Proofs.Ytcfpkkgdofblfaa.H
set_option linter.unusedVariables false
set_option linter.unusedSimpArgs false
set_option maxRecDepth 100000 in
set_option maxHeartbeats 2000000 in
theorem kept_yes {A1 : Option Addr} {c1 : Nat} {l : List Int} {x : Int} {g : Nat} {w : World} (hb : Blk w g 2 (nums .i64 l ++ [.int .i64 x, .int .i64 x, .int .i64 x])) (hr1 : Kd.C (Kd.int .i64) w A1 l.length l) (hc1 : l.length ≤ c1) (hm : l.length ≤ 1000000) :
  Calls Try.prog 29 #[.slice (some ⟨g, 0, none⟩) l.length (l.length + 3), .slice A1 l.length c1, .int .i64 x] w fun e w' => e = .returned (.bool true) ∧ Drawn0 w w' := by
 have HB := Aside0.mk hb
 have HR1 := Aside0.mk hr1
 clear hb hr1
 go_enter Try.func29, Try.ntmps29
 go_wp2_with fail
 refine (help_Plain_int.calls (some ⟨g, 0, none⟩) (l.length + 3) l A1 c1 l true _ (HB.out.reads (by omega)) (by omega) HR1.out hc1 (by unfold help_Plain_int.f; rw [if_pos (by omega)]; simp)).mono ?_
 rintro e w1 ⟨rfl, ⟨m1, rfl⟩⟩
 go_wp2_with fail
 go_loopg [8] 4 (fun gq iv w' => ∃ (k : Nat), k ≤ 3 ∧ iv = .int .i64 ((l.length : Int) + (k : Int)) ∧ Aside0 (gq = 4 - k) ∧ Drawn0 w w')
 case atStart => exact ⟨0, by omega, by simp, ⟨rfl⟩, ⟨_, rfl⟩⟩
 case round =>
  obtain ⟨k, k3, rfl, hg, ⟨m2, rfl⟩⟩ := hrel
  by_cases hlt : k < 3
  ·have hc : w.cell? ⟨g, l.length + k, none⟩ = some (.int .i64 x) := by
    rw [HB.out.cell, List.getElem?_append_right (by rw [nums_length]; simp), nums_length]
    rcases (by omega : k = 0 ∨ k = 1 ∨ k = 2) with rfl | rfl | rfl
    ·rw [show l.length + 0 - l.length = 0 by omega]; rfl
    ·rw [show l.length + 1 - l.length = 1 by omega]; rfl
    ·rw [show l.length + 2 - l.length = 2 by omega]; rfl
   go_wp2_with fail
   go_roundg (4 - (k + 1))
   case measure => have := hg.out; omega
   case rel => exact ⟨k + 1, by omega, by simp; omega, ⟨rfl⟩, ⟨_, rfl⟩⟩
  ·obtain rfl : k = 3 := by omega
   go_wp2_with fail
   go_ret
   exact ⟨rfl, ⟨_, rfl⟩⟩
end Go.Proofs.Ytcfpkkgdofblfaa.HL
/- The law LevelTells, walked. -/
namespace Go.Proofs.Ytcfpkkgdofblfaa.Lv
open Go.RowKit Go.Proofs.YtcfpkkgdofblfaaW.PrintWords Go.Proofs.YtcfpkkgdofblfaaW.PrintLast Go.Proofs.YtcfpkkgdofblfaaW.PrintMore Go.Proofs.Ytcfpkkgdofblfaa.HW
open Pm Pd
set_option linter.unusedVariables false
set_option linter.unusedSimpArgs false
open Go.Proofs.Ytcfpkkgdofblfaa.H Go.Proofs.Ytcfpkkgdofblfaa.Du
set_option maxRecDepth 100000 in
set_option maxHeartbeats 8000000 in
theorem tells_big (p : Prod) (A1 : Option Addr) (c1 : Nat) (A2 : Option Addr) (c2 : Nat) (A3 : Option Addr) (c3 : Nat) (A : Option Addr) (c : Nat) (l : List Int) (m x : Int) (w : World) (hp : ProdAt w p A1 c1 A2 c2 A3 c3) (hgv : GV w) (raw : Bool) (hz0 : p.name.size ≤ maxLen) (hz1 : c1 ≤ maxLen) (hz2 : c2 ≤ maxLen) (hz3 : c3 ≤ maxLen) (hl : l.length ≤ 140737488351232) (big : 100 < p.name.size ∨ 50 < p.resets.length ∨ 50 < p.late.length ∨ 300 < p.hol.length ∨ 40 < l.length) :
  Calls Try.prog 7 #[pv p A1 c1 A2 c2 A3 c3, .slice A l.length c, .int .i64 m, .int .i64 x, .bool raw] w fun e w' => e = .returned (.bool true) ∧ Below w.heap.size w w' := by
 have AK := Aside0.mk (fun (W : World) (hb : Below w.heap.size w W) => level_awake W (hgv.below hb))
 have z1 := hp.l1
 have z2 := hp.l2
 have z3 := hp.l3
 unfold maxLen at hz0 hz1 hz2 hz3
 clear hp hgv
 rcases (by omega : 100 < p.name.size ∨ (p.name.size ≤ 100 ∧ 50 < p.resets.length) ∨ (p.name.size ≤ 100 ∧ p.resets.length ≤ 50 ∧ 50 < p.late.length) ∨ (p.name.size ≤ 100 ∧ p.resets.length ≤ 50 ∧ p.late.length ≤ 50 ∧ 300 < p.hol.length) ∨ (p.name.size ≤ 100 ∧ p.resets.length ≤ 50 ∧ p.late.length ≤ 50 ∧ p.hol.length ≤ 300 ∧ 40 < l.length)) with b1 | ⟨b1, b2⟩ | ⟨b1, b2, b3⟩ | ⟨b1, b2, b3, b4⟩ | ⟨b1, b2, b3, b4, b5⟩
 all_goals
  clear big
  go_enter Try.func7, Try.ntmps7
  go_wp2_with ((with_reducible refine gate_dst (N := 5) rfl ?_); refine box_event ?hg (N := 5) ?hd (cs := pcs p A1 c1 A2 c2 A3 c3) (t := 27) ?hr ?_; (case hd => rfl); (case hg => rfl); (case hr => first | (go_simp; done) | (go_simp; rfl)); intro g hg w1 hb1 hbl1; have gge := (show w.heap.size ≤ g by rw [hg]; exact Nat.le_refl _); clear hg; have GG := Aside0.mk hb1; have HB := Aside0.mk hbl1; clear hb1 hbl1; refine Hid.out ?_)
  refine Lib.hid ?_
  obtain ⟨q0, -, -, -, -, -, -, -, q8, -, -, -, -, -, -, q15, -, -, q18⟩ := pc_cells GG.out
  go_wp2_with (go_at_call 24; (with_reducible refine (AK.out _ HB.out).mono ?_); rintro e w9 ⟨rfl, hb⟩; have HB := Aside0.mk (below_step HB.out hb); clear hb)
  go_ret
  exact ⟨rfl, HB.out⟩
set_option maxRecDepth 100000 in
set_option maxHeartbeats 8000000 in
theorem tells_raw (p : Prod) (A1 : Option Addr) (c1 : Nat) (A2 : Option Addr) (c2 : Nat) (A3 : Option Addr) (c3 : Nat) (A : Option Addr) (c : Nat) (l : List Int) (m x : Int) (w : World) (hp : ProdAt w p A1 c1 A2 c2 A3 c3) (hgv : GV w) (hr : Kd.C (Kd.int .i64) w A l.length l) (hc : l.length ≤ c) (hn : A = none → c = 0) (b1 : p.name.size ≤ 100) (b2 : p.resets.length ≤ 50) (b3 : p.late.length ≤ 50) (b4 : p.hol.length ≤ 300) (b5 : l.length ≤ 40) :
  Calls Try.prog 7 #[pv p A1 c1 A2 c2 A3 c3, .slice A l.length c, .int .i64 m, .int .i64 x, .bool true] w fun e w' => e = .returned (.bool true) ∧ Below w.heap.size w w' := by
 have AK := Aside0.mk (fun (W : World) (hb : Below w.heap.size w W) => level_awake W (hgv.below hb))
 have HG := Aside0.mk hgv
 have HP := Aside0.mk hp
 have SQ := Aside0.mk (show Small p from ⟨by omega, by omega, by omega, by omega⟩)
 obtain ⟨lv, le, hlv⟩ : ∃ lv le, leftE p l m x = (lv, le) := ⟨_, _, rfl⟩
 obtain ⟨uv, ue, huv⟩ : ∃ uv ue, ofE p l m = (uv, ue) := ⟨_, _, rfl⟩
 have huw : rofE p l m = (uv, ue) := (of_rof p l m).trans huv
 have OW := Aside0.mk (fun (W : World) (hb : Below w.heap.size w W) (hc : Kd.C (Kd.int .i64) W A l.length l) => HL.own_any A c l 71 W hc (by omega) hn (by omega))
 have LE := Aside0.mk (fun (g1 e1 : Nat) (W : World) (hb : Below w.heap.size w W) (hc : Kd.C (Kd.int .i64) W (some ⟨g1, 0, none⟩) l.length l) => show Calls Try.prog 26 #[pv p A1 c1 A2 c2 A3 c3, .slice (some ⟨g1, 0, none⟩) l.length e1, .int .i64 m, .int .i64 x] W (Two (lv, le) W) from by have := Left_any p A1 c1 A2 c2 A3 c3 (some ⟨g1, 0, none⟩) l e1 m W (HG.out.below hb) (HP.out.below hb) SQ.out hc (by omega) x; rw [hlv] at this; exact this)
 have RL := Aside0.mk (fun (W : World) (hb : Below w.heap.size w W) (hc : Kd.C (Kd.int .i64) W A l.length l) => show Calls Try.prog 27 #[pv p A1 c1 A2 c2 A3 c3, .slice A l.length c, .int .i64 m, .int .i64 x] W (Two (lv, le) W) from by have := rLeft_any p A1 c1 A2 c2 A3 c3 A l c m W (HP.out.below hb) SQ.out.held hc (by omega) x; rw [hlv] at this; exact this)
 have OF := Aside0.mk (fun (g1 e1 : Nat) (W : World) (hb : Below w.heap.size w W) (hc : Kd.C (Kd.int .i64) W (some ⟨g1, 0, none⟩) l.length l) => show Calls Try.prog 23 #[pv p A1 c1 A2 c2 A3 c3, .slice (some ⟨g1, 0, none⟩) l.length e1, .int .i64 m] W (Two (uv, ue) W) from by have := Of_any p A1 c1 A2 c2 A3 c3 (some ⟨g1, 0, none⟩) l e1 m W (HG.out.below hb) (HP.out.below hb) SQ.out hc (by omega); rw [huv] at this; exact this)
 have RO := Aside0.mk (fun (W : World) (hb : Below w.heap.size w W) (hc : Kd.C (Kd.int .i64) W A l.length l) => show Calls Try.prog 28 #[pv p A1 c1 A2 c2 A3 c3, .slice A l.length c, .int .i64 m] W (Two (uv, ue) W) from by have := rOf_any p A1 c1 A2 c2 A3 c3 A l c m W (HP.out.below hb) SQ.out.held hc (by omega); rw [huw] at this; exact this)
 clear hlv huv huw
 have RP := Aside0.mk hr
 clear hp hgv hn hr
 go_enter Try.func7, Try.ntmps7
 go_wp2_with ((with_reducible refine gate_dst (N := 5) rfl ?_); refine box_event ?hg (N := 5) ?hd (cs := pcs p A1 c1 A2 c2 A3 c3) (t := 27) ?hr ?_; (case hd => rfl); (case hg => rfl); (case hr => first | (go_simp; done) | (go_simp; rfl)); intro g hg w1 hb1 hbl1; have gge := (show w.heap.size ≤ g by rw [hg]; exact Nat.le_refl _); clear hg; have GG := Aside0.mk hb1; have HB := Aside0.mk hbl1; clear hb1 hbl1; have RP := Aside0.mk (Kd.C_below RP.out HB.out); refine Hid.out ?_)
 refine Lib.hid ?_
 obtain ⟨q0, -, -, -, -, -, -, -, q8, -, -, -, -, -, -, q15, -, -, q18⟩ := pc_cells GG.out
 go_wp2_with (first
  | (go_at_call 25; (with_reducible refine (OW.out _ HB.out RP.out).mono ?_); rintro e w20 ⟨go, goge, rfl, hbo, hb⟩; have BO := Aside0.mk hbo; have RP := Aside0.mk (Kd.C_below RP.out hb); have HB := Aside0.mk (below_step HB.out hb); have GG := Aside0.mk (Pd.blk_below GG.out hb); clear hb hbo goge)
  | ((with_reducible refine gate_dst (N := 86) rfl ?_); refine wpList_load_row rfl 27 (.tmp 5) rfl g rfl 27 _ (0, 0) _ GG.out Try.underlying27 rfl info_prod ?_)
  | (go_at_call 26; (with_reducible refine (LE.out _ _ _ HB.out (Blk.reads BO.out (by omega))).mono ?_); rintro e w21 ⟨rfl, hb⟩; have RP := Aside0.mk (Kd.C_below RP.out hb); have BO := Aside0.mk (Blk.below BO.out hb); have HB := Aside0.mk (below_step HB.out hb); have GG := Aside0.mk (Pd.blk_below GG.out hb); clear hb)
  | ((with_reducible refine gate_dst (N := 94) rfl ?_); refine wpList_load_row rfl 27 (.tmp 5) rfl g rfl 27 _ (0, 0) _ GG.out Try.underlying27 rfl info_prod ?_)
  | (go_at_call 27; (with_reducible refine (RL.out _ HB.out RP.out).mono ?_); rintro e w22 ⟨rfl, hb⟩; have RP := Aside0.mk (Kd.C_below RP.out hb); have BO := Aside0.mk (Blk.below BO.out hb); have HB := Aside0.mk (below_step HB.out hb); have GG := Aside0.mk (Pd.blk_below GG.out hb); clear hb)
  | ((with_reducible refine gate_dst (N := 102) rfl ?_); refine wpList_load_row rfl 27 (.tmp 5) rfl g rfl 27 _ (0, 0) _ GG.out Try.underlying27 rfl info_prod ?_)
  | (go_at_call 23; (with_reducible refine (OF.out _ _ _ HB.out (Blk.reads BO.out (by omega))).mono ?_); rintro e w23 ⟨rfl, hb⟩; have RP := Aside0.mk (Kd.C_below RP.out hb); have BO := Aside0.mk (Blk.below BO.out hb); have HB := Aside0.mk (below_step HB.out hb); have GG := Aside0.mk (Pd.blk_below GG.out hb); clear hb)
  | ((with_reducible refine gate_dst (N := 109) rfl ?_); refine wpList_load_row rfl 27 (.tmp 5) rfl g rfl 27 _ (0, 0) _ GG.out Try.underlying27 rfl info_prod ?_)
  | (go_at_call 28; (with_reducible refine (RO.out _ HB.out RP.out).mono ?_); rintro e w24 ⟨rfl, hb⟩; have RP := Aside0.mk (Kd.C_below RP.out hb); have BO := Aside0.mk (Blk.below BO.out hb); have HB := Aside0.mk (below_step HB.out hb); have GG := Aside0.mk (Pd.blk_below GG.out hb); clear hb)
  | (go_at_call 24; (with_reducible refine (AK.out _ HB.out).mono ?_); rintro e w25 ⟨rfl, hb⟩; have RP := Aside0.mk (Kd.C_below RP.out hb); have BO := Aside0.mk (Blk.below BO.out hb); have HB := Aside0.mk (below_step HB.out hb); have GG := Aside0.mk (Pd.blk_below GG.out hb); clear hb)
  | (go_at_call 29; (with_reducible refine (HL.kept_yes BO.out RP.out (by omega) (by omega)).mono ?_); rintro e w26 ⟨rfl, hd⟩; have HB := Aside0.mk (below_step HB.out hd.below); clear hd))
 go_ret
 exact ⟨by first | rfl | simp, HB.out⟩
end Go.Proofs.Ytcfpkkgdofblfaa.Lv
/- The law LevelTells, walked: products that are near. -/
namespace Go.Proofs.Ytcfpkkgdofblfaa.Lv
open Go.RowKit Go.Proofs.YtcfpkkgdofblfaaW.PrintWords Go.Proofs.YtcfpkkgdofblfaaW.PrintLast Go.Proofs.YtcfpkkgdofblfaaW.PrintMore Go.Proofs.Ytcfpkkgdofblfaa.HW
open Pm Pd
set_option linter.unusedVariables false
set_option linter.unusedSimpArgs false
open Go.Proofs.Ytcfpkkgdofblfaa.H Go.Proofs.Ytcfpkkgdofblfaa.Du
abbrev k1 (q : Prod) : Prod := { q with kind := 1 }
theorem k_at {w : World} {q : Prod} {A1 : Option Addr} {c1 : Nat} {A2 : Option Addr} {c2 : Nat} {A3 : Option Addr} {c3 : Nat} (h : ProdAt w q A1 c1 A2 c2 A3 c3) : ProdAt w (k1 q) A1 c1 A2 c2 A3 c3 :=
 ⟨h.r1, h.l1, h.n1, h.r2, h.l2, h.n2, h.r3, h.l3, h.n3⟩
set_option maxRecDepth 100000 in
set_option maxHeartbeats 20000000 in
theorem tells_near (p : Prod) (A1 : Option Addr) (c1 : Nat) (A2 : Option Addr) (c2 : Nat) (A3 : Option Addr) (c3 : Nat) (A : Option Addr) (c : Nat) (l : List Int) (m x : Int) (w : World) (hp : ProdAt w p A1 c1 A2 c2 A3 c3) (hgv : GV w) (hr : Kd.C (Kd.int .i64) w A l.length l) (hc : l.length ≤ c) (b1 : p.name.size ≤ 100) (b2 : p.resets.length ≤ 50) (b3 : p.late.length ≤ 50) (b4 : p.hol.length ≤ 300) (b5 : l.length ≤ 40) :
  Calls Try.prog 7 #[pv p A1 c1 A2 c2 A3 c3, .slice A l.length c, .int .i64 m, .int .i64 x, .bool false] w fun e w' => e = .returned (.bool true) ∧ Below w.heap.size w w' := by
 have AK := Aside0.mk (fun (W : World) (hb : Below w.heap.size w W) => level_awake W (hgv.below hb))
 have HG := Aside0.mk hgv
 have HP := Aside0.mk hp
 have HR := Aside0.mk hr
 have NE := Aside0.mk (fun W (hb : Below w.heap.size w W) => near_any p A1 c1 A2 c2 A3 c3 20 W (hp.below hb) (show Held p from ⟨by omega, by omega, by omega, by omega⟩) (by omega) (by omega))
 obtain ⟨nv, nt⟩ := near_valid p (n := 20) (by omega) (by omega)
 generalize nearP p 20 = q0 at NE nv nt
 have sq := ok_small2 nv
 have SQ := Aside0.mk (show Small (k1 q0) from ⟨sq.name, sq.s1, sq.s2, sq.s3⟩)
 obtain ⟨t1, t2⟩ := times_of_ok nv
 obtain ⟨tn, htn⟩ : ∃ tn : Nat, q0.times = (tn : Int) := ⟨q0.times.toNat, by omega⟩
 have tn1 : 1 ≤ tn := by omega
 have tn2 : tn ≤ 20 := by omega
 have HT := Aside0.mk htn
 have mM := U_isB m (m := 10000000000000) (by omega) (by omega)
 obtain ⟨mMa, mMb⟩ := U_bd m (m := 10000000000000) (by omega)
 obtain ⟨M, hM⟩ : ∃ M, 1 + U m 10000000000000 = M := ⟨_, rfl⟩
 have sM : IntKind.i64.wrap (1 + U m 10000000000000) = M := by rw [hM]; exact IntWalk.i64_in _ (by omega)
 clear hp hgv hr sq nv nt htn t1 t2 hM
 go_enter Try.func7, Try.ntmps7
 go_wp2_with ((with_reducible refine gate_dst (N := 5) rfl ?_); refine box_event ?hg (N := 5) ?hd (cs := pcs p A1 c1 A2 c2 A3 c3) (t := 27) ?hr ?_; (case hd => rfl); (case hg => rfl); (case hr => first | (go_simp; done) | (go_simp; rfl)); intro g hg w1 hb1 hbl1; have gge := (show w.heap.size ≤ g by rw [hg]; exact Nat.le_refl _); clear hg; have GG := Aside0.mk hb1; have HB := Aside0.mk hbl1; clear hb1 hbl1; refine Hid.out ?_)
 refine Lib.hid ?_
 obtain ⟨qq0, -, -, -, -, -, -, -, q8, -, -, -, -, -, -, q15, -, -, q18⟩ := pc_cells GG.out
 go_wp2_with (first
  | ((with_reducible refine gate_dst (N := 53) rfl ?_); refine wpList_load_row rfl 27 (.tmp 5) rfl g rfl 27 _ (0, 0) _ GG.out Try.underlying27 rfl info_prod ?_)
  | (go_at_call 12; (with_reducible refine (NE.out _ HB.out).mono ?_); rintro e w2 ⟨B1, d1, B2, d2, B3, d3, rfl, hq, hb⟩; have HQ := Aside0.mk hq; have HB := Aside0.mk (below_step HB.out hb); have GG := Aside0.mk (Pd.blk_below GG.out hb); clear hq hb)
  | ((with_reducible refine gate_store (t := 27) (p := 5) rfl ?_); refine row_event rfl (t := 27) (p := 5) (v := .tmp 54) rfl rfl (g := g) (cs := pcs q0 B1 d1 B2 d2 B3 d3) (zs := pcs p A1 c1 A2 c2 A3 c3) rfl rfl GG.out info_prod rfl (pcs_one _ _ _ _ _ _ _) ?_; intro w3 hb8 hbut; have GG := Aside0.mk hb8; have HB := Aside0.mk (But.below HB.out HB.out.size gge hbut); clear hb8 hbut; have uu3 : w3.cell? ⟨g, 3, none⟩ = some (.int .i64 q0.kind) := (blk_cell GG.out 3).trans rfl; have ff3 := frozen_of_row w3 g 3 _ _ GG.out)
  | ((with_reducible refine gate_store (t := 3) (p := 55) rfl ?_); refine put_event rfl (t := 3) (p := 55) (v := (.const (.int .i64 1))) rfl rfl (g := g) (i := 3) (cs := pcs q0 B1 d1 B2 d2 B3 d3) (cs' := pcs (k1 q0) B1 d1 B2 d2 B3 d3) (x := .int .i64 1) ?hr GG.out ?hc ?_; (case hc => rfl); (case hr => go_simp); intro w33 hb8 hbut; have GG := Aside0.mk hb8; have HB := Aside0.mk (But.below HB.out HB.out.size gge hbut); clear hb8 hbut))
 clear qq0 q8 q15 q18 uu3 ff3
 go_loopg [11, 12] (tn + 1) (fun gq ov iv w' => ∃ (k : Nat) (Ax : Option Addr) (cw : Nat) (ls : List Int), k ≤ tn ∧ iv = .int .i64 (k : Int) ∧ ov = .slice Ax ls.length cw ∧ Aside0 (ls.length = k) ∧ Aside0 (gq = tn + 1 - k) ∧ Aside0 (Kd.R (Kd.int .i64) 2 w' w.heap.size (fun b => b ≠ g) (.slice Ax ls.length cw) ls) ∧ Aside0 (w'.heap[g]? = some (.cells (pcs (k1 q0) B1 d1 B2 d2 B3 d3) 27 (0, 0))) ∧ Aside0 (Below w.heap.size w w'))
 case atStart => exact ⟨0, none, 0, [], by omega, rfl, rfl, ⟨rfl⟩, ⟨rfl⟩, ⟨Kd.R_nil _ _ _ _ _⟩, GG, HB⟩
 case round =>
  obtain ⟨k, Ax, cw, ls, hk, rfl, rfl, hlen, hgq, HO, GG, HB⟩ := hrel
  have u5 : wr.cell? ⟨g, 5, none⟩ = some (.int .i64 (tn : Int)) := by rw [← HT.out]; exact (blk_cell GG.out 5).trans rfl
  by_cases hlt : k < tn
  ·by_cases hll : k < l.length
   ·obtain ⟨ad0, e0, hx0⟩ := Kd.at_int HR.out (k : Int) (by omega) (by omega)
    have hx1 : wr.cell? (ad0.add k) = some (.int .i64 (rd l (k : Int))) := by
     simp only [Int.toNat_natCast] at hx0
     exact (HB.out.cell (cell_ltR hx0)).trans hx0
    subst e0
    obtain ⟨d, hd⟩ : ∃ d, rd l (k : Int) = d := ⟨_, rfl⟩
    rw [hd] at hx1
    have mU := U_is d (m := 2000) (by omega) (by omega)
    obtain ⟨v, hv⟩ : ∃ v, U d 2000 = v := ⟨_, rfl⟩
    rw [hv] at mU
    clear hx0 hd hv
    go_wp2_with ((with_reducible refine gate_builtin (b := .append) (xs := #[.tmp 73, .tmp 75]) rfl ?_); at_builtin; refine Kd.R_append (Kd.int .i64) (w0 := w) w.heap.size rfl (.tmp 73) (.tmp 75) 35 2 (.int .i64 0) 8 rfl Try.underlying35 info_l rfl (by decide) (by omega) (.slice Ax ls.length cw) ls v [.int .i64 v] (fun b => b ≠ g) (fun _ => False) rfl rfl ?aP (fun _ hk => hk.elim) ?aF ?aO ?aB ?aS ?aL ?_; (case aP => exact rfl); (case aF => exact fun b hb => (by have := blk_lt GG.out; omega)); (case aO => exact HO.out); (case aB => exact HB.out); (case aS => exact HB.out.size); (case aL => have := hlen.out; omega); intro v1 w11 hr1 hb1 hg1 hat1; obtain ⟨l2, hl2⟩ : ∃ l2, l2 = ls ++ [v] := ⟨_, rfl⟩; rw [← hl2] at hr1; obtain ⟨gn, cn, rfl⟩ := RL_slice hr1 (by rw [hl2]; simp); have L2 := Aside0.mk hl2; clear hl2; have R1 := Aside0.mk hr1; have GG := Aside0.mk ((hg1.block g (blk_lt GG.out) (fun e => (HO.out.1 g e.symm) rfl)).trans GG.out); have HB := Aside0.mk hb1; clear hr1 hb1 hg1 hat1)
    have L3 := Aside0.mk (show l2.length = k + 1 by rw [L2.out, List.length_append, hlen.out]; rfl)
    go_roundg (tn + 1 - (k + 1))
    case measure => have := hgq.out; omega
    case rel => exact ⟨k + 1, some ⟨gn, 0, none⟩, cn, l2, by omega, by simp, rfl, L3, ⟨rfl⟩, R1, GG, HB⟩
   ·obtain ⟨v, hv⟩ : ∃ v : Int, v = 30 := ⟨_, rfl⟩
    subst hv
    go_wp2_with ((with_reducible refine gate_builtin (b := .append) (xs := #[.tmp 73, .tmp 75]) rfl ?_); at_builtin; refine Kd.R_append (Kd.int .i64) (w0 := w) w.heap.size rfl (.tmp 73) (.tmp 75) 35 2 (.int .i64 0) 8 rfl Try.underlying35 info_l rfl (by decide) (by omega) (.slice Ax ls.length cw) ls 30 [.int .i64 30] (fun b => b ≠ g) (fun _ => False) rfl rfl ?aP (fun _ hk => hk.elim) ?aF ?aO ?aB ?aS ?aL ?_; (case aP => exact rfl); (case aF => exact fun b hb => (by have := blk_lt GG.out; omega)); (case aO => exact HO.out); (case aB => exact HB.out); (case aS => exact HB.out.size); (case aL => have := hlen.out; omega); intro v1 w11 hr1 hb1 hg1 hat1; obtain ⟨l2, hl2⟩ : ∃ l2, l2 = ls ++ [30] := ⟨_, rfl⟩; rw [← hl2] at hr1; obtain ⟨gn, cn, rfl⟩ := RL_slice hr1 (by rw [hl2]; simp); have L2 := Aside0.mk hl2; clear hl2; have R1 := Aside0.mk hr1; have GG := Aside0.mk ((hg1.block g (blk_lt GG.out) (fun e => (HO.out.1 g e.symm) rfl)).trans GG.out); have HB := Aside0.mk hb1; clear hr1 hb1 hg1 hat1)
    have L3 := Aside0.mk (show l2.length = k + 1 by rw [L2.out, List.length_append, hlen.out]; rfl)
    go_roundg (tn + 1 - (k + 1))
    case measure => have := hgq.out; omega
    case rel => exact ⟨k + 1, some ⟨gn, 0, none⟩, cn, l2, by omega, by simp, rfl, L3, ⟨rfl⟩, R1, GG, HB⟩
  ·have hlk : ls.length = tn := by rw [hlen.out]; omega
   obtain ⟨gn, cn, e⟩ := RL_slice HO.out (by intro h; rw [h] at hlk; simp at hlk; omega)
   injection e with e1 _ e3
   subst e1 e3
   obtain ⟨-, hcw, hcc⟩ := Kd.R_reads' HO.out
   have hcw2 : ls.length ≤ cw := hcw
   have RP := Aside0.mk hcc
   have hlm : ls.length ≤ 20 := by omega
   clear hcw hcc HO hlen hlk
   obtain ⟨lv, le, hlv⟩ : ∃ lv le, leftE (k1 q0) ls M x = (lv, le) := ⟨_, _, rfl⟩
   obtain ⟨uv, ue, huv⟩ : ∃ uv ue, ofE (k1 q0) ls M = (uv, ue) := ⟨_, _, rfl⟩
   have huw : rofE (k1 q0) ls M = (uv, ue) := (of_rof (k1 q0) ls M).trans huv
   have OW := Aside0.mk (fun (W : World) (hb : Below w.heap.size w W) (hc : Kd.C (Kd.int .i64) W (some ⟨gn, 0, none⟩) ls.length ls) => HL.own_any (some ⟨gn, 0, none⟩) cw ls 71 W hc (by omega) (fun h => by cases h) (by omega))
   have LE := Aside0.mk (fun (g1 e1 : Nat) (W : World) (hb : Below w.heap.size w W) (hc : Kd.C (Kd.int .i64) W (some ⟨g1, 0, none⟩) ls.length ls) => show Calls Try.prog 26 #[pv (k1 q0) B1 d1 B2 d2 B3 d3, .slice (some ⟨g1, 0, none⟩) ls.length e1, .int .i64 M, .int .i64 x] W (Two (lv, le) W) from by have := Left_any (k1 q0) B1 d1 B2 d2 B3 d3 (some ⟨g1, 0, none⟩) ls e1 M W (HG.out.below hb) (k_at (HQ.out _ (HP.out.below hb))) SQ.out hc (by omega) x; rw [hlv] at this; exact this)
   have RL := Aside0.mk (fun (W : World) (hb : Below w.heap.size w W) (hc : Kd.C (Kd.int .i64) W (some ⟨gn, 0, none⟩) ls.length ls) => show Calls Try.prog 27 #[pv (k1 q0) B1 d1 B2 d2 B3 d3, .slice (some ⟨gn, 0, none⟩) ls.length cw, .int .i64 M, .int .i64 x] W (Two (lv, le) W) from by have := rLeft_any (k1 q0) B1 d1 B2 d2 B3 d3 (some ⟨gn, 0, none⟩) ls cw M W (k_at (HQ.out _ (HP.out.below hb))) SQ.out.held hc (by omega) x; rw [hlv] at this; exact this)
   have OF := Aside0.mk (fun (g1 e1 : Nat) (W : World) (hb : Below w.heap.size w W) (hc : Kd.C (Kd.int .i64) W (some ⟨g1, 0, none⟩) ls.length ls) => show Calls Try.prog 23 #[pv (k1 q0) B1 d1 B2 d2 B3 d3, .slice (some ⟨g1, 0, none⟩) ls.length e1, .int .i64 M] W (Two (uv, ue) W) from by have := Of_any (k1 q0) B1 d1 B2 d2 B3 d3 (some ⟨g1, 0, none⟩) ls e1 M W (HG.out.below hb) (k_at (HQ.out _ (HP.out.below hb))) SQ.out hc (by omega); rw [huv] at this; exact this)
   have RO := Aside0.mk (fun (W : World) (hb : Below w.heap.size w W) (hc : Kd.C (Kd.int .i64) W (some ⟨gn, 0, none⟩) ls.length ls) => show Calls Try.prog 28 #[pv (k1 q0) B1 d1 B2 d2 B3 d3, .slice (some ⟨gn, 0, none⟩) ls.length cw, .int .i64 M] W (Two (uv, ue) W) from by have := rOf_any (k1 q0) B1 d1 B2 d2 B3 d3 (some ⟨gn, 0, none⟩) ls cw M W (k_at (HQ.out _ (HP.out.below hb))) SQ.out.held hc (by omega); rw [huw] at this; exact this)
   clear hlv huv huw
   go_wp2_with (first
    | (go_at_call 25; (with_reducible refine (OW.out _ HB.out RP.out).mono ?_); rintro e w20 ⟨go, goge, rfl, hbo, hb⟩; have BO := Aside0.mk hbo; have RP := Aside0.mk (Kd.C_below RP.out hb); have HB := Aside0.mk (below_step HB.out hb); have GG := Aside0.mk (Pd.blk_below GG.out hb); clear hb hbo goge)
    | ((with_reducible refine gate_dst (N := 86) rfl ?_); refine wpList_load_row rfl 27 (.tmp 5) rfl g rfl 27 _ (0, 0) _ GG.out Try.underlying27 rfl info_prod ?_)
    | (go_at_call 26; (with_reducible refine (LE.out _ _ _ HB.out (Blk.reads BO.out (by omega))).mono ?_); rintro e w21 ⟨rfl, hb⟩; have RP := Aside0.mk (Kd.C_below RP.out hb); have BO := Aside0.mk (Blk.below BO.out hb); have HB := Aside0.mk (below_step HB.out hb); have GG := Aside0.mk (Pd.blk_below GG.out hb); clear hb)
    | ((with_reducible refine gate_dst (N := 94) rfl ?_); refine wpList_load_row rfl 27 (.tmp 5) rfl g rfl 27 _ (0, 0) _ GG.out Try.underlying27 rfl info_prod ?_)
    | (go_at_call 27; (with_reducible refine (RL.out _ HB.out RP.out).mono ?_); rintro e w22 ⟨rfl, hb⟩; have RP := Aside0.mk (Kd.C_below RP.out hb); have BO := Aside0.mk (Blk.below BO.out hb); have HB := Aside0.mk (below_step HB.out hb); have GG := Aside0.mk (Pd.blk_below GG.out hb); clear hb)
    | ((with_reducible refine gate_dst (N := 102) rfl ?_); refine wpList_load_row rfl 27 (.tmp 5) rfl g rfl 27 _ (0, 0) _ GG.out Try.underlying27 rfl info_prod ?_)
    | (go_at_call 23; (with_reducible refine (OF.out _ _ _ HB.out (Blk.reads BO.out (by omega))).mono ?_); rintro e w23 ⟨rfl, hb⟩; have RP := Aside0.mk (Kd.C_below RP.out hb); have BO := Aside0.mk (Blk.below BO.out hb); have HB := Aside0.mk (below_step HB.out hb); have GG := Aside0.mk (Pd.blk_below GG.out hb); clear hb)
    | ((with_reducible refine gate_dst (N := 109) rfl ?_); refine wpList_load_row rfl 27 (.tmp 5) rfl g rfl 27 _ (0, 0) _ GG.out Try.underlying27 rfl info_prod ?_)
    | (go_at_call 28; (with_reducible refine (RO.out _ HB.out RP.out).mono ?_); rintro e w24 ⟨rfl, hb⟩; have RP := Aside0.mk (Kd.C_below RP.out hb); have BO := Aside0.mk (Blk.below BO.out hb); have HB := Aside0.mk (below_step HB.out hb); have GG := Aside0.mk (Pd.blk_below GG.out hb); clear hb)
    | (go_at_call 24; (with_reducible refine (AK.out _ HB.out).mono ?_); rintro e w25 ⟨rfl, hb⟩; have RP := Aside0.mk (Kd.C_below RP.out hb); have BO := Aside0.mk (Blk.below BO.out hb); have HB := Aside0.mk (below_step HB.out hb); have GG := Aside0.mk (Pd.blk_below GG.out hb); clear hb)
    | (go_at_call 29; (with_reducible refine (HL.kept_yes BO.out RP.out (by omega) (by omega)).mono ?_); rintro e w26 ⟨rfl, hd⟩; have HB := Aside0.mk (below_step HB.out hd.below); clear hd))
   go_ret
   exact ⟨by first | rfl | simp, HB.out⟩
theorem levelTells_walk (p : Prod) (A1 : Option Addr) (c1 : Nat) (A2 : Option Addr) (c2 : Nat) (A3 : Option Addr) (c3 : Nat) (A : Option Addr) (c : Nat) (l : List Int) (m x : Int) (raw : Bool) (w : World) (hp : ProdAt w p A1 c1 A2 c2 A3 c3) (hz0 : p.name.size ≤ maxLen) (hz1 : c1 ≤ maxLen) (hz2 : c2 ≤ maxLen) (hz3 : c3 ≤ maxLen) (hr : Kd.C (Kd.int .i64) w A l.length l) (hc : l.length ≤ c) (hn : A = none → c = 0) (hy : l.length * 8 ≤ 140737488351232) (hw : ∀ y ∈ l, (Lit.int .i64 y).wf = true) (wm : (Lit.int .i64 m).wf = true) (wx : (Lit.int .i64 x).wf = true) (hgv : GV w) :
  Calls Try.prog 7 #[pv p A1 c1 A2 c2 A3 c3, .slice A l.length c, .int .i64 m, .int .i64 x, .bool raw] w fun e w' => e = .returned (.bool true) ∧ Below w.heap.size w w' := by
 rcases (by omega : (100 < p.name.size ∨ 50 < p.resets.length ∨ 50 < p.late.length ∨ 300 < p.hol.length ∨ 40 < l.length) ∨ (p.name.size ≤ 100 ∧ p.resets.length ≤ 50 ∧ p.late.length ≤ 50 ∧ p.hol.length ≤ 300 ∧ l.length ≤ 40)) with big | ⟨b1, b2, b3, b4, b5⟩
 ·exact tells_big p A1 c1 A2 c2 A3 c3 A c l m x w hp hgv raw hz0 hz1 hz2 hz3 (by omega) big
 ·cases raw with
  | true => exact tells_raw p A1 c1 A2 c2 A3 c3 A c l m x w hp hgv hr hc hn b1 b2 b3 b4 b5
  | false => exact tells_near p A1 c1 A2 c2 A3 c3 A c l m x w hp hgv hr hc b1 b2 b3 b4 b5
end Go.Proofs.Ytcfpkkgdofblfaa.Lv
/- Arguments opened: a product. -/
namespace Go.Proofs.Ytcfpkkgdofblfaa.Pd
open Go.ChangeShapes Go.WideShapes Go.Deep Go.RowKit Go.Joins Go.ChangeAt Go.Proofs.YtcfpkkgdofblfaaW.PrintWords Go.Proofs.Ytcfpkkgdofblfaa.Op
open Pm
set_option linter.unusedVariables false
set_option linter.unusedSimpArgs false
set_option linter.constructorNameAsVariable false
section
variable {H : Type} {enc : TypeId × Value → H} {P : Program} {w : World} {base : Nat} {spare : Nat → Bool} {held : Bool}
theorem open_rowsC {t e : TypeId} {fs : Array Field} {fuel : Nat} {x : Value} {y : DataW H × List MemPlace} (ht : P.underlying t = some (.slice e)) (he : P.underlying e = some (.struct fs))
  (hone : oneCellFields P fs = true) (hC : P.cellsOf e = fs.size) (hint : ∀ (j : Nat) (f : Field), fs[j]? = some f → P.underlying f.type = some (.int .i64)) (h : DataW.trod enc P w base spare held fuel t [x] = some y) :
  ∃ (A : Option Addr) (cap : Nat) (rows : List (List Int)), x = .slice A rows.length cap ∧ (A = none → cap = 0) ∧ rows.length ≤ cap ∧ cap ≤ maxLen ∧ IntRows w A fs.size rows := by
 have hx : ∃ A0 n0 c0, x = .slice A0 n0 c0 := by
  rcases open_slice ht h with ⟨h0, _⟩ | ⟨a, len, cap, m, n, D, Pl, h0, _⟩
  ·simp at h0; exact ⟨_, _, _, h0⟩
  ·simp at h0; exact ⟨_, _, _, h0⟩
 obtain ⟨A0, n0, c0, rfl⟩ := hx
 have hf : DataW.trod enc P w base spare held fuel t (Value.slice A0 n0 c0).cells.toList = some y := h
 rcases open_slice ht hf with ⟨h0, _⟩ | ⟨a, len, cap, m, n, D, Pl, hcs, hb, hl, hm, hmm, hx, hi⟩
 ·simp [Value.cells] at h0
  obtain ⟨rfl, rfl, rfl⟩ := h0
  exact ⟨none, 0, [], rfl, fun _ => rfl, Nat.le_refl _, Nat.zero_le _, fun r hr => by simp at hr, fun i r h => by simp at h⟩
 ·simp [Value.cells] at hcs
  obtain ⟨rfl, rfl, rfl⟩ := hcs
  have hlm : n0 ≤ m := by rw [hmm]; split <;> omega
  obtain ⟨rows, hrl, hrows⟩ := list_of (P := fun i (r : List Int) => (r.length = fs.size ∧ ∀ x ∈ r, (Lit.int .i64 x).wf = true) ∧ ∀ (j : Nat) (x : Int), r[j]? = some x → w.cell? (a.add (i * fs.size + j)) = some (.int .i64 x)) n0 (fun i hin => by
   obtain ⟨cs', hc, ht'⟩ := hi i (by omega)
   rw [hC] at hc
   obtain ⟨ys, n', hn', hy, hlen, hyl, hfl⟩ := DataW.trod_struct he ht'
   obtain ⟨_, hcl, hat⟩ := World.cells?_some hc
   obtain ⟨r, hr1, hr2⟩ := list_of (P := fun j (x : Int) => w.cell? (a.add (i * fs.size + j)) = some (.int .i64 x) ∧ (Lit.int .i64 x).wf = true) fs.size (fun j hj => by
    obtain ⟨f, hfj⟩ : ∃ f, fs[j]? = some f := ⟨_, Array.getElem?_eq_getElem hj⟩
    obtain ⟨ho, hk⟩ := hone_of' hone j f hfj
    have h1 := hfl j f hfj
    rw [ho, hk] at h1
    have hone' : (cs'.drop j).take 1 = [cs'[j]'(by omega)] := by
     rw [List.drop_eq_getElem_cons (by omega)]
     rfl
    rw [hone'] at h1
    have hys : ys[j]? = some (ys[j]'(by omega)) := List.getElem?_eq_getElem (by omega)
    rw [hys] at h1
    obtain ⟨x, hx1, _, hx3⟩ := DataW.trod_int (hint j f hfj) h1
    simp at hx1
    refine ⟨x, ?_, hx3⟩
    rw [← Go.Deep.add_add, hat j hj, List.getElem?_eq_getElem (by omega), hx1])
   exact ⟨r, ⟨hr1, fun x hx => by
    obtain ⟨j, hj, rfl⟩ := List.getElem_of_mem hx
    exact (hr2 j _ (List.getElem?_eq_getElem hj)).2⟩, fun j x hj => (hr2 j x hj).1⟩)
  subst hrl
  refine ⟨some a, c0, rows, rfl, (fun h => by cases h), hl, hm, fun r hr => ?_, fun i r hi => ⟨a, rfl, (hrows i r hi).2⟩⟩
  obtain ⟨i, hi2, rfl⟩ := List.getElem_of_mem hr
  exact (hrows i _ (List.getElem?_eq_getElem hi2)).1
theorem open_intsC {t e : TypeId} {fuel : Nat} {x : Value} {y : DataW H × List MemPlace} (ht : P.underlying t = some (.slice e)) (he : P.underlying e = some (.int .i64)) (hc : P.cellsOf e = 1) (h : DataW.trod enc P w base (fun _ => true) held fuel t [x] = some y) :
  ∃ (A : Option Addr) (cap : Nat) (l : List Int), x = .slice A l.length cap ∧ (A = none → cap = 0) ∧ l.length ≤ cap ∧ cap ≤ maxLen ∧ Kd.C (Kd.int .i64) w A l.length l := by
 rcases open_ints ht he hc h with ⟨hcs, _⟩ | ⟨a, len, cap, zs, hcs, _, hl, hm, hz, _, hcell, hwz⟩
 ·simp at hcs
  exact ⟨none, 0, [], hcs, fun _ => rfl, Nat.le_refl _, Nat.zero_le _, Kd.C_nil _ w⟩
 ·simp at hcs
  have hz' : zs.length = cap := by simpa using hz
  have hlen : (zs.take len).length = len := by rw [List.length_take]; omega
  refine ⟨some a, cap, zs.take len, by rw [hlen]; exact hcs, (fun h => by cases h), by omega, hm, ?_⟩
  refine Kd.C_of_reads (d := (0 : Int)) ⟨rfl, by unfold maxLen at hm; omega, fun _ => ⟨a, rfl, fun j hj => ?_⟩⟩
  rw [hlen] at hj
  rw [hcell j (by omega)]
  congr 2
  rw [List.getD_eq_getElem?_getD, List.getD_eq_getElem?_getD, List.getElem?_take]
  simp [hj]
theorem arr19 {cs : Array Value} (h : cs.size = 19) : ∃ v0 v1 v2 v3 v4 v5 v6 v7 v8 v9 v10 v11 v12 v13 v14 v15 v16 v17 v18, cs = #[v0, v1, v2, v3, v4, v5, v6, v7, v8, v9, v10, v11, v12, v13, v14, v15, v16, v17, v18] := by
 obtain ⟨l⟩ := cs
 match l, h with
 | [v0, v1, v2, v3, v4, v5, v6, v7, v8, v9, v10, v11, v12, v13, v14, v15, v16, v17, v18], _ => exact ⟨v0, v1, v2, v3, v4, v5, v6, v7, v8, v9, v10, v11, v12, v13, v14, v15, v16, v17, v18, rfl⟩
end
theorem cells_prod : Try.prog.cellsOf 27 = 19 := by kernel_rfl
theorem cells_string : Try.prog.cellsOf 9 = 1 := by kernel_rfl
theorem cells_int : Try.prog.cellsOf 3 = 1 := by kernel_rfl
theorem cells_int64 : Try.prog.cellsOf 2 = 1 := by kernel_rfl
theorem cells_resets : Try.prog.cellsOf 22 = 1 := by kernel_rfl
theorem cells_tiers : Try.prog.cellsOf 24 = 1 := by kernel_rfl
theorem cells_ints : Try.prog.cellsOf 25 = 1 := by kernel_rfl
theorem cells_four : Try.prog.cellsOf 23 = 4 := by kernel_rfl
set_option maxRecDepth 100000 in
theorem open_prod {H : Type} {enc : TypeId × Value → H} {w : World} {base b0 : Nat} {held : Bool} {r : Reach} {v : Value} {d : DataW H} {q : List MemPlace} (hv : Value.okWide Try.prog w r b0 27 v) (h : DataW.Trod enc Try.prog w base (fun _ => true) held 27 v d q) :
  ∃ (p : Prod) (A1 : Option Addr) (c1 : Nat) (A2 : Option Addr) (c2 : Nat) (A3 : Option Addr) (c3 : Nat), v = pv p A1 c1 A2 c2 A3 c3 ∧ ProdAt w p A1 c1 A2 c2 A3 c3 ∧ p.name.size ≤ maxLen ∧ c1 ≤ maxLen ∧ c2 ≤ maxLen ∧ c3 ≤ maxLen := by
 obtain ⟨cs, rfl, hsz⟩ := okWide_struct Try.underlying27 hv
 obtain ⟨v0, v1, v2, v3, v4, v5, v6, v7, v8, v9, v10, v11, v12, v13, v14, v15, v16, v17, v18, rfl⟩ := arr19 (hsz.trans cells_prod)
 obtain ⟨fuel, hf⟩ := h
 obtain ⟨xs, n, _, hx, hl, hlen, hfl⟩ := DataW.trod_struct Try.underlying27 hf
 have hy : ∀ i, i < 16 → ∃ y, xs[i]? = some y := fun i hi => ⟨_, List.getElem?_eq_getElem (by rw [hlen]; exact hi)⟩
 obtain ⟨y0, e0⟩ := hy 0 (by decide)
 have g0 : DataW.trod enc Try.prog w base (fun _ => true) held n 9 ([v0, v1, v2, v3, v4, v5, v6, v7, v8, v9, v10, v11, v12, v13, v14, v15, v16, v17, v18].drop 0 |>.take (Try.prog.cellsOf 9)) = some y0 := (hfl 0 _ rfl).trans e0
 rw [cells_string] at g0
 have k0 : DataW.trod enc Try.prog w base (fun _ => true) held n 9 [v0] = some y0 := g0
 obtain ⟨y1, e1⟩ := hy 1 (by decide)
 have g1 : DataW.trod enc Try.prog w base (fun _ => true) held n 3 ([v0, v1, v2, v3, v4, v5, v6, v7, v8, v9, v10, v11, v12, v13, v14, v15, v16, v17, v18].drop 1 |>.take (Try.prog.cellsOf 3)) = some y1 := (hfl 1 _ rfl).trans e1
 rw [cells_int] at g1
 have k1 : DataW.trod enc Try.prog w base (fun _ => true) held n 3 [v1] = some y1 := g1
 obtain ⟨y2, e2⟩ := hy 2 (by decide)
 have g2 : DataW.trod enc Try.prog w base (fun _ => true) held n 3 ([v0, v1, v2, v3, v4, v5, v6, v7, v8, v9, v10, v11, v12, v13, v14, v15, v16, v17, v18].drop 2 |>.take (Try.prog.cellsOf 3)) = some y2 := (hfl 2 _ rfl).trans e2
 rw [cells_int] at g2
 have k2 : DataW.trod enc Try.prog w base (fun _ => true) held n 3 [v2] = some y2 := g2
 obtain ⟨y3, e3⟩ := hy 3 (by decide)
 have g3 : DataW.trod enc Try.prog w base (fun _ => true) held n 3 ([v0, v1, v2, v3, v4, v5, v6, v7, v8, v9, v10, v11, v12, v13, v14, v15, v16, v17, v18].drop 3 |>.take (Try.prog.cellsOf 3)) = some y3 := (hfl 3 _ rfl).trans e3
 rw [cells_int] at g3
 have k3 : DataW.trod enc Try.prog w base (fun _ => true) held n 3 [v3] = some y3 := g3
 obtain ⟨y4, e4⟩ := hy 4 (by decide)
 have g4 : DataW.trod enc Try.prog w base (fun _ => true) held n 3 ([v0, v1, v2, v3, v4, v5, v6, v7, v8, v9, v10, v11, v12, v13, v14, v15, v16, v17, v18].drop 4 |>.take (Try.prog.cellsOf 3)) = some y4 := (hfl 4 _ rfl).trans e4
 rw [cells_int] at g4
 have k4 : DataW.trod enc Try.prog w base (fun _ => true) held n 3 [v4] = some y4 := g4
 obtain ⟨y5, e5⟩ := hy 5 (by decide)
 have g5 : DataW.trod enc Try.prog w base (fun _ => true) held n 3 ([v0, v1, v2, v3, v4, v5, v6, v7, v8, v9, v10, v11, v12, v13, v14, v15, v16, v17, v18].drop 5 |>.take (Try.prog.cellsOf 3)) = some y5 := (hfl 5 _ rfl).trans e5
 rw [cells_int] at g5
 have k5 : DataW.trod enc Try.prog w base (fun _ => true) held n 3 [v5] = some y5 := g5
 obtain ⟨y6, e6⟩ := hy 6 (by decide)
 have g6 : DataW.trod enc Try.prog w base (fun _ => true) held n 3 ([v0, v1, v2, v3, v4, v5, v6, v7, v8, v9, v10, v11, v12, v13, v14, v15, v16, v17, v18].drop 6 |>.take (Try.prog.cellsOf 3)) = some y6 := (hfl 6 _ rfl).trans e6
 rw [cells_int] at g6
 have k6 : DataW.trod enc Try.prog w base (fun _ => true) held n 3 [v6] = some y6 := g6
 obtain ⟨y7, e7⟩ := hy 7 (by decide)
 have g7 : DataW.trod enc Try.prog w base (fun _ => true) held n 2 ([v0, v1, v2, v3, v4, v5, v6, v7, v8, v9, v10, v11, v12, v13, v14, v15, v16, v17, v18].drop 7 |>.take (Try.prog.cellsOf 2)) = some y7 := (hfl 7 _ rfl).trans e7
 rw [cells_int64] at g7
 have k7 : DataW.trod enc Try.prog w base (fun _ => true) held n 2 [v7] = some y7 := g7
 obtain ⟨y8, e8⟩ := hy 8 (by decide)
 have g8 : DataW.trod enc Try.prog w base (fun _ => true) held n 22 ([v0, v1, v2, v3, v4, v5, v6, v7, v8, v9, v10, v11, v12, v13, v14, v15, v16, v17, v18].drop 8 |>.take (Try.prog.cellsOf 22)) = some y8 := (hfl 8 _ rfl).trans e8
 rw [cells_resets] at g8
 have k8 : DataW.trod enc Try.prog w base (fun _ => true) held n 22 [v8] = some y8 := g8
 obtain ⟨y9, e9⟩ := hy 9 (by decide)
 have g9 : DataW.trod enc Try.prog w base (fun _ => true) held n 2 ([v0, v1, v2, v3, v4, v5, v6, v7, v8, v9, v10, v11, v12, v13, v14, v15, v16, v17, v18].drop 9 |>.take (Try.prog.cellsOf 2)) = some y9 := (hfl 9 _ rfl).trans e9
 rw [cells_int64] at g9
 have k9 : DataW.trod enc Try.prog w base (fun _ => true) held n 2 [v9] = some y9 := g9
 obtain ⟨y10, e10⟩ := hy 10 (by decide)
 have g10 : DataW.trod enc Try.prog w base (fun _ => true) held n 23 ([v0, v1, v2, v3, v4, v5, v6, v7, v8, v9, v10, v11, v12, v13, v14, v15, v16, v17, v18].drop 10 |>.take (Try.prog.cellsOf 23)) = some y10 := (hfl 10 _ rfl).trans e10
 rw [cells_four] at g10
 have k10 : DataW.trod enc Try.prog w base (fun _ => true) held n 23 [v10, v11, v12, v13] = some y10 := g10
 obtain ⟨y11, e11⟩ := hy 11 (by decide)
 have g11 : DataW.trod enc Try.prog w base (fun _ => true) held n 3 ([v0, v1, v2, v3, v4, v5, v6, v7, v8, v9, v10, v11, v12, v13, v14, v15, v16, v17, v18].drop 14 |>.take (Try.prog.cellsOf 3)) = some y11 := (hfl 11 _ rfl).trans e11
 rw [cells_int] at g11
 have k11 : DataW.trod enc Try.prog w base (fun _ => true) held n 3 [v14] = some y11 := g11
 obtain ⟨y12, e12⟩ := hy 12 (by decide)
 have g12 : DataW.trod enc Try.prog w base (fun _ => true) held n 24 ([v0, v1, v2, v3, v4, v5, v6, v7, v8, v9, v10, v11, v12, v13, v14, v15, v16, v17, v18].drop 15 |>.take (Try.prog.cellsOf 24)) = some y12 := (hfl 12 _ rfl).trans e12
 rw [cells_tiers] at g12
 have k12 : DataW.trod enc Try.prog w base (fun _ => true) held n 24 [v15] = some y12 := g12
 obtain ⟨y13, e13⟩ := hy 13 (by decide)
 have g13 : DataW.trod enc Try.prog w base (fun _ => true) held n 2 ([v0, v1, v2, v3, v4, v5, v6, v7, v8, v9, v10, v11, v12, v13, v14, v15, v16, v17, v18].drop 16 |>.take (Try.prog.cellsOf 2)) = some y13 := (hfl 13 _ rfl).trans e13
 rw [cells_int64] at g13
 have k13 : DataW.trod enc Try.prog w base (fun _ => true) held n 2 [v16] = some y13 := g13
 obtain ⟨y14, e14⟩ := hy 14 (by decide)
 have g14 : DataW.trod enc Try.prog w base (fun _ => true) held n 3 ([v0, v1, v2, v3, v4, v5, v6, v7, v8, v9, v10, v11, v12, v13, v14, v15, v16, v17, v18].drop 17 |>.take (Try.prog.cellsOf 3)) = some y14 := (hfl 14 _ rfl).trans e14
 rw [cells_int] at g14
 have k14 : DataW.trod enc Try.prog w base (fun _ => true) held n 3 [v17] = some y14 := g14
 obtain ⟨y15, e15⟩ := hy 15 (by decide)
 have g15 : DataW.trod enc Try.prog w base (fun _ => true) held n 25 ([v0, v1, v2, v3, v4, v5, v6, v7, v8, v9, v10, v11, v12, v13, v14, v15, v16, v17, v18].drop 18 |>.take (Try.prog.cellsOf 25)) = some y15 := (hfl 15 _ rfl).trans e15
 rw [cells_ints] at g15
 have k15 : DataW.trod enc Try.prog w base (fun _ => true) held n 25 [v18] = some y15 := g15
 clear hy hfl hf
 obtain ⟨nm, m0, _, z0⟩ := DataW.trod_string Try.underlying9 k0
 simp at m0
 subst m0
 obtain ⟨x1, m1, _, _⟩ := DataW.trod_int Try.underlying3 k1
 simp at m1
 subst m1
 obtain ⟨x2, m2, _, _⟩ := DataW.trod_int Try.underlying3 k2
 simp at m2
 subst m2
 obtain ⟨x3, m3, _, _⟩ := DataW.trod_int Try.underlying3 k3
 simp at m3
 subst m3
 obtain ⟨x4, m4, _, _⟩ := DataW.trod_int Try.underlying3 k4
 simp at m4
 subst m4
 obtain ⟨x5, m5, _, _⟩ := DataW.trod_int Try.underlying3 k5
 simp at m5
 subst m5
 obtain ⟨x6, m6, _, _⟩ := DataW.trod_int Try.underlying3 k6
 simp at m6
 subst m6
 obtain ⟨x7, m7, _, _⟩ := DataW.trod_int Try.underlying2 k7
 simp at m7
 subst m7
 obtain ⟨x9, m9, _, _⟩ := DataW.trod_int Try.underlying2 k9
 simp at m9
 subst m9
 obtain ⟨x11, m11, _, _⟩ := DataW.trod_int Try.underlying3 k11
 simp at m11
 subst m11
 obtain ⟨x13, m13, _, _⟩ := DataW.trod_int Try.underlying2 k13
 simp at m13
 subst m13
 obtain ⟨x14, m14, _, _⟩ := DataW.trod_int Try.underlying3 k14
 simp at m14
 subst m14
 obtain ⟨u0, u1, u2, u3, nn, _, f0, f1, f2, f3⟩ := trod_array4 Try.underlying23 cells_int k10
 obtain ⟨o0, mo0, _, _⟩ := DataW.trod_int Try.underlying3 f0
 simp at mo0
 subst mo0
 obtain ⟨o1, mo1, _, _⟩ := DataW.trod_int Try.underlying3 f1
 simp at mo1
 subst mo1
 obtain ⟨o2, mo2, _, _⟩ := DataW.trod_int Try.underlying3 f2
 simp at mo2
 subst mo2
 obtain ⟨o3, mo3, _, _⟩ := DataW.trod_int Try.underlying3 f3
 simp at mo3
 subst mo3
 obtain ⟨A1, c1, l1, rfl, n1, lc1, cm1, hr1⟩ := open_rowsC Try.underlying22 Try.underlying116 (by kernel_rfl) (by kernel_rfl) (fun j f hj => by have hmem := Array.mem_of_getElem? hj; simp at hmem; rcases hmem with rfl | rfl <;> first | exact Try.underlying3 | exact Try.underlying2) k8
 obtain ⟨A2, c2, l2, rfl, n2, lc2, cm2, hr2⟩ := open_rowsC Try.underlying24 Try.underlying118 (by kernel_rfl) (by kernel_rfl) (fun j f hj => by have hmem := Array.mem_of_getElem? hj; simp at hmem; rcases hmem with rfl | rfl <;> first | exact Try.underlying3 | exact Try.underlying2) k12
 obtain ⟨A3, c3, l3, rfl, n3, lc3, cm3, hr3⟩ := open_intsC Try.underlying25 Try.underlying3 cells_int k15
 exact ⟨{ name := nm, count := x1, round := x2, kind := x3, every := x4, times := x5, grace := x6, rate := x7, resets := l1, penalty := x9, o1 := o0, o2 := o1, o3 := o2, o4 := o3, over := x11, late := l2, cap := x13, roll := x14, hol := l3 }, A1, c1, A2, c2, A3, c3, rfl, ⟨hr1, lc1, n1, hr2, lc2, n2, hr3, lc3, n3⟩, z0, cm1, cm2, cm3⟩
end Go.Proofs.Ytcfpkkgdofblfaa.Pd
namespace Go.Proofs.YtcfpkkgdofblfaaW.PrintWords
open Go.ChangeShapes Go.WideShapes
theorem sized_ints {H : Type} {enc : TypeId × Value → H} {P : Program} {W : World} {base : Nat} {spare : Nat → Bool} {held : Bool} {t e : TypeId} {k : IntKind} {a : Option Addr} {len cap : Nat} {d : DataW H} {ps : List MemPlace} {ts : List TypeId} {ds : List (DataW H)} {j : Nat}
  (hsz : (DataW.weightsEach P ts ds).all (· ≤ reachBytes) = true) (ht : ts[j]? = some t) (hd : ds[j]? = some d) (hu : P.underlying t = some (.slice e)) (he : P.underlying e = some (.int k)) (hc : P.cellsOf e = 1) {B : Nat} (hB : P.bytesOf e = B)
  (h : DataW.Trod enc P W base spare held t (.slice a len cap) d ps) : len * B ≤ 140737488351232 := by
 obtain ⟨fuel, hf⟩ := h
 rcases open_ints hu he hc hf with ⟨hcs, _⟩ | ⟨x, l, c, zs, hcs, _, hl, _, hz, hx, _, _⟩
 ·simp [Value.cells] at hcs
  obtain ⟨rfl, rfl, rfl⟩ := hcs
  simp
 ·simp [Value.cells] at hcs
  obtain ⟨rfl, rfl, rfl⟩ := hcs
  obtain ⟨hx, _⟩ := Prod.mk.inj hx
  subst hx
  have z := sized_slice hsz ht hd hu
  rw [hB] at z
  have hl2 : len ≤ zs.length := by
   rw [hz]
   split
   ·exact hl
   ·exact Nat.le_refl _
  have h1 : (lits (H := H) k (zs.take len)).length + (lits (H := H) k (zs.drop len)).length = zs.length := by
   simp [lits]
   omega
  rw [h1] at z
  exact Nat.le_trans (Nat.mul_le_mul_right _ hl2) z
end Go.Proofs.YtcfpkkgdofblfaaW.PrintWords
