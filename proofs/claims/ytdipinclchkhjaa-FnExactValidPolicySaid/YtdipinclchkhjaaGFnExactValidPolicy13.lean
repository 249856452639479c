import Derived.Test.YtdipinclchkhjaaGFnExactValidPolicy1
import Derived.Test.YtdipinclchkhjaaGFnExactValidPolicy12
import Derived.Test.YtdipinclchkhjaaGFnExactValidPolicy2
import Derived.Test.YtdipinclchkhjaaGFnExactValidPolicy3
import Derived.Test.YtdipinclchkhjaaGFnExactValidPolicy4
import Derived.Test.YtdipinclchkhjaaGFnExactValidPolicy8
namespace Go.Proofs.Ytdipinclchkhjaa.P
open Go.RowKit Go.Proofs.YtdipinclchkhjaaW.PrintWords Go.Proofs.YtdipinclchkhjaaW.PrintLast Go.Proofs.YtdipinclchkhjaaW.PrintMore
attribute [local go_sem] max2_int min2_int max_two min_two max_three min_three max_four min_four   -- for this text's walks alone
set_option linter.unusedVariables false
set_option linter.unusedSimpArgs false

/-! ### laws_eqPolicy: function 42 -/
def laws_eqPolicy.f (k : Nat) (l0_0 : List (S127)) (l1_0 : List (S127)) : Option (Bool) := (laws_eqEntryS.f k l0_0 l1_0).bind fun t627 => (if t627 = true then (some true) else (some false))
theorem laws_eqPolicy.mono : ∀ a0 a1 k, LeO (laws_eqPolicy.f k a0 a1) (laws_eqPolicy.f (k + 1) a0 a1) := by
  intro a0 a1 k
  unfold laws_eqPolicy.f
  repeat' first
      | (with_reducible exact laws_eqEntryS.mono _ _ _)
      | (with_reducible exact LeO.refl _)
      | (with_reducible exact LeO.none _)
      | (with_reducible refine LeO.ite ?_ ?_)
      | (with_reducible refine LeO.bind ?_ (fun _ => ?_))
      | exact laws_eqEntryS.mono _ _ _
      | exact LeO.none _
      | refine LeO.ite ?_ ?_
      | refine LeO.bind ?_ (fun _ => ?_)
set_option maxHeartbeats 8000000 in
set_option maxRecDepth 100000 in
theorem laws_eqPolicy.calls (k : Nat) (A0_0 : Option Addr) (c0_0 : Nat) (l0_0 : List (S127)) (A1_0 : Option Addr) (c1_0 : Nat) (l1_0 : List (S127)) (r : Bool) (w : World) (hr0_0 : Kd.C k127 w A0_0 l0_0.length l0_0) (hc0_0 : l0_0.length ≤ c0_0) (hr1_0 : Kd.C k127 w A1_0 l1_0.length l1_0) (hc1_0 : l1_0.length ≤ c1_0) (h : laws_eqPolicy.f k l0_0 l1_0 = some r) :
    Calls Try.prog 42 #[.agg #[.slice A0_0 l0_0.length c0_0], .agg #[.slice A1_0 l1_0.length c1_0]] w fun e w' => e = .returned (.bool r) ∧ Below w.heap.size w w' := by
  have hu64 := Try.underlying64
  have HR0_0 := Aside0.mk hr0_0
  have HC0_0 := Aside0.mk hc0_0
  clear hr0_0 hc0_0
  have HR1_0 := Aside0.mk hr1_0
  have HC1_0 := Aside0.mk hc1_0
  clear hr1_0 hc1_0
  have HB := Aside0.mk (Below.refl w.heap.size w)
  have H : ((laws_eqEntryS.f k l0_0 l1_0).bind fun t627 => (if t627 = true then (some true) else (some false))) = some r := h
  clear h
  replace H := Option.bind_eq_some_iff.mp H
  obtain ⟨t627, A30, H⟩ := H
  replace H : (if t627 = true then (some true) else (some false)) = some r := H
  have A3 := Aside0.mk A30
  clear A30
  by_cases c4 : t627 = true
  · subst c4
    have H1 : (some true) = some r := by rw [if_pos rfl] at H; exact H
    clear H
    have H := H1
    clear H1
    obtain rfl := Option.some.inj H
    go_enter Try.func42, Try.ntmps42
    go_wp2_with (first | ((with_reducible refine gate_dst (N := 2) rfl ?_); refine box_event ?hg (N := 2) ?hd (cs := #[.slice A0_0 l0_0.length c0_0]) (t := 64) ?hr ?_; (case hd => rfl); (case hg => rfl); (case hr => first | (go_simp; done) | (go_simp; rfl)); intro gb625 hg w5 hbox hb; have n0_ := Aside0.mk (below_step (by repeat (first | (with_reducible first | exact HB.out | apply below_alloc | apply pw_below_drewN | apply below_drew1) | exact HB.out)) hb); have n1_ := Aside0.mk (hbox); have n2_ := Aside0.mk ((by rw [hg]; exact (below_size (by repeat (first | (with_reducible first | exact HB.out | apply below_alloc | apply pw_below_drewN | apply below_drew1) | exact HB.out))) : w.heap.size ≤ gb625)); have n3_ := Aside0.mk ((by rw [hg]; exact (below_size (by repeat (first | (with_reducible first | exact HB.out | apply below_alloc | apply pw_below_drewN | apply below_drew1) | exact HB.out))) : w.heap.size ≤ gb625)); clear HB; have HB := n0_; have BK625 := n1_; have GW625 := n2_; have GE625 := n3_; clear n0_ n1_ n2_ n3_; clear hb hbox hg) | ((with_reducible refine gate_dst (N := 3) rfl ?_); refine box_event ?hg (N := 3) ?hd (cs := #[.slice A1_0 l1_0.length c1_0]) (t := 64) ?hr ?_; (case hd => rfl); (case hg => rfl); (case hr => first | (go_simp; done) | (go_simp; rfl)); intro gb626 hg w6 hbox hb; have n0_ := Aside0.mk (blk_below (g := gb625) (o := .cells #[.slice A0_0 l0_0.length c0_0] 64 (0, 0)) (by (with_reducible repeat (first | refine blk_drewN ?_ _ | refine blk_drew ?_ | refine blk_alloc ?_ _)); exact BK625.out) hb); have n1_ := Aside0.mk (below_step (by repeat (first | (with_reducible first | exact HB.out | apply below_alloc | apply pw_below_drewN | apply below_drew1 | refine below_set ?_ GE625.out) | exact HB.out)) hb); have n2_ := Aside0.mk (hbox); have n3_ := Aside0.mk ((by rw [hg]; exact (below_size (by repeat (first | (with_reducible first | exact HB.out | apply below_alloc | apply pw_below_drewN | apply below_drew1 | refine below_set ?_ GE625.out) | exact HB.out))) : w.heap.size ≤ gb626)); have n4_ := Aside0.mk ((by rw [hg]; exact (below_size (by repeat (first | (with_reducible first | exact HB.out | apply below_alloc | apply pw_below_drewN | apply below_drew1 | refine below_set ?_ GE625.out) | exact HB.out))) : w.heap.size ≤ gb626)); have n5_ := Aside0.mk ((by rw [hg]; exact Nat.ne_of_lt (blk_lt (g := gb625) (o := .cells #[.slice A0_0 l0_0.length c0_0] 64 (0, 0)) (by (with_reducible repeat (first | refine blk_drewN ?_ _ | refine blk_drew ?_ | refine blk_alloc ?_ _)); exact BK625.out)) : gb625 ≠ gb626)); have n6_ := Aside0.mk ((by rw [hg]; exact Nat.ne_of_gt (blk_lt (g := gb625) (o := .cells #[.slice A0_0 l0_0.length c0_0] 64 (0, 0)) (by (with_reducible repeat (first | refine blk_drewN ?_ _ | refine blk_drew ?_ | refine blk_alloc ?_ _)); exact BK625.out)) : gb626 ≠ gb625)); clear BK625; clear HB; have BK625 := n0_; have HB := n1_; have BK626 := n2_; have GW626 := n3_; have GE626 := n4_; have NB625_626 := n5_; have NB626_625 := n6_; clear n0_ n1_ n2_ n3_ n4_ n5_ n6_; clear hb hbox hg; have hnb7 := NB625_626.out; have hnc7 := NB626_625.out; have hcz8_0 : w6.cell? ⟨gb625, 0, none⟩ = some (.slice A0_0 l0_0.length c0_0) := (blk_cell BK625.out 0).trans rfl; have hfz8_0 := blk_frozen BK625.out 0; have hcz9_0 : w6.cell? ⟨gb626, 0, none⟩ = some (.slice A1_0 l1_0.length c1_0) := (blk_cell BK626.out 0).trans rfl; have hfz9_0 := blk_frozen BK626.out 0) | ((with_reducible refine gate_callee (f := 97) rfl ?_); refine goesL_ (some 9) rfl rfl Try.func97 (by kernel_rfl) rfl #[.slice A0_0 l0_0.length c0_0, .slice A1_0 l1_0.length c1_0] rfl (by (try simp only [List.map_toArray, List.map_cons, List.map_nil]); first | done | rfl | (simp only [List.length_drop, List.length_take]; rfl)) ?_; (with_reducible refine (laws_eqEntryS.calls k _ _ l0_0 _ _ l1_0 true _ ?side1 ?side2 ?side3 ?side4 A3.out).mono ?_); (case side1 => repeat (first | exact (Kd.C_below HR0_0.out HB.out) | (with_reducible refine Kd.C_alloc ?_ _) | (with_reducible refine Kd.C_drewN ?_ _) | (with_reducible refine Kd.C_drew ?_))); (case side2 => exact HC0_0.out); (case side3 => repeat (first | exact (Kd.C_below HR1_0.out HB.out) | (with_reducible refine Kd.C_alloc ?_ _) | (with_reducible refine Kd.C_drewN ?_ _) | (with_reducible refine Kd.C_drew ?_))); (case side4 => exact HC1_0.out); rintro e w10 ⟨rfl, hb⟩; refine ⟨_, rfl, ?_⟩; have n0_ := Aside0.mk (blk_below (g := gb625) (o := .cells #[.slice A0_0 l0_0.length c0_0] 64 (0, 0)) (by (with_reducible repeat (first | refine blk_drewN ?_ _ | refine blk_drew ?_ | refine blk_alloc ?_ _)); exact BK625.out) hb); have n1_ := Aside0.mk (blk_below (g := gb626) (o := .cells #[.slice A1_0 l1_0.length c1_0] 64 (0, 0)) (by (with_reducible repeat (first | refine blk_drewN ?_ _ | refine blk_drew ?_ | refine blk_alloc ?_ _)); exact BK626.out) hb); have n2_ := Aside0.mk (below_step (by repeat (first | (with_reducible first | exact HB.out | apply below_alloc | apply pw_below_drewN | apply below_drew1 | refine below_set ?_ GE625.out | refine below_set ?_ GE626.out) | exact HB.out)) hb); clear BK625; clear BK626; clear HB; have BK625 := n0_; have BK626 := n1_; have HB := n2_; clear n0_ n1_ n2_; (try clear hb); (try clear hb2); (try clear hk); (try clear hi)))
    go_ret
    exact ⟨by first | rfl | (simp [errW_none, errW_some] <;> rfl) | (simp [*, errW_none, errW_some] <;> rfl), by repeat (first | (with_reducible first | exact HB.out | apply below_alloc | apply pw_below_drewN | apply below_drew1 | refine below_set ?_ GE625.out | refine below_set ?_ GE626.out) | exact HB.out)⟩
  · replace c4 := Bool.eq_false_iff.mpr c4
    subst c4
    have H1 : (some false) = some r := by rw [if_neg (show ¬ (false = true) by decide)] at H; exact H
    clear H
    have H := H1
    clear H1
    obtain rfl := Option.some.inj H
    go_enter Try.func42, Try.ntmps42
    go_wp2_with (first | ((with_reducible refine gate_dst (N := 2) rfl ?_); refine box_event ?hg (N := 2) ?hd (cs := #[.slice A0_0 l0_0.length c0_0]) (t := 64) ?hr ?_; (case hd => rfl); (case hg => rfl); (case hr => first | (go_simp; done) | (go_simp; rfl)); intro gb625 hg w11 hbox hb; have n0_ := Aside0.mk (below_step (by repeat (first | (with_reducible first | exact HB.out | apply below_alloc | apply pw_below_drewN | apply below_drew1) | exact HB.out)) hb); have n1_ := Aside0.mk (hbox); have n2_ := Aside0.mk ((by rw [hg]; exact (below_size (by repeat (first | (with_reducible first | exact HB.out | apply below_alloc | apply pw_below_drewN | apply below_drew1) | exact HB.out))) : w.heap.size ≤ gb625)); have n3_ := Aside0.mk ((by rw [hg]; exact (below_size (by repeat (first | (with_reducible first | exact HB.out | apply below_alloc | apply pw_below_drewN | apply below_drew1) | exact HB.out))) : w.heap.size ≤ gb625)); clear HB; have HB := n0_; have BK625 := n1_; have GW625 := n2_; have GE625 := n3_; clear n0_ n1_ n2_ n3_; clear hb hbox hg) | ((with_reducible refine gate_dst (N := 3) rfl ?_); refine box_event ?hg (N := 3) ?hd (cs := #[.slice A1_0 l1_0.length c1_0]) (t := 64) ?hr ?_; (case hd => rfl); (case hg => rfl); (case hr => first | (go_simp; done) | (go_simp; rfl)); intro gb626 hg w12 hbox hb; have n0_ := Aside0.mk (blk_below (g := gb625) (o := .cells #[.slice A0_0 l0_0.length c0_0] 64 (0, 0)) (by (with_reducible repeat (first | refine blk_drewN ?_ _ | refine blk_drew ?_ | refine blk_alloc ?_ _)); exact BK625.out) hb); have n1_ := Aside0.mk (below_step (by repeat (first | (with_reducible first | exact HB.out | apply below_alloc | apply pw_below_drewN | apply below_drew1 | refine below_set ?_ GE625.out) | exact HB.out)) hb); have n2_ := Aside0.mk (hbox); have n3_ := Aside0.mk ((by rw [hg]; exact (below_size (by repeat (first | (with_reducible first | exact HB.out | apply below_alloc | apply pw_below_drewN | apply below_drew1 | refine below_set ?_ GE625.out) | exact HB.out))) : w.heap.size ≤ gb626)); have n4_ := Aside0.mk ((by rw [hg]; exact (below_size (by repeat (first | (with_reducible first | exact HB.out | apply below_alloc | apply pw_below_drewN | apply below_drew1 | refine below_set ?_ GE625.out) | exact HB.out))) : w.heap.size ≤ gb626)); have n5_ := Aside0.mk ((by rw [hg]; exact Nat.ne_of_lt (blk_lt (g := gb625) (o := .cells #[.slice A0_0 l0_0.length c0_0] 64 (0, 0)) (by (with_reducible repeat (first | refine blk_drewN ?_ _ | refine blk_drew ?_ | refine blk_alloc ?_ _)); exact BK625.out)) : gb625 ≠ gb626)); have n6_ := Aside0.mk ((by rw [hg]; exact Nat.ne_of_gt (blk_lt (g := gb625) (o := .cells #[.slice A0_0 l0_0.length c0_0] 64 (0, 0)) (by (with_reducible repeat (first | refine blk_drewN ?_ _ | refine blk_drew ?_ | refine blk_alloc ?_ _)); exact BK625.out)) : gb626 ≠ gb625)); clear BK625; clear HB; have BK625 := n0_; have HB := n1_; have BK626 := n2_; have GW626 := n3_; have GE626 := n4_; have NB625_626 := n5_; have NB626_625 := n6_; clear n0_ n1_ n2_ n3_ n4_ n5_ n6_; clear hb hbox hg; have hnb13 := NB625_626.out; have hnc13 := NB626_625.out; have hcz14_0 : w12.cell? ⟨gb625, 0, none⟩ = some (.slice A0_0 l0_0.length c0_0) := (blk_cell BK625.out 0).trans rfl; have hfz14_0 := blk_frozen BK625.out 0; have hcz15_0 : w12.cell? ⟨gb626, 0, none⟩ = some (.slice A1_0 l1_0.length c1_0) := (blk_cell BK626.out 0).trans rfl; have hfz15_0 := blk_frozen BK626.out 0) | ((with_reducible refine gate_callee (f := 97) rfl ?_); refine goesL_ (some 9) rfl rfl Try.func97 (by kernel_rfl) rfl #[.slice A0_0 l0_0.length c0_0, .slice A1_0 l1_0.length c1_0] rfl (by (try simp only [List.map_toArray, List.map_cons, List.map_nil]); first | done | rfl | (simp only [List.length_drop, List.length_take]; rfl)) ?_; (with_reducible refine (laws_eqEntryS.calls k _ _ l0_0 _ _ l1_0 false _ ?side1 ?side2 ?side3 ?side4 A3.out).mono ?_); (case side1 => repeat (first | exact (Kd.C_below HR0_0.out HB.out) | (with_reducible refine Kd.C_alloc ?_ _) | (with_reducible refine Kd.C_drewN ?_ _) | (with_reducible refine Kd.C_drew ?_))); (case side2 => exact HC0_0.out); (case side3 => repeat (first | exact (Kd.C_below HR1_0.out HB.out) | (with_reducible refine Kd.C_alloc ?_ _) | (with_reducible refine Kd.C_drewN ?_ _) | (with_reducible refine Kd.C_drew ?_))); (case side4 => exact HC1_0.out); rintro e w16 ⟨rfl, hb⟩; refine ⟨_, rfl, ?_⟩; have n0_ := Aside0.mk (blk_below (g := gb625) (o := .cells #[.slice A0_0 l0_0.length c0_0] 64 (0, 0)) (by (with_reducible repeat (first | refine blk_drewN ?_ _ | refine blk_drew ?_ | refine blk_alloc ?_ _)); exact BK625.out) hb); have n1_ := Aside0.mk (blk_below (g := gb626) (o := .cells #[.slice A1_0 l1_0.length c1_0] 64 (0, 0)) (by (with_reducible repeat (first | refine blk_drewN ?_ _ | refine blk_drew ?_ | refine blk_alloc ?_ _)); exact BK626.out) hb); have n2_ := Aside0.mk (below_step (by repeat (first | (with_reducible first | exact HB.out | apply below_alloc | apply pw_below_drewN | apply below_drew1 | refine below_set ?_ GE625.out | refine below_set ?_ GE626.out) | exact HB.out)) hb); clear BK625; clear BK626; clear HB; have BK625 := n0_; have BK626 := n1_; have HB := n2_; clear n0_ n1_ n2_; (try clear hb); (try clear hb2); (try clear hk); (try clear hi)))
    go_ret
    exact ⟨by first | rfl | (simp [errW_none, errW_some] <;> rfl) | (simp [*, errW_none, errW_some] <;> rfl), by repeat (first | (with_reducible first | exact HB.out | apply below_alloc | apply pw_below_drewN | apply below_drew1 | refine below_set ?_ GE625.out | refine below_set ?_ GE626.out) | exact HB.out)⟩

end Go.Proofs.Ytdipinclchkhjaa.P

namespace Go.Proofs.Ytdipinclchkhjaa.P
open Go.RowKit Go.Proofs.YtdipinclchkhjaaW.PrintWords Go.Proofs.YtdipinclchkhjaaW.PrintLast Go.Proofs.YtdipinclchkhjaaW.PrintMore
set_option linter.unusedVariables false
set_option linter.unusedSimpArgs false
/-! A policy, copied and compared. -/
def cOf (x : S24) : S26 := ⟨x.f0, x.f1, x.f2⟩
def rOf (x : S219) : S131 := ⟨x.f0.map cOf⟩
def eOf (x : S180) : S127 := ⟨x.f0, x.f1, x.f2.map rOf⟩
theorem rdCL (l : List S24) (i : Nat) (h : i < l.length) : rd_T24 l (i : Int) = l[i] := by
  simp [rd_T24, List.getD_eq_getElem?_getD, List.getElem?_eq_getElem h]
theorem rdRL (l : List S219) (i : Nat) (h : i < l.length) : rd_T219 l (i : Int) = l[i] := by
  simp [rd_T219, List.getD_eq_getElem?_getD, List.getElem?_eq_getElem h]
theorem rdEL (l : List S180) (i : Nat) (h : i < l.length) : rd_T180 l (i : Int) = l[i] := by
  simp [rd_T180, List.getD_eq_getElem?_getD, List.getElem?_eq_getElem h]
theorem rdCI (l : List S26) (i : Nat) (h : i < l.length) : rd_T26 l (i : Int) = l[i] := by
  simp [rd_T26, List.getD_eq_getElem?_getD, List.getElem?_eq_getElem h]
theorem rdRI (l : List S131) (i : Nat) (h : i < l.length) : rd_T131 l (i : Int) = l[i] := by
  simp [rd_T131, List.getD_eq_getElem?_getD, List.getElem?_eq_getElem h]
theorem rdEI (l : List S127) (i : Nat) (h : i < l.length) : rd_T127 l (i : Int) = l[i] := by
  simp [rd_T127, List.getD_eq_getElem?_getD, List.getElem?_eq_getElem h]
/-- What is left of a size, or -1. -/
def Left (left : Int) (small : Prop) (t : Int) : Prop := t = -1 ∨ (0 ≤ t ∧ t ≤ left ∧ small)
theorem szConS_t (l : List S24) (left : Int) (hl : l.length ≤ maxLen) (h0 : 0 ≤ left) (h1 : left ≤ 1048576) : EvT (fun _ => laws_szConS.f l left) (Left left (l.length ≤ 1048576)) := by
  unfold maxLen at hl
  unfold laws_szConS.f
  rw [wrap64_id (by omega) (by omega)]
  exact evt_ite (fun _ => evt_some (.inl rfl)) fun c => evt_some (.inr ⟨by omega, by omega, by omega⟩)
theorem szRule_t (l : List S24) (left : Int) (hl : l.length ≤ maxLen) (h0 : 0 ≤ left) (h1 : left ≤ 1048576) : EvT (fun _ => laws_szRule.f l left) (Left left (l.length ≤ 1048576)) := by
  unfold laws_szRule.f
  refine evt_bind (szConS_t l left hl h0 h1) fun t ht => ?_
  exact evt_ite (fun _ => evt_some (.inl rfl)) fun c => evt_some ht
theorem szRuleS_t (l : List S219) (left : Int) (hl : l.length ≤ maxLen) (hm : ∀ x ∈ l, x.f0.length ≤ maxLen) (h0 : 0 ≤ left) (h1 : left ≤ 1048576) :
    EvT (fun k => laws_szRuleS.f k l left) (Left left (l.length ≤ 1048576 ∧ ∀ x ∈ l, x.f0.length ≤ 1048576)) := by
  unfold maxLen at hl
  unfold laws_szRuleS.f
  rw [wrap64_id (by omega) (by omega)]
  refine evt_ite (fun _ => evt_some (.inl rfl)) fun c => ?_
  have key : ∀ (d i : Nat) (lf : Int), i + d = l.length → 0 ≤ lf → lf ≤ left → (∀ x ∈ l.take i, x.f0.length ≤ 1048576) → EvT (fun k => laws_szRuleS.l0 k l lf (i : Int)) (Left left (l.length ≤ 1048576 ∧ ∀ x ∈ l, x.f0.length ≤ 1048576)) := by
    intro d
    induction d with
    | zero =>
      intro i lf hi g0 g1 g2
      refine evt_ev (r := lf) (ev_end fun k => by simp only [laws_szRuleS.l0]; rw [if_neg (by omega)]) (.inr ⟨g0, g1, by omega, ?_⟩)
      rw [List.take_of_length_le (by omega)] at g2
      exact g2
    | succ d ih =>
      intro i lf hi g0 g1 g2
      have hil : i < l.length := by omega
      refine evt_step _ (fun k => by simp only [laws_szRuleS.l0]; rw [if_pos (by omega), if_pos (by omega), rdRL l i hil, wrap64_id (i := (i : Int) + 1) (by omega) (by omega)]) (evt_bind (szRule_t l[i].f0 lf (hm _ (List.getElem_mem hil)) g0 (by omega)) ?_)
      rintro t (rfl | ⟨t0, t1, t2⟩)
      · exact evt_ite (fun _ => evt_some (.inl rfl)) fun c => absurd (by decide) c
      · refine evt_ite (fun c => absurd c (by omega)) fun _ => ?_
        refine ih (i + 1) t (by omega) t0 (by omega) ?_
        rw [← List.take_append_getElem hil]
        intro x hx
        rcases List.mem_append.1 hx with hx | hx
        · exact g2 x hx
        · rw [List.mem_singleton.1 hx]; exact t2
  obtain ⟨t, ht, hp⟩ := key l.length 0 (left - (l.length : Int)) (by omega) (by omega) (by omega) (by simp)
  exact ⟨t, ht, hp⟩
def SmallR (l : List S219) : Prop := l.length ≤ 1048576 ∧ ∀ x ∈ l, x.f0.length ≤ 1048576
theorem szEntry_t (a b : Int) (l : List S219) (left : Int) (hl : l.length ≤ maxLen) (hm : ∀ x ∈ l, x.f0.length ≤ maxLen) (h0 : 0 ≤ left) (h1 : left ≤ 1048576) :
    EvT (fun k => laws_szEntry.f k a b l left) (Left left (SmallR l)) := by
  unfold laws_szEntry.f
  refine evt_bind (szRuleS_t l left hl hm h0 h1) fun t ht => ?_
  exact evt_ite (fun _ => evt_some (.inl rfl)) fun c => evt_some ht
def SmallE (l : List S180) : Prop := l.length ≤ 1048576 ∧ ∀ x ∈ l, SmallR x.f2
theorem szEntryS_t (l : List S180) (left : Int) (hl : l.length ≤ maxLen) (hm : ∀ x ∈ l, x.f2.length ≤ maxLen ∧ ∀ y ∈ x.f2, y.f0.length ≤ maxLen) (h0 : 0 ≤ left) (h1 : left ≤ 1048576) :
    EvT (fun k => laws_szEntryS.f k l left) (Left left (SmallE l)) := by
  unfold maxLen at hl
  unfold laws_szEntryS.f
  rw [wrap64_id (by omega) (by omega)]
  refine evt_ite (fun _ => evt_some (.inl rfl)) fun c => ?_
  have key : ∀ (d i : Nat) (lf : Int), i + d = l.length → 0 ≤ lf → lf ≤ left → (∀ x ∈ l.take i, SmallR x.f2) → EvT (fun k => laws_szEntryS.l0 k l lf (i : Int)) (Left left (SmallE l)) := by
    intro d
    induction d with
    | zero =>
      intro i lf hi g0 g1 g2
      refine evt_ev (r := lf) (ev_end fun k => by simp only [laws_szEntryS.l0]; rw [if_neg (by omega)]) (.inr ⟨g0, g1, by omega, ?_⟩)
      rw [List.take_of_length_le (by omega)] at g2
      exact g2
    | succ d ih =>
      intro i lf hi g0 g1 g2
      have hil : i < l.length := by omega
      have hmi := hm _ (List.getElem_mem hil)
      refine evt_step _ (fun k => by simp only [laws_szEntryS.l0]; rw [if_pos (by omega), if_pos (by omega), rdEL l i hil, wrap64_id (i := (i : Int) + 1) (by omega) (by omega)]) (evt_bind (szEntry_t l[i].f0 l[i].f1 l[i].f2 lf hmi.1 hmi.2 g0 (by omega)) ?_)
      rintro t (rfl | ⟨t0, t1, t2⟩)
      · exact evt_ite (fun _ => evt_some (.inl rfl)) fun c => absurd (by decide) c
      · refine evt_ite (fun c => absurd c (by omega)) fun _ => ?_
        refine ih (i + 1) t (by omega) t0 (by omega) ?_
        rw [← List.take_append_getElem hil]
        intro x hx
        rcases List.mem_append.1 hx with hx | hx
        · exact g2 x hx
        · rw [List.mem_singleton.1 hx]; exact t2
  obtain ⟨t, ht, hp⟩ := key l.length 0 (left - (l.length : Int)) (by omega) (by omega) (by omega) (by simp)
  exact ⟨t, ht, hp⟩
theorem szPolicy_t (l : List S180) (left : Int) (hl : l.length ≤ maxLen) (hm : ∀ x ∈ l, x.f2.length ≤ maxLen ∧ ∀ y ∈ x.f2, y.f0.length ≤ maxLen) (h0 : 0 ≤ left) (h1 : left ≤ 1048576) :
    EvT (fun k => laws_szPolicy.f k l left) (Left left (SmallE l)) := by
  unfold laws_szPolicy.f
  refine evt_bind (szEntryS_t l left hl hm h0 h1) fun t ht => ?_
  exact evt_ite (fun _ => evt_some (.inl rfl)) fun c => evt_some ht
theorem toConS_ev (l : List S24) (hl : l.length ≤ 1048576) : Ev (fun k => laws_toConS.f k l) (l.map cOf) := by
  have key := ev_loop (fun k s i => laws_toConS.l0 k l s i) l.length (filled cOf l z26) _ _ (filled_zero cOf l z26) (filled_all cOf l z26) (fun i hi r hr => by
    have hf := filled_length cOf l z26 i (by omega)
    have hs := filled_set cOf l z26 i hi
    refine ev_step _ (fun k => ?_) hr
    simp only [laws_toConS.l0, laws_toCon.f, Option.bind_some]
    rw [if_pos (by omega), if_pos (by omega), if_pos (by omega), rdCL l i hi, wrap64_id (by omega) (by omega), Int.toNat_natCast]
    have e : (⟨l[i].f0, l[i].f1, l[i].f2⟩ : S26) = cOf l[i] := rfl
    rw [e, hs]
    rfl) (l.map cOf) (ev_end fun k => by simp only [laws_toConS.l0]; rw [if_neg (by omega)])
  refine Ev.congr (fun k => ?_) key
  unfold laws_toConS.f
  rw [if_pos (by omega), if_pos (by omega), Int.toNat_natCast]
theorem toRuleS_ev (l : List S219) (hs : SmallR l) : Ev (fun k => laws_toRuleS.f k l) (l.map rOf) := by
  obtain ⟨hl, hm⟩ := hs
  have key := ev_loop (fun k s i => laws_toRuleS.l0 k l s i) l.length (filled rOf l z131) _ _ (filled_zero rOf l z131) (filled_all rOf l z131) (fun i hi r hr => by
    have hf := filled_length rOf l z131 i (by omega)
    have hs := filled_set rOf l z131 i hi
    refine ev_step (fun k => (laws_toRule.f k l[i].f0).bind fun t => laws_toRuleS.l0 k l ((filled rOf l z131 i).set i (⟨t⟩ : S131)) ((i + 1 : Nat) : Int)) (fun k => ?_) (Ev.bind (a := l[i].f0.map cOf) ?_ (Ev.congr (fun k => ?_) hr))
    · simp only [laws_toRuleS.l0]
      rw [if_pos (by omega), if_pos (by omega), rdRL l i hi, wrap64_id (by omega) (by omega), Int.toNat_natCast]
      congr 1
      funext bt
      rw [if_pos (by omega)]
      rfl
    · unfold laws_toRule.f
      exact Ev.bind (toConS_ev _ (hm _ (List.getElem_mem hi))) (ev_is fun _ => rfl)
    · have e : (⟨l[i].f0.map cOf⟩ : S131) = rOf l[i] := rfl
      rw [e, hs]) (l.map rOf) (ev_end fun k => by simp only [laws_toRuleS.l0]; rw [if_neg (by omega)])
  refine Ev.congr (fun k => ?_) key
  unfold laws_toRuleS.f
  rw [if_pos (by omega), if_pos (by omega), Int.toNat_natCast]
theorem toPolicy_ev (l : List S180) (hs : SmallE l) : Ev (fun k => laws_toPolicy.f k l) (l.map eOf) := by
  obtain ⟨hl, hm⟩ := hs
  have key := ev_loop (fun k s i => laws_toEntryS.l0 k l s i) l.length (filled eOf l z127) _ _ (filled_zero eOf l z127) (filled_all eOf l z127) (fun i hi r hr => by
    have hf := filled_length eOf l z127 i (by omega)
    have hs := filled_set eOf l z127 i hi
    refine ev_step (fun k => (laws_toEntry.f k l[i].f0 l[i].f1 l[i].f2).bind fun t => laws_toEntryS.l0 k l ((filled eOf l z127 i).set i (⟨t.1, t.2.1, t.2.2⟩ : S127)) ((i + 1 : Nat) : Int)) (fun k => ?_) (Ev.bind (a := (l[i].f0, l[i].f1, l[i].f2.map rOf)) ?_ (Ev.congr (fun k => ?_) hr))
    · simp only [laws_toEntryS.l0]
      rw [if_pos (by omega), if_pos (by omega), rdEL l i hi, wrap64_id (by omega) (by omega), Int.toNat_natCast]
      congr 1
      funext bt
      rw [if_pos (by omega)]
      rfl
    · unfold laws_toEntry.f
      exact Ev.bind (toRuleS_ev _ (hm _ (List.getElem_mem hi))) (ev_is fun _ => rfl)
    · have e : (⟨l[i].f0, l[i].f1, l[i].f2.map rOf⟩ : S127) = eOf l[i] := rfl
      simp only
      rw [e, hs]) (l.map eOf) (ev_end fun k => by simp only [laws_toEntryS.l0]; rw [if_neg (by omega)])
  unfold laws_toPolicy.f
  refine Ev.bind (a := l.map eOf) (Ev.congr (fun k => ?_) key) (ev_is fun _ => rfl)
  unfold laws_toEntryS.f
  rw [if_pos (by omega), if_pos (by omega), Int.toNat_natCast]
theorem eqConS_ev (a : List S26) (hl : a.length ≤ 1048576) : Ev (fun k => laws_eqConS.f k a a) true := by
  have key := ev_loop (fun k (s : Unit) i => laws_eqConS.l0 k a a i) a.length (fun _ => ()) () () rfl rfl (fun i hi r hr => by
    refine ev_step _ (fun k => ?_) hr
    simp only [laws_eqConS.l0, laws_eqCon.f]
    rw [if_pos (by omega), if_pos (by omega), if_pos (by omega), if_pos trivial, if_pos trivial, if_pos trivial, Option.bind_some, if_pos rfl, wrap64_id (by omega) (by omega)]
    rfl) true (ev_end fun k => by simp only [laws_eqConS.l0]; rw [if_neg (by omega)])
  refine Ev.congr (fun k => ?_) key
  unfold laws_eqConS.f
  rw [if_pos rfl]
def SmallRI (l : List S131) : Prop := l.length ≤ 1048576 ∧ ∀ x ∈ l, x.f0.length ≤ 1048576
def SmallEI (l : List S127) : Prop := l.length ≤ 1048576 ∧ ∀ x ∈ l, SmallRI x.f2
theorem eqRuleS_ev (a : List S131) (hs : SmallRI a) : Ev (fun k => laws_eqRuleS.f k a a) true := by
  obtain ⟨hl, hm⟩ := hs
  have key := ev_loop (fun k (s : Unit) i => laws_eqRuleS.l0 k a a i) a.length (fun _ => ()) () () rfl rfl (fun i hi r hr => by
    refine ev_step (fun k => (laws_eqRule.f k a[i].f0 a[i].f0).bind fun t => if t = true then laws_eqRuleS.l0 k a a ((i + 1 : Nat) : Int) else some false) (fun k => ?_) (Ev.bind (a := true) ?_ (Ev.congr (fun k => ?_) hr))
    · simp only [laws_eqRuleS.l0]
      rw [if_pos (by omega), if_pos (by omega), if_pos (by omega), rdRI a i hi, wrap64_id (by omega) (by omega)]
      rfl
    · unfold laws_eqRule.f
      exact Ev.bind (eqConS_ev _ (hm _ (List.getElem_mem hi))) (ev_is fun _ => by rw [if_pos rfl])
    · rw [if_pos rfl]) true (ev_end fun k => by simp only [laws_eqRuleS.l0]; rw [if_neg (by omega)])
  refine Ev.congr (fun k => ?_) key
  unfold laws_eqRuleS.f
  rw [if_pos rfl]
theorem eqPolicy_ev (a : List S127) (hs : SmallEI a) : Ev (fun k => laws_eqPolicy.f k a a) true := by
  obtain ⟨hl, hm⟩ := hs
  have key := ev_loop (fun k (s : Unit) i => laws_eqEntryS.l0 k a a i) a.length (fun _ => ()) () () rfl rfl (fun i hi r hr => by
    refine ev_step (fun k => (laws_eqEntry.f k a[i].f0 a[i].f1 a[i].f2 a[i].f0 a[i].f1 a[i].f2).bind fun t => if t = true then laws_eqEntryS.l0 k a a ((i + 1 : Nat) : Int) else some false) (fun k => ?_) (Ev.bind (a := true) ?_ (Ev.congr (fun k => ?_) hr))
    · simp only [laws_eqEntryS.l0]
      rw [if_pos (by omega), if_pos (by omega), if_pos (by omega), rdEI a i hi, wrap64_id (by omega) (by omega)]
      rfl
    · unfold laws_eqEntry.f
      refine Ev.congr (fun k => ?_) (Ev.bind (eqRuleS_ev _ (hm _ (List.getElem_mem hi))) (f := fun _ t => if t = true then some true else some false) (ev_is fun _ => by rw [if_pos rfl]))
      rw [if_pos rfl, if_pos rfl]
    · rw [if_pos rfl]) true (ev_end fun k => by simp only [laws_eqEntryS.l0]; rw [if_neg (by omega)])
  unfold laws_eqPolicy.f
  refine Ev.bind (a := true) (Ev.congr (fun k => ?_) key) (ev_is fun _ => by rw [if_pos rfl])
  unfold laws_eqEntryS.f
  rw [if_pos rfl]
theorem small_map (l : List S180) (hs : SmallE l) : SmallEI (l.map eOf) := by
  refine ⟨by rw [List.length_map]; exact hs.1, fun x hx => ?_⟩
  obtain ⟨y, hy, rfl⟩ := List.mem_map.1 hx
  have h := hs.2 y hy
  refine ⟨by show (y.f2.map rOf).length ≤ _; rw [List.length_map]; exact h.1, fun r hr => ?_⟩
  obtain ⟨z, hz, rfl⟩ := List.mem_map.1 (show r ∈ y.f2.map rOf from hr)
  show (z.f0.map cOf).length ≤ _
  rw [List.length_map]
  exact h.2 z hz
end Go.Proofs.Ytdipinclchkhjaa.P
