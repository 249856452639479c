import Derived.Test.YtdipinclchkhjaaGFnExactAllows4
import Derived.Test.YtdipinclchkhjaaGFnExactAllows12
import Derived.Test.YtdipinclchkhjaaGFnExactAllows15
import Derived.Test.YtdipinclchkhjaaGFnExactAllows11
import Derived.Test.YtdipinclchkhjaaGFnExactAllows13
import Derived.Handy
import Derived.Deep.LoopGhost
import Derived.Deep.QuietTactic
import Derived.BigQuiet
import Derived.StillTailTactics
namespace Go.Proofs.Ytdipinclchkhjaa.P
open Go.RowKit Go.Proofs.YtdipinclchkhjaaW.PrintWords Go.Proofs.YtdipinclchkhjaaW.PrintLast Go.Proofs.YtdipinclchkhjaaW.PrintMore
attribute [local go_sem] max2_int min2_int max_two min_two max_three min_three max_four min_four   -- for this text's walks alone
set_option linter.unusedVariables false
set_option linter.unusedSimpArgs false

/-! ### spec_Allows: function 53 -/
def spec_Allows.f (k : Nat) (l0_0 : List (S127)) (a1_0 : Int) (a1_1 : Int) (l1_2 : List Int) : Option (Bool) := (spec_ValidPolicy.f k l0_0).bind fun t909 => (if t909 = true then (if (l1_2.length : Int) = 6 then ((spec_l3allows.f k l0_0 a1_0 a1_1 l1_2).bind fun t910 => (some t910)) else (some false)) else (some false))
set_option maxHeartbeats 8000000 in
set_option maxRecDepth 100000 in
theorem spec_Allows.calls (k : Nat) (A0_0 : Option Addr) (c0_0 : Nat) (l0_0 : List (S127)) (a1_0 : Int) (a1_1 : Int) (A1_2 : Option Addr) (c1_2 : Nat) (l1_2 : List Int) (r : Bool) (w : World) (hr0_0 : Kd.C k127 w A0_0 l0_0.length l0_0) (hc0_0 : l0_0.length ≤ c0_0) (hr1_2 : Kd.C (Kd.int .u64) w A1_2 l1_2.length l1_2) (hc1_2 : l1_2.length ≤ c1_2) (h : spec_Allows.f k l0_0 a1_0 a1_1 l1_2 = some r) :
    Calls Try.prog 53 #[.agg #[.slice A0_0 l0_0.length c0_0], .agg #[.int .u32 a1_0, .int .u32 a1_1, .slice A1_2 l1_2.length c1_2]] w fun e w' => e = .returned (.bool r) ∧ Below w.heap.size w w' := by
  have hu64 := Try.underlying64
  have hu85 := Try.underlying85
  have HR0_0 := Aside0.mk hr0_0
  have HC0_0 := Aside0.mk hc0_0
  clear hr0_0 hc0_0
  have HR1_2 := Aside0.mk hr1_2
  have HC1_2 := Aside0.mk hc1_2
  clear hr1_2 hc1_2
  have HB := Aside0.mk (Below.refl w.heap.size w)
  have H : ((spec_ValidPolicy.f k l0_0).bind fun t909 => (if t909 = true then (if (l1_2.length : Int) = 6 then ((spec_l3allows.f k l0_0 a1_0 a1_1 l1_2).bind fun t910 => (some t910)) else (some false)) else (some false))) = some r := h
  clear h
  replace H := Option.bind_eq_some_iff.mp H
  obtain ⟨t909, A30, H⟩ := H
  replace H : (if t909 = true then (if (l1_2.length : Int) = 6 then ((spec_l3allows.f k l0_0 a1_0 a1_1 l1_2).bind fun t910 => (some t910)) else (some false)) else (some false)) = some r := H
  have A3 := Aside0.mk A30
  clear A30
  by_cases c4 : t909 = true
  · subst c4
    have H1 : (if (l1_2.length : Int) = 6 then ((spec_l3allows.f k l0_0 a1_0 a1_1 l1_2).bind fun t910 => (some t910)) else (some false)) = some r := by rw [if_pos rfl] at H; exact H
    clear H
    have H := H1
    clear H1
    by_cases c5 : (l1_2.length : Int) = 6
    · rw [if_pos c5] at H
      have c5b0 : ((l1_2.length : Int) == 6) = true := beq_iff_eq.mpr c5
      have c5b1 : ((l1_2.length : Int) != 6) = false := bne_eq_false_iff_eq.mpr c5
      clear c5
      replace H := Option.bind_eq_some_iff.mp H
      obtain ⟨t910, A60, H⟩ := H
      replace H : (some t910) = some r := H
      have A6 := Aside0.mk A60
      clear A60
      obtain rfl := Option.some.inj H
      go_enter Try.func53, Try.ntmps53
      go_wp2_with (first | ((with_reducible refine gate_dst (N := 2) rfl ?_); (try (refine gate_guard (by rfl) ?_; dsimp only)); refine box_event ?hg (N := 2) ?hd (cs := #[.slice A0_0 l0_0.length c0_0]) (t := 64) ?hr ?_; (case hd => rfl); (case hg => rfl); (case hr => first | (go_simp; done) | (go_simp; rfl)); intro gb907 hg w7 hbox hb; have n0_ := Aside0.mk (below_step (by repeat (first | (with_reducible first | exact HB.out | apply below_alloc | apply pw_below_drewN | apply below_drew1) | exact HB.out)) hb); have n1_ := Aside0.mk (hbox); have n2_ := Aside0.mk ((by rw [hg]; exact (below_size (by repeat (first | (with_reducible first | exact HB.out | apply below_alloc | apply pw_below_drewN | apply below_drew1) | exact HB.out))) : w.heap.size ≤ gb907)); have n3_ := Aside0.mk ((by rw [hg]; exact (below_size (by repeat (first | (with_reducible first | exact HB.out | apply below_alloc | apply pw_below_drewN | apply below_drew1) | exact HB.out))) : w.heap.size ≤ gb907)); clear HB; have HB := n0_; have BK907 := n1_; have GW907 := n2_; have GE907 := n3_; clear n0_ n1_ n2_ n3_; clear hb hbox hg) | ((with_reducible refine gate_dst (N := 3) rfl ?_); (try (refine gate_guard (by rfl) ?_; dsimp only)); refine box_event ?hg (N := 3) ?hd (cs := #[.int .u32 a1_0, .int .u32 a1_1, .slice A1_2 l1_2.length c1_2]) (t := 85) ?hr ?_; (case hd => rfl); (case hg => rfl); (case hr => first | (go_simp; done) | (go_simp; rfl)); intro gb908 hg w8 hbox hb; have n0_ := Aside0.mk (blk_below (g := gb907) (o := .cells #[.slice A0_0 l0_0.length c0_0] 64 (0, 0)) (by (with_reducible repeat (first | refine blk_drewN ?_ _ | refine blk_drew ?_ | refine blk_alloc ?_ _)); exact BK907.out) hb); have n1_ := Aside0.mk (below_step (by repeat (first | (with_reducible first | exact HB.out | apply below_alloc | apply pw_below_drewN | apply below_drew1 | refine below_set ?_ GE907.out) | exact HB.out)) hb); have n2_ := Aside0.mk (hbox); have n3_ := Aside0.mk ((by rw [hg]; exact (below_size (by repeat (first | (with_reducible first | exact HB.out | apply below_alloc | apply pw_below_drewN | apply below_drew1 | refine below_set ?_ GE907.out) | exact HB.out))) : w.heap.size ≤ gb908)); have n4_ := Aside0.mk ((by rw [hg]; exact (below_size (by repeat (first | (with_reducible first | exact HB.out | apply below_alloc | apply pw_below_drewN | apply below_drew1 | refine below_set ?_ GE907.out) | exact HB.out))) : w.heap.size ≤ gb908)); have n5_ := Aside0.mk ((by rw [hg]; exact Nat.ne_of_lt (blk_lt (g := gb907) (o := .cells #[.slice A0_0 l0_0.length c0_0] 64 (0, 0)) (by (with_reducible repeat (first | refine blk_drewN ?_ _ | refine blk_drew ?_ | refine blk_alloc ?_ _)); exact BK907.out)) : gb907 ≠ gb908)); have n6_ := Aside0.mk ((by rw [hg]; exact Nat.ne_of_gt (blk_lt (g := gb907) (o := .cells #[.slice A0_0 l0_0.length c0_0] 64 (0, 0)) (by (with_reducible repeat (first | refine blk_drewN ?_ _ | refine blk_drew ?_ | refine blk_alloc ?_ _)); exact BK907.out)) : gb908 ≠ gb907)); clear BK907; clear HB; have BK907 := n0_; have HB := n1_; have BK908 := n2_; have GW908 := n3_; have GE908 := n4_; have NB907_908 := n5_; have NB908_907 := n6_; clear n0_ n1_ n2_ n3_ n4_ n5_ n6_; clear hb hbox hg; have hnb9 := NB907_908.out; have hnc9 := NB908_907.out; have hcz10_0 : w8.cell? ⟨gb907, 0, none⟩ = some (.slice A0_0 l0_0.length c0_0) := (blk_cell BK907.out 0).trans rfl; have hfz10_0 := blk_frozen BK907.out 0) | ((with_reducible refine gate_callee (f := 39) rfl ?_); refine goesL_ (some 6) rfl rfl Try.func39 (by kernel_rfl) rfl #[.agg #[.slice A0_0 l0_0.length c0_0]] rfl (by (try simp only [List.map_toArray, List.map_cons, List.map_nil]); first | done | rfl | (simp only [List.length_drop, List.length_take]; rfl)) ?_; (with_reducible refine (spec_ValidPolicy.calls k _ _ l0_0 true _ ?side1 ?side2 A3.out).mono ?_); (case side1 => repeat (first | exact (Kd.C_below HR0_0.out HB.out) | (with_reducible refine Kd.C_alloc ?_ _) | (with_reducible refine Kd.C_drewN ?_ _) | (with_reducible refine Kd.C_drew ?_))); (case side2 => exact HC0_0.out); rintro e w11 ⟨rfl, hb⟩; refine ⟨_, rfl, ?_⟩; have n0_ := Aside0.mk (blk_below (g := gb907) (o := .cells #[.slice A0_0 l0_0.length c0_0] 64 (0, 0)) (by (with_reducible repeat (first | refine blk_drewN ?_ _ | refine blk_drew ?_ | refine blk_alloc ?_ _)); exact BK907.out) hb); have n1_ := Aside0.mk (blk_below (g := gb908) (o := .cells #[.int .u32 a1_0, .int .u32 a1_1, .slice A1_2 l1_2.length c1_2] 85 (0, 0)) (by (with_reducible repeat (first | refine blk_drewN ?_ _ | refine blk_drew ?_ | refine blk_alloc ?_ _)); exact BK908.out) hb); have n2_ := Aside0.mk (below_step (by repeat (first | (with_reducible first | exact HB.out | apply below_alloc | apply pw_below_drewN | apply below_drew1 | refine below_set ?_ GE907.out | refine below_set ?_ GE908.out) | exact HB.out)) hb); clear BK907; clear BK908; clear HB; have BK907 := n0_; have BK908 := n1_; have HB := n2_; clear n0_ n1_ n2_; (try clear hb); (try clear hb2); (try clear hk); (try clear hi); have hcz12_0 : w11.cell? ⟨gb908, 0, none⟩ = some (.int .u32 a1_0) := (blk_cell BK908.out 0).trans rfl; have hcz12_1 : w11.cell? ⟨gb908, 1, none⟩ = some (.int .u32 a1_1) := (blk_cell BK908.out 1).trans rfl; have hcz12_2 : w11.cell? ⟨gb908, 2, none⟩ = some (.slice A1_2 l1_2.length c1_2) := (blk_cell BK908.out 2).trans rfl; have hfz12_0 := blk_frozen BK908.out 0; have hfz12_1 := blk_frozen BK908.out 1; have hfz12_2 := blk_frozen BK908.out 2; have hcz13_0 : w11.cell? ⟨gb907, 0, none⟩ = some (.slice A0_0 l0_0.length c0_0) := (blk_cell BK907.out 0).trans rfl; have hfz13_0 := blk_frozen BK907.out 0) | (go_at_call 108; (with_reducible refine (spec_l3allows.calls k _ _ l0_0 a1_0 a1_1 _ _ l1_2 t910 _ ?side1 ?side2 ?side3 ?side4 A6.out).mono ?_); (case side1 => repeat (first | exact (Kd.C_below HR0_0.out HB.out) | (with_reducible refine Kd.C_alloc ?_ _) | (with_reducible refine Kd.C_drewN ?_ _) | (with_reducible refine Kd.C_drew ?_))); (case side2 => exact HC0_0.out); (case side3 => repeat (first | exact (Kd.C_below HR1_2.out HB.out) | (with_reducible refine Kd.C_alloc ?_ _) | (with_reducible refine Kd.C_drewN ?_ _) | (with_reducible refine Kd.C_drew ?_))); (case side4 => exact HC1_2.out); rintro e w14 ⟨rfl, hb⟩; have n0_ := Aside0.mk (blk_below (g := gb907) (o := .cells #[.slice A0_0 l0_0.length c0_0] 64 (0, 0)) (by (with_reducible repeat (first | refine blk_drewN ?_ _ | refine blk_drew ?_ | refine blk_alloc ?_ _)); exact BK907.out) hb); have n1_ := Aside0.mk (blk_below (g := gb908) (o := .cells #[.int .u32 a1_0, .int .u32 a1_1, .slice A1_2 l1_2.length c1_2] 85 (0, 0)) (by (with_reducible repeat (first | refine blk_drewN ?_ _ | refine blk_drew ?_ | refine blk_alloc ?_ _)); exact BK908.out) hb); have n2_ := Aside0.mk (below_step (by repeat (first | (with_reducible first | exact HB.out | apply below_alloc | apply pw_below_drewN | apply below_drew1 | refine below_set ?_ GE907.out | refine below_set ?_ GE908.out) | exact HB.out)) hb); clear BK907; clear BK908; clear HB; have BK907 := n0_; have BK908 := n1_; have HB := n2_; clear n0_ n1_ n2_; (try clear hb); (try clear hb2); (try clear hk); (try clear hi)))
      go_ret
      exact ⟨by first | rfl | (simp [errW_none, errW_some] <;> rfl) | (simp [*, errW_none, errW_some] <;> rfl), by repeat (first | (with_reducible first | exact HB.out | apply below_alloc | apply pw_below_drewN | apply below_drew1 | refine below_set ?_ GE907.out | refine below_set ?_ GE908.out) | exact HB.out)⟩
    · rw [if_neg c5] at H
      have c5b0 : ((l1_2.length : Int) == 6) = false := beq_eq_false_iff_ne.mpr c5
      have c5b1 : ((l1_2.length : Int) != 6) = true := bne_iff_ne.mpr c5
      obtain rfl := Option.some.inj H
      go_enter Try.func53, Try.ntmps53
      go_wp2_with (first | ((with_reducible refine gate_dst (N := 2) rfl ?_); (try (refine gate_guard (by rfl) ?_; dsimp only)); refine box_event ?hg (N := 2) ?hd (cs := #[.slice A0_0 l0_0.length c0_0]) (t := 64) ?hr ?_; (case hd => rfl); (case hg => rfl); (case hr => first | (go_simp; done) | (go_simp; rfl)); intro gb907 hg w15 hbox hb; have n0_ := Aside0.mk (below_step (by repeat (first | (with_reducible first | exact HB.out | apply below_alloc | apply pw_below_drewN | apply below_drew1) | exact HB.out)) hb); have n1_ := Aside0.mk (hbox); have n2_ := Aside0.mk ((by rw [hg]; exact (below_size (by repeat (first | (with_reducible first | exact HB.out | apply below_alloc | apply pw_below_drewN | apply below_drew1) | exact HB.out))) : w.heap.size ≤ gb907)); have n3_ := Aside0.mk ((by rw [hg]; exact (below_size (by repeat (first | (with_reducible first | exact HB.out | apply below_alloc | apply pw_below_drewN | apply below_drew1) | exact HB.out))) : w.heap.size ≤ gb907)); clear HB; have HB := n0_; have BK907 := n1_; have GW907 := n2_; have GE907 := n3_; clear n0_ n1_ n2_ n3_; clear hb hbox hg) | ((with_reducible refine gate_dst (N := 3) rfl ?_); (try (refine gate_guard (by rfl) ?_; dsimp only)); refine box_event ?hg (N := 3) ?hd (cs := #[.int .u32 a1_0, .int .u32 a1_1, .slice A1_2 l1_2.length c1_2]) (t := 85) ?hr ?_; (case hd => rfl); (case hg => rfl); (case hr => first | (go_simp; done) | (go_simp; rfl)); intro gb908 hg w16 hbox hb; have n0_ := Aside0.mk (blk_below (g := gb907) (o := .cells #[.slice A0_0 l0_0.length c0_0] 64 (0, 0)) (by (with_reducible repeat (first | refine blk_drewN ?_ _ | refine blk_drew ?_ | refine blk_alloc ?_ _)); exact BK907.out) hb); have n1_ := Aside0.mk (below_step (by repeat (first | (with_reducible first | exact HB.out | apply below_alloc | apply pw_below_drewN | apply below_drew1 | refine below_set ?_ GE907.out) | exact HB.out)) hb); have n2_ := Aside0.mk (hbox); have n3_ := Aside0.mk ((by rw [hg]; exact (below_size (by repeat (first | (with_reducible first | exact HB.out | apply below_alloc | apply pw_below_drewN | apply below_drew1 | refine below_set ?_ GE907.out) | exact HB.out))) : w.heap.size ≤ gb908)); have n4_ := Aside0.mk ((by rw [hg]; exact (below_size (by repeat (first | (with_reducible first | exact HB.out | apply below_alloc | apply pw_below_drewN | apply below_drew1 | refine below_set ?_ GE907.out) | exact HB.out))) : w.heap.size ≤ gb908)); have n5_ := Aside0.mk ((by rw [hg]; exact Nat.ne_of_lt (blk_lt (g := gb907) (o := .cells #[.slice A0_0 l0_0.length c0_0] 64 (0, 0)) (by (with_reducible repeat (first | refine blk_drewN ?_ _ | refine blk_drew ?_ | refine blk_alloc ?_ _)); exact BK907.out)) : gb907 ≠ gb908)); have n6_ := Aside0.mk ((by rw [hg]; exact Nat.ne_of_gt (blk_lt (g := gb907) (o := .cells #[.slice A0_0 l0_0.length c0_0] 64 (0, 0)) (by (with_reducible repeat (first | refine blk_drewN ?_ _ | refine blk_drew ?_ | refine blk_alloc ?_ _)); exact BK907.out)) : gb908 ≠ gb907)); clear BK907; clear HB; have BK907 := n0_; have HB := n1_; have BK908 := n2_; have GW908 := n3_; have GE908 := n4_; have NB907_908 := n5_; have NB908_907 := n6_; clear n0_ n1_ n2_ n3_ n4_ n5_ n6_; clear hb hbox hg; have hnb17 := NB907_908.out; have hnc17 := NB908_907.out; have hcz18_0 : w16.cell? ⟨gb907, 0, none⟩ = some (.slice A0_0 l0_0.length c0_0) := (blk_cell BK907.out 0).trans rfl; have hfz18_0 := blk_frozen BK907.out 0) | ((with_reducible refine gate_callee (f := 39) rfl ?_); refine goesL_ (some 6) rfl rfl Try.func39 (by kernel_rfl) rfl #[.agg #[.slice A0_0 l0_0.length c0_0]] rfl (by (try simp only [List.map_toArray, List.map_cons, List.map_nil]); first | done | rfl | (simp only [List.length_drop, List.length_take]; rfl)) ?_; (with_reducible refine (spec_ValidPolicy.calls k _ _ l0_0 true _ ?side1 ?side2 A3.out).mono ?_); (case side1 => repeat (first | exact (Kd.C_below HR0_0.out HB.out) | (with_reducible refine Kd.C_alloc ?_ _) | (with_reducible refine Kd.C_drewN ?_ _) | (with_reducible refine Kd.C_drew ?_))); (case side2 => exact HC0_0.out); rintro e w19 ⟨rfl, hb⟩; refine ⟨_, rfl, ?_⟩; have n0_ := Aside0.mk (blk_below (g := gb907) (o := .cells #[.slice A0_0 l0_0.length c0_0] 64 (0, 0)) (by (with_reducible repeat (first | refine blk_drewN ?_ _ | refine blk_drew ?_ | refine blk_alloc ?_ _)); exact BK907.out) hb); have n1_ := Aside0.mk (blk_below (g := gb908) (o := .cells #[.int .u32 a1_0, .int .u32 a1_1, .slice A1_2 l1_2.length c1_2] 85 (0, 0)) (by (with_reducible repeat (first | refine blk_drewN ?_ _ | refine blk_drew ?_ | refine blk_alloc ?_ _)); exact BK908.out) hb); have n2_ := Aside0.mk (below_step (by repeat (first | (with_reducible first | exact HB.out | apply below_alloc | apply pw_below_drewN | apply below_drew1 | refine below_set ?_ GE907.out | refine below_set ?_ GE908.out) | exact HB.out)) hb); clear BK907; clear BK908; clear HB; have BK907 := n0_; have BK908 := n1_; have HB := n2_; clear n0_ n1_ n2_; (try clear hb); (try clear hb2); (try clear hk); (try clear hi); have hcz20_0 : w19.cell? ⟨gb908, 0, none⟩ = some (.int .u32 a1_0) := (blk_cell BK908.out 0).trans rfl; have hcz20_1 : w19.cell? ⟨gb908, 1, none⟩ = some (.int .u32 a1_1) := (blk_cell BK908.out 1).trans rfl; have hcz20_2 : w19.cell? ⟨gb908, 2, none⟩ = some (.slice A1_2 l1_2.length c1_2) := (blk_cell BK908.out 2).trans rfl; have hfz20_0 := blk_frozen BK908.out 0; have hfz20_1 := blk_frozen BK908.out 1; have hfz20_2 := blk_frozen BK908.out 2))
      go_ret
      exact ⟨by first | rfl | (simp [errW_none, errW_some] <;> rfl) | (simp [*, errW_none, errW_some] <;> rfl), by repeat (first | (with_reducible first | exact HB.out | apply below_alloc | apply pw_below_drewN | apply below_drew1 | refine below_set ?_ GE907.out | refine below_set ?_ GE908.out) | exact HB.out)⟩
  · replace c4 := Bool.eq_false_iff.mpr c4
    subst c4
    have H1 : (some false) = some r := by rw [if_neg (show ¬ (false = true) by decide)] at H; exact H
    clear H
    have H := H1
    clear H1
    obtain rfl := Option.some.inj H
    go_enter Try.func53, Try.ntmps53
    go_wp2_with (first | ((with_reducible refine gate_dst (N := 2) rfl ?_); (try (refine gate_guard (by rfl) ?_; dsimp only)); refine box_event ?hg (N := 2) ?hd (cs := #[.slice A0_0 l0_0.length c0_0]) (t := 64) ?hr ?_; (case hd => rfl); (case hg => rfl); (case hr => first | (go_simp; done) | (go_simp; rfl)); intro gb907 hg w21 hbox hb; have n0_ := Aside0.mk (below_step (by repeat (first | (with_reducible first | exact HB.out | apply below_alloc | apply pw_below_drewN | apply below_drew1) | exact HB.out)) hb); have n1_ := Aside0.mk (hbox); have n2_ := Aside0.mk ((by rw [hg]; exact (below_size (by repeat (first | (with_reducible first | exact HB.out | apply below_alloc | apply pw_below_drewN | apply below_drew1) | exact HB.out))) : w.heap.size ≤ gb907)); have n3_ := Aside0.mk ((by rw [hg]; exact (below_size (by repeat (first | (with_reducible first | exact HB.out | apply below_alloc | apply pw_below_drewN | apply below_drew1) | exact HB.out))) : w.heap.size ≤ gb907)); clear HB; have HB := n0_; have BK907 := n1_; have GW907 := n2_; have GE907 := n3_; clear n0_ n1_ n2_ n3_; clear hb hbox hg) | ((with_reducible refine gate_dst (N := 3) rfl ?_); (try (refine gate_guard (by rfl) ?_; dsimp only)); refine box_event ?hg (N := 3) ?hd (cs := #[.int .u32 a1_0, .int .u32 a1_1, .slice A1_2 l1_2.length c1_2]) (t := 85) ?hr ?_; (case hd => rfl); (case hg => rfl); (case hr => first | (go_simp; done) | (go_simp; rfl)); intro gb908 hg w22 hbox hb; have n0_ := Aside0.mk (blk_below (g := gb907) (o := .cells #[.slice A0_0 l0_0.length c0_0] 64 (0, 0)) (by (with_reducible repeat (first | refine blk_drewN ?_ _ | refine blk_drew ?_ | refine blk_alloc ?_ _)); exact BK907.out) hb); have n1_ := Aside0.mk (below_step (by repeat (first | (with_reducible first | exact HB.out | apply below_alloc | apply pw_below_drewN | apply below_drew1 | refine below_set ?_ GE907.out) | exact HB.out)) hb); have n2_ := Aside0.mk (hbox); have n3_ := Aside0.mk ((by rw [hg]; exact (below_size (by repeat (first | (with_reducible first | exact HB.out | apply below_alloc | apply pw_below_drewN | apply below_drew1 | refine below_set ?_ GE907.out) | exact HB.out))) : w.heap.size ≤ gb908)); have n4_ := Aside0.mk ((by rw [hg]; exact (below_size (by repeat (first | (with_reducible first | exact HB.out | apply below_alloc | apply pw_below_drewN | apply below_drew1 | refine below_set ?_ GE907.out) | exact HB.out))) : w.heap.size ≤ gb908)); have n5_ := Aside0.mk ((by rw [hg]; exact Nat.ne_of_lt (blk_lt (g := gb907) (o := .cells #[.slice A0_0 l0_0.length c0_0] 64 (0, 0)) (by (with_reducible repeat (first | refine blk_drewN ?_ _ | refine blk_drew ?_ | refine blk_alloc ?_ _)); exact BK907.out)) : gb907 ≠ gb908)); have n6_ := Aside0.mk ((by rw [hg]; exact Nat.ne_of_gt (blk_lt (g := gb907) (o := .cells #[.slice A0_0 l0_0.length c0_0] 64 (0, 0)) (by (with_reducible repeat (first | refine blk_drewN ?_ _ | refine blk_drew ?_ | refine blk_alloc ?_ _)); exact BK907.out)) : gb908 ≠ gb907)); clear BK907; clear HB; have BK907 := n0_; have HB := n1_; have BK908 := n2_; have GW908 := n3_; have GE908 := n4_; have NB907_908 := n5_; have NB908_907 := n6_; clear n0_ n1_ n2_ n3_ n4_ n5_ n6_; clear hb hbox hg; have hnb23 := NB907_908.out; have hnc23 := NB908_907.out; have hcz24_0 : w22.cell? ⟨gb907, 0, none⟩ = some (.slice A0_0 l0_0.length c0_0) := (blk_cell BK907.out 0).trans rfl; have hfz24_0 := blk_frozen BK907.out 0) | ((with_reducible refine gate_callee (f := 39) rfl ?_); refine goesL_ (some 6) rfl rfl Try.func39 (by kernel_rfl) rfl #[.agg #[.slice A0_0 l0_0.length c0_0]] rfl (by (try simp only [List.map_toArray, List.map_cons, List.map_nil]); first | done | rfl | (simp only [List.length_drop, List.length_take]; rfl)) ?_; (with_reducible refine (spec_ValidPolicy.calls k _ _ l0_0 false _ ?side1 ?side2 A3.out).mono ?_); (case side1 => repeat (first | exact (Kd.C_below HR0_0.out HB.out) | (with_reducible refine Kd.C_alloc ?_ _) | (with_reducible refine Kd.C_drewN ?_ _) | (with_reducible refine Kd.C_drew ?_))); (case side2 => exact HC0_0.out); rintro e w25 ⟨rfl, hb⟩; refine ⟨_, rfl, ?_⟩; have n0_ := Aside0.mk (blk_below (g := gb907) (o := .cells #[.slice A0_0 l0_0.length c0_0] 64 (0, 0)) (by (with_reducible repeat (first | refine blk_drewN ?_ _ | refine blk_drew ?_ | refine blk_alloc ?_ _)); exact BK907.out) hb); have n1_ := Aside0.mk (blk_below (g := gb908) (o := .cells #[.int .u32 a1_0, .int .u32 a1_1, .slice A1_2 l1_2.length c1_2] 85 (0, 0)) (by (with_reducible repeat (first | refine blk_drewN ?_ _ | refine blk_drew ?_ | refine blk_alloc ?_ _)); exact BK908.out) hb); have n2_ := Aside0.mk (below_step (by repeat (first | (with_reducible first | exact HB.out | apply below_alloc | apply pw_below_drewN | apply below_drew1 | refine below_set ?_ GE907.out | refine below_set ?_ GE908.out) | exact HB.out)) hb); clear BK907; clear BK908; clear HB; have BK907 := n0_; have BK908 := n1_; have HB := n2_; clear n0_ n1_ n2_; (try clear hb); (try clear hb2); (try clear hk); (try clear hi)))
    go_ret
    exact ⟨by first | rfl | (simp [errW_none, errW_some] <;> rfl) | (simp [*, errW_none, errW_some] <;> rfl), by repeat (first | (with_reducible first | exact HB.out | apply below_alloc | apply pw_below_drewN | apply below_drew1 | refine below_set ?_ GE907.out | refine below_set ?_ GE908.out) | exact HB.out)⟩

end Go.Proofs.Ytdipinclchkhjaa.P

namespace Go.Proofs.Ytdipinclchkhjaa.P
open Go.RowKit Go.Proofs.YtdipinclchkhjaaW.PrintWords Go.Proofs.YtdipinclchkhjaaW.PrintLast Go.Proofs.YtdipinclchkhjaaW.PrintMore
attribute [local go_sem] max2_int min2_int max_two min_two max_three min_three max_four min_four   -- for this text's walks alone
set_option linter.unusedVariables false
set_option linter.unusedSimpArgs false

/-! ### impl_validCall: function 78 -/
def impl_validCall.f (a0_0 : Int) (a0_1 : Int) (l0_2 : List Int) : Option (Bool) := some ((l0_2.length : Int) == 6)
set_option maxHeartbeats 8000000 in
set_option maxRecDepth 100000 in
theorem impl_validCall.calls (a0_0 : Int) (a0_1 : Int) (A0_2 : Option Addr) (c0_2 : Nat) (l0_2 : List Int) (r : Bool) (w : World) (hr0_2 : Kd.C (Kd.int .u64) w A0_2 l0_2.length l0_2) (hc0_2 : l0_2.length ≤ c0_2) (h : impl_validCall.f a0_0 a0_1 l0_2 = some r) :
    Calls Try.prog 78 #[.agg #[.int .u32 a0_0, .int .u32 a0_1, .slice A0_2 l0_2.length c0_2]] w fun e w' => e = .returned (.bool r) ∧ Below w.heap.size w w' := by
  have hu85 := Try.underlying85
  have HR0_2 := Aside0.mk hr0_2
  have HC0_2 := Aside0.mk hc0_2
  clear hr0_2 hc0_2
  have HB := Aside0.mk (Below.refl w.heap.size w)
  have H : (some ((l0_2.length : Int) == 6)) = some r := h
  clear h
  obtain rfl := Option.some.inj H
  go_enter Try.func78, Try.ntmps78
  go_wp2_with (first | ((with_reducible refine gate_dst (N := 1) rfl ?_); refine box_event ?hg (N := 1) ?hd (cs := #[.int .u32 a0_0, .int .u32 a0_1, .slice A0_2 l0_2.length c0_2]) (t := 85) ?hr ?_; (case hd => rfl); (case hg => rfl); (case hr => first | (go_simp; done) | (go_simp; rfl)); intro gb371 hg w2 hbox hb; have n0_ := Aside0.mk (below_step (by repeat (first | (with_reducible first | exact HB.out | apply below_alloc | apply pw_below_drewN | apply below_drew1) | exact HB.out)) hb); have n1_ := Aside0.mk (hbox); have n2_ := Aside0.mk ((by rw [hg]; exact (below_size (by repeat (first | (with_reducible first | exact HB.out | apply below_alloc | apply pw_below_drewN | apply below_drew1) | exact HB.out))) : w.heap.size ≤ gb371)); have n3_ := Aside0.mk ((by rw [hg]; exact (below_size (by repeat (first | (with_reducible first | exact HB.out | apply below_alloc | apply pw_below_drewN | apply below_drew1) | exact HB.out))) : w.heap.size ≤ gb371)); clear HB; have HB := n0_; have BK371 := n1_; have GW371 := n2_; have GE371 := n3_; clear n0_ n1_ n2_ n3_; clear hb hbox hg; have hcz3_0 : w2.cell? ⟨gb371, 0, none⟩ = some (.int .u32 a0_0) := (blk_cell BK371.out 0).trans rfl; have hcz3_1 : w2.cell? ⟨gb371, 1, none⟩ = some (.int .u32 a0_1) := (blk_cell BK371.out 1).trans rfl; have hcz3_2 : w2.cell? ⟨gb371, 2, none⟩ = some (.slice A0_2 l0_2.length c0_2) := (blk_cell BK371.out 2).trans rfl; have hfz3_0 := blk_frozen BK371.out 0; have hfz3_1 := blk_frozen BK371.out 1; have hfz3_2 := blk_frozen BK371.out 2))
  go_ret
  exact ⟨by first | rfl | (simp [errW_none, errW_some] <;> rfl) | (simp [*, errW_none, errW_some] <;> rfl), by repeat (first | (with_reducible first | exact HB.out | apply below_alloc | apply pw_below_drewN | apply below_drew1 | refine below_set ?_ GE371.out) | exact HB.out)⟩

end Go.Proofs.Ytdipinclchkhjaa.P

namespace Go.Proofs.Ytdipinclchkhjaa.P
open Go.RowKit Go.Proofs.YtdipinclchkhjaaW.PrintWords Go.Proofs.YtdipinclchkhjaaW.PrintLast Go.Proofs.YtdipinclchkhjaaW.PrintMore
attribute [local go_sem] max2_int min2_int max_two min_two max_three min_three max_four min_four   -- for this text's walks alone
set_option linter.unusedVariables false
set_option linter.unusedSimpArgs false

def holdsR (c : S26) (v : Int) : Bool := match (normRaw c.f0 c.f1 c.f2).1 with
  | .nil => true
  | .any => true
  | .mask m b => bits .and .u64 v m == b
  | .rng l h => decide (l ≤ v) && decide (v ≤ h)
def ruleHB (r : S131) (args : List Int) : Bool := (List.range r.f0.length).all fun i => holdsR (rd_T26 r.f0 (i : Int)) (rd args (i : Int))
def entB (a n : Int) (args : List Int) (e : S127) : Bool := (e.f0 == a) && (e.f1 == n) && (e.f2.any fun r => ruleHB r args)
def allowsB (l : List S127) (a n : Int) (args : List Int) : Bool := l.any (entB a n args)
def polFit (l : List S127) : Bool := decide (l.length ≤ 1048576) && l.all fun e => decide (e.f2.length ≤ 1048576) && e.f2.all fun r => ruleOKr r
def impl_Allows.f (k : Nat) (l0_0 : List S127) (a1_0 : Int) (a1_1 : Int) (l1_2 : List Int) : Option Bool :=
  (impl_ValidPolicy.f k l0_0).bind fun v => if v = true then (if l1_2.length = 6 then (if polFit l0_0 = true then some (allowsB l0_0 a1_0 a1_1 l1_2) else none) else some false) else some false
set_option maxHeartbeats 1000000 in
theorem holds_any_does (x : Int) (w : World) : Calls Try.prog 186 #[.agg #[], .int .u64 x] w fun e w' => e = .returned (.bool true) ∧ Below w.heap.size w w' := by
  go_enter Try.func186, Try.ntmps186
  go_wp2
  go_ret
  exact ⟨rfl, by repeat (first | exact Below.refl _ _ | refine below_alloc ?_ _ | refine pw_below_drewN ?_ _)⟩
set_option maxHeartbeats 1000000 in
theorem holds_mask_does (m b x : Int) (w : World) : Calls Try.prog 116 #[.agg #[.int .u64 m, .int .u64 b], .int .u64 x] w fun e w' => e = .returned (.bool (bits .and .u64 x m == b)) ∧ Below w.heap.size w w' := by
  go_enter Try.func116, Try.ntmps116
  go_wp2
  repeat (go_quiet (fail); try go_wp2)
  go_ret
  exact ⟨rfl, by repeat (first | exact Below.refl _ _ | refine below_alloc ?_ _ | refine pw_below_drewN ?_ _)⟩
set_option maxHeartbeats 1000000 in
theorem holds_rng_does (l h x : Int) (w : World) : Calls Try.prog 114 #[.agg #[.int .u64 l, .int .u64 h], .int .u64 x] w fun e w' => e = .returned (.bool (decide (l ≤ x) && decide (x ≤ h))) ∧ Below w.heap.size w w' := by
  by_cases c : l ≤ x
  · have cb : decide (l ≤ x) = true := decide_eq_true c
    rw [cb, Bool.true_and]
    clear c
    go_enter Try.func114, Try.ntmps114
    go_wp2
    repeat (go_quiet (fail); try go_wp2)
    go_ret
    exact ⟨rfl, by repeat (first | exact Below.refl _ _ | refine below_alloc ?_ _ | refine pw_below_drewN ?_ _)⟩
  · have cb : decide (l ≤ x) = false := decide_eq_false c
    rw [cb, Bool.false_and]
    clear c
    go_enter Try.func114, Try.ntmps114
    go_wp2
    repeat (go_quiet (fail); try go_wp2)
    go_ret
    exact ⟨rfl, by repeat (first | exact Below.refl _ _ | refine below_alloc ?_ _ | refine pw_below_drewN ?_ _)⟩
theorem next_at {α : Type} {l : List α} {f : α → Bool} {b : Bool} {i : Nat} (HA : ∀ j (h : j < l.length), j < i → f l[j] = b) (hi : i < l.length) (he : f l[i] = b) : ∀ j (h : j < l.length), j < i + 1 → f l[j] = b := fun j h hj => by
  by_cases hji : j = i
  · subst hji; exact he
  · exact HA j h (by omega)
theorem ruleOKr_len {r : S131} (h : ruleOKr r = true) : r.f0.length = 6 := by
  unfold ruleOKr at h
  rw [Bool.and_eq_true, decide_eq_true_eq] at h
  exact h.1
theorem ruleOKr_con {r : S131} (h : ruleOKr r = true) {c : S26} (hc : c ∈ r.f0) : (normRaw c.f0 c.f1 c.f2).2 = true := by
  unfold ruleOKr at h
  rw [Bool.and_eq_true, Bool.not_eq_true', List.any_eq_false] at h
  have := h.2 c hc
  unfold conOKr at this
  simpa using this
theorem normRaw_ne_nil {k a b : Int} (h : (normRaw k a b).2 = true) : (normRaw k a b).1 ≠ .nil := by
  intro e
  unfold normRaw nrRaw at h e
  split at h
  · rename_i c; rw [if_pos c] at e; exact absurd e (by simp)
  · rename_i c; rw [if_neg c] at e
    split at h
    · rename_i c; rw [if_pos c] at e
      split at e <;> exact absurd e (by simp)
    · rename_i c; rw [if_neg c] at e
      split at h
      · rename_i c; rw [if_pos c] at e
        split at h
        · exact absurd h (by simp)
        · rename_i c; rw [if_neg c] at e
          split at e
          · exact absurd e (by simp)
          · split at e <;> exact absurd e (by simp)
      · exact absurd h (by simp)
theorem ruleHB_true {r : S131} {args : List Int} (h : ∀ p, p < r.f0.length → holdsR (rd_T26 r.f0 (p : Int)) (rd args (p : Int)) = true) : ruleHB r args = true := by
  unfold ruleHB
  rw [List.all_eq_true]
  intro p hp
  exact h p (List.mem_range.1 hp)
theorem ruleHB_false {r : S131} {args : List Int} {p : Nat} (hp : p < r.f0.length) (h : holdsR (rd_T26 r.f0 (p : Int)) (rd args (p : Int)) = false) : ruleHB r args = false := by
  unfold ruleHB
  rw [List.all_eq_false]
  exact ⟨p, List.mem_range.2 hp, by rw [h]; decide⟩
theorem entB_none {a n : Int} {args : List Int} {e : S127} (h : ∀ q (hq : q < e.f2.length), ruleHB e.f2[q] args = false) : entB a n args e = false := by
  unfold entB
  have : (e.f2.any fun r => ruleHB r args) = false := by
    rw [List.any_eq_false]
    intro x hx
    obtain ⟨j, hj, rfl⟩ := List.mem_iff_getElem.1 hx
    rw [h j hj]
    decide
  rw [this, Bool.and_false]
theorem entB_yes {a n : Int} {args : List Int} {e : S127} (h0 : (e.f0 == a) = true) (h1 : (e.f1 == n) = true) {r : S131} (hr : r ∈ e.f2) (h : ruleHB r args = true) : entB a n args e = true := by
  unfold entB
  rw [h0, h1, Bool.true_and, Bool.true_and]
  exact List.any_eq_true.2 ⟨r, hr, h⟩
theorem entB_no0 {a n : Int} {args : List Int} {e : S127} (h : (e.f0 == a) = false) : entB a n args e = false := by unfold entB; rw [h]; rfl
theorem entB_no1 {a n : Int} {args : List Int} {e : S127} (h : (e.f1 == n) = false) : entB a n args e = false := by unfold entB; rw [h, Bool.and_false]; rfl
theorem nil_any (W : World) : Sem.run Try.prog (nilAhead 344 160 (.agg #[]) "loop.example/s0039/impl.holds") W = .ok (some false) W := by kernel_rfl
theorem nil_mask (x y : Value) (W : World) : Sem.run Try.prog (nilAhead 344 162 (.agg #[x, y]) "loop.example/s0039/impl.holds") W = .ok (some false) W := by kernel_rfl
theorem nil_rng (x y : Value) (W : World) : Sem.run Try.prog (nilAhead 344 167 (.agg #[x, y]) "loop.example/s0039/impl.holds") W = .ok (some false) W := by kernel_rfl
theorem next_all {P : Nat → Bool} {q : Nat} (HA : ∀ p, p < q → P p = true) (hq : P q = true) : ∀ p, p < q + 1 → P p = true := fun p hp => by
  by_cases hpq : p = q
  · subst hpq; exact hq
  · exact HA p (by omega)
set_option maxHeartbeats 8000000 in
set_option maxRecDepth 100000 in
theorem impl_Allows.calls (k : Nat) (A0_0 : Option Addr) (c0_0 : Nat) (l0_0 : List S127) (a1_0 : Int) (a1_1 : Int) (A1_2 : Option Addr) (c1_2 : Nat) (l1_2 : List Int) (r : Bool) (w : World) (hr0_0 : Kd.C k127 w A0_0 l0_0.length l0_0) (hc0_0 : l0_0.length ≤ c0_0) (hr1_2 : Kd.C (Kd.int .u64) w A1_2 l1_2.length l1_2) (hc1_2 : l1_2.length ≤ c1_2) (h : impl_Allows.f k l0_0 a1_0 a1_1 l1_2 = some r) :
    Calls Try.prog 55 #[.agg #[.slice A0_0 l0_0.length c0_0], .agg #[.int .u32 a1_0, .int .u32 a1_1, .slice A1_2 l1_2.length c1_2]] w fun e w' => e = .returned (.bool r) ∧ Below w.heap.size w w' := by
  unfold impl_Allows.f at h
  obtain ⟨v, hv, h2⟩ := Option.bind_eq_some_iff.1 h
  clear h
  have HV := Aside0.mk hv
  have HR0 := Aside0.mk hr0_0
  have HC0 := Aside0.mk hc0_0
  have HR1 := Aside0.mk hr1_2
  have HC1 := Aside0.mk hc1_2
  clear hv hr0_0 hc0_0 hr1_2 hc1_2
  by_cases cv : v = true
  case neg =>
    rw [if_neg cv] at h2
    obtain rfl := Option.some.inj h2
    obtain rfl : v = false := Bool.eq_false_iff.2 cv
    clear h2 cv
    go_enter Try.func55, Try.ntmps55
    go_wp2_with (go_at_call 41; refine (impl_ValidPolicy.calls k A0_0 c0_0 l0_0 false _ (Kd.C_below HR0.out (below_alloc (below_alloc (Below.refl _ _) _) _)) HC0.out HV.out).mono ?_; clear HV; rintro e w1 ⟨rfl, hb⟩; have HB := Aside0.mk hb; clear hb)
    go_ret
    exact ⟨rfl, below_call (below_alloc (below_alloc (Below.refl _ _) _) _) HB.out (by simp; omega)⟩
  subst cv
  rw [if_pos rfl] at h2
  by_cases c6 : l1_2.length = 6
  case neg =>
    rw [if_neg c6] at h2
    obtain rfl := Option.some.inj h2
    have hvc : impl_validCall.f a1_0 a1_1 l1_2 = some false := by
      unfold impl_validCall.f
      simp only [Option.some.injEq]
      rw [beq_eq_false_iff_ne]
      omega
    have HVC := Aside0.mk hvc
    clear h2 c6 hvc
    go_enter Try.func55, Try.ntmps55
    go_wp2_with (first | (go_at_call 41; refine (impl_ValidPolicy.calls k A0_0 c0_0 l0_0 true _ (Kd.C_below HR0.out (below_alloc (below_alloc (Below.refl _ _) _) _)) HC0.out HV.out).mono ?_; clear HV; rintro e w1 ⟨rfl, hb⟩; have HB := Aside0.mk (below_call (below_alloc (below_alloc (Below.refl _ _) _) _) hb (by simp; omega)); obtain ⟨hc1, hf1⟩ := bcell hb; clear hb) | (go_at_call 78; refine (impl_validCall.calls a1_0 a1_1 A1_2 c1_2 l1_2 false _ (Kd.C_below HR1.out HB.out) HC1.out HVC.out).mono ?_; clear HVC; rintro e w2 ⟨rfl, hb⟩; have HB2 := Aside0.mk hb; clear hb))
    go_ret
    exact ⟨rfl, below_call HB.out HB2.out HB.out.size⟩
  rw [if_pos c6] at h2
  by_cases cf : polFit l0_0 = true
  case neg => rw [if_neg cf] at h2; exact absurd h2 (by simp)
  rw [if_pos cf] at h2
  have HRES := Aside0.mk (Option.some.inj h2)
  have hvc : impl_validCall.f a1_0 a1_1 l1_2 = some true := by
    unfold impl_validCall.f
    simp only [Option.some.injEq]
    rw [beq_iff_eq]
    omega
  have HVC := Aside0.mk hvc
  have HFIT := Aside0.mk cf
  have H6 := Aside0.mk c6
  clear h2 cf c6 hvc
  go_enter Try.func55, Try.ntmps55
  go_wp2_with (first | (go_at_call 41; refine (impl_ValidPolicy.calls k A0_0 c0_0 l0_0 true _ (Kd.C_below HR0.out (below_alloc (below_alloc (Below.refl _ _) _) _)) HC0.out HV.out).mono ?_; clear HV; rintro e w1 ⟨rfl, hb⟩; have HB := Aside0.mk (below_call (below_alloc (below_alloc (Below.refl _ _) _) _) hb (by simp; omega)); have BP := Aside0.mk (blk_below (blk_below (blk_new w (.cells #[.slice A0_0 l0_0.length c0_0] 64)) (below_alloc (Below.refl _ _) (.cells #[.int .u32 a1_0, .int .u32 a1_1, .slice A1_2 l1_2.length c1_2] 85))) hb); have BC := Aside0.mk (blk_below (blk_new (w.alloc (.cells #[.slice A0_0 l0_0.length c0_0] 64)) (.cells #[.int .u32 a1_0, .int .u32 a1_1, .slice A1_2 l1_2.length c1_2] 85)) hb); obtain ⟨hc1, hf1⟩ := bcell hb; clear hb) | (go_at_call 78; refine (impl_validCall.calls a1_0 a1_1 A1_2 c1_2 l1_2 true _ (Kd.C_below HR1.out HB.out) HC1.out HVC.out).mono ?_; clear HVC; rintro e w2 ⟨rfl, hb⟩; have HB2 := Aside0.mk (below_call HB.out hb HB.out.size); have BP2 := Aside0.mk (blk_below BP.out hb); have BC2 := Aside0.mk (blk_below BC.out hb); have hp0 : w2.cell? ⟨w.heap.size, 0, none⟩ = some (.slice A0_0 l0_0.length c0_0) := (blk_cell BP2.out 0).trans rfl; clear hb HB BP BC))
  have BC3 := Aside0.mk (show w2.heap[w.heap.size + 1]? = some (.cells #[.int .u32 a1_0, .int .u32 a1_1, .slice A1_2 l1_2.length c1_2] 85 (0, 0)) from by rw [← alloc_size w (.cells #[.slice A0_0 l0_0.length c0_0] 64)]; exact BC2.out)
  have H0 := Aside0.mk (show ∀ j (h : j < l0_0.length), j < 0 → entB a1_0 a1_1 l1_2 l0_0[j] = false from fun j h h0 => absurd h0 (Nat.not_lt_zero _))
  clear BP2 BC2 hp0 HC1 HC0
  go_loopg [24] l0_0.length (fun kq v24 w' => ∃ i : Nat, v24 = .int .i64 (i : Int) ∧ Aside0 (kq + i = l0_0.length) ∧ Aside0 (∀ j (h : j < l0_0.length), j < i → entB a1_0 a1_1 l1_2 l0_0[j] = false) ∧ Aside0 (Below w2.heap.size w2 w'))
  case atStart => exact ⟨0, rfl, ⟨rfl⟩, H0, ⟨Below.refl _ _⟩⟩
  case round =>
    clear H0
    obtain ⟨i, rfl, HI, HA, HB⟩ := hrel
    by_cases hi : i < l0_0.length
    · obtain ⟨k1, rfl⟩ : ∃ m, gk = m + 1 := ⟨gk - 1, by have := HI.out; omega⟩
      have HBw := Aside0.mk (below_call HB2.out HB.out HB2.out.size)
      obtain ⟨ad, A2, c2, rfl, g0, g1, g2, g3, g4⟩ := at_T127 HR0.out (i : Int) (by omega) (by omega)
      simp only [Int.toNat_natCast] at g0 g1 g2
      replace g0 := (HBw.out.cell (World.block_lt_of_cell? w _ g0)).trans g0
      replace g1 := (HBw.out.cell (World.block_lt_of_cell? w _ g1)).trans g1
      replace g2 := (HBw.out.cell (World.block_lt_of_cell? w _ g2)).trans g2
      have G4 := Aside0.mk g4
      clear g3 g4
      have hfit := HFIT.out
      unfold polFit at hfit
      rw [Bool.and_eq_true, decide_eq_true_eq] at hfit
      have hlm : l0_0.length ≤ 1048576 := hfit.1
      have he : rd_T127 l0_0 (i : Int) = l0_0[i] := by simp [rd_T127, List.getD_eq_getElem?_getD, List.getElem?_eq_getElem hi]
      have hef := List.all_eq_true.1 hfit.2 _ (List.getElem_mem hi)
      rw [Bool.and_eq_true, decide_eq_true_eq] at hef
      rw [← he] at hef
      have HE := Aside0.mk he
      have HEF := Aside0.mk hef
      clear hfit he hef
      obtain ⟨ent, hent⟩ : ∃ ent, ent = rd_T127 l0_0 (i : Int) := ⟨_, rfl⟩
      rw [← hent] at g0 g1 g2 G4 HE HEF
      have hq0 : wr.cell? ⟨w.heap.size + 1, 0, none⟩ = some (.int .u32 a1_0) := (blk_cell (blk_below BC3.out HB.out) 0).trans rfl
      have hq1 : wr.cell? ⟨w.heap.size + 1, 1, none⟩ = some (.int .u32 a1_1) := (blk_cell (blk_below BC3.out HB.out) 1).trans rfl
      have hql : w.heap.size + 1 < wr.heap.size := blk_lt (blk_below BC3.out HB.out)
      have hib : decide ((i : Int) < (l0_0.length : Int)) = true := decide_eq_true (by omega)
      have hibn : decide (i < l0_0.length) = true := decide_eq_true hi
      have HII := Aside0.mk hi
      clear hent
      by_cases c0 : ent.f0 = a1_0
      · have c0b : (ent.f0 == a1_0) = true := beq_iff_eq.mpr c0
        have c0c : (ent.f0 != a1_0) = false := by rw [bne_eq_false_iff_eq]; exact c0
        clear c0
        by_cases c1 : ent.f1 = a1_1
        · have c1b : (ent.f1 == a1_1) = true := beq_iff_eq.mpr c1
          have c1c : (ent.f1 != a1_1) = false := by rw [bne_eq_false_iff_eq]; exact c1
          clear c1
          go_wp2
          go_step3
          go_wp2
          go_step3
          go_wp2
          have HBW0 := Aside0.mk (show Below w2.heap.size w2 (wr.alloc (.cells #[.int .u32 ent.f0, .int .u32 ent.f1, .slice A2 ent.f2.length c2] 127)) from below_alloc HB.out _)
          generalize wr.alloc (.cells #[.int .u32 ent.f0, .int .u32 ent.f1, .slice A2 ent.f2.length c2] 127) = W2 at HBW0 ⊢
          have HJ0 := Aside0.mk (show ∀ q (h : q < ent.f2.length), q < 0 → ruleHB ent.f2[q] l1_2 = false from fun q h h0 => absurd h0 (Nat.not_lt_zero _))
          have HC0b := Aside0.mk c0b
          have HC1b := Aside0.mk c1b
          clear g0 g1 g2 hq0 hq1 hql hib hibn c0b c0c c1b c1c
          go_loopg [43] ent.f2.length (fun kq v43 w' => ∃ j : Nat, v43 = .int .i64 (j : Int) ∧ Aside0 (kq + j = ent.f2.length) ∧ Aside0 (∀ q (h : q < ent.f2.length), q < j → ruleHB ent.f2[q] l1_2 = false) ∧ Aside0 (Below W2.heap.size W2 w'))
          case atStart => exact ⟨0, rfl, ⟨rfl⟩, HJ0, ⟨Below.refl _ _⟩⟩
          case round =>
            clear HJ0
            obtain ⟨j, rfl, HJ, HJA, HJB⟩ := hrel
            by_cases hj : j < ent.f2.length
            · obtain ⟨k2, rfl⟩ : ∃ m, gk = m + 1 := ⟨gk - 1, by have := HJ.out; omega⟩
              have HBWw := Aside0.mk (below_call HB2.out HBW0.out HB2.out.size)
              have HJBw := Aside0.mk (below_call HBWw.out HJB.out HBWw.out.size)
              have hml := HEF.out.1
              obtain ⟨ad2, A3, c3, rfl, g0, g1, g2⟩ := at_T131 G4.out (j : Int) (by omega) (by omega)
              simp only [Int.toNat_natCast] at g0
              replace g0 := (HJBw.out.cell (World.block_lt_of_cell? w _ g0)).trans g0
              have hru : rd_T131 ent.f2 (j : Int) = ent.f2[j] := by simp [rd_T131, List.getD_eq_getElem?_getD, List.getElem?_eq_getElem hj]
              have hrok := List.all_eq_true.1 HEF.out.2 _ (List.getElem_mem hj)
              rw [← hru] at hrok
              obtain ⟨rule, hrule⟩ : ∃ rule, rule = rd_T131 ent.f2 (j : Int) := ⟨_, rfl⟩
              rw [← hrule] at g0 g1 g2 hru hrok
              have HRU := Aside0.mk hru
              have HROK := Aside0.mk hrok
              have HR6 := Aside0.mk (ruleOKr_len hrok)
              have G2 := Aside0.mk g2
              have HJI := Aside0.mk hj
              have hib : decide ((j : Int) < (ent.f2.length : Int)) = true := decide_eq_true (by omega)
              have hibn : decide (j < ent.f2.length) = true := decide_eq_true hj
              clear hrule hru hrok g1 g2
              go_wp2
              have HBW3 := Aside0.mk (below_call HBW0.out (below_alloc HJB.out (.cells #[.slice A3 rule.f0.length c3] 131)) HBW0.out.size)
              have HJB3 := Aside0.mk (below_alloc HJB.out (.cells #[.slice A3 rule.f0.length c3] 131))
              generalize wr.alloc (.cells #[.slice A3 rule.f0.length c3] 131) = W3 at HBW3 HJB3 ⊢
              have HBW3w := Aside0.mk (below_call HB2.out HBW3.out HB2.out.size)
              have HQ0 := Aside0.mk (show ∀ p : Nat, p < 0 → holdsR (rd_T26 rule.f0 (p : Int)) (rd l1_2 (p : Int)) = true from fun p h0 => absurd h0 (Nat.not_lt_zero _))
              clear g0 hib hibn hml
              go_loopg [50] rule.f0.length (fun kq v50 w' => ∃ q : Nat, v50 = .int .i64 (q : Int) ∧ Aside0 (kq + q = rule.f0.length) ∧ Aside0 (∀ p, p < q → holdsR (rd_T26 rule.f0 (p : Int)) (rd l1_2 (p : Int)) = true) ∧ Aside0 (Below W3.heap.size W3 w'))
              case atStart => exact ⟨0, rfl, ⟨rfl⟩, HQ0, ⟨Below.refl _ _⟩⟩
              case round =>
                clear HQ0
                obtain ⟨q, rfl, HQ, HQA, HQB⟩ := hrel
                by_cases hq : q < rule.f0.length
                · obtain ⟨k3, rfl⟩ : ∃ m, gk = m + 1 := ⟨gk - 1, by have := HQ.out; omega⟩
                  have hr6 := HR6.out
                  have hl6 := H6.out
                  obtain ⟨ad3, rfl, g0, g1, g2⟩ := at_T26 G2.out (q : Int) (by omega) (by omega)
                  have HQw := Aside0.mk (below_call HBW3w.out HQB.out HBW3w.out.size)
                  simp only [Int.toNat_natCast] at g0 g1 g2
                  replace g0 := (HQw.out.cell (World.block_lt_of_cell? w _ g0)).trans g0
                  replace g1 := (HQw.out.cell (World.block_lt_of_cell? w _ g1)).trans g1
                  replace g2 := (HQw.out.cell (World.block_lt_of_cell? w _ g2)).trans g2
                  obtain ⟨aa, rfl, haa⟩ := Kd.at_int HR1.out (q : Int) (by omega) (by omega)
                  simp only [Int.toNat_natCast] at haa
                  have HAA := Aside0.mk haa
                  have hok := ruleOKr_con HROK.out (show rd_T26 rule.f0 (q : Int) ∈ rule.f0 by
                    have : rd_T26 rule.f0 (q : Int) = rule.f0[q] := by simp [rd_T26, List.getD_eq_getElem?_getD, List.getElem?_eq_getElem hq]
                    rw [this]; exact List.getElem_mem hq)
                  obtain ⟨con, hcon⟩ : ∃ con, con = rd_T26 rule.f0 (q : Int) := ⟨_, rfl⟩
                  rw [← hcon] at g0 g1 g2 hok
                  have hn := impl_normal.does con.f0 con.f1 con.f2
                  rw [hok] at hn
                  have hnn := normRaw_ne_nil hok
                  obtain ⟨cd, hcd⟩ : ∃ cd, (normRaw con.f0 con.f1 con.f2).1 = cd := ⟨_, rfl⟩
                  rw [hcd] at hn hnn
                  obtain ⟨p, hp⟩ : ∃ p, holdsR con (rd l1_2 (q : Int)) = p := ⟨_, rfl⟩
                  have HP := Aside0.mk hp
                  have HCD := Aside0.mk hcd
                  have HQI := Aside0.mk hq
                  have hib : decide ((q : Int) < (rule.f0.length : Int)) = true := decide_eq_true (by omega)
                  have hibn : decide (q < rule.f0.length) = true := decide_eq_true hq
                  have hia : decide ((q : Int) < (l1_2.length : Int)) = true := decide_eq_true (by omega)
                  have hian : decide (q < l1_2.length) = true := decide_eq_true (by omega)
                  have hia2 : q < l1_2.length := by omega
                  have hc1 := HR1.out.2.1
                  have HCON := Aside0.mk hcon
                  clear hcon haa hok hp hcd hr6 hl6
                  cases cd with
                  | nil => exact absurd rfl hnn
                  | any =>
                    have hh : ∀ W, Calls Try.prog 186 #[.agg #[], .int .u64 (rd l1_2 (q : Int))] W fun e w' => e = .returned (.bool p) ∧ Below W.heap.size W w' := by
                      rw [← HP.out]; unfold holdsR; rw [HCD.out]; exact fun W => holds_any_does (rd l1_2 (q : Int)) W
                    have HH := Aside0.mk hh
                    clear hh
                    simp only [Cd.v] at hn
                    have HN := Aside0.mk hn
                    clear hn HCD
                    cases p with
                    | false =>
                      go_wp2_with (go_at_call 62; refine (HN.out _).mono ?_; clear HN; rintro e w4 ⟨rfl, hb4⟩; have HB4 := Aside0.mk (below_call (below_alloc HQB.out (.cells #[.int .i64 con.f0, .int .u64 con.f1, .int .u64 con.f2] 26)) hb4 (below_alloc HQB.out _).size); clear hb4; have HWw := Aside0.mk (below_call HBW3w.out HB4.out HBW3w.out.size); have hz2 : w4.cell? ⟨w.heap.size + 1, 2, none⟩ = some (.slice (some aa) l1_2.length c1_2) := (blk_cell (blk_below BC3.out (below_call HBW3.out HB4.out HBW3.out.size)) 2).trans rfl; have hz3 := (HWw.out.cell (World.block_lt_of_cell? w _ HAA.out)).trans HAA.out)
                      refine wp_region_still_tail 9 (by kernel_rfl) (by kernel_rfl) ?_
                      simp only [List.take_succ_cons, List.take_zero, List.drop_succ_cons, List.drop_zero]
                      iterate 7 still_step
                      refine wpStill_step (fun K hK => ?_)
                      go_simp
                      rw [nil_any]
                      go_simp
                      refine hK _ ?_
                      clear hK K
                      still_step
                      refine wpStill_nil ?_
                      go_wp2_with (go_at_call 186; refine (HH.out _).mono ?_; clear HH; rintro e w5 ⟨rfl, hb5⟩; have HB5 := Aside0.mk (below_call (below_drew HB4.out) hb5 HB4.out.size); clear hb5)
                      have HJA2 := Aside0.mk (next_at (f := fun x => ruleHB x l1_2) HJA.out HJI.out (by rw [← HRU.out]; exact ruleHB_false HQI.out (by rw [← HCON.out]; exact HP.out)))
                      have HJ2 := Aside0.mk (show k2 + (j + 1) = ent.f2.length by have := HJ.out; omega)
                      have HJB2 := Aside0.mk (below_call HJB3.out HB5.out HJB3.out.size)
                      go_wp2
                      go_roundg k2
                      case measure => omega
                      case rel => exact ⟨j + 1, by (have := HEF.out.1; have := HJI.out; have hw : wrap64 ((j : Int) + 1) = (j : Int) + 1 := (by go_arith); (first | rfl | (simp [hw]; done) | (simp [*]; done))), HJ2, HJA2, HJB2⟩
                    | true =>
                      go_wp2_with (go_at_call 62; refine (HN.out _).mono ?_; clear HN; rintro e w4 ⟨rfl, hb4⟩; have HB4 := Aside0.mk (below_call (below_alloc HQB.out (.cells #[.int .i64 con.f0, .int .u64 con.f1, .int .u64 con.f2] 26)) hb4 (below_alloc HQB.out _).size); clear hb4; have HWw := Aside0.mk (below_call HBW3w.out HB4.out HBW3w.out.size); have hz2 : w4.cell? ⟨w.heap.size + 1, 2, none⟩ = some (.slice (some aa) l1_2.length c1_2) := (blk_cell (blk_below BC3.out (below_call HBW3.out HB4.out HBW3.out.size)) 2).trans rfl; have hz3 := (HWw.out.cell (World.block_lt_of_cell? w _ HAA.out)).trans HAA.out)
                      refine wp_region_still_tail 9 (by kernel_rfl) (by kernel_rfl) ?_
                      simp only [List.take_succ_cons, List.take_zero, List.drop_succ_cons, List.drop_zero]
                      iterate 7 still_step
                      refine wpStill_step (fun K hK => ?_)
                      go_simp
                      rw [nil_any]
                      go_simp
                      refine hK _ ?_
                      clear hK K
                      still_step
                      refine wpStill_nil ?_
                      go_wp2_with (go_at_call 186; refine (HH.out _).mono ?_; clear HH; rintro e w5 ⟨rfl, hb5⟩; have HB5 := Aside0.mk (below_call (below_drew HB4.out) hb5 HB4.out.size); clear hb5)
                      have HQA2 := Aside0.mk (next_all (P := fun p => holdsR (rd_T26 rule.f0 (p : Int)) (rd l1_2 (p : Int))) HQA.out (by show holdsR (rd_T26 rule.f0 (q : Int)) (rd l1_2 (q : Int)) = true; rw [← HCON.out]; exact HP.out))
                      have HQ2 := Aside0.mk (show k3 + (q + 1) = rule.f0.length by have := HQ.out; omega)
                      go_wp2
                      go_roundg k3
                      case measure => omega
                      case rel => exact ⟨q + 1, by first | rfl | (simp; done) | (simp [*]; done), HQ2, HQA2, HB5⟩
                  | mask m b =>
                    have hh : ∀ W, Calls Try.prog 116 #[.agg #[.int .u64 m, .int .u64 b], .int .u64 (rd l1_2 (q : Int))] W fun e w' => e = .returned (.bool p) ∧ Below W.heap.size W w' := by
                      rw [← HP.out]; unfold holdsR; rw [HCD.out]; exact fun W => holds_mask_does m b (rd l1_2 (q : Int)) W
                    have HH := Aside0.mk hh
                    clear hh
                    simp only [Cd.v] at hn
                    have HN := Aside0.mk hn
                    clear hn HCD
                    cases p with
                    | false =>
                      go_wp2_with (go_at_call 62; refine (HN.out _).mono ?_; clear HN; rintro e w4 ⟨rfl, hb4⟩; have HB4 := Aside0.mk (below_call (below_alloc HQB.out (.cells #[.int .i64 con.f0, .int .u64 con.f1, .int .u64 con.f2] 26)) hb4 (below_alloc HQB.out _).size); clear hb4; have HWw := Aside0.mk (below_call HBW3w.out HB4.out HBW3w.out.size); have hz2 : w4.cell? ⟨w.heap.size + 1, 2, none⟩ = some (.slice (some aa) l1_2.length c1_2) := (blk_cell (blk_below BC3.out (below_call HBW3.out HB4.out HBW3.out.size)) 2).trans rfl; have hz3 := (HWw.out.cell (World.block_lt_of_cell? w _ HAA.out)).trans HAA.out)
                      refine wp_region_still_tail 9 (by kernel_rfl) (by kernel_rfl) ?_
                      simp only [List.take_succ_cons, List.take_zero, List.drop_succ_cons, List.drop_zero]
                      iterate 7 still_step
                      refine wpStill_step (fun K hK => ?_)
                      go_simp
                      rw [nil_mask]
                      go_simp
                      refine hK _ ?_
                      clear hK K
                      still_step
                      refine wpStill_nil ?_
                      go_wp2_with (go_at_call 116; refine (HH.out _).mono ?_; clear HH; rintro e w5 ⟨rfl, hb5⟩; have HB5 := Aside0.mk (below_call (below_drew HB4.out) hb5 HB4.out.size); clear hb5)
                      have HJA2 := Aside0.mk (next_at (f := fun x => ruleHB x l1_2) HJA.out HJI.out (by rw [← HRU.out]; exact ruleHB_false HQI.out (by rw [← HCON.out]; exact HP.out)))
                      have HJ2 := Aside0.mk (show k2 + (j + 1) = ent.f2.length by have := HJ.out; omega)
                      have HJB2 := Aside0.mk (below_call HJB3.out HB5.out HJB3.out.size)
                      go_wp2
                      go_roundg k2
                      case measure => omega
                      case rel => exact ⟨j + 1, by (have := HEF.out.1; have := HJI.out; have hw : wrap64 ((j : Int) + 1) = (j : Int) + 1 := (by go_arith); (first | rfl | (simp [hw]; done) | (simp [*]; done))), HJ2, HJA2, HJB2⟩
                    | true =>
                      go_wp2_with (go_at_call 62; refine (HN.out _).mono ?_; clear HN; rintro e w4 ⟨rfl, hb4⟩; have HB4 := Aside0.mk (below_call (below_alloc HQB.out (.cells #[.int .i64 con.f0, .int .u64 con.f1, .int .u64 con.f2] 26)) hb4 (below_alloc HQB.out _).size); clear hb4; have HWw := Aside0.mk (below_call HBW3w.out HB4.out HBW3w.out.size); have hz2 : w4.cell? ⟨w.heap.size + 1, 2, none⟩ = some (.slice (some aa) l1_2.length c1_2) := (blk_cell (blk_below BC3.out (below_call HBW3.out HB4.out HBW3.out.size)) 2).trans rfl; have hz3 := (HWw.out.cell (World.block_lt_of_cell? w _ HAA.out)).trans HAA.out)
                      refine wp_region_still_tail 9 (by kernel_rfl) (by kernel_rfl) ?_
                      simp only [List.take_succ_cons, List.take_zero, List.drop_succ_cons, List.drop_zero]
                      iterate 7 still_step
                      refine wpStill_step (fun K hK => ?_)
                      go_simp
                      rw [nil_mask]
                      go_simp
                      refine hK _ ?_
                      clear hK K
                      still_step
                      refine wpStill_nil ?_
                      go_wp2_with (go_at_call 116; refine (HH.out _).mono ?_; clear HH; rintro e w5 ⟨rfl, hb5⟩; have HB5 := Aside0.mk (below_call (below_drew HB4.out) hb5 HB4.out.size); clear hb5)
                      have HQA2 := Aside0.mk (next_all (P := fun p => holdsR (rd_T26 rule.f0 (p : Int)) (rd l1_2 (p : Int))) HQA.out (by show holdsR (rd_T26 rule.f0 (q : Int)) (rd l1_2 (q : Int)) = true; rw [← HCON.out]; exact HP.out))
                      have HQ2 := Aside0.mk (show k3 + (q + 1) = rule.f0.length by have := HQ.out; omega)
                      go_wp2
                      go_roundg k3
                      case measure => omega
                      case rel => exact ⟨q + 1, by first | rfl | (simp; done) | (simp [*]; done), HQ2, HQA2, HB5⟩
                  | rng lo hi =>
                    have hh : ∀ W, Calls Try.prog 114 #[.agg #[.int .u64 lo, .int .u64 hi], .int .u64 (rd l1_2 (q : Int))] W fun e w' => e = .returned (.bool p) ∧ Below W.heap.size W w' := by
                      rw [← HP.out]; unfold holdsR; rw [HCD.out]; exact fun W => holds_rng_does lo hi (rd l1_2 (q : Int)) W
                    have HH := Aside0.mk hh
                    clear hh
                    simp only [Cd.v] at hn
                    have HN := Aside0.mk hn
                    clear hn HCD
                    cases p with
                    | false =>
                      go_wp2_with (go_at_call 62; refine (HN.out _).mono ?_; clear HN; rintro e w4 ⟨rfl, hb4⟩; have HB4 := Aside0.mk (below_call (below_alloc HQB.out (.cells #[.int .i64 con.f0, .int .u64 con.f1, .int .u64 con.f2] 26)) hb4 (below_alloc HQB.out _).size); clear hb4; have HWw := Aside0.mk (below_call HBW3w.out HB4.out HBW3w.out.size); have hz2 : w4.cell? ⟨w.heap.size + 1, 2, none⟩ = some (.slice (some aa) l1_2.length c1_2) := (blk_cell (blk_below BC3.out (below_call HBW3.out HB4.out HBW3.out.size)) 2).trans rfl; have hz3 := (HWw.out.cell (World.block_lt_of_cell? w _ HAA.out)).trans HAA.out)
                      refine wp_region_still_tail 9 (by kernel_rfl) (by kernel_rfl) ?_
                      simp only [List.take_succ_cons, List.take_zero, List.drop_succ_cons, List.drop_zero]
                      iterate 7 still_step
                      refine wpStill_step (fun K hK => ?_)
                      go_simp
                      rw [nil_rng]
                      go_simp
                      refine hK _ ?_
                      clear hK K
                      still_step
                      refine wpStill_nil ?_
                      go_wp2_with (go_at_call 114; refine (HH.out _).mono ?_; clear HH; rintro e w5 ⟨rfl, hb5⟩; have HB5 := Aside0.mk (below_call (below_drew HB4.out) hb5 HB4.out.size); clear hb5)
                      have HJA2 := Aside0.mk (next_at (f := fun x => ruleHB x l1_2) HJA.out HJI.out (by rw [← HRU.out]; exact ruleHB_false HQI.out (by rw [← HCON.out]; exact HP.out)))
                      have HJ2 := Aside0.mk (show k2 + (j + 1) = ent.f2.length by have := HJ.out; omega)
                      have HJB2 := Aside0.mk (below_call HJB3.out HB5.out HJB3.out.size)
                      go_wp2
                      go_roundg k2
                      case measure => omega
                      case rel => exact ⟨j + 1, by (have := HEF.out.1; have := HJI.out; have hw : wrap64 ((j : Int) + 1) = (j : Int) + 1 := (by go_arith); (first | rfl | (simp [hw]; done) | (simp [*]; done))), HJ2, HJA2, HJB2⟩
                    | true =>
                      go_wp2_with (go_at_call 62; refine (HN.out _).mono ?_; clear HN; rintro e w4 ⟨rfl, hb4⟩; have HB4 := Aside0.mk (below_call (below_alloc HQB.out (.cells #[.int .i64 con.f0, .int .u64 con.f1, .int .u64 con.f2] 26)) hb4 (below_alloc HQB.out _).size); clear hb4; have HWw := Aside0.mk (below_call HBW3w.out HB4.out HBW3w.out.size); have hz2 : w4.cell? ⟨w.heap.size + 1, 2, none⟩ = some (.slice (some aa) l1_2.length c1_2) := (blk_cell (blk_below BC3.out (below_call HBW3.out HB4.out HBW3.out.size)) 2).trans rfl; have hz3 := (HWw.out.cell (World.block_lt_of_cell? w _ HAA.out)).trans HAA.out)
                      refine wp_region_still_tail 9 (by kernel_rfl) (by kernel_rfl) ?_
                      simp only [List.take_succ_cons, List.take_zero, List.drop_succ_cons, List.drop_zero]
                      iterate 7 still_step
                      refine wpStill_step (fun K hK => ?_)
                      go_simp
                      rw [nil_rng]
                      go_simp
                      refine hK _ ?_
                      clear hK K
                      still_step
                      refine wpStill_nil ?_
                      go_wp2_with (go_at_call 114; refine (HH.out _).mono ?_; clear HH; rintro e w5 ⟨rfl, hb5⟩; have HB5 := Aside0.mk (below_call (below_drew HB4.out) hb5 HB4.out.size); clear hb5)
                      have HQA2 := Aside0.mk (next_all (P := fun p => holdsR (rd_T26 rule.f0 (p : Int)) (rd l1_2 (p : Int))) HQA.out (by show holdsR (rd_T26 rule.f0 (q : Int)) (rd l1_2 (q : Int)) = true; rw [← HCON.out]; exact HP.out))
                      have HQ2 := Aside0.mk (show k3 + (q + 1) = rule.f0.length by have := HQ.out; omega)
                      go_wp2
                      go_roundg k3
                      case measure => omega
                      case rel => exact ⟨q + 1, by first | rfl | (simp; done) | (simp [*]; done), HQ2, HQA2, HB5⟩
                · have hqe : q = rule.f0.length := by have := HQ.out; omega
                  have HYES := Aside0.mk (show r = true from by
                    rw [← HRES.out]
                    unfold allowsB
                    refine List.any_eq_true.2 ⟨l0_0[i]'HII.out, List.getElem_mem HII.out, ?_⟩
                    rw [← HE.out]
                    refine entB_yes HC0b.out HC1b.out (List.getElem_mem HJI.out) ?_
                    rw [← HRU.out]
                    exact ruleHB_true (fun p hp => HQA.out p (by omega)))
                  have hib : decide ((q : Int) < (rule.f0.length : Int)) = false := decide_eq_false (by omega)
                  have hibn : decide (q < rule.f0.length) = false := decide_eq_false (by omega)
                  have HQw := Aside0.mk (below_call HBW3w.out HQB.out HBW3w.out.size)
                  clear hqe hq HQ HQA
                  go_wp2
                  rw [Exit.noGoto_ret]
                  go_ret
                  exact ⟨by rw [HYES.out]; rfl, HQw.out⟩
            · have hje : j = ent.f2.length := by have := HJ.out; omega
              have HB3 := Aside0.mk (below_call HBW0.out HJB.out HBW0.out.size)
              have HA2 := Aside0.mk (next_at (f := entB a1_0 a1_1 l1_2) HA.out HII.out (by rw [← HE.out]; exact entB_none (fun q hq => HJA.out q hq (by omega))))
              have HI2 := Aside0.mk (show k1 + (i + 1) = l0_0.length by have := HI.out; omega)
              have hib : decide ((j : Int) < (ent.f2.length : Int)) = false := decide_eq_false (by omega)
              have hibn : decide (j < ent.f2.length) = false := decide_eq_false (by omega)
              clear hje hj HJ HJA HB HA HI HE HEF
              go_wp2
              rw [Exit.noGoto_normal]
              go_wp2
              go_roundg k1
              case measure => omega
              case rel => exact ⟨i + 1, by first | rfl | (simp; done) | (simp [*]; done), HI2, HA2, HB3⟩
        · have c1b : (ent.f1 == a1_1) = false := beq_eq_false_iff_ne.mpr c1
          have c1c : (ent.f1 != a1_1) = true := bne_iff_ne.mpr c1
          clear c1
          have HB3 := Aside0.mk (show Below w2.heap.size w2 (wr.alloc (.cells #[.int .u32 ent.f0, .int .u32 ent.f1, .slice A2 ent.f2.length c2] 127)) from below_alloc HB.out _)
          have HA2 := Aside0.mk (next_at (f := entB a1_0 a1_1 l1_2) HA.out HII.out (by rw [← HE.out]; exact entB_no1 c1b))
          have HI2 := Aside0.mk (show k1 + (i + 1) = l0_0.length by have := HI.out; omega)
          clear HB HA HI HE HEF
          go_wp2
          go_step3
          go_wp2
          rw [Exit.noGoto_exit]
          go_wp2
          go_roundg k1
          case measure => omega
          case rel => exact ⟨i + 1, by first | rfl | (simp; done) | (simp [*]; done), HI2, HA2, HB3⟩
      · have c0b : (ent.f0 == a1_0) = false := beq_eq_false_iff_ne.mpr c0
        have c0c : (ent.f0 != a1_0) = true := bne_iff_ne.mpr c0
        clear c0
        have HB3 := Aside0.mk (show Below w2.heap.size w2 (wr.alloc (.cells #[.int .u32 ent.f0, .int .u32 ent.f1, .slice A2 ent.f2.length c2] 127)) from below_alloc HB.out _)
        have HA2 := Aside0.mk (next_at (f := entB a1_0 a1_1 l1_2) HA.out HII.out (by rw [← HE.out]; exact entB_no0 c0b))
        have HI2 := Aside0.mk (show k1 + (i + 1) = l0_0.length by have := HI.out; omega)
        clear HB HA HI HE HEF
        go_wp2
        go_step3
        go_wp2
        rw [Exit.noGoto_exit]
        go_wp2
        go_roundg k1
        case measure => omega
        case rel => exact ⟨i + 1, by first | rfl | (simp; done) | (simp [*]; done), HI2, HA2, HB3⟩
    · have hie : i = l0_0.length := by have := HI.out; omega
      have HA3 := Aside0.mk (show r = false from by
        rw [← HRES.out]
        unfold allowsB
        rw [List.any_eq_false]
        intro x hx
        obtain ⟨j, hj, rfl⟩ := List.mem_iff_getElem.1 hx
        rw [HA.out j hj (by omega)]
        decide)
      have hib : decide ((i : Int) < (l0_0.length : Int)) = false := decide_eq_false (by omega)
      have hibn : decide (i < l0_0.length) = false := decide_eq_false (by omega)
      have HBw := Aside0.mk (below_call HB2.out HB.out HB2.out.size)
      clear hie hi HA HI
      go_wp2
      go_ret
      exact ⟨by rw [HA3.out]; rfl, HBw.out⟩

end Go.Proofs.Ytdipinclchkhjaa.P
