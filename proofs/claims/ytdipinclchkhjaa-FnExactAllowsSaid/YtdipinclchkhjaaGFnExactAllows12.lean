import Derived.Test.YtdipinclchkhjaaGFnExactAllows4
import Derived.Test.YtdipinclchkhjaaGFnExactAllows11
namespace Go.Proofs.Ytdipinclchkhjaa.P
open Go.RowKit Go.Proofs.YtdipinclchkhjaaW.PrintWords Go.Proofs.YtdipinclchkhjaaW.PrintLast Go.Proofs.YtdipinclchkhjaaW.PrintMore
attribute [local go_sem] max2_int min2_int max_two min_two max_three min_three max_four min_four   -- for this text's walks alone
set_option linter.unusedVariables false
set_option linter.unusedSimpArgs false

/-! ### spec_l3ruleOK: function 89 -/
def spec_l3ruleOK.l0 : Nat → Int → List (S26) → Option (Bool)
  | 0, _, _ => none
  | k + 1, x3, x539000 => if x3 < 6 then (if 0 ≤ x3 then (if x3 < (x539000.length : Int) then ((spec_l3conOK.f ((rd_T26 x539000 x3).f0) ((rd_T26 x539000 x3).f1) ((rd_T26 x539000 x3).f2)).bind fun t540 => (if t540 = true then (spec_l3ruleOK.l0 k (wrap64 (x3 + 1)) x539000) else (some false))) else (none)) else (none)) else (some true)
def spec_l3ruleOK.f (k : Nat) (l0_0 : List (S26)) : Option (Bool) := if (l0_0.length : Int) = 6 then (spec_l3ruleOK.l0 k 0 l0_0) else (some false)
set_option maxHeartbeats 8000000 in
set_option maxRecDepth 100000 in
theorem spec_l3ruleOK.calls (k : Nat) (A0_0 : Option Addr) (c0_0 : Nat) (l0_0 : List (S26)) (r : Bool) (w : World) (hr0_0 : Kd.C k26 w A0_0 l0_0.length l0_0) (hc0_0 : l0_0.length ≤ c0_0) (h : spec_l3ruleOK.f k l0_0 = some r) :
    Calls Try.prog 89 #[.agg #[.slice A0_0 l0_0.length c0_0]] w fun e w' => e = .returned (.bool r) ∧ Below w.heap.size w w' := by
  have hu131 := Try.underlying131
  have hu26 := Try.underlying26
  have HR0_0 := Aside0.mk hr0_0
  have HC0_0 := Aside0.mk hc0_0
  clear hr0_0 hc0_0
  have HB := Aside0.mk (Below.refl w.heap.size w)
  have H : (if (l0_0.length : Int) = 6 then (spec_l3ruleOK.l0 k 0 l0_0) else (some false)) = some r := h
  clear h
  by_cases c2 : (l0_0.length : Int) = 6
  · rw [if_pos c2] at H
    have c2b0 : ((l0_0.length : Int) == 6) = true := beq_iff_eq.mpr c2
    have c2b1 : ((l0_0.length : Int) != 6) = false := bne_eq_false_iff_eq.mpr c2
    clear c2
    have H' := Aside0.mk H
    clear H
    go_enter Try.func89, Try.ntmps89
    go_wp2_with (first | ((with_reducible refine gate_dst (N := 1) rfl ?_); refine box_event ?hg (N := 1) ?hd (cs := #[.slice A0_0 l0_0.length c0_0]) (t := 131) ?hr ?_; (case hd => rfl); (case hg => rfl); (case hr => first | (go_simp; done) | (go_simp; rfl)); intro gb538 hg w3 hbox hb; have n0_ := Aside0.mk (below_step (by repeat (first | (with_reducible first | exact HB.out | apply below_alloc | apply pw_below_drewN | apply below_drew1) | exact HB.out)) hb); have n1_ := Aside0.mk (hbox); have n2_ := Aside0.mk ((by rw [hg]; exact (below_size (by repeat (first | (with_reducible first | exact HB.out | apply below_alloc | apply pw_below_drewN | apply below_drew1) | exact HB.out))) : w.heap.size ≤ gb538)); have n3_ := Aside0.mk ((by rw [hg]; exact (below_size (by repeat (first | (with_reducible first | exact HB.out | apply below_alloc | apply pw_below_drewN | apply below_drew1) | exact HB.out))) : w.heap.size ≤ gb538)); clear HB; have HB := n0_; have BK538 := n1_; have GW538 := n2_; have GE538 := n3_; clear n0_ n1_ n2_ n3_; clear hb hbox hg; have hcz4_0 : w3.cell? ⟨gb538, 0, none⟩ = some (.slice A0_0 l0_0.length c0_0) := (blk_cell BK538.out 0).trans rfl; have hfz4_0 := blk_frozen BK538.out 0))
    go_loopg [3] k (fun kq v3 w' => ∃ (x3_1 : Int), v3 = .int .i64 x3_1 ∧ Aside0 (spec_l3ruleOK.l0 kq x3_1 l0_0 = some r) ∧ Aside0 (kq ≤ k) ∧ Aside0 (w'.heap[gb538]? = some (.cells #[(.slice A0_0 l0_0.length c0_0)] 131 (0, 0))) ∧ Aside0 (Below w.heap.size w w'))
    case atStart => exact ⟨(0), (by first | rfl | (simp; done) | (simp [*]; done)), H', ⟨Nat.le_refl _⟩, ⟨by (with_reducible repeat (first | refine blk_drewN ?_ _ | refine blk_drew ?_ | refine blk_alloc ?_ _)); exact BK538.out⟩, ⟨by repeat (first | (with_reducible first | exact HB.out | apply below_alloc | apply pw_below_drewN | apply below_drew1 | refine below_set ?_ GE538.out) | exact HB.out)⟩⟩
    case round =>
      clear H'
      try clear c2
      try clear c2b0
      try clear c2b1
      try clear p2
      try clear hcz4_0
      try clear hfz4_0
      obtain ⟨x3_1, rfl, HA, HK1, BK538, HB⟩ := hrel
      cases gk with
      | zero => exact absurd HA.out (by simp [spec_l3ruleOK.l0])
      | succ k1 =>
        have H := HA.out
        clear HA
        simp only [spec_l3ruleOK.l0] at H
        by_cases c5 : x3_1 < 6
        · rw [if_pos c5] at H
          have c5b0 : decide (x3_1 < 6) = true := decide_eq_true c5
          clear c5
          by_cases c6 : 0 ≤ x3_1
          · rw [if_pos c6] at H
            have c6b0 : decide (0 ≤ x3_1) = true := decide_eq_true c6
            clear c6
            by_cases c7 : x3_1 < (l0_0.length : Int)
            · rw [if_pos c7] at H
              have c7b0 : decide (x3_1 < (l0_0.length : Int)) = true := decide_eq_true c7
              clear c7
              replace H := Option.bind_eq_some_iff.mp H
              obtain ⟨t540, A80, H⟩ := H
              replace H : (if t540 = true then (spec_l3ruleOK.l0 k1 (wrap64 (x3_1 + 1)) l0_0) else (some false)) = some r := H
              have A8 := Aside0.mk A80
              clear A80
              by_cases c9 : t540 = true
              · subst c9
                have H1 : (spec_l3ruleOK.l0 k1 (wrap64 (x3_1 + 1)) l0_0) = some r := by rw [if_pos rfl] at H; exact H
                clear H
                have H := H1
                clear H1
                have H' := Aside0.mk H
                clear H
                have hcz10_0 : wr.cell? ⟨gb538, 0, none⟩ = some (.slice A0_0 l0_0.length c0_0) := (blk_cell BK538.out 0).trans rfl
                have hfz10_0 := blk_frozen BK538.out 0
                have p539 : 0 ≤ (x3_1 : Int) := of_decide_eq_true (by first | (with_reducible assumption) | assumption)
                have q539 : x3_1 < (l0_0.length : Int) := of_decide_eq_true (by first | (with_reducible assumption) | assumption)
                obtain ⟨ad539, e539, hx539_0, hx539_1, hx539_2⟩ := at_T26 HR0_0.out x3_1 p539 q539
                cases e539
                replace hx539_0 := (HB.out.cell (World.block_lt_of_cell? w _ hx539_0)).trans hx539_0
                replace hx539_1 := (HB.out.cell (World.block_lt_of_cell? w _ hx539_1)).trans hx539_1
                replace hx539_2 := (HB.out.cell (World.block_lt_of_cell? w _ hx539_2)).trans hx539_2
                replace p539 := eq_true p539
                replace q539 := eq_true q539
                go_wp2_with (first | ((with_reducible refine gate_callee (f := 60) rfl ?_); refine goesL_ (some 17) rfl rfl Try.func60 (by kernel_rfl) rfl #[.agg #[.int .i64 ((rd_T26 l0_0 x3_1).f0), .int .u64 ((rd_T26 l0_0 x3_1).f1), .int .u64 ((rd_T26 l0_0 x3_1).f2)]] rfl (by (try simp only [List.map_toArray, List.map_cons, List.map_nil]); first | done | rfl | (simp only [List.length_drop, List.length_take]; rfl)) ?_; (with_reducible refine (spec_l3conOK.calls ((rd_T26 l0_0 x3_1).f0) ((rd_T26 l0_0 x3_1).f1) ((rd_T26 l0_0 x3_1).f2) true _ A8.out).mono ?_); rintro e w11 ⟨rfl, hb⟩; refine ⟨_, rfl, ?_⟩; have n0_ := Aside0.mk (blk_below (g := gb538) (o := .cells #[.slice (some ad539) l0_0.length c0_0] 131 (0, 0)) (by (with_reducible repeat (first | refine blk_drewN ?_ _ | refine blk_drew ?_ | refine blk_alloc ?_ _)); exact BK538.out) hb); have n1_ := Aside0.mk (below_step (by repeat (first | (with_reducible first | exact HB.out | apply below_alloc | apply pw_below_drewN | apply below_drew1 | refine below_set ?_ GE538.out) | exact HB.out)) hb); clear BK538; clear HB; have BK538 := n0_; have HB := n1_; clear n0_ n1_; (try clear hb); (try clear hb2); (try clear hk); (try clear hi)))
                go_roundg k1
                case measure => have := HK1.out; omega
                case rel => exact ⟨(wrap64 (x3_1 + 1)), (by first | rfl | (simp; done) | (simp [*]; done)), H', ⟨by have := HK1.out; omega⟩, ⟨by (with_reducible repeat (first | refine blk_drewN ?_ _ | refine blk_drew ?_ | refine blk_alloc ?_ _)); exact BK538.out⟩, ⟨by repeat (first | (with_reducible first | exact HB.out | apply below_alloc | apply pw_below_drewN | apply below_drew1 | refine below_set ?_ GE538.out) | exact HB.out)⟩⟩
              · replace c9 := Bool.eq_false_iff.mpr c9
                subst c9
                have H1 : (some false) = some r := by rw [if_neg (show ¬ (false = true) by decide)] at H; exact H
                clear H
                have H := H1
                clear H1
                obtain rfl := Option.some.inj H
                have hcz12_0 : wr.cell? ⟨gb538, 0, none⟩ = some (.slice A0_0 l0_0.length c0_0) := (blk_cell BK538.out 0).trans rfl
                have hfz12_0 := blk_frozen BK538.out 0
                have p539 : 0 ≤ (x3_1 : Int) := of_decide_eq_true (by first | (with_reducible assumption) | assumption)
                have q539 : x3_1 < (l0_0.length : Int) := of_decide_eq_true (by first | (with_reducible assumption) | assumption)
                obtain ⟨ad539, e539, hx539_0, hx539_1, hx539_2⟩ := at_T26 HR0_0.out x3_1 p539 q539
                cases e539
                replace hx539_0 := (HB.out.cell (World.block_lt_of_cell? w _ hx539_0)).trans hx539_0
                replace hx539_1 := (HB.out.cell (World.block_lt_of_cell? w _ hx539_1)).trans hx539_1
                replace hx539_2 := (HB.out.cell (World.block_lt_of_cell? w _ hx539_2)).trans hx539_2
                replace p539 := eq_true p539
                replace q539 := eq_true q539
                go_wp2_with (first | ((with_reducible refine gate_callee (f := 60) rfl ?_); refine goesL_ (some 17) rfl rfl Try.func60 (by kernel_rfl) rfl #[.agg #[.int .i64 ((rd_T26 l0_0 x3_1).f0), .int .u64 ((rd_T26 l0_0 x3_1).f1), .int .u64 ((rd_T26 l0_0 x3_1).f2)]] rfl (by (try simp only [List.map_toArray, List.map_cons, List.map_nil]); first | done | rfl | (simp only [List.length_drop, List.length_take]; rfl)) ?_; (with_reducible refine (spec_l3conOK.calls ((rd_T26 l0_0 x3_1).f0) ((rd_T26 l0_0 x3_1).f1) ((rd_T26 l0_0 x3_1).f2) false _ A8.out).mono ?_); rintro e w13 ⟨rfl, hb⟩; refine ⟨_, rfl, ?_⟩; have n0_ := Aside0.mk (blk_below (g := gb538) (o := .cells #[.slice (some ad539) l0_0.length c0_0] 131 (0, 0)) (by (with_reducible repeat (first | refine blk_drewN ?_ _ | refine blk_drew ?_ | refine blk_alloc ?_ _)); exact BK538.out) hb); have n1_ := Aside0.mk (below_step (by repeat (first | (with_reducible first | exact HB.out | apply below_alloc | apply pw_below_drewN | apply below_drew1 | refine below_set ?_ GE538.out) | exact HB.out)) hb); clear BK538; clear HB; have BK538 := n0_; have HB := n1_; clear n0_ n1_; (try clear hb); (try clear hb2); (try clear hk); (try clear hi)))
                go_ret
                exact ⟨by first | rfl | (simp [errW_none, errW_some] <;> rfl) | (simp [*, errW_none, errW_some] <;> rfl), by repeat (first | (with_reducible first | exact HB.out | apply below_alloc | apply pw_below_drewN | apply below_drew1 | refine below_set ?_ GE538.out) | exact HB.out)⟩
            · rw [if_neg c7] at H
              exact absurd H (by simp)
          · rw [if_neg c6] at H
            exact absurd H (by simp)
        · rw [if_neg c5] at H
          have c5b0 : decide (x3_1 < 6) = false := decide_eq_false c5
          clear c5
          obtain rfl := Option.some.inj H
          go_wp2
          go_ret
          exact ⟨by first | rfl | (simp [errW_none, errW_some] <;> rfl) | (simp [*, errW_none, errW_some] <;> rfl), by repeat (first | (with_reducible first | exact HB.out | apply below_alloc | apply pw_below_drewN | apply below_drew1 | refine below_set ?_ GE538.out) | exact HB.out)⟩
  · rw [if_neg c2] at H
    have c2b0 : ((l0_0.length : Int) == 6) = false := beq_eq_false_iff_ne.mpr c2
    have c2b1 : ((l0_0.length : Int) != 6) = true := bne_iff_ne.mpr c2
    obtain rfl := Option.some.inj H
    go_enter Try.func89, Try.ntmps89
    go_wp2_with (first | ((with_reducible refine gate_dst (N := 1) rfl ?_); refine box_event ?hg (N := 1) ?hd (cs := #[.slice A0_0 l0_0.length c0_0]) (t := 131) ?hr ?_; (case hd => rfl); (case hg => rfl); (case hr => first | (go_simp; done) | (go_simp; rfl)); intro gb538 hg w14 hbox hb; have n0_ := Aside0.mk (below_step (by repeat (first | (with_reducible first | exact HB.out | apply below_alloc | apply pw_below_drewN | apply below_drew1) | exact HB.out)) hb); have n1_ := Aside0.mk (hbox); have n2_ := Aside0.mk ((by rw [hg]; exact (below_size (by repeat (first | (with_reducible first | exact HB.out | apply below_alloc | apply pw_below_drewN | apply below_drew1) | exact HB.out))) : w.heap.size ≤ gb538)); have n3_ := Aside0.mk ((by rw [hg]; exact (below_size (by repeat (first | (with_reducible first | exact HB.out | apply below_alloc | apply pw_below_drewN | apply below_drew1) | exact HB.out))) : w.heap.size ≤ gb538)); clear HB; have HB := n0_; have BK538 := n1_; have GW538 := n2_; have GE538 := n3_; clear n0_ n1_ n2_ n3_; clear hb hbox hg; have hcz15_0 : w14.cell? ⟨gb538, 0, none⟩ = some (.slice A0_0 l0_0.length c0_0) := (blk_cell BK538.out 0).trans rfl; have hfz15_0 := blk_frozen BK538.out 0))
    go_ret
    exact ⟨by first | rfl | (simp [errW_none, errW_some] <;> rfl) | (simp [*, errW_none, errW_some] <;> rfl), by repeat (first | (with_reducible first | exact HB.out | apply below_alloc | apply pw_below_drewN | apply below_drew1 | refine below_set ?_ GE538.out) | exact HB.out)⟩

end Go.Proofs.Ytdipinclchkhjaa.P

namespace Go.Proofs.Ytdipinclchkhjaa.P
open Go.RowKit Go.Proofs.YtdipinclchkhjaaW.PrintWords Go.Proofs.YtdipinclchkhjaaW.PrintLast Go.Proofs.YtdipinclchkhjaaW.PrintMore
attribute [local go_sem] max2_int min2_int max_two min_two max_three min_three max_four min_four   -- for this text's walks alone
set_option linter.unusedVariables false
set_option linter.unusedSimpArgs false

/-! ### spec_l3rules: function 90 -/
def spec_l3rules.l0 : Nat → Int → Int → List (S127) → Option (Int)
  | 0, _, _, _ => none
  | k + 1, x3, x4, x542000 => if x4 < (x542000.length : Int) then (if 0 ≤ x4 then (spec_l3rules.l0 k (wrap64 (x3 + (((rd_T127 x542000 x4).f2).length : Int))) (wrap64 (x4 + 1)) x542000) else (none)) else (some x3)
def spec_l3rules.f (k : Nat) (l0_0 : List (S127)) : Option (Int) := spec_l3rules.l0 k 0 0 l0_0
set_option maxHeartbeats 8000000 in
set_option maxRecDepth 100000 in
theorem spec_l3rules.calls (k : Nat) (A0_0 : Option Addr) (c0_0 : Nat) (l0_0 : List (S127)) (r : Int) (w : World) (hr0_0 : Kd.C k127 w A0_0 l0_0.length l0_0) (hc0_0 : l0_0.length ≤ c0_0) (h : spec_l3rules.f k l0_0 = some r) :
    Calls Try.prog 90 #[.agg #[.slice A0_0 l0_0.length c0_0]] w fun e w' => e = .returned (.int .i64 r) ∧ Below w.heap.size w w' := by
  have hu64 := Try.underlying64
  have HR0_0 := Aside0.mk hr0_0
  have HC0_0 := Aside0.mk hc0_0
  clear hr0_0 hc0_0
  have HB := Aside0.mk (Below.refl w.heap.size w)
  have H : (spec_l3rules.l0 k 0 0 l0_0) = some r := h
  clear h
  have H' := Aside0.mk H
  clear H
  go_enter Try.func90, Try.ntmps90
  go_wp2_with (first | ((with_reducible refine gate_dst (N := 1) rfl ?_); refine box_event ?hg (N := 1) ?hd (cs := #[.slice A0_0 l0_0.length c0_0]) (t := 64) ?hr ?_; (case hd => rfl); (case hg => rfl); (case hr => first | (go_simp; done) | (go_simp; rfl)); intro gb541 hg w2 hbox hb; have n0_ := Aside0.mk (below_step (by repeat (first | (with_reducible first | exact HB.out | apply below_alloc | apply pw_below_drewN | apply below_drew1) | exact HB.out)) hb); have n1_ := Aside0.mk (hbox); have n2_ := Aside0.mk ((by rw [hg]; exact (below_size (by repeat (first | (with_reducible first | exact HB.out | apply below_alloc | apply pw_below_drewN | apply below_drew1) | exact HB.out))) : w.heap.size ≤ gb541)); have n3_ := Aside0.mk ((by rw [hg]; exact (below_size (by repeat (first | (with_reducible first | exact HB.out | apply below_alloc | apply pw_below_drewN | apply below_drew1) | exact HB.out))) : w.heap.size ≤ gb541)); clear HB; have HB := n0_; have BK541 := n1_; have GW541 := n2_; have GE541 := n3_; clear n0_ n1_ n2_ n3_; clear hb hbox hg))
  go_loopg [3, 4] k (fun kq v3 v4 w' => ∃ (x3_1 : Int) (x4_1 : Int), v3 = .int .i64 x3_1 ∧ v4 = .int .i64 x4_1 ∧ Aside0 (spec_l3rules.l0 kq x3_1 x4_1 l0_0 = some r) ∧ Aside0 (kq ≤ k) ∧ Aside0 (w'.heap[gb541]? = some (.cells #[(.slice A0_0 l0_0.length c0_0)] 64 (0, 0))) ∧ Aside0 (Below w.heap.size w w'))
  case atStart => exact ⟨(0), (0), (by first | rfl | (simp; done) | (simp [*]; done)), (by first | rfl | (simp; done) | (simp [*]; done)), H', ⟨Nat.le_refl _⟩, ⟨by (with_reducible repeat (first | refine blk_drewN ?_ _ | refine blk_drew ?_ | refine blk_alloc ?_ _)); exact BK541.out⟩, ⟨by repeat (first | (with_reducible first | exact HB.out | apply below_alloc | apply pw_below_drewN | apply below_drew1 | refine below_set ?_ GE541.out) | exact HB.out)⟩⟩
  case round =>
    clear H'
    try clear p2
    obtain ⟨x3_1, x4_1, rfl, rfl, HA, HK1, BK541, HB⟩ := hrel
    cases gk with
    | zero => exact absurd HA.out (by simp [spec_l3rules.l0])
    | succ k1 =>
      have H := HA.out
      clear HA
      simp only [spec_l3rules.l0] at H
      by_cases c3 : x4_1 < (l0_0.length : Int)
      · rw [if_pos c3] at H
        have c3b0 : decide (x4_1 < (l0_0.length : Int)) = true := decide_eq_true c3
        clear c3
        by_cases c4 : 0 ≤ x4_1
        · rw [if_pos c4] at H
          have c4b0 : decide (0 ≤ x4_1) = true := decide_eq_true c4
          clear c4
          have H' := Aside0.mk H
          clear H
          have hcz5_0 : wr.cell? ⟨gb541, 0, none⟩ = some (.slice A0_0 l0_0.length c0_0) := (blk_cell BK541.out 0).trans rfl
          have hfz5_0 := blk_frozen BK541.out 0
          have p542 : 0 ≤ (x4_1 : Int) := of_decide_eq_true (by first | (with_reducible assumption) | assumption)
          have q542 : x4_1 < (l0_0.length : Int) := of_decide_eq_true (by first | (with_reducible assumption) | assumption)
          obtain ⟨ad542, A542_2, c542_2, e542, hx542_0, hx542_1, hx542_2, hl542_2, hi542_2⟩ := at_T127 HR0_0.out x4_1 p542 q542
          cases e542
          replace hx542_0 := (HB.out.cell (World.block_lt_of_cell? w _ hx542_0)).trans hx542_0
          replace hx542_1 := (HB.out.cell (World.block_lt_of_cell? w _ hx542_1)).trans hx542_1
          replace hx542_2 := (HB.out.cell (World.block_lt_of_cell? w _ hx542_2)).trans hx542_2
          have HR542_2 := Aside0.mk hi542_2
          have HC542_2 := Aside0.mk hl542_2
          clear hi542_2 hl542_2
          replace p542 := eq_true p542
          replace q542 := eq_true q542
          go_wp2
          go_roundg k1
          case measure => have := HK1.out; omega
          case rel => exact ⟨(wrap64 (x3_1 + (((rd_T127 l0_0 x4_1).f2).length : Int))), (wrap64 (x4_1 + 1)), (by first | rfl | (simp; done) | (simp [*]; done)), (by first | rfl | (simp; done) | (simp [*]; done)), H', ⟨by have := HK1.out; omega⟩, ⟨by (with_reducible repeat (first | refine blk_drewN ?_ _ | refine blk_drew ?_ | refine blk_alloc ?_ _)); exact BK541.out⟩, ⟨by repeat (first | (with_reducible first | exact HB.out | apply below_alloc | apply pw_below_drewN | apply below_drew1 | refine below_set ?_ GE541.out) | exact HB.out)⟩⟩
        · rw [if_neg c4] at H
          exact absurd H (by simp)
      · rw [if_neg c3] at H
        have c3b0 : decide (x4_1 < (l0_0.length : Int)) = false := decide_eq_false c3
        clear c3
        obtain rfl := Option.some.inj H
        have hcz6_0 : wr.cell? ⟨gb541, 0, none⟩ = some (.slice A0_0 l0_0.length c0_0) := (blk_cell BK541.out 0).trans rfl
        have hfz6_0 := blk_frozen BK541.out 0
        go_wp2
        go_ret
        exact ⟨by first | rfl | (simp [errW_none, errW_some] <;> rfl) | (simp [*, errW_none, errW_some] <;> rfl), by repeat (first | (with_reducible first | exact HB.out | apply below_alloc | apply pw_below_drewN | apply below_drew1 | refine below_set ?_ GE541.out) | exact HB.out)⟩

end Go.Proofs.Ytdipinclchkhjaa.P

namespace Go.Proofs.Ytdipinclchkhjaa.P
open Go.RowKit Go.Proofs.YtdipinclchkhjaaW.PrintWords Go.Proofs.YtdipinclchkhjaaW.PrintLast Go.Proofs.YtdipinclchkhjaaW.PrintMore
attribute [local go_sem] max2_int min2_int max_two min_two max_three min_three max_four min_four   -- for this text's walks alone
set_option linter.unusedVariables false
set_option linter.unusedSimpArgs false

/-! ### spec_ValidPolicy: function 39 -/
mutual
def spec_ValidPolicy.l0 : Nat → Int → List (S127) → Option (Bool)
  | 0, _, _ => none
  | k + 1, x3, x544000 => if x3 < (x544000.length : Int) then (if 0 ≤ x3 then (if (((rd_T127 x544000 x3).f2).length : Int) < 1 then (spec_ValidPolicy.j1 k x3 true x544000 ((rd_T127 x544000 x3).f0) ((rd_T127 x544000 x3).f1) ((rd_T127 x544000 x3).f2)) else (spec_ValidPolicy.j1 k x3 (decide ((((rd_T127 x544000 x3).f2).length : Int) > 200)) x544000 ((rd_T127 x544000 x3).f0) ((rd_T127 x544000 x3).f1) ((rd_T127 x544000 x3).f2))) else (none)) else ((spec_l3rules.f k x544000).bind fun t544 => (some (decide (t544 ≤ 1000))))
def spec_ValidPolicy.j1 : Nat → Int → Bool → List (S127) → Int → Int → List (S131) → Option (Bool)
  | 0, _, _, _, _, _, _ => none
  | k + 1, x3, x28, x544000, x547000, x547001, x547002 => if x28 = true then (some false) else (if x3 > 0 then (if 0 ≤ (wrap64 (x3 - 1)) then (if (wrap64 (x3 - 1)) < (x544000.length : Int) then (if ((rd_T127 x544000 (wrap64 (x3 - 1))).f0) > x547000 then (some false) else (if ((rd_T127 x544000 (wrap64 (x3 - 1))).f0) = x547000 then (if ((rd_T127 x544000 (wrap64 (x3 - 1))).f1) ≥ x547001 then (some false) else (spec_ValidPolicy.j2 k x3 x544000 x547000 x547001 x547002)) else (spec_ValidPolicy.j2 k x3 x544000 x547000 x547001 x547002))) else (none)) else (none)) else (spec_ValidPolicy.j2 k x3 x544000 x547000 x547001 x547002))
def spec_ValidPolicy.j2 : Nat → Int → List (S127) → Int → Int → List (S131) → Option (Bool)
  | 0, _, _, _, _, _ => none
  | k + 1, x3, x544000, x547000, x547001, x547002 => spec_ValidPolicy.l1 k x3 0 x544000 x547000 x547001 x547002
def spec_ValidPolicy.l1 : Nat → Int → Int → List (S127) → Int → Int → List (S131) → Option (Bool)
  | 0, _, _, _, _, _, _ => none
  | k + 1, x3, x6, x544000, x547000, x547001, x547002 => if x6 < (x547002.length : Int) then (if 0 ≤ x6 then ((spec_l3ruleOK.f k ((rd_T131 x547002 x6).f0)).bind fun t550 => (if t550 = true then (spec_ValidPolicy.l1 k x3 (wrap64 (x6 + 1)) x544000 x547000 x547001 x547002) else (some false))) else (none)) else (spec_ValidPolicy.l0 k (wrap64 (x3 + 1)) x544000)
end
def spec_ValidPolicy.f (k : Nat) (l0_0 : List (S127)) : Option (Bool) := spec_ValidPolicy.l0 k 0 l0_0
set_option maxHeartbeats 8000000 in
set_option maxRecDepth 100000 in
theorem spec_ValidPolicy.calls (k : Nat) (A0_0 : Option Addr) (c0_0 : Nat) (l0_0 : List (S127)) (r : Bool) (w : World) (hr0_0 : Kd.C k127 w A0_0 l0_0.length l0_0) (hc0_0 : l0_0.length ≤ c0_0) (h : spec_ValidPolicy.f k l0_0 = some r) :
    Calls Try.prog 39 #[.agg #[.slice A0_0 l0_0.length c0_0]] w fun e w' => e = .returned (.bool r) ∧ Below w.heap.size w w' := by
  have hu64 := Try.underlying64
  have hu127 := Try.underlying127
  have hu131 := Try.underlying131
  have HR0_0 := Aside0.mk hr0_0
  have HC0_0 := Aside0.mk hc0_0
  clear hr0_0 hc0_0
  have HB := Aside0.mk (Below.refl w.heap.size w)
  have H : (spec_ValidPolicy.l0 k 0 l0_0) = some r := h
  clear h
  have H' := Aside0.mk H
  clear H
  go_enter Try.func39, Try.ntmps39
  go_wp2_with (first | ((with_reducible refine gate_dst (N := 1) rfl ?_); (try (refine gate_guard (by rfl) ?_; dsimp only)); refine box_event ?hg (N := 1) ?hd (cs := #[.slice A0_0 l0_0.length c0_0]) (t := 64) ?hr ?_; (case hd => rfl); (case hg => rfl); (case hr => first | (go_simp; done) | (go_simp; rfl)); intro gb543 hg w2 hbox hb; have n0_ := Aside0.mk (below_step (by repeat (first | (with_reducible first | exact HB.out | apply below_alloc | apply pw_below_drewN | apply below_drew1) | exact HB.out)) hb); have n1_ := Aside0.mk (hbox); have n2_ := Aside0.mk ((by rw [hg]; exact (below_size (by repeat (first | (with_reducible first | exact HB.out | apply below_alloc | apply pw_below_drewN | apply below_drew1) | exact HB.out))) : w.heap.size ≤ gb543)); have n3_ := Aside0.mk ((by rw [hg]; exact (below_size (by repeat (first | (with_reducible first | exact HB.out | apply below_alloc | apply pw_below_drewN | apply below_drew1) | exact HB.out))) : w.heap.size ≤ gb543)); clear HB; have HB := n0_; have BK543 := n1_; have GW543 := n2_; have GE543 := n3_; clear n0_ n1_ n2_ n3_; clear hb hbox hg))
  go_loopg [3] k (fun kq v3 w' => ∃ (x3_1 : Int), v3 = .int .i64 x3_1 ∧ Aside0 (spec_ValidPolicy.l0 kq x3_1 l0_0 = some r) ∧ Aside0 (kq ≤ k) ∧ Aside0 (w'.heap[gb543]? = some (.cells #[(.slice A0_0 l0_0.length c0_0)] 64 (0, 0))) ∧ Aside0 (Below w.heap.size w w'))
  case atStart => exact ⟨(0), (by first | rfl | (simp; done) | (simp [*]; done)), H', ⟨Nat.le_refl _⟩, ⟨by (with_reducible repeat (first | refine blk_drewN ?_ _ | refine blk_drew ?_ | refine blk_alloc ?_ _)); exact BK543.out⟩, ⟨by repeat (first | (with_reducible first | exact HB.out | apply below_alloc | apply pw_below_drewN | apply below_drew1 | refine below_set ?_ GE543.out) | exact HB.out)⟩⟩
  case round =>
    clear H'
    try clear p2
    obtain ⟨x3_1, rfl, HA, HK1, BK543, HB⟩ := hrel
    cases gk with
    | zero => exact absurd HA.out (by simp [spec_ValidPolicy.l0])
    | succ k1 =>
      have H := HA.out
      clear HA
      simp only [spec_ValidPolicy.l0] at H
      by_cases c3 : x3_1 < (l0_0.length : Int)
      · rw [if_pos c3] at H
        have c3b0 : decide (x3_1 < (l0_0.length : Int)) = true := decide_eq_true c3
        clear c3
        by_cases c4 : 0 ≤ x3_1
        · rw [if_pos c4] at H
          have c4b0 : decide (0 ≤ x3_1) = true := decide_eq_true c4
          clear c4
          have HC5 := Aside0.mk H
          clear H
          have hcz6_0 : wr.cell? ⟨gb543, 0, none⟩ = some (.slice A0_0 l0_0.length c0_0) := (blk_cell BK543.out 0).trans rfl
          have hfz6_0 := blk_frozen BK543.out 0
          have p545 : 0 ≤ (x3_1 : Int) := of_decide_eq_true (by first | (with_reducible assumption) | assumption)
          have q545 : x3_1 < (l0_0.length : Int) := of_decide_eq_true (by first | (with_reducible assumption) | assumption)
          obtain ⟨ad545, A545_2, c545_2, e545, hx545_0, hx545_1, hx545_2, hl545_2, hi545_2⟩ := at_T127 HR0_0.out x3_1 p545 q545
          cases e545
          replace hx545_0 := (HB.out.cell (World.block_lt_of_cell? w _ hx545_0)).trans hx545_0
          replace hx545_1 := (HB.out.cell (World.block_lt_of_cell? w _ hx545_1)).trans hx545_1
          replace hx545_2 := (HB.out.cell (World.block_lt_of_cell? w _ hx545_2)).trans hx545_2
          have HR545_2 := Aside0.mk hi545_2
          have HC545_2 := Aside0.mk hl545_2
          clear hi545_2 hl545_2
          replace p545 := eq_true p545
          replace q545 := eq_true q545
          go_upto_region 5 with (first | ((with_reducible refine gate_dst (N := 4) rfl ?_); (try (refine gate_guard (by rfl) ?_; dsimp only)); refine box_event ?hg (N := 4) ?hd (cs := #[.int .u32 0, .int .u32 0, .slice none 0 0]) (t := 127) ?hr ?_; (case hd => rfl); (case hg => rfl); (case hr => first | (go_simp; done) | (go_simp; rfl)); intro gb546 hg w7 hbox hb; have n0_ := Aside0.mk (blk_below (g := gb543) (o := .cells #[.slice (some ad545) l0_0.length c0_0] 64 (0, 0)) (by (with_reducible repeat (first | refine blk_drewN ?_ _ | refine blk_drew ?_ | refine blk_alloc ?_ _)); exact BK543.out) hb); have n1_ := Aside0.mk (below_step (by repeat (first | (with_reducible first | exact HB.out | apply below_alloc | apply pw_below_drewN | apply below_drew1 | refine below_set ?_ GE543.out) | exact HB.out)) hb); have n2_ := Aside0.mk (hbox); have n3_ := Aside0.mk ((by rw [hg]; exact (below_size (by repeat (first | (with_reducible first | exact HB.out | apply below_alloc | apply pw_below_drewN | apply below_drew1 | refine below_set ?_ GE543.out) | exact HB.out))) : w.heap.size ≤ gb546)); have n4_ := Aside0.mk ((by rw [hg]; exact (below_size (by repeat (first | (with_reducible first | exact HB.out | apply below_alloc | apply pw_below_drewN | apply below_drew1 | refine below_set ?_ GE543.out) | exact HB.out))) : w.heap.size ≤ gb546)); have n5_ := Aside0.mk ((by rw [hg]; exact Nat.ne_of_lt (blk_lt (g := gb543) (o := .cells #[.slice (some ad545) l0_0.length c0_0] 64 (0, 0)) (by (with_reducible repeat (first | refine blk_drewN ?_ _ | refine blk_drew ?_ | refine blk_alloc ?_ _)); exact BK543.out)) : gb543 ≠ gb546)); have n6_ := Aside0.mk ((by rw [hg]; exact Nat.ne_of_gt (blk_lt (g := gb543) (o := .cells #[.slice (some ad545) l0_0.length c0_0] 64 (0, 0)) (by (with_reducible repeat (first | refine blk_drewN ?_ _ | refine blk_drew ?_ | refine blk_alloc ?_ _)); exact BK543.out)) : gb546 ≠ gb543)); clear BK543; clear HB; have BK543 := n0_; have HB := n1_; have BK546 := n2_; have GW546 := n3_; have GE546 := n4_; have NB543_546 := n5_; have NB546_543 := n6_; clear n0_ n1_ n2_ n3_ n4_ n5_ n6_; clear hb hbox hg; have hnb8 := NB546_543.out; have hnc8 := NB543_546.out; have hcz9_0 : w7.cell? ⟨gb546, 0, none⟩ = some (.int .u32 0) := (blk_cell BK546.out 0).trans rfl; have hcz9_1 : w7.cell? ⟨gb546, 1, none⟩ = some (.int .u32 0) := (blk_cell BK546.out 1).trans rfl; have hcz9_2 : w7.cell? ⟨gb546, 2, none⟩ = some (.slice none 0 0) := (blk_cell BK546.out 2).trans rfl; have hfz9_0 := blk_frozen BK546.out 0; have hfz9_1 := blk_frozen BK546.out 1; have hfz9_2 := blk_frozen BK546.out 2))
          (try simp only [Act.put, List.setIfInBounds_toArray, List.set_cons_zero, List.set_cons_succ])
          go_cut [28] (fun v28 wc => ∃ (kq : Nat) (x28_4 : Bool), v28 = .bool x28_4 ∧ Aside0 (spec_ValidPolicy.j1 kq x3_1 x28_4 l0_0 ((rd_T127 l0_0 x3_1).f0) ((rd_T127 l0_0 x3_1).f1) ((rd_T127 l0_0 x3_1).f2) = some r) ∧ Aside0 (kq ≤ k1) ∧ Aside0 (wc.heap[gb543]? = some (.cells #[(.slice (some ad545) l0_0.length c0_0)] 64 (0, 0))) ∧ Aside0 (wc.heap[gb546]? = some (.cells #[.int .u32 ((rd_T127 l0_0 x3_1).f0), .int .u32 ((rd_T127 l0_0 x3_1).f1), (.slice A545_2 ((rd_T127 l0_0 x3_1).f2).length c545_2)] 127 (0, 0))) ∧ Aside0 (Below w.heap.size w wc))
          case first =>
            have H := HC5.out
            clear HC5
            by_cases c10 : (((rd_T127 l0_0 x3_1).f2).length : Int) < 1
            · rw [if_pos c10] at H
              have c10b0 : decide ((((rd_T127 l0_0 x3_1).f2).length : Int) < 1) = true := decide_eq_true c10
              have c10b1 : decide (((rd_T127 l0_0 x3_1).f2).length < 1) = true := decide_eq_true (by omega)
              clear c10
              (first | rw [c10b0] | (simp only [i64_w, i32_w]; rw [c10b0]) | skip)
              have H' := Aside0.mk H
              clear H
              have hnb11 := NB546_543.out
              have hnc11 := NB543_546.out
              have hcz12_0 : w7.cell? ⟨gb546, 0, none⟩ = some (.int .u32 0) := (blk_cell BK546.out 0).trans rfl
              have hcz12_1 : w7.cell? ⟨gb546, 1, none⟩ = some (.int .u32 0) := (blk_cell BK546.out 1).trans rfl
              have hcz12_2 : w7.cell? ⟨gb546, 2, none⟩ = some (.slice none 0 0) := (blk_cell BK546.out 2).trans rfl
              have hfz12_0 := blk_frozen BK546.out 0
              have hfz12_1 := blk_frozen BK546.out 1
              have hfz12_2 := blk_frozen BK546.out 2
              go_wp2
              go_meet
              case rel => exact ⟨_, (true), (by first | rfl | (simp; done) | (simp [*]; done)), H', ⟨by have := HK1.out; first | omega | exact Nat.le_refl _⟩, ⟨by (with_reducible repeat (first | refine blk_drewN ?_ _ | refine blk_drew ?_ | refine blk_alloc ?_ _)); refine blk_far ?_ NB543_546.out _; (with_reducible repeat (first | refine blk_drewN ?_ _ | refine blk_drew ?_ | refine blk_alloc ?_ _)); refine blk_far ?_ NB543_546.out _; (with_reducible repeat (first | refine blk_drewN ?_ _ | refine blk_drew ?_ | refine blk_alloc ?_ _)); refine blk_far ?_ NB543_546.out _; (with_reducible repeat (first | refine blk_drewN ?_ _ | refine blk_drew ?_ | refine blk_alloc ?_ _)); exact BK543.out⟩, ⟨by (with_reducible repeat (first | refine blk_drewN ?_ _ | refine blk_drew ?_ | refine blk_alloc ?_ _)); refine blk_put (cs := #[.int .u32 ((rd_T127 l0_0 x3_1).f0), .int .u32 ((rd_T127 l0_0 x3_1).f1), .slice none 0 0]) ?_ 2 _ rfl; (with_reducible repeat (first | refine blk_drewN ?_ _ | refine blk_drew ?_ | refine blk_alloc ?_ _)); refine blk_put (cs := #[.int .u32 ((rd_T127 l0_0 x3_1).f0), .int .u32 0, .slice none 0 0]) ?_ 1 _ rfl; (with_reducible repeat (first | refine blk_drewN ?_ _ | refine blk_drew ?_ | refine blk_alloc ?_ _)); refine blk_put (cs := #[.int .u32 0, .int .u32 0, .slice none 0 0]) ?_ 0 _ rfl; (with_reducible repeat (first | refine blk_drewN ?_ _ | refine blk_drew ?_ | refine blk_alloc ?_ _)); exact BK546.out⟩, ⟨by repeat (first | (with_reducible first | exact HB.out | apply below_alloc | apply pw_below_drewN | apply below_drew1 | refine below_set ?_ GE543.out | refine below_set ?_ GE546.out) | exact HB.out)⟩⟩
            · rw [if_neg c10] at H
              have c10b0 : decide ((((rd_T127 l0_0 x3_1).f2).length : Int) < 1) = false := decide_eq_false c10
              have c10b1 : decide (((rd_T127 l0_0 x3_1).f2).length < 1) = false := decide_eq_false (by omega)
              clear c10
              (first | rw [c10b0] | (simp only [i64_w, i32_w]; rw [c10b0]) | skip)
              have H' := Aside0.mk H
              clear H
              have hnb13 := NB546_543.out
              have hnc13 := NB543_546.out
              have hcz14_0 : w7.cell? ⟨gb546, 0, none⟩ = some (.int .u32 0) := (blk_cell BK546.out 0).trans rfl
              have hcz14_1 : w7.cell? ⟨gb546, 1, none⟩ = some (.int .u32 0) := (blk_cell BK546.out 1).trans rfl
              have hcz14_2 : w7.cell? ⟨gb546, 2, none⟩ = some (.slice none 0 0) := (blk_cell BK546.out 2).trans rfl
              have hfz14_0 := blk_frozen BK546.out 0
              have hfz14_1 := blk_frozen BK546.out 1
              have hfz14_2 := blk_frozen BK546.out 2
              go_wp2
              go_meet
              case rel => exact ⟨_, (decide ((((rd_T127 l0_0 x3_1).f2).length : Int) > 200)), (by first | rfl | (simp; done) | (simp [*]; done)), H', ⟨by have := HK1.out; first | omega | exact Nat.le_refl _⟩, ⟨by (with_reducible repeat (first | refine blk_drewN ?_ _ | refine blk_drew ?_ | refine blk_alloc ?_ _)); refine blk_far ?_ NB543_546.out _; (with_reducible repeat (first | refine blk_drewN ?_ _ | refine blk_drew ?_ | refine blk_alloc ?_ _)); refine blk_far ?_ NB543_546.out _; (with_reducible repeat (first | refine blk_drewN ?_ _ | refine blk_drew ?_ | refine blk_alloc ?_ _)); refine blk_far ?_ NB543_546.out _; (with_reducible repeat (first | refine blk_drewN ?_ _ | refine blk_drew ?_ | refine blk_alloc ?_ _)); exact BK543.out⟩, ⟨by (with_reducible repeat (first | refine blk_drewN ?_ _ | refine blk_drew ?_ | refine blk_alloc ?_ _)); refine blk_put (cs := #[.int .u32 ((rd_T127 l0_0 x3_1).f0), .int .u32 ((rd_T127 l0_0 x3_1).f1), .slice none 0 0]) ?_ 2 _ rfl; (with_reducible repeat (first | refine blk_drewN ?_ _ | refine blk_drew ?_ | refine blk_alloc ?_ _)); refine blk_put (cs := #[.int .u32 ((rd_T127 l0_0 x3_1).f0), .int .u32 0, .slice none 0 0]) ?_ 1 _ rfl; (with_reducible repeat (first | refine blk_drewN ?_ _ | refine blk_drew ?_ | refine blk_alloc ?_ _)); refine blk_put (cs := #[.int .u32 0, .int .u32 0, .slice none 0 0]) ?_ 0 _ rfl; (with_reducible repeat (first | refine blk_drewN ?_ _ | refine blk_drew ?_ | refine blk_alloc ?_ _)); exact BK546.out⟩, ⟨by repeat (first | (with_reducible first | exact HB.out | apply below_alloc | apply pw_below_drewN | apply below_drew1 | refine below_set ?_ GE543.out | refine below_set ?_ GE546.out) | exact HB.out)⟩⟩
          case rest =>
            clear HC5
            try clear c1
            try clear p2
            try clear c3
            try clear c3b0
            try clear c4
            try clear c4b0
            try clear c5
            try clear p5
            try clear q5
            try clear hx5
            try clear c8
            try clear c10
            try clear c10b0
            try clear c10b1
            try clear c11
            try clear c13
            try clear hcz12_0
            try clear hcz12_1
            try clear hcz12_2
            try clear hcz14_0
            try clear hcz14_1
            try clear hcz14_2
            try clear hcz6_0
            try clear hcz9_0
            try clear hcz9_1
            try clear hcz9_2
            try clear hfz12_0
            try clear hfz12_1
            try clear hfz12_2
            try clear hfz14_0
            try clear hfz14_1
            try clear hfz14_2
            try clear hfz6_0
            try clear hfz9_0
            try clear hfz9_1
            try clear hfz9_2
            try clear hx545_0
            try clear hx545_1
            try clear hx545_2
            try clear p2
            try clear p545
            try clear q545
            obtain ⟨kq, x28_4, rfl, HA, HJ4, BK543, BK546, HB⟩ := hcut
            cases kq with
            | zero => exact absurd HA.out (by simp [spec_ValidPolicy.j1])
            | succ kj4 =>
              have H := HA.out
              clear HA
              simp only [spec_ValidPolicy.j1] at H
              by_cases c15 : x28_4 = true
              · subst c15
                have H1 : (some false) = some r := by rw [if_pos rfl] at H; exact H
                clear H
                have H := H1
                clear H1
                obtain rfl := Option.some.inj H
                go_wp2
                go_ret
                exact ⟨by first | rfl | (simp [errW_none, errW_some] <;> rfl) | (simp [*, errW_none, errW_some] <;> rfl), by repeat (first | (with_reducible first | exact HB.out | apply below_alloc | apply pw_below_drewN | apply below_drew1 | refine below_set ?_ GE543.out | refine below_set ?_ GE546.out) | exact HB.out)⟩
              · replace c15 := Bool.eq_false_iff.mpr c15
                subst c15
                have H1 : (if x3_1 > 0 then (if 0 ≤ (wrap64 (x3_1 - 1)) then (if (wrap64 (x3_1 - 1)) < (l0_0.length : Int) then (if ((rd_T127 l0_0 (wrap64 (x3_1 - 1))).f0) > ((rd_T127 l0_0 x3_1).f0) then (some false) else (if ((rd_T127 l0_0 (wrap64 (x3_1 - 1))).f0) = ((rd_T127 l0_0 x3_1).f0) then (if ((rd_T127 l0_0 (wrap64 (x3_1 - 1))).f1) ≥ ((rd_T127 l0_0 x3_1).f1) then (some false) else (spec_ValidPolicy.j2 kj4 x3_1 l0_0 ((rd_T127 l0_0 x3_1).f0) ((rd_T127 l0_0 x3_1).f1) ((rd_T127 l0_0 x3_1).f2))) else (spec_ValidPolicy.j2 kj4 x3_1 l0_0 ((rd_T127 l0_0 x3_1).f0) ((rd_T127 l0_0 x3_1).f1) ((rd_T127 l0_0 x3_1).f2)))) else (none)) else (none)) else (spec_ValidPolicy.j2 kj4 x3_1 l0_0 ((rd_T127 l0_0 x3_1).f0) ((rd_T127 l0_0 x3_1).f1) ((rd_T127 l0_0 x3_1).f2))) = some r := by rw [if_neg (show ¬ (false = true) by decide)] at H; exact H
                clear H
                have H := H1
                clear H1
                have HC16 := Aside0.mk H
                clear H
                go_upto_if 30 with (fail)
                go_cut [] (fun wc => ∃ (kq : Nat), Aside0 (spec_ValidPolicy.j2 kq x3_1 l0_0 ((rd_T127 l0_0 x3_1).f0) ((rd_T127 l0_0 x3_1).f1) ((rd_T127 l0_0 x3_1).f2) = some r) ∧ Aside0 (kq ≤ kj4) ∧ Aside0 (wc.heap[gb543]? = some (.cells #[(.slice (some ad545) l0_0.length c0_0)] 64 (0, 0))) ∧ Aside0 (wc.heap[gb546]? = some (.cells #[.int .u32 ((rd_T127 l0_0 x3_1).f0), .int .u32 ((rd_T127 l0_0 x3_1).f1), (.slice A545_2 ((rd_T127 l0_0 x3_1).f2).length c545_2)] 127 (0, 0))) ∧ Aside0 (Below w.heap.size w wc))
                case first =>
                  have H := HC16.out
                  clear HC16
                  by_cases c17 : x3_1 > 0
                  · rw [if_pos c17] at H
                    have c17b0 : decide (0 < x3_1) = true := decide_eq_true c17
                    clear c17
                    (first | rw [c17b0] | (simp only [i64_w, i32_w]; rw [c17b0]) | skip)
                    obtain ⟨ji18, hji18⟩ : ∃ j_ : Int, (wrap64 (x3_1 - 1)) = j_ := ⟨_, rfl⟩
                    replace H : (if 0 ≤ (ji18) then (if (ji18) < (l0_0.length : Int) then (if ((rd_T127 l0_0 (ji18)).f0) > ((rd_T127 l0_0 x3_1).f0) then (some false) else (if ((rd_T127 l0_0 (ji18)).f0) = ((rd_T127 l0_0 x3_1).f0) then (if ((rd_T127 l0_0 (ji18)).f1) ≥ ((rd_T127 l0_0 x3_1).f1) then (some false) else (spec_ValidPolicy.j2 kj4 x3_1 l0_0 ((rd_T127 l0_0 x3_1).f0) ((rd_T127 l0_0 x3_1).f1) ((rd_T127 l0_0 x3_1).f2))) else (spec_ValidPolicy.j2 kj4 x3_1 l0_0 ((rd_T127 l0_0 x3_1).f0) ((rd_T127 l0_0 x3_1).f1) ((rd_T127 l0_0 x3_1).f2)))) else (none)) else (none)) = some r := by first | (rw [hji18] at H; exact H) | (simp only [hji18] at H ⊢; exact H)
                    have hji18w : (IntKind.i64.wrap (x3_1 - 1)) = ji18 := (i64_w _).trans hji18
                    by_cases c19 : 0 ≤ (ji18)
                    · rw [if_pos c19] at H
                      have c19b0 : decide (0 ≤ (ji18)) = true := decide_eq_true c19
                      clear c19
                      by_cases c20 : (ji18) < (l0_0.length : Int)
                      · rw [if_pos c20] at H
                        have c20b0 : decide ((ji18) < (l0_0.length : Int)) = true := decide_eq_true c20
                        clear c20
                        by_cases c21 : ((rd_T127 l0_0 (ji18)).f0) > ((rd_T127 l0_0 x3_1).f0)
                        · rw [if_pos c21] at H
                          have c21b0 : decide (((rd_T127 l0_0 x3_1).f0) < ((rd_T127 l0_0 (ji18)).f0)) = true := decide_eq_true c21
                          clear c21
                          obtain rfl := Option.some.inj H
                          have hnb22 := NB543_546.out
                          have hnc22 := NB546_543.out
                          have hcz23_0 : wc.cell? ⟨gb543, 0, none⟩ = some (.slice (some ad545) l0_0.length c0_0) := (blk_cell BK543.out 0).trans rfl
                          have hfz23_0 := blk_frozen BK543.out 0
                          have p547 : 0 ≤ ((ji18) : Int) := of_decide_eq_true (by first | (with_reducible assumption) | assumption)
                          have q547 : (ji18) < (l0_0.length : Int) := of_decide_eq_true (by first | (with_reducible assumption) | assumption)
                          obtain ⟨ad547, A547_2, c547_2, e547, hx547_0, hx547_1, hx547_2, hl547_2, hi547_2⟩ := at_T127 HR0_0.out (ji18) p547 q547
                          obtain rfl : ad545 = ad547 := (by injection e547)
                          replace hx547_0 := (HB.out.cell (World.block_lt_of_cell? w _ hx547_0)).trans hx547_0
                          replace hx547_1 := (HB.out.cell (World.block_lt_of_cell? w _ hx547_1)).trans hx547_1
                          replace hx547_2 := (HB.out.cell (World.block_lt_of_cell? w _ hx547_2)).trans hx547_2
                          have HR547_2 := Aside0.mk hi547_2
                          have HC547_2 := Aside0.mk hl547_2
                          clear hi547_2 hl547_2
                          replace p547 := eq_true p547
                          replace q547 := eq_true q547
                          go_wp2_with (first | ((with_reducible refine gate_dst (N := 5) rfl ?_); (try (refine gate_guard (by rfl) ?_; dsimp only)); refine box_event ?hg (N := 5) ?hd (cs := #[.int .u32 0, .int .u32 0, .slice none 0 0]) (t := 127) ?hr ?_; (case hd => rfl); (case hg => rfl); (case hr => first | (go_simp; done) | (go_simp; rfl)); intro gb548 hg w24 hbox hb; have n0_ := Aside0.mk (blk_below (g := gb543) (o := .cells #[.slice (some ad545) l0_0.length c0_0] 64 (0, 0)) (by (with_reducible repeat (first | refine blk_drewN ?_ _ | refine blk_drew ?_ | refine blk_alloc ?_ _)); exact BK543.out) hb); have n1_ := Aside0.mk (blk_below (g := gb546) (o := .cells #[.int .u32 ((rd_T127 l0_0 x3_1).f0), .int .u32 ((rd_T127 l0_0 x3_1).f1), .slice A545_2 ((rd_T127 l0_0 x3_1).f2).length c545_2] 127 (0, 0)) (by (with_reducible repeat (first | refine blk_drewN ?_ _ | refine blk_drew ?_ | refine blk_alloc ?_ _)); exact BK546.out) hb); have n2_ := Aside0.mk (below_step (by repeat (first | (with_reducible first | exact HB.out | apply below_alloc | apply pw_below_drewN | apply below_drew1 | refine below_set ?_ GE543.out | refine below_set ?_ GE546.out) | exact HB.out)) hb); have n3_ := Aside0.mk (hbox); have n4_ := Aside0.mk ((by rw [hg]; exact (below_size (by repeat (first | (with_reducible first | exact HB.out | apply below_alloc | apply pw_below_drewN | apply below_drew1 | refine below_set ?_ GE543.out | refine below_set ?_ GE546.out) | exact HB.out))) : w.heap.size ≤ gb548)); have n5_ := Aside0.mk ((by rw [hg]; exact (below_size (by repeat (first | (with_reducible first | exact HB.out | apply below_alloc | apply pw_below_drewN | apply below_drew1 | refine below_set ?_ GE543.out | refine below_set ?_ GE546.out) | exact HB.out))) : w.heap.size ≤ gb548)); have n6_ := Aside0.mk ((by rw [hg]; exact Nat.ne_of_lt (blk_lt (g := gb543) (o := .cells #[.slice (some ad545) l0_0.length c0_0] 64 (0, 0)) (by (with_reducible repeat (first | refine blk_drewN ?_ _ | refine blk_drew ?_ | refine blk_alloc ?_ _)); exact BK543.out)) : gb543 ≠ gb548)); have n7_ := Aside0.mk ((by rw [hg]; exact Nat.ne_of_gt (blk_lt (g := gb543) (o := .cells #[.slice (some ad545) l0_0.length c0_0] 64 (0, 0)) (by (with_reducible repeat (first | refine blk_drewN ?_ _ | refine blk_drew ?_ | refine blk_alloc ?_ _)); exact BK543.out)) : gb548 ≠ gb543)); have n8_ := Aside0.mk ((by rw [hg]; exact Nat.ne_of_lt (blk_lt (g := gb546) (o := .cells #[.int .u32 ((rd_T127 l0_0 x3_1).f0), .int .u32 ((rd_T127 l0_0 x3_1).f1), .slice A545_2 ((rd_T127 l0_0 x3_1).f2).length c545_2] 127 (0, 0)) (by (with_reducible repeat (first | refine blk_drewN ?_ _ | refine blk_drew ?_ | refine blk_alloc ?_ _)); exact BK546.out)) : gb546 ≠ gb548)); have n9_ := Aside0.mk ((by rw [hg]; exact Nat.ne_of_gt (blk_lt (g := gb546) (o := .cells #[.int .u32 ((rd_T127 l0_0 x3_1).f0), .int .u32 ((rd_T127 l0_0 x3_1).f1), .slice A545_2 ((rd_T127 l0_0 x3_1).f2).length c545_2] 127 (0, 0)) (by (with_reducible repeat (first | refine blk_drewN ?_ _ | refine blk_drew ?_ | refine blk_alloc ?_ _)); exact BK546.out)) : gb548 ≠ gb546)); clear BK543; clear BK546; clear HB; have BK543 := n0_; have BK546 := n1_; have HB := n2_; have BK548 := n3_; have GW548 := n4_; have GE548 := n5_; have NB543_548 := n6_; have NB548_543 := n7_; have NB546_548 := n8_; have NB548_546 := n9_; clear n0_ n1_ n2_ n3_ n4_ n5_ n6_ n7_ n8_ n9_; clear hb hbox hg; have hnb25 := NB548_543.out; have hnc25 := NB543_548.out; have hnb26 := NB548_546.out; have hnc26 := NB546_548.out; have hcz27_0 : w24.cell? ⟨gb548, 0, none⟩ = some (.int .u32 0) := (blk_cell BK548.out 0).trans rfl; have hcz27_1 : w24.cell? ⟨gb548, 1, none⟩ = some (.int .u32 0) := (blk_cell BK548.out 1).trans rfl; have hcz27_2 : w24.cell? ⟨gb548, 2, none⟩ = some (.slice none 0 0) := (blk_cell BK548.out 2).trans rfl; have hfz27_0 := blk_frozen BK548.out 0; have hfz27_1 := blk_frozen BK548.out 1; have hfz27_2 := blk_frozen BK548.out 2; have hcz28_0 : w24.cell? ⟨gb546, 0, none⟩ = some (.int .u32 ((rd_T127 l0_0 x3_1).f0)) := (blk_cell BK546.out 0).trans rfl; have hcz28_1 : w24.cell? ⟨gb546, 1, none⟩ = some (.int .u32 ((rd_T127 l0_0 x3_1).f1)) := (blk_cell BK546.out 1).trans rfl; have hcz28_2 : w24.cell? ⟨gb546, 2, none⟩ = some (.slice A545_2 ((rd_T127 l0_0 x3_1).f2).length c545_2) := (blk_cell BK546.out 2).trans rfl; have hfz28_0 := blk_frozen BK546.out 0; have hfz28_1 := blk_frozen BK546.out 1; have hfz28_2 := blk_frozen BK546.out 2))
                          go_ret
                          exact ⟨by first | rfl | (simp [errW_none, errW_some] <;> rfl) | (simp only [← hji18]; first | rfl | (simp [errW_none, errW_some] <;> rfl)) | (simp [*, errW_none, errW_some] <;> rfl), by repeat (first | (with_reducible first | exact HB.out | apply below_alloc | apply pw_below_drewN | apply below_drew1 | refine below_set ?_ GE543.out | refine below_set ?_ GE546.out | refine below_set ?_ GE548.out) | exact HB.out)⟩
                        · rw [if_neg c21] at H
                          have c21b0 : decide (((rd_T127 l0_0 x3_1).f0) < ((rd_T127 l0_0 (ji18)).f0)) = false := decide_eq_false c21
                          clear c21
                          by_cases c29 : ((rd_T127 l0_0 (ji18)).f0) = ((rd_T127 l0_0 x3_1).f0)
                          · rw [if_pos c29] at H
                            have c29b0 : (((rd_T127 l0_0 (ji18)).f0) == ((rd_T127 l0_0 x3_1).f0)) = true := beq_iff_eq.mpr c29
                            have c29b1 : (((rd_T127 l0_0 (ji18)).f0) != ((rd_T127 l0_0 x3_1).f0)) = false := bne_eq_false_iff_eq.mpr c29
                            clear c29
                            by_cases c30 : ((rd_T127 l0_0 (ji18)).f1) ≥ ((rd_T127 l0_0 x3_1).f1)
                            · rw [if_pos c30] at H
                              have c30b0 : decide (((rd_T127 l0_0 x3_1).f1) ≤ ((rd_T127 l0_0 (ji18)).f1)) = true := decide_eq_true c30
                              clear c30
                              obtain rfl := Option.some.inj H
                              have hnb31 := NB543_546.out
                              have hnc31 := NB546_543.out
                              have hcz32_0 : wc.cell? ⟨gb543, 0, none⟩ = some (.slice (some ad545) l0_0.length c0_0) := (blk_cell BK543.out 0).trans rfl
                              have hfz32_0 := blk_frozen BK543.out 0
                              have p547 : 0 ≤ ((ji18) : Int) := of_decide_eq_true (by first | (with_reducible assumption) | assumption)
                              have q547 : (ji18) < (l0_0.length : Int) := of_decide_eq_true (by first | (with_reducible assumption) | assumption)
                              obtain ⟨ad547, A547_2, c547_2, e547, hx547_0, hx547_1, hx547_2, hl547_2, hi547_2⟩ := at_T127 HR0_0.out (ji18) p547 q547
                              obtain rfl : ad545 = ad547 := (by injection e547)
                              replace hx547_0 := (HB.out.cell (World.block_lt_of_cell? w _ hx547_0)).trans hx547_0
                              replace hx547_1 := (HB.out.cell (World.block_lt_of_cell? w _ hx547_1)).trans hx547_1
                              replace hx547_2 := (HB.out.cell (World.block_lt_of_cell? w _ hx547_2)).trans hx547_2
                              have HR547_2 := Aside0.mk hi547_2
                              have HC547_2 := Aside0.mk hl547_2
                              clear hi547_2 hl547_2
                              replace p547 := eq_true p547
                              replace q547 := eq_true q547
                              go_wp2_with (first | ((with_reducible refine gate_dst (N := 5) rfl ?_); (try (refine gate_guard (by rfl) ?_; dsimp only)); refine box_event ?hg (N := 5) ?hd (cs := #[.int .u32 0, .int .u32 0, .slice none 0 0]) (t := 127) ?hr ?_; (case hd => rfl); (case hg => rfl); (case hr => first | (go_simp; done) | (go_simp; rfl)); intro gb548 hg w33 hbox hb; have n0_ := Aside0.mk (blk_below (g := gb543) (o := .cells #[.slice (some ad545) l0_0.length c0_0] 64 (0, 0)) (by (with_reducible repeat (first | refine blk_drewN ?_ _ | refine blk_drew ?_ | refine blk_alloc ?_ _)); exact BK543.out) hb); have n1_ := Aside0.mk (blk_below (g := gb546) (o := .cells #[.int .u32 ((rd_T127 l0_0 x3_1).f0), .int .u32 ((rd_T127 l0_0 x3_1).f1), .slice A545_2 ((rd_T127 l0_0 x3_1).f2).length c545_2] 127 (0, 0)) (by (with_reducible repeat (first | refine blk_drewN ?_ _ | refine blk_drew ?_ | refine blk_alloc ?_ _)); exact BK546.out) hb); have n2_ := Aside0.mk (below_step (by repeat (first | (with_reducible first | exact HB.out | apply below_alloc | apply pw_below_drewN | apply below_drew1 | refine below_set ?_ GE543.out | refine below_set ?_ GE546.out) | exact HB.out)) hb); have n3_ := Aside0.mk (hbox); have n4_ := Aside0.mk ((by rw [hg]; exact (below_size (by repeat (first | (with_reducible first | exact HB.out | apply below_alloc | apply pw_below_drewN | apply below_drew1 | refine below_set ?_ GE543.out | refine below_set ?_ GE546.out) | exact HB.out))) : w.heap.size ≤ gb548)); have n5_ := Aside0.mk ((by rw [hg]; exact (below_size (by repeat (first | (with_reducible first | exact HB.out | apply below_alloc | apply pw_below_drewN | apply below_drew1 | refine below_set ?_ GE543.out | refine below_set ?_ GE546.out) | exact HB.out))) : w.heap.size ≤ gb548)); have n6_ := Aside0.mk ((by rw [hg]; exact Nat.ne_of_lt (blk_lt (g := gb543) (o := .cells #[.slice (some ad545) l0_0.length c0_0] 64 (0, 0)) (by (with_reducible repeat (first | refine blk_drewN ?_ _ | refine blk_drew ?_ | refine blk_alloc ?_ _)); exact BK543.out)) : gb543 ≠ gb548)); have n7_ := Aside0.mk ((by rw [hg]; exact Nat.ne_of_gt (blk_lt (g := gb543) (o := .cells #[.slice (some ad545) l0_0.length c0_0] 64 (0, 0)) (by (with_reducible repeat (first | refine blk_drewN ?_ _ | refine blk_drew ?_ | refine blk_alloc ?_ _)); exact BK543.out)) : gb548 ≠ gb543)); have n8_ := Aside0.mk ((by rw [hg]; exact Nat.ne_of_lt (blk_lt (g := gb546) (o := .cells #[.int .u32 ((rd_T127 l0_0 x3_1).f0), .int .u32 ((rd_T127 l0_0 x3_1).f1), .slice A545_2 ((rd_T127 l0_0 x3_1).f2).length c545_2] 127 (0, 0)) (by (with_reducible repeat (first | refine blk_drewN ?_ _ | refine blk_drew ?_ | refine blk_alloc ?_ _)); exact BK546.out)) : gb546 ≠ gb548)); have n9_ := Aside0.mk ((by rw [hg]; exact Nat.ne_of_gt (blk_lt (g := gb546) (o := .cells #[.int .u32 ((rd_T127 l0_0 x3_1).f0), .int .u32 ((rd_T127 l0_0 x3_1).f1), .slice A545_2 ((rd_T127 l0_0 x3_1).f2).length c545_2] 127 (0, 0)) (by (with_reducible repeat (first | refine blk_drewN ?_ _ | refine blk_drew ?_ | refine blk_alloc ?_ _)); exact BK546.out)) : gb548 ≠ gb546)); clear BK543; clear BK546; clear HB; have BK543 := n0_; have BK546 := n1_; have HB := n2_; have BK548 := n3_; have GW548 := n4_; have GE548 := n5_; have NB543_548 := n6_; have NB548_543 := n7_; have NB546_548 := n8_; have NB548_546 := n9_; clear n0_ n1_ n2_ n3_ n4_ n5_ n6_ n7_ n8_ n9_; clear hb hbox hg; have hnb34 := NB548_543.out; have hnc34 := NB543_548.out; have hnb35 := NB548_546.out; have hnc35 := NB546_548.out; have hcz36_0 : w33.cell? ⟨gb548, 0, none⟩ = some (.int .u32 0) := (blk_cell BK548.out 0).trans rfl; have hcz36_1 : w33.cell? ⟨gb548, 1, none⟩ = some (.int .u32 0) := (blk_cell BK548.out 1).trans rfl; have hcz36_2 : w33.cell? ⟨gb548, 2, none⟩ = some (.slice none 0 0) := (blk_cell BK548.out 2).trans rfl; have hfz36_0 := blk_frozen BK548.out 0; have hfz36_1 := blk_frozen BK548.out 1; have hfz36_2 := blk_frozen BK548.out 2; have hcz37_0 : w33.cell? ⟨gb546, 0, none⟩ = some (.int .u32 ((rd_T127 l0_0 x3_1).f0)) := (blk_cell BK546.out 0).trans rfl; have hcz37_1 : w33.cell? ⟨gb546, 1, none⟩ = some (.int .u32 ((rd_T127 l0_0 x3_1).f1)) := (blk_cell BK546.out 1).trans rfl; have hcz37_2 : w33.cell? ⟨gb546, 2, none⟩ = some (.slice A545_2 ((rd_T127 l0_0 x3_1).f2).length c545_2) := (blk_cell BK546.out 2).trans rfl; have hfz37_0 := blk_frozen BK546.out 0; have hfz37_1 := blk_frozen BK546.out 1; have hfz37_2 := blk_frozen BK546.out 2))
                              go_ret
                              exact ⟨by first | rfl | (simp [errW_none, errW_some] <;> rfl) | (simp only [← hji18]; first | rfl | (simp [errW_none, errW_some] <;> rfl)) | (simp [*, errW_none, errW_some] <;> rfl), by repeat (first | (with_reducible first | exact HB.out | apply below_alloc | apply pw_below_drewN | apply below_drew1 | refine below_set ?_ GE543.out | refine below_set ?_ GE546.out | refine below_set ?_ GE548.out) | exact HB.out)⟩
                            · rw [if_neg c30] at H
                              have c30b0 : decide (((rd_T127 l0_0 x3_1).f1) ≤ ((rd_T127 l0_0 (ji18)).f1)) = false := decide_eq_false c30
                              clear c30
                              have H' := Aside0.mk H
                              clear H
                              have hnb38 := NB543_546.out
                              have hnc38 := NB546_543.out
                              have hcz39_0 : wc.cell? ⟨gb543, 0, none⟩ = some (.slice (some ad545) l0_0.length c0_0) := (blk_cell BK543.out 0).trans rfl
                              have hfz39_0 := blk_frozen BK543.out 0
                              have p547 : 0 ≤ ((ji18) : Int) := of_decide_eq_true (by first | (with_reducible assumption) | assumption)
                              have q547 : (ji18) < (l0_0.length : Int) := of_decide_eq_true (by first | (with_reducible assumption) | assumption)
                              obtain ⟨ad547, A547_2, c547_2, e547, hx547_0, hx547_1, hx547_2, hl547_2, hi547_2⟩ := at_T127 HR0_0.out (ji18) p547 q547
                              obtain rfl : ad545 = ad547 := (by injection e547)
                              replace hx547_0 := (HB.out.cell (World.block_lt_of_cell? w _ hx547_0)).trans hx547_0
                              replace hx547_1 := (HB.out.cell (World.block_lt_of_cell? w _ hx547_1)).trans hx547_1
                              replace hx547_2 := (HB.out.cell (World.block_lt_of_cell? w _ hx547_2)).trans hx547_2
                              have HR547_2 := Aside0.mk hi547_2
                              have HC547_2 := Aside0.mk hl547_2
                              clear hi547_2 hl547_2
                              replace p547 := eq_true p547
                              replace q547 := eq_true q547
                              go_wp2_with (first | ((with_reducible refine gate_dst (N := 5) rfl ?_); (try (refine gate_guard (by rfl) ?_; dsimp only)); refine box_event ?hg (N := 5) ?hd (cs := #[.int .u32 0, .int .u32 0, .slice none 0 0]) (t := 127) ?hr ?_; (case hd => rfl); (case hg => rfl); (case hr => first | (go_simp; done) | (go_simp; rfl)); intro gb548 hg w40 hbox hb; have n0_ := Aside0.mk (blk_below (g := gb543) (o := .cells #[.slice (some ad545) l0_0.length c0_0] 64 (0, 0)) (by (with_reducible repeat (first | refine blk_drewN ?_ _ | refine blk_drew ?_ | refine blk_alloc ?_ _)); exact BK543.out) hb); have n1_ := Aside0.mk (blk_below (g := gb546) (o := .cells #[.int .u32 ((rd_T127 l0_0 x3_1).f0), .int .u32 ((rd_T127 l0_0 x3_1).f1), .slice A545_2 ((rd_T127 l0_0 x3_1).f2).length c545_2] 127 (0, 0)) (by (with_reducible repeat (first | refine blk_drewN ?_ _ | refine blk_drew ?_ | refine blk_alloc ?_ _)); exact BK546.out) hb); have n2_ := Aside0.mk (below_step (by repeat (first | (with_reducible first | exact HB.out | apply below_alloc | apply pw_below_drewN | apply below_drew1 | refine below_set ?_ GE543.out | refine below_set ?_ GE546.out) | exact HB.out)) hb); have n3_ := Aside0.mk (hbox); have n4_ := Aside0.mk ((by rw [hg]; exact (below_size (by repeat (first | (with_reducible first | exact HB.out | apply below_alloc | apply pw_below_drewN | apply below_drew1 | refine below_set ?_ GE543.out | refine below_set ?_ GE546.out) | exact HB.out))) : w.heap.size ≤ gb548)); have n5_ := Aside0.mk ((by rw [hg]; exact (below_size (by repeat (first | (with_reducible first | exact HB.out | apply below_alloc | apply pw_below_drewN | apply below_drew1 | refine below_set ?_ GE543.out | refine below_set ?_ GE546.out) | exact HB.out))) : w.heap.size ≤ gb548)); have n6_ := Aside0.mk ((by rw [hg]; exact Nat.ne_of_lt (blk_lt (g := gb543) (o := .cells #[.slice (some ad545) l0_0.length c0_0] 64 (0, 0)) (by (with_reducible repeat (first | refine blk_drewN ?_ _ | refine blk_drew ?_ | refine blk_alloc ?_ _)); exact BK543.out)) : gb543 ≠ gb548)); have n7_ := Aside0.mk ((by rw [hg]; exact Nat.ne_of_gt (blk_lt (g := gb543) (o := .cells #[.slice (some ad545) l0_0.length c0_0] 64 (0, 0)) (by (with_reducible repeat (first | refine blk_drewN ?_ _ | refine blk_drew ?_ | refine blk_alloc ?_ _)); exact BK543.out)) : gb548 ≠ gb543)); have n8_ := Aside0.mk ((by rw [hg]; exact Nat.ne_of_lt (blk_lt (g := gb546) (o := .cells #[.int .u32 ((rd_T127 l0_0 x3_1).f0), .int .u32 ((rd_T127 l0_0 x3_1).f1), .slice A545_2 ((rd_T127 l0_0 x3_1).f2).length c545_2] 127 (0, 0)) (by (with_reducible repeat (first | refine blk_drewN ?_ _ | refine blk_drew ?_ | refine blk_alloc ?_ _)); exact BK546.out)) : gb546 ≠ gb548)); have n9_ := Aside0.mk ((by rw [hg]; exact Nat.ne_of_gt (blk_lt (g := gb546) (o := .cells #[.int .u32 ((rd_T127 l0_0 x3_1).f0), .int .u32 ((rd_T127 l0_0 x3_1).f1), .slice A545_2 ((rd_T127 l0_0 x3_1).f2).length c545_2] 127 (0, 0)) (by (with_reducible repeat (first | refine blk_drewN ?_ _ | refine blk_drew ?_ | refine blk_alloc ?_ _)); exact BK546.out)) : gb548 ≠ gb546)); clear BK543; clear BK546; clear HB; have BK543 := n0_; have BK546 := n1_; have HB := n2_; have BK548 := n3_; have GW548 := n4_; have GE548 := n5_; have NB543_548 := n6_; have NB548_543 := n7_; have NB546_548 := n8_; have NB548_546 := n9_; clear n0_ n1_ n2_ n3_ n4_ n5_ n6_ n7_ n8_ n9_; clear hb hbox hg; have hnb41 := NB548_543.out; have hnc41 := NB543_548.out; have hnb42 := NB548_546.out; have hnc42 := NB546_548.out; have hcz43_0 : w40.cell? ⟨gb548, 0, none⟩ = some (.int .u32 0) := (blk_cell BK548.out 0).trans rfl; have hcz43_1 : w40.cell? ⟨gb548, 1, none⟩ = some (.int .u32 0) := (blk_cell BK548.out 1).trans rfl; have hcz43_2 : w40.cell? ⟨gb548, 2, none⟩ = some (.slice none 0 0) := (blk_cell BK548.out 2).trans rfl; have hfz43_0 := blk_frozen BK548.out 0; have hfz43_1 := blk_frozen BK548.out 1; have hfz43_2 := blk_frozen BK548.out 2; have hcz44_0 : w40.cell? ⟨gb546, 0, none⟩ = some (.int .u32 ((rd_T127 l0_0 x3_1).f0)) := (blk_cell BK546.out 0).trans rfl; have hcz44_1 : w40.cell? ⟨gb546, 1, none⟩ = some (.int .u32 ((rd_T127 l0_0 x3_1).f1)) := (blk_cell BK546.out 1).trans rfl; have hcz44_2 : w40.cell? ⟨gb546, 2, none⟩ = some (.slice A545_2 ((rd_T127 l0_0 x3_1).f2).length c545_2) := (blk_cell BK546.out 2).trans rfl; have hfz44_0 := blk_frozen BK546.out 0; have hfz44_1 := blk_frozen BK546.out 1; have hfz44_2 := blk_frozen BK546.out 2))
                              go_meet
                              case rel => exact ⟨_, H', ⟨by have := HK1.out; have := HJ4.out; first | omega | exact Nat.le_refl _⟩, ⟨by (with_reducible repeat (first | refine blk_drewN ?_ _ | refine blk_drew ?_ | refine blk_alloc ?_ _)); refine blk_far ?_ NB543_548.out _; (with_reducible repeat (first | refine blk_drewN ?_ _ | refine blk_drew ?_ | refine blk_alloc ?_ _)); refine blk_far ?_ NB543_548.out _; (with_reducible repeat (first | refine blk_drewN ?_ _ | refine blk_drew ?_ | refine blk_alloc ?_ _)); refine blk_far ?_ NB543_548.out _; (with_reducible repeat (first | refine blk_drewN ?_ _ | refine blk_drew ?_ | refine blk_alloc ?_ _)); exact BK543.out⟩, ⟨by (with_reducible repeat (first | refine blk_drewN ?_ _ | refine blk_drew ?_ | refine blk_alloc ?_ _)); refine blk_far ?_ NB546_548.out _; (with_reducible repeat (first | refine blk_drewN ?_ _ | refine blk_drew ?_ | refine blk_alloc ?_ _)); refine blk_far ?_ NB546_548.out _; (with_reducible repeat (first | refine blk_drewN ?_ _ | refine blk_drew ?_ | refine blk_alloc ?_ _)); refine blk_far ?_ NB546_548.out _; (with_reducible repeat (first | refine blk_drewN ?_ _ | refine blk_drew ?_ | refine blk_alloc ?_ _)); exact BK546.out⟩, ⟨by repeat (first | (with_reducible first | exact HB.out | apply below_alloc | apply pw_below_drewN | apply below_drew1 | refine below_set ?_ GE543.out | refine below_set ?_ GE546.out | refine below_set ?_ GE548.out) | exact HB.out)⟩⟩
                          · rw [if_neg c29] at H
                            have c29b0 : (((rd_T127 l0_0 (ji18)).f0) == ((rd_T127 l0_0 x3_1).f0)) = false := beq_eq_false_iff_ne.mpr c29
                            have c29b1 : (((rd_T127 l0_0 (ji18)).f0) != ((rd_T127 l0_0 x3_1).f0)) = true := bne_iff_ne.mpr c29
                            have H' := Aside0.mk H
                            clear H
                            have hnb45 := NB543_546.out
                            have hnc45 := NB546_543.out
                            have hcz46_0 : wc.cell? ⟨gb543, 0, none⟩ = some (.slice (some ad545) l0_0.length c0_0) := (blk_cell BK543.out 0).trans rfl
                            have hfz46_0 := blk_frozen BK543.out 0
                            have p547 : 0 ≤ ((ji18) : Int) := of_decide_eq_true (by first | (with_reducible assumption) | assumption)
                            have q547 : (ji18) < (l0_0.length : Int) := of_decide_eq_true (by first | (with_reducible assumption) | assumption)
                            obtain ⟨ad547, A547_2, c547_2, e547, hx547_0, hx547_1, hx547_2, hl547_2, hi547_2⟩ := at_T127 HR0_0.out (ji18) p547 q547
                            obtain rfl : ad545 = ad547 := (by injection e547)
                            replace hx547_0 := (HB.out.cell (World.block_lt_of_cell? w _ hx547_0)).trans hx547_0
                            replace hx547_1 := (HB.out.cell (World.block_lt_of_cell? w _ hx547_1)).trans hx547_1
                            replace hx547_2 := (HB.out.cell (World.block_lt_of_cell? w _ hx547_2)).trans hx547_2
                            have HR547_2 := Aside0.mk hi547_2
                            have HC547_2 := Aside0.mk hl547_2
                            clear hi547_2 hl547_2
                            replace p547 := eq_true p547
                            replace q547 := eq_true q547
                            go_wp2_with (first | ((with_reducible refine gate_dst (N := 5) rfl ?_); (try (refine gate_guard (by rfl) ?_; dsimp only)); refine box_event ?hg (N := 5) ?hd (cs := #[.int .u32 0, .int .u32 0, .slice none 0 0]) (t := 127) ?hr ?_; (case hd => rfl); (case hg => rfl); (case hr => first | (go_simp; done) | (go_simp; rfl)); intro gb548 hg w47 hbox hb; have n0_ := Aside0.mk (blk_below (g := gb543) (o := .cells #[.slice (some ad545) l0_0.length c0_0] 64 (0, 0)) (by (with_reducible repeat (first | refine blk_drewN ?_ _ | refine blk_drew ?_ | refine blk_alloc ?_ _)); exact BK543.out) hb); have n1_ := Aside0.mk (blk_below (g := gb546) (o := .cells #[.int .u32 ((rd_T127 l0_0 x3_1).f0), .int .u32 ((rd_T127 l0_0 x3_1).f1), .slice A545_2 ((rd_T127 l0_0 x3_1).f2).length c545_2] 127 (0, 0)) (by (with_reducible repeat (first | refine blk_drewN ?_ _ | refine blk_drew ?_ | refine blk_alloc ?_ _)); exact BK546.out) hb); have n2_ := Aside0.mk (below_step (by repeat (first | (with_reducible first | exact HB.out | apply below_alloc | apply pw_below_drewN | apply below_drew1 | refine below_set ?_ GE543.out | refine below_set ?_ GE546.out) | exact HB.out)) hb); have n3_ := Aside0.mk (hbox); have n4_ := Aside0.mk ((by rw [hg]; exact (below_size (by repeat (first | (with_reducible first | exact HB.out | apply below_alloc | apply pw_below_drewN | apply below_drew1 | refine below_set ?_ GE543.out | refine below_set ?_ GE546.out) | exact HB.out))) : w.heap.size ≤ gb548)); have n5_ := Aside0.mk ((by rw [hg]; exact (below_size (by repeat (first | (with_reducible first | exact HB.out | apply below_alloc | apply pw_below_drewN | apply below_drew1 | refine below_set ?_ GE543.out | refine below_set ?_ GE546.out) | exact HB.out))) : w.heap.size ≤ gb548)); have n6_ := Aside0.mk ((by rw [hg]; exact Nat.ne_of_lt (blk_lt (g := gb543) (o := .cells #[.slice (some ad545) l0_0.length c0_0] 64 (0, 0)) (by (with_reducible repeat (first | refine blk_drewN ?_ _ | refine blk_drew ?_ | refine blk_alloc ?_ _)); exact BK543.out)) : gb543 ≠ gb548)); have n7_ := Aside0.mk ((by rw [hg]; exact Nat.ne_of_gt (blk_lt (g := gb543) (o := .cells #[.slice (some ad545) l0_0.length c0_0] 64 (0, 0)) (by (with_reducible repeat (first | refine blk_drewN ?_ _ | refine blk_drew ?_ | refine blk_alloc ?_ _)); exact BK543.out)) : gb548 ≠ gb543)); have n8_ := Aside0.mk ((by rw [hg]; exact Nat.ne_of_lt (blk_lt (g := gb546) (o := .cells #[.int .u32 ((rd_T127 l0_0 x3_1).f0), .int .u32 ((rd_T127 l0_0 x3_1).f1), .slice A545_2 ((rd_T127 l0_0 x3_1).f2).length c545_2] 127 (0, 0)) (by (with_reducible repeat (first | refine blk_drewN ?_ _ | refine blk_drew ?_ | refine blk_alloc ?_ _)); exact BK546.out)) : gb546 ≠ gb548)); have n9_ := Aside0.mk ((by rw [hg]; exact Nat.ne_of_gt (blk_lt (g := gb546) (o := .cells #[.int .u32 ((rd_T127 l0_0 x3_1).f0), .int .u32 ((rd_T127 l0_0 x3_1).f1), .slice A545_2 ((rd_T127 l0_0 x3_1).f2).length c545_2] 127 (0, 0)) (by (with_reducible repeat (first | refine blk_drewN ?_ _ | refine blk_drew ?_ | refine blk_alloc ?_ _)); exact BK546.out)) : gb548 ≠ gb546)); clear BK543; clear BK546; clear HB; have BK543 := n0_; have BK546 := n1_; have HB := n2_; have BK548 := n3_; have GW548 := n4_; have GE548 := n5_; have NB543_548 := n6_; have NB548_543 := n7_; have NB546_548 := n8_; have NB548_546 := n9_; clear n0_ n1_ n2_ n3_ n4_ n5_ n6_ n7_ n8_ n9_; clear hb hbox hg; have hnb48 := NB548_543.out; have hnc48 := NB543_548.out; have hnb49 := NB548_546.out; have hnc49 := NB546_548.out; have hcz50_0 : w47.cell? ⟨gb548, 0, none⟩ = some (.int .u32 0) := (blk_cell BK548.out 0).trans rfl; have hcz50_1 : w47.cell? ⟨gb548, 1, none⟩ = some (.int .u32 0) := (blk_cell BK548.out 1).trans rfl; have hcz50_2 : w47.cell? ⟨gb548, 2, none⟩ = some (.slice none 0 0) := (blk_cell BK548.out 2).trans rfl; have hfz50_0 := blk_frozen BK548.out 0; have hfz50_1 := blk_frozen BK548.out 1; have hfz50_2 := blk_frozen BK548.out 2; have hcz51_0 : w47.cell? ⟨gb546, 0, none⟩ = some (.int .u32 ((rd_T127 l0_0 x3_1).f0)) := (blk_cell BK546.out 0).trans rfl; have hcz51_1 : w47.cell? ⟨gb546, 1, none⟩ = some (.int .u32 ((rd_T127 l0_0 x3_1).f1)) := (blk_cell BK546.out 1).trans rfl; have hcz51_2 : w47.cell? ⟨gb546, 2, none⟩ = some (.slice A545_2 ((rd_T127 l0_0 x3_1).f2).length c545_2) := (blk_cell BK546.out 2).trans rfl; have hfz51_0 := blk_frozen BK546.out 0; have hfz51_1 := blk_frozen BK546.out 1; have hfz51_2 := blk_frozen BK546.out 2))
                            go_meet
                            case rel => exact ⟨_, H', ⟨by have := HK1.out; have := HJ4.out; first | omega | exact Nat.le_refl _⟩, ⟨by (with_reducible repeat (first | refine blk_drewN ?_ _ | refine blk_drew ?_ | refine blk_alloc ?_ _)); refine blk_far ?_ NB543_548.out _; (with_reducible repeat (first | refine blk_drewN ?_ _ | refine blk_drew ?_ | refine blk_alloc ?_ _)); refine blk_far ?_ NB543_548.out _; (with_reducible repeat (first | refine blk_drewN ?_ _ | refine blk_drew ?_ | refine blk_alloc ?_ _)); refine blk_far ?_ NB543_548.out _; (with_reducible repeat (first | refine blk_drewN ?_ _ | refine blk_drew ?_ | refine blk_alloc ?_ _)); exact BK543.out⟩, ⟨by (with_reducible repeat (first | refine blk_drewN ?_ _ | refine blk_drew ?_ | refine blk_alloc ?_ _)); refine blk_far ?_ NB546_548.out _; (with_reducible repeat (first | refine blk_drewN ?_ _ | refine blk_drew ?_ | refine blk_alloc ?_ _)); refine blk_far ?_ NB546_548.out _; (with_reducible repeat (first | refine blk_drewN ?_ _ | refine blk_drew ?_ | refine blk_alloc ?_ _)); refine blk_far ?_ NB546_548.out _; (with_reducible repeat (first | refine blk_drewN ?_ _ | refine blk_drew ?_ | refine blk_alloc ?_ _)); exact BK546.out⟩, ⟨by repeat (first | (with_reducible first | exact HB.out | apply below_alloc | apply pw_below_drewN | apply below_drew1 | refine below_set ?_ GE543.out | refine below_set ?_ GE546.out | refine below_set ?_ GE548.out) | exact HB.out)⟩⟩
                      · rw [if_neg c20] at H
                        exact absurd H (by simp)
                    · rw [if_neg c19] at H
                      exact absurd H (by simp)
                  · rw [if_neg c17] at H
                    have c17b0 : decide (0 < x3_1) = false := decide_eq_false c17
                    clear c17
                    (first | rw [c17b0] | (simp only [i64_w, i32_w]; rw [c17b0]) | skip)
                    have H' := Aside0.mk H
                    clear H
                    go_wp2
                    go_meet
                    case rel => exact ⟨_, H', ⟨by have := HK1.out; have := HJ4.out; first | omega | exact Nat.le_refl _⟩, ⟨by (with_reducible repeat (first | refine blk_drewN ?_ _ | refine blk_drew ?_ | refine blk_alloc ?_ _)); exact BK543.out⟩, ⟨by (with_reducible repeat (first | refine blk_drewN ?_ _ | refine blk_drew ?_ | refine blk_alloc ?_ _)); exact BK546.out⟩, ⟨by repeat (first | (with_reducible first | exact HB.out | apply below_alloc | apply pw_below_drewN | apply below_drew1 | refine below_set ?_ GE543.out | refine below_set ?_ GE546.out) | exact HB.out)⟩⟩
                case rest =>
                  clear HC16
                  try clear c1
                  try clear c2
                  try clear p2
                  try clear c3
                  try clear c3b0
                  try clear c4
                  try clear c4b0
                  try clear c5
                  try clear p5
                  try clear q5
                  try clear hx5
                  try clear p6
                  try clear c8
                  try clear c10
                  try clear c10b0
                  try clear c10b1
                  try clear c11
                  try clear c13
                  try clear c15
                  try clear c17
                  try clear c17b0
                  try clear c19
                  try clear c19b0
                  try clear c20
                  try clear c20b0
                  try clear c21
                  try clear c21b0
                  try clear c22
                  try clear c25
                  try clear c26
                  try clear c29
                  try clear c29b0
                  try clear c29b1
                  try clear c30
                  try clear c30b0
                  try clear c31
                  try clear c34
                  try clear c35
                  try clear c38
                  try clear c39
                  try clear c41
                  try clear c42
                  try clear c45
                  try clear c48
                  try clear c49
                  try clear hcz12_0
                  try clear hcz12_1
                  try clear hcz12_2
                  try clear hcz14_0
                  try clear hcz14_1
                  try clear hcz14_2
                  try clear hcz23_0
                  try clear hcz27_0
                  try clear hcz27_1
                  try clear hcz27_2
                  try clear hcz28_0
                  try clear hcz28_1
                  try clear hcz28_2
                  try clear hcz32_0
                  try clear hcz36_0
                  try clear hcz36_1
                  try clear hcz36_2
                  try clear hcz37_0
                  try clear hcz37_1
                  try clear hcz37_2
                  try clear hcz39_0
                  try clear hcz43_0
                  try clear hcz43_1
                  try clear hcz43_2
                  try clear hcz44_0
                  try clear hcz44_1
                  try clear hcz44_2
                  try clear hcz46_0
                  try clear hcz50_0
                  try clear hcz50_1
                  try clear hcz50_2
                  try clear hcz51_0
                  try clear hcz51_1
                  try clear hcz51_2
                  try clear hcz6_0
                  try clear hcz9_0
                  try clear hcz9_1
                  try clear hcz9_2
                  try clear hfz12_0
                  try clear hfz12_1
                  try clear hfz12_2
                  try clear hfz14_0
                  try clear hfz14_1
                  try clear hfz14_2
                  try clear hfz23_0
                  try clear hfz27_0
                  try clear hfz27_1
                  try clear hfz27_2
                  try clear hfz28_0
                  try clear hfz28_1
                  try clear hfz28_2
                  try clear hfz32_0
                  try clear hfz36_0
                  try clear hfz36_1
                  try clear hfz36_2
                  try clear hfz37_0
                  try clear hfz37_1
                  try clear hfz37_2
                  try clear hfz39_0
                  try clear hfz43_0
                  try clear hfz43_1
                  try clear hfz43_2
                  try clear hfz44_0
                  try clear hfz44_1
                  try clear hfz44_2
                  try clear hfz46_0
                  try clear hfz50_0
                  try clear hfz50_1
                  try clear hfz50_2
                  try clear hfz51_0
                  try clear hfz51_1
                  try clear hfz51_2
                  try clear hfz6_0
                  try clear hfz9_0
                  try clear hfz9_1
                  try clear hfz9_2
                  try clear hx545_0
                  try clear hx545_1
                  try clear hx545_2
                  try clear hx547_0
                  try clear hx547_1
                  try clear hx547_2
                  try clear p2
                  try clear p5
                  try clear p545
                  try clear p547
                  try clear q5
                  try clear q545
                  try clear q547
                  obtain ⟨kq, HA, HJ15, BK543, BK546, HB⟩ := hcut
                  cases kq with
                  | zero => exact absurd HA.out (by simp [spec_ValidPolicy.j2])
                  | succ kj15 =>
                    have H := HA.out
                    clear HA
                    simp only [spec_ValidPolicy.j2] at H
                    have H' := Aside0.mk H
                    clear H
                    go_wp2
                    go_loopg [6] kj15 (fun kq v6 w' => ∃ (x6_4 : Int), v6 = .int .i64 x6_4 ∧ Aside0 (spec_ValidPolicy.l1 kq x3_1 x6_4 l0_0 ((rd_T127 l0_0 x3_1).f0) ((rd_T127 l0_0 x3_1).f1) ((rd_T127 l0_0 x3_1).f2) = some r) ∧ Aside0 (kq ≤ kj15) ∧ Aside0 (w'.heap[gb543]? = some (.cells #[(.slice (some ad545) l0_0.length c0_0)] 64 (0, 0))) ∧ Aside0 (w'.heap[gb546]? = some (.cells #[.int .u32 ((rd_T127 l0_0 x3_1).f0), .int .u32 ((rd_T127 l0_0 x3_1).f1), (.slice A545_2 ((rd_T127 l0_0 x3_1).f2).length c545_2)] 127 (0, 0))) ∧ Aside0 (Below w.heap.size w w'))
                    case atStart => exact ⟨(0), (by first | rfl | (simp; done) | (simp [*]; done)), H', ⟨Nat.le_refl _⟩, ⟨by (with_reducible repeat (first | refine blk_drewN ?_ _ | refine blk_drew ?_ | refine blk_alloc ?_ _)); exact BK543.out⟩, ⟨by (with_reducible repeat (first | refine blk_drewN ?_ _ | refine blk_drew ?_ | refine blk_alloc ?_ _)); exact BK546.out⟩, ⟨by repeat (first | (with_reducible first | exact HB.out | apply below_alloc | apply pw_below_drewN | apply below_drew1 | refine below_set ?_ GE543.out | refine below_set ?_ GE546.out) | exact HB.out)⟩⟩
                    case round =>
                      clear H'
                      try clear c1
                      try clear c2
                      try clear p2
                      try clear c3
                      try clear c3b0
                      try clear c4
                      try clear c4b0
                      try clear c5
                      try clear p5
                      try clear q5
                      try clear hx5
                      try clear p6
                      try clear c8
                      try clear c10
                      try clear c10b0
                      try clear c10b1
                      try clear c11
                      try clear c13
                      try clear c15
                      try clear c17
                      try clear c17b0
                      try clear c19
                      try clear c19b0
                      try clear c20
                      try clear c20b0
                      try clear c21
                      try clear c21b0
                      try clear c22
                      try clear c25
                      try clear c26
                      try clear c29
                      try clear c29b0
                      try clear c29b1
                      try clear c30
                      try clear c30b0
                      try clear c31
                      try clear c34
                      try clear c35
                      try clear c38
                      try clear c39
                      try clear c41
                      try clear c42
                      try clear c45
                      try clear c48
                      try clear c49
                      try clear hcz12_0
                      try clear hcz12_1
                      try clear hcz12_2
                      try clear hcz14_0
                      try clear hcz14_1
                      try clear hcz14_2
                      try clear hcz23_0
                      try clear hcz27_0
                      try clear hcz27_1
                      try clear hcz27_2
                      try clear hcz28_0
                      try clear hcz28_1
                      try clear hcz28_2
                      try clear hcz32_0
                      try clear hcz36_0
                      try clear hcz36_1
                      try clear hcz36_2
                      try clear hcz37_0
                      try clear hcz37_1
                      try clear hcz37_2
                      try clear hcz39_0
                      try clear hcz43_0
                      try clear hcz43_1
                      try clear hcz43_2
                      try clear hcz44_0
                      try clear hcz44_1
                      try clear hcz44_2
                      try clear hcz46_0
                      try clear hcz50_0
                      try clear hcz50_1
                      try clear hcz50_2
                      try clear hcz51_0
                      try clear hcz51_1
                      try clear hcz51_2
                      try clear hcz6_0
                      try clear hcz9_0
                      try clear hcz9_1
                      try clear hcz9_2
                      try clear hfz12_0
                      try clear hfz12_1
                      try clear hfz12_2
                      try clear hfz14_0
                      try clear hfz14_1
                      try clear hfz14_2
                      try clear hfz23_0
                      try clear hfz27_0
                      try clear hfz27_1
                      try clear hfz27_2
                      try clear hfz28_0
                      try clear hfz28_1
                      try clear hfz28_2
                      try clear hfz32_0
                      try clear hfz36_0
                      try clear hfz36_1
                      try clear hfz36_2
                      try clear hfz37_0
                      try clear hfz37_1
                      try clear hfz37_2
                      try clear hfz39_0
                      try clear hfz43_0
                      try clear hfz43_1
                      try clear hfz43_2
                      try clear hfz44_0
                      try clear hfz44_1
                      try clear hfz44_2
                      try clear hfz46_0
                      try clear hfz50_0
                      try clear hfz50_1
                      try clear hfz50_2
                      try clear hfz51_0
                      try clear hfz51_1
                      try clear hfz51_2
                      try clear hfz6_0
                      try clear hfz9_0
                      try clear hfz9_1
                      try clear hfz9_2
                      try clear hx545_0
                      try clear hx545_1
                      try clear hx545_2
                      try clear hx547_0
                      try clear hx547_1
                      try clear hx547_2
                      try clear p2
                      try clear p5
                      try clear p545
                      try clear p547
                      try clear p6
                      try clear q5
                      try clear q545
                      try clear q547
                      obtain ⟨x6_4, rfl, HA, HK4, BK543, BK546, HB⟩ := hrel
                      cases gk with
                      | zero => exact absurd HA.out (by simp [spec_ValidPolicy.l1])
                      | succ k4 =>
                        have H := HA.out
                        clear HA
                        simp only [spec_ValidPolicy.l1] at H
                        by_cases c52 : x6_4 < (((rd_T127 l0_0 x3_1).f2).length : Int)
                        · rw [if_pos c52] at H
                          have c52b0 : decide (x6_4 < (((rd_T127 l0_0 x3_1).f2).length : Int)) = true := decide_eq_true c52
                          clear c52
                          by_cases c53 : 0 ≤ x6_4
                          · rw [if_pos c53] at H
                            have c53b0 : decide (0 ≤ x6_4) = true := decide_eq_true c53
                            clear c53
                            replace H := Option.bind_eq_some_iff.mp H
                            obtain ⟨t550, A540, H⟩ := H
                            replace H : (if t550 = true then (spec_ValidPolicy.l1 k4 x3_1 (wrap64 (x6_4 + 1)) l0_0 ((rd_T127 l0_0 x3_1).f0) ((rd_T127 l0_0 x3_1).f1) ((rd_T127 l0_0 x3_1).f2)) else (some false)) = some r := H
                            have A54 := Aside0.mk A540
                            clear A540
                            by_cases c55 : t550 = true
                            · subst c55
                              have H1 : (spec_ValidPolicy.l1 k4 x3_1 (wrap64 (x6_4 + 1)) l0_0 ((rd_T127 l0_0 x3_1).f0) ((rd_T127 l0_0 x3_1).f1) ((rd_T127 l0_0 x3_1).f2)) = some r := by rw [if_pos rfl] at H; exact H
                              clear H
                              have H := H1
                              clear H1
                              have H' := Aside0.mk H
                              clear H
                              have hnb56 := NB546_543.out
                              have hnc56 := NB543_546.out
                              have hcz57_0 : wr.cell? ⟨gb546, 0, none⟩ = some (.int .u32 ((rd_T127 l0_0 x3_1).f0)) := (blk_cell BK546.out 0).trans rfl
                              have hcz57_1 : wr.cell? ⟨gb546, 1, none⟩ = some (.int .u32 ((rd_T127 l0_0 x3_1).f1)) := (blk_cell BK546.out 1).trans rfl
                              have hcz57_2 : wr.cell? ⟨gb546, 2, none⟩ = some (.slice A545_2 ((rd_T127 l0_0 x3_1).f2).length c545_2) := (blk_cell BK546.out 2).trans rfl
                              have hfz57_0 := blk_frozen BK546.out 0
                              have hfz57_1 := blk_frozen BK546.out 1
                              have hfz57_2 := blk_frozen BK546.out 2
                              have p549 : 0 ≤ (x6_4 : Int) := of_decide_eq_true (by first | (with_reducible assumption) | assumption)
                              have q549 : x6_4 < (((rd_T127 l0_0 x3_1).f2).length : Int) := of_decide_eq_true (by first | (with_reducible assumption) | assumption)
                              obtain ⟨ad549, A549_0, c549_0, e549, hx549_0, hl549_0, hi549_0⟩ := at_T131 HR545_2.out x6_4 p549 q549
                              cases e549
                              replace hx549_0 := (HB.out.cell (World.block_lt_of_cell? w _ hx549_0)).trans hx549_0
                              have HR549_0 := Aside0.mk hi549_0
                              have HC549_0 := Aside0.mk hl549_0
                              clear hi549_0 hl549_0
                              replace p549 := eq_true p549
                              replace q549 := eq_true q549
                              go_wp2_with (first | ((with_reducible refine gate_callee (f := 89) rfl ?_); refine goesL_ (some 68) rfl rfl Try.func89 (by kernel_rfl) rfl #[.agg #[.slice A549_0 ((rd_T131 ((rd_T127 l0_0 x3_1).f2) x6_4).f0).length c549_0]] rfl (by (try simp only [List.map_toArray, List.map_cons, List.map_nil]); first | done | rfl | (simp only [List.length_drop, List.length_take]; rfl)) ?_; (with_reducible refine (spec_l3ruleOK.calls k4 _ _ ((rd_T131 ((rd_T127 l0_0 x3_1).f2) x6_4).f0) true _ ?side1 ?side2 A54.out).mono ?_); (case side1 => repeat (first | exact (Kd.C_below HR549_0.out HB.out) | (with_reducible refine Kd.C_alloc ?_ _) | (with_reducible refine Kd.C_drewN ?_ _) | (with_reducible refine Kd.C_drew ?_))); (case side2 => exact HC549_0.out); rintro e w58 ⟨rfl, hb⟩; refine ⟨_, rfl, ?_⟩; have n0_ := Aside0.mk (blk_below (g := gb543) (o := .cells #[.slice (some ad545) l0_0.length c0_0] 64 (0, 0)) (by (with_reducible repeat (first | refine blk_drewN ?_ _ | refine blk_drew ?_ | refine blk_alloc ?_ _)); exact BK543.out) hb); have n1_ := Aside0.mk (blk_below (g := gb546) (o := .cells #[.int .u32 ((rd_T127 l0_0 x3_1).f0), .int .u32 ((rd_T127 l0_0 x3_1).f1), .slice (some ad549) ((rd_T127 l0_0 x3_1).f2).length c545_2] 127 (0, 0)) (by (with_reducible repeat (first | refine blk_drewN ?_ _ | refine blk_drew ?_ | refine blk_alloc ?_ _)); exact BK546.out) hb); have n2_ := Aside0.mk (below_step (by repeat (first | (with_reducible first | exact HB.out | apply below_alloc | apply pw_below_drewN | apply below_drew1 | refine below_set ?_ GE543.out | refine below_set ?_ GE546.out) | exact HB.out)) hb); clear BK543; clear BK546; clear HB; have BK543 := n0_; have BK546 := n1_; have HB := n2_; clear n0_ n1_ n2_; (try clear hb); (try clear hb2); (try clear hk); (try clear hi)))
                              go_roundg k4
                              case measure => have := HK1.out; have := HJ4.out; have := HJ15.out; have := HK4.out; omega
                              case rel => exact ⟨(wrap64 (x6_4 + 1)), (by first | rfl | (simp; done) | (simp [*]; done)), H', ⟨by have := HK1.out; have := HJ4.out; have := HJ15.out; have := HK4.out; omega⟩, ⟨by (with_reducible repeat (first | refine blk_drewN ?_ _ | refine blk_drew ?_ | refine blk_alloc ?_ _)); exact BK543.out⟩, ⟨by (with_reducible repeat (first | refine blk_drewN ?_ _ | refine blk_drew ?_ | refine blk_alloc ?_ _)); exact BK546.out⟩, ⟨by repeat (first | (with_reducible first | exact HB.out | apply below_alloc | apply pw_below_drewN | apply below_drew1 | refine below_set ?_ GE543.out | refine below_set ?_ GE546.out) | exact HB.out)⟩⟩
                            · replace c55 := Bool.eq_false_iff.mpr c55
                              subst c55
                              have H1 : (some false) = some r := by rw [if_neg (show ¬ (false = true) by decide)] at H; exact H
                              clear H
                              have H := H1
                              clear H1
                              obtain rfl := Option.some.inj H
                              have hnb59 := NB546_543.out
                              have hnc59 := NB543_546.out
                              have hcz60_0 : wr.cell? ⟨gb546, 0, none⟩ = some (.int .u32 ((rd_T127 l0_0 x3_1).f0)) := (blk_cell BK546.out 0).trans rfl
                              have hcz60_1 : wr.cell? ⟨gb546, 1, none⟩ = some (.int .u32 ((rd_T127 l0_0 x3_1).f1)) := (blk_cell BK546.out 1).trans rfl
                              have hcz60_2 : wr.cell? ⟨gb546, 2, none⟩ = some (.slice A545_2 ((rd_T127 l0_0 x3_1).f2).length c545_2) := (blk_cell BK546.out 2).trans rfl
                              have hfz60_0 := blk_frozen BK546.out 0
                              have hfz60_1 := blk_frozen BK546.out 1
                              have hfz60_2 := blk_frozen BK546.out 2
                              have p549 : 0 ≤ (x6_4 : Int) := of_decide_eq_true (by first | (with_reducible assumption) | assumption)
                              have q549 : x6_4 < (((rd_T127 l0_0 x3_1).f2).length : Int) := of_decide_eq_true (by first | (with_reducible assumption) | assumption)
                              obtain ⟨ad549, A549_0, c549_0, e549, hx549_0, hl549_0, hi549_0⟩ := at_T131 HR545_2.out x6_4 p549 q549
                              cases e549
                              replace hx549_0 := (HB.out.cell (World.block_lt_of_cell? w _ hx549_0)).trans hx549_0
                              have HR549_0 := Aside0.mk hi549_0
                              have HC549_0 := Aside0.mk hl549_0
                              clear hi549_0 hl549_0
                              replace p549 := eq_true p549
                              replace q549 := eq_true q549
                              go_wp2_with (first | ((with_reducible refine gate_callee (f := 89) rfl ?_); refine goesL_ (some 68) rfl rfl Try.func89 (by kernel_rfl) rfl #[.agg #[.slice A549_0 ((rd_T131 ((rd_T127 l0_0 x3_1).f2) x6_4).f0).length c549_0]] rfl (by (try simp only [List.map_toArray, List.map_cons, List.map_nil]); first | done | rfl | (simp only [List.length_drop, List.length_take]; rfl)) ?_; (with_reducible refine (spec_l3ruleOK.calls k4 _ _ ((rd_T131 ((rd_T127 l0_0 x3_1).f2) x6_4).f0) false _ ?side1 ?side2 A54.out).mono ?_); (case side1 => repeat (first | exact (Kd.C_below HR549_0.out HB.out) | (with_reducible refine Kd.C_alloc ?_ _) | (with_reducible refine Kd.C_drewN ?_ _) | (with_reducible refine Kd.C_drew ?_))); (case side2 => exact HC549_0.out); rintro e w61 ⟨rfl, hb⟩; refine ⟨_, rfl, ?_⟩; have n0_ := Aside0.mk (blk_below (g := gb543) (o := .cells #[.slice (some ad545) l0_0.length c0_0] 64 (0, 0)) (by (with_reducible repeat (first | refine blk_drewN ?_ _ | refine blk_drew ?_ | refine blk_alloc ?_ _)); exact BK543.out) hb); have n1_ := Aside0.mk (blk_below (g := gb546) (o := .cells #[.int .u32 ((rd_T127 l0_0 x3_1).f0), .int .u32 ((rd_T127 l0_0 x3_1).f1), .slice (some ad549) ((rd_T127 l0_0 x3_1).f2).length c545_2] 127 (0, 0)) (by (with_reducible repeat (first | refine blk_drewN ?_ _ | refine blk_drew ?_ | refine blk_alloc ?_ _)); exact BK546.out) hb); have n2_ := Aside0.mk (below_step (by repeat (first | (with_reducible first | exact HB.out | apply below_alloc | apply pw_below_drewN | apply below_drew1 | refine below_set ?_ GE543.out | refine below_set ?_ GE546.out) | exact HB.out)) hb); clear BK543; clear BK546; clear HB; have BK543 := n0_; have BK546 := n1_; have HB := n2_; clear n0_ n1_ n2_; (try clear hb); (try clear hb2); (try clear hk); (try clear hi)))
                              go_ret
                              exact ⟨by first | rfl | (simp [errW_none, errW_some] <;> rfl) | (simp [*, errW_none, errW_some] <;> rfl), by repeat (first | (with_reducible first | exact HB.out | apply below_alloc | apply pw_below_drewN | apply below_drew1 | refine below_set ?_ GE543.out | refine below_set ?_ GE546.out) | exact HB.out)⟩
                          · rw [if_neg c53] at H
                            exact absurd H (by simp)
                        · rw [if_neg c52] at H
                          have c52b0 : decide (x6_4 < (((rd_T127 l0_0 x3_1).f2).length : Int)) = false := decide_eq_false c52
                          clear c52
                          have H' := Aside0.mk H
                          clear H
                          have hnb62 := NB546_543.out
                          have hnc62 := NB543_546.out
                          have hcz63_0 : wr.cell? ⟨gb546, 0, none⟩ = some (.int .u32 ((rd_T127 l0_0 x3_1).f0)) := (blk_cell BK546.out 0).trans rfl
                          have hcz63_1 : wr.cell? ⟨gb546, 1, none⟩ = some (.int .u32 ((rd_T127 l0_0 x3_1).f1)) := (blk_cell BK546.out 1).trans rfl
                          have hcz63_2 : wr.cell? ⟨gb546, 2, none⟩ = some (.slice A545_2 ((rd_T127 l0_0 x3_1).f2).length c545_2) := (blk_cell BK546.out 2).trans rfl
                          have hfz63_0 := blk_frozen BK546.out 0
                          have hfz63_1 := blk_frozen BK546.out 1
                          have hfz63_2 := blk_frozen BK546.out 2
                          go_wp2
                          go_roundg k4
                          case measure => have := HK1.out; have := HJ4.out; have := HJ15.out; have := HK4.out; omega
                          case rel => exact ⟨(wrap64 (x3_1 + 1)), (by first | rfl | (simp; done) | (simp [*]; done)), H', ⟨by have := HK1.out; have := HJ4.out; have := HJ15.out; have := HK4.out; omega⟩, ⟨by (with_reducible repeat (first | refine blk_drewN ?_ _ | refine blk_drew ?_ | refine blk_alloc ?_ _)); exact BK543.out⟩, ⟨by repeat (first | (with_reducible first | exact HB.out | apply below_alloc | apply pw_below_drewN | apply below_drew1 | refine below_set ?_ GE543.out | refine below_set ?_ GE546.out) | exact HB.out)⟩⟩
        · rw [if_neg c4] at H
          exact absurd H (by simp)
      · rw [if_neg c3] at H
        have c3b0 : decide (x3_1 < (l0_0.length : Int)) = false := decide_eq_false c3
        clear c3
        replace H := Option.bind_eq_some_iff.mp H
        obtain ⟨t544, A640, H⟩ := H
        replace H : (some (decide (t544 ≤ 1000))) = some r := H
        have A64 := Aside0.mk A640
        clear A640
        obtain rfl := Option.some.inj H
        have hcz65_0 : wr.cell? ⟨gb543, 0, none⟩ = some (.slice A0_0 l0_0.length c0_0) := (blk_cell BK543.out 0).trans rfl
        have hfz65_0 := blk_frozen BK543.out 0
        go_wp2_with (first | ((with_reducible refine gate_callee (f := 90) rfl ?_); refine goesL_ (some 71) rfl rfl Try.func90 (by kernel_rfl) rfl #[.agg #[.slice A0_0 l0_0.length c0_0]] rfl (by (try simp only [List.map_toArray, List.map_cons, List.map_nil]); first | done | rfl | (simp only [List.length_drop, List.length_take]; rfl)) ?_; (with_reducible refine (spec_l3rules.calls k1 _ _ l0_0 t544 _ ?side1 ?side2 A64.out).mono ?_); (case side1 => repeat (first | exact (Kd.C_below HR0_0.out HB.out) | (with_reducible refine Kd.C_alloc ?_ _) | (with_reducible refine Kd.C_drewN ?_ _) | (with_reducible refine Kd.C_drew ?_))); (case side2 => exact HC0_0.out); rintro e w66 ⟨rfl, hb⟩; refine ⟨_, rfl, ?_⟩; have n0_ := Aside0.mk (blk_below (g := gb543) (o := .cells #[.slice A0_0 l0_0.length c0_0] 64 (0, 0)) (by (with_reducible repeat (first | refine blk_drewN ?_ _ | refine blk_drew ?_ | refine blk_alloc ?_ _)); exact BK543.out) hb); have n1_ := Aside0.mk (below_step (by repeat (first | (with_reducible first | exact HB.out | apply below_alloc | apply pw_below_drewN | apply below_drew1 | refine below_set ?_ GE543.out) | exact HB.out)) hb); clear BK543; clear HB; have BK543 := n0_; have HB := n1_; clear n0_ n1_; (try clear hb); (try clear hb2); (try clear hk); (try clear hi)))
        go_ret
        exact ⟨by first | rfl | (simp [errW_none, errW_some] <;> rfl) | (simp [*, errW_none, errW_some] <;> rfl), by repeat (first | (with_reducible first | exact HB.out | apply below_alloc | apply pw_below_drewN | apply below_drew1 | refine below_set ?_ GE543.out) | exact HB.out)⟩

end Go.Proofs.Ytdipinclchkhjaa.P
