import Derived.Test.YtdipinclchkhjaaGFnExactAllows4
import Derived.Test.YtdipinclchkhjaaGFnExactAllows14
namespace Go.Proofs.Ytdipinclchkhjaa.P
open Go.RowKit Go.Proofs.YtdipinclchkhjaaW.PrintWords Go.Proofs.YtdipinclchkhjaaW.PrintLast Go.Proofs.YtdipinclchkhjaaW.PrintMore
attribute [local go_sem] max2_int min2_int max_two min_two max_three min_three max_four min_four   -- for this text's walks alone
set_option linter.unusedVariables false
set_option linter.unusedSimpArgs false

/-! ### spec_l3allows: function 108 -/
mutual
def spec_l3allows.l0 : Nat → Int → List (S127) → Int → Int → List Int → Option (Bool)
  | 0, _, _, _, _, _ => none
  | k + 1, x5, x902000, x903000, x903001, x903002 => if x5 < (x902000.length : Int) then (if 0 ≤ x5 then (if ((rd_T127 x902000 x5).f0) = x903000 then (spec_l3allows.j1 k x5 (((rd_T127 x902000 x5).f1) != x903001) x902000 x903000 x903001 x903002 ((rd_T127 x902000 x5).f0) ((rd_T127 x902000 x5).f1) ((rd_T127 x902000 x5).f2)) else (spec_l3allows.j1 k x5 true x902000 x903000 x903001 x903002 ((rd_T127 x902000 x5).f0) ((rd_T127 x902000 x5).f1) ((rd_T127 x902000 x5).f2))) else (none)) else (some false)
def spec_l3allows.j1 : Nat → Int → Bool → List (S127) → Int → Int → List Int → Int → Int → List (S131) → Option (Bool)
  | 0, _, _, _, _, _, _, _, _, _ => none
  | k + 1, x5, x31, x902000, x903000, x903001, x903002, x905000, x905001, x905002 => if x31 = true then (spec_l3allows.l0 k (wrap64 (x5 + 1)) x902000 x903000 x903001 x903002) else (spec_l3allows.l1 k x5 0 x902000 x903000 x903001 x903002 x905000 x905001 x905002)
def spec_l3allows.l1 : Nat → Int → Int → List (S127) → Int → Int → List Int → Int → Int → List (S131) → Option (Bool)
  | 0, _, _, _, _, _, _, _, _, _ => none
  | k + 1, x5, x7, x902000, x903000, x903001, x903002, x905000, x905001, x905002 => if x7 < (x905002.length : Int) then (if 0 ≤ x7 then ((spec_l3ruleHolds.f k ((rd_T131 x905002 x7).f0) x903002).bind fun t906 => (if t906 = true then (some true) else (spec_l3allows.l1 k x5 (wrap64 (x7 + 1)) x902000 x903000 x903001 x903002 x905000 x905001 x905002))) else (none)) else (spec_l3allows.l0 k (wrap64 (x5 + 1)) x902000 x903000 x903001 x903002)
end
def spec_l3allows.f (k : Nat) (l0_0 : List (S127)) (a1_0 : Int) (a1_1 : Int) (l1_2 : List Int) : Option (Bool) := spec_l3allows.l0 k 0 l0_0 a1_0 a1_1 l1_2
def spec_l3allows.T9 : Bool × List (List Nat × List Nat) := (true, [([], []), ([0], [0]), ([], []), ([1, 2], [1, 2]), ([3], [3]), ([], []), ([5], [5]), ([4, 6], [4, 6])])
def spec_l3allows.B9 : List Nat := [0, 1, 0, 7, 15, 0, 32, 127]
theorem spec_l3allows.tab9 : rtab .any (opsOf Try.f108 9) = spec_l3allows.T9 := by kernel_rfl
theorem spec_l3allows.bits9 : waitsOk spec_l3allows.T9.2 spec_l3allows.B9 = true := by kernel_rfl
set_option maxHeartbeats 8000000 in
set_option maxRecDepth 100000 in
theorem spec_l3allows.calls (k : Nat) (A0_0 : Option Addr) (c0_0 : Nat) (l0_0 : List (S127)) (a1_0 : Int) (a1_1 : Int) (A1_2 : Option Addr) (c1_2 : Nat) (l1_2 : List Int) (r : Bool) (w : World) (hr0_0 : Kd.C k127 w A0_0 l0_0.length l0_0) (hc0_0 : l0_0.length ≤ c0_0) (hr1_2 : Kd.C (Kd.int .u64) w A1_2 l1_2.length l1_2) (hc1_2 : l1_2.length ≤ c1_2) (h : spec_l3allows.f k l0_0 a1_0 a1_1 l1_2 = some r) :
    Calls Try.prog 108 #[.agg #[.slice A0_0 l0_0.length c0_0], .agg #[.int .u32 a1_0, .int .u32 a1_1, .slice A1_2 l1_2.length c1_2]] w fun e w' => e = .returned (.bool r) ∧ Below w.heap.size w w' := by
  have hu64 := Try.underlying64
  have hu85 := Try.underlying85
  have hu127 := Try.underlying127
  have hu131 := Try.underlying131
  have HR0_0 := Aside0.mk hr0_0
  have HC0_0 := Aside0.mk hc0_0
  clear hr0_0 hc0_0
  have HR1_2 := Aside0.mk hr1_2
  have HC1_2 := Aside0.mk hc1_2
  clear hr1_2 hc1_2
  have HB := Aside0.mk (Below.refl w.heap.size w)
  have H : (spec_l3allows.l0 k 0 l0_0 a1_0 a1_1 l1_2) = some r := h
  clear h
  have H' := Aside0.mk H
  clear H
  go_enter Try.func108, Try.ntmps108
  go_wp2_with (first | ((with_reducible refine gate_dst (N := 2) rfl ?_); refine box_event ?hg (N := 2) ?hd (cs := #[.slice A0_0 l0_0.length c0_0]) (t := 64) ?hr ?_; (case hd => rfl); (case hg => rfl); (case hr => first | (go_simp; done) | (go_simp; rfl)); intro gb901 hg w3 hbox hb; have n0_ := Aside0.mk (below_step (by repeat (first | (with_reducible first | exact HB.out | apply below_alloc | apply pw_below_drewN | apply below_drew1) | exact HB.out)) hb); have n1_ := Aside0.mk (hbox); have n2_ := Aside0.mk ((by rw [hg]; exact (below_size (by repeat (first | (with_reducible first | exact HB.out | apply below_alloc | apply pw_below_drewN | apply below_drew1) | exact HB.out))) : w.heap.size ≤ gb901)); have n3_ := Aside0.mk ((by rw [hg]; exact (below_size (by repeat (first | (with_reducible first | exact HB.out | apply below_alloc | apply pw_below_drewN | apply below_drew1) | exact HB.out))) : w.heap.size ≤ gb901)); clear HB; have HB := n0_; have BK901 := n1_; have GW901 := n2_; have GE901 := n3_; clear n0_ n1_ n2_ n3_; clear hb hbox hg) | ((with_reducible refine gate_dst (N := 3) rfl ?_); refine box_event ?hg (N := 3) ?hd (cs := #[.int .u32 a1_0, .int .u32 a1_1, .slice A1_2 l1_2.length c1_2]) (t := 85) ?hr ?_; (case hd => rfl); (case hg => rfl); (case hr => first | (go_simp; done) | (go_simp; rfl)); intro gb902 hg w4 hbox hb; have n0_ := Aside0.mk (blk_below (g := gb901) (o := .cells #[.slice A0_0 l0_0.length c0_0] 64 (0, 0)) (by (with_reducible repeat (first | refine blk_drewN ?_ _ | refine blk_drew ?_ | refine blk_alloc ?_ _)); exact BK901.out) hb); have n1_ := Aside0.mk (below_step (by repeat (first | (with_reducible first | exact HB.out | apply below_alloc | apply pw_below_drewN | apply below_drew1 | refine below_set ?_ GE901.out) | exact HB.out)) hb); have n2_ := Aside0.mk (hbox); have n3_ := Aside0.mk ((by rw [hg]; exact (below_size (by repeat (first | (with_reducible first | exact HB.out | apply below_alloc | apply pw_below_drewN | apply below_drew1 | refine below_set ?_ GE901.out) | exact HB.out))) : w.heap.size ≤ gb902)); have n4_ := Aside0.mk ((by rw [hg]; exact (below_size (by repeat (first | (with_reducible first | exact HB.out | apply below_alloc | apply pw_below_drewN | apply below_drew1 | refine below_set ?_ GE901.out) | exact HB.out))) : w.heap.size ≤ gb902)); have n5_ := Aside0.mk ((by rw [hg]; exact Nat.ne_of_lt (blk_lt (g := gb901) (o := .cells #[.slice A0_0 l0_0.length c0_0] 64 (0, 0)) (by (with_reducible repeat (first | refine blk_drewN ?_ _ | refine blk_drew ?_ | refine blk_alloc ?_ _)); exact BK901.out)) : gb901 ≠ gb902)); have n6_ := Aside0.mk ((by rw [hg]; exact Nat.ne_of_gt (blk_lt (g := gb901) (o := .cells #[.slice A0_0 l0_0.length c0_0] 64 (0, 0)) (by (with_reducible repeat (first | refine blk_drewN ?_ _ | refine blk_drew ?_ | refine blk_alloc ?_ _)); exact BK901.out)) : gb902 ≠ gb901)); clear BK901; clear HB; have BK901 := n0_; have HB := n1_; have BK902 := n2_; have GW902 := n3_; have GE902 := n4_; have NB901_902 := n5_; have NB902_901 := n6_; clear n0_ n1_ n2_ n3_ n4_ n5_ n6_; clear hb hbox hg))
  go_loopg [5] k (fun kq v5 w' => ∃ (x5_1 : Int), v5 = .int .i64 x5_1 ∧ Aside0 (spec_l3allows.l0 kq x5_1 l0_0 a1_0 a1_1 l1_2 = some r) ∧ Aside0 (kq ≤ k) ∧ Aside0 (w'.heap[gb901]? = some (.cells #[(.slice A0_0 l0_0.length c0_0)] 64 (0, 0))) ∧ Aside0 (w'.heap[gb902]? = some (.cells #[.int .u32 a1_0, .int .u32 a1_1, (.slice A1_2 l1_2.length c1_2)] 85 (0, 0))) ∧ Aside0 (Below w.heap.size w w'))
  case atStart => exact ⟨(0), (by first | rfl | (simp; done) | (simp [*]; done)), H', ⟨Nat.le_refl _⟩, ⟨by (with_reducible repeat (first | refine blk_drewN ?_ _ | refine blk_drew ?_ | refine blk_alloc ?_ _)); exact BK901.out⟩, ⟨by (with_reducible repeat (first | refine blk_drewN ?_ _ | refine blk_drew ?_ | refine blk_alloc ?_ _)); exact BK902.out⟩, ⟨by repeat (first | (with_reducible first | exact HB.out | apply below_alloc | apply pw_below_drewN | apply below_drew1 | refine below_set ?_ GE901.out | refine below_set ?_ GE902.out) | exact HB.out)⟩⟩
  case round =>
    clear H'
    try clear c1
    try clear p2
    obtain ⟨x5_1, rfl, HA, HK1, BK901, BK902, HB⟩ := hrel
    cases gk with
    | zero => exact absurd HA.out (by simp [spec_l3allows.l0])
    | succ k1 =>
      have H := HA.out
      clear HA
      simp only [spec_l3allows.l0] at H
      by_cases c5 : x5_1 < (l0_0.length : Int)
      · rw [if_pos c5] at H
        have c5b0 : decide (x5_1 < (l0_0.length : Int)) = true := decide_eq_true c5
        clear c5
        by_cases c6 : 0 ≤ x5_1
        · rw [if_pos c6] at H
          have c6b0 : decide (0 ≤ x5_1) = true := decide_eq_true c6
          clear c6
          have HC7 := Aside0.mk H
          clear H
          have hnb8 := NB901_902.out
          have hnc8 := NB902_901.out
          have hcz9_0 : wr.cell? ⟨gb901, 0, none⟩ = some (.slice A0_0 l0_0.length c0_0) := (blk_cell BK901.out 0).trans rfl
          have hfz9_0 := blk_frozen BK901.out 0
          have p903 : 0 ≤ (x5_1 : Int) := of_decide_eq_true (by first | (with_reducible assumption) | assumption)
          have q903 : x5_1 < (l0_0.length : Int) := of_decide_eq_true (by first | (with_reducible assumption) | assumption)
          obtain ⟨ad903, A903_2, c903_2, e903, hx903_0, hx903_1, hx903_2, hl903_2, hi903_2⟩ := at_T127 HR0_0.out x5_1 p903 q903
          cases e903
          replace hx903_0 := (HB.out.cell (World.block_lt_of_cell? w _ hx903_0)).trans hx903_0
          replace hx903_1 := (HB.out.cell (World.block_lt_of_cell? w _ hx903_1)).trans hx903_1
          replace hx903_2 := (HB.out.cell (World.block_lt_of_cell? w _ hx903_2)).trans hx903_2
          have HR903_2 := Aside0.mk hi903_2
          have HC903_2 := Aside0.mk hl903_2
          clear hi903_2 hl903_2
          replace p903 := eq_true p903
          replace q903 := eq_true q903
          go_upto_region 5 with (first | ((with_reducible refine gate_dst (N := 6) rfl ?_); refine box_event ?hg (N := 6) ?hd (cs := #[.int .u32 0, .int .u32 0, .slice none 0 0]) (t := 127) ?hr ?_; (case hd => rfl); (case hg => rfl); (case hr => first | (go_simp; done) | (go_simp; rfl)); intro gb904 hg w10 hbox hb; have n0_ := Aside0.mk (blk_below (g := gb901) (o := .cells #[.slice (some ad903) l0_0.length c0_0] 64 (0, 0)) (by (with_reducible repeat (first | refine blk_drewN ?_ _ | refine blk_drew ?_ | refine blk_alloc ?_ _)); exact BK901.out) hb); have n1_ := Aside0.mk (blk_below (g := gb902) (o := .cells #[.int .u32 a1_0, .int .u32 a1_1, .slice A1_2 l1_2.length c1_2] 85 (0, 0)) (by (with_reducible repeat (first | refine blk_drewN ?_ _ | refine blk_drew ?_ | refine blk_alloc ?_ _)); exact BK902.out) hb); have n2_ := Aside0.mk (below_step (by repeat (first | (with_reducible first | exact HB.out | apply below_alloc | apply pw_below_drewN | apply below_drew1 | refine below_set ?_ GE901.out | refine below_set ?_ GE902.out) | exact HB.out)) hb); have n3_ := Aside0.mk (hbox); have n4_ := Aside0.mk ((by rw [hg]; exact (below_size (by repeat (first | (with_reducible first | exact HB.out | apply below_alloc | apply pw_below_drewN | apply below_drew1 | refine below_set ?_ GE901.out | refine below_set ?_ GE902.out) | exact HB.out))) : w.heap.size ≤ gb904)); have n5_ := Aside0.mk ((by rw [hg]; exact (below_size (by repeat (first | (with_reducible first | exact HB.out | apply below_alloc | apply pw_below_drewN | apply below_drew1 | refine below_set ?_ GE901.out | refine below_set ?_ GE902.out) | exact HB.out))) : w.heap.size ≤ gb904)); have n6_ := Aside0.mk ((by rw [hg]; exact Nat.ne_of_lt (blk_lt (g := gb901) (o := .cells #[.slice (some ad903) l0_0.length c0_0] 64 (0, 0)) (by (with_reducible repeat (first | refine blk_drewN ?_ _ | refine blk_drew ?_ | refine blk_alloc ?_ _)); exact BK901.out)) : gb901 ≠ gb904)); have n7_ := Aside0.mk ((by rw [hg]; exact Nat.ne_of_gt (blk_lt (g := gb901) (o := .cells #[.slice (some ad903) l0_0.length c0_0] 64 (0, 0)) (by (with_reducible repeat (first | refine blk_drewN ?_ _ | refine blk_drew ?_ | refine blk_alloc ?_ _)); exact BK901.out)) : gb904 ≠ gb901)); have n8_ := Aside0.mk ((by rw [hg]; exact Nat.ne_of_lt (blk_lt (g := gb902) (o := .cells #[.int .u32 a1_0, .int .u32 a1_1, .slice A1_2 l1_2.length c1_2] 85 (0, 0)) (by (with_reducible repeat (first | refine blk_drewN ?_ _ | refine blk_drew ?_ | refine blk_alloc ?_ _)); exact BK902.out)) : gb902 ≠ gb904)); have n9_ := Aside0.mk ((by rw [hg]; exact Nat.ne_of_gt (blk_lt (g := gb902) (o := .cells #[.int .u32 a1_0, .int .u32 a1_1, .slice A1_2 l1_2.length c1_2] 85 (0, 0)) (by (with_reducible repeat (first | refine blk_drewN ?_ _ | refine blk_drew ?_ | refine blk_alloc ?_ _)); exact BK902.out)) : gb904 ≠ gb902)); clear BK901; clear BK902; clear HB; have BK901 := n0_; have BK902 := n1_; have HB := n2_; have BK904 := n3_; have GW904 := n4_; have GE904 := n5_; have NB901_904 := n6_; have NB904_901 := n7_; have NB902_904 := n8_; have NB904_902 := n9_; clear n0_ n1_ n2_ n3_ n4_ n5_ n6_ n7_ n8_ n9_; clear hb hbox hg; have hnb11 := NB904_901.out; have hnc11 := NB901_904.out; have hnb12 := NB904_902.out; have hnc12 := NB902_904.out; have hcz13_0 : w10.cell? ⟨gb904, 0, none⟩ = some (.int .u32 0) := (blk_cell BK904.out 0).trans rfl; have hcz13_1 : w10.cell? ⟨gb904, 1, none⟩ = some (.int .u32 0) := (blk_cell BK904.out 1).trans rfl; have hcz13_2 : w10.cell? ⟨gb904, 2, none⟩ = some (.slice none 0 0) := (blk_cell BK904.out 2).trans rfl; have hfz13_0 := blk_frozen BK904.out 0; have hfz13_1 := blk_frozen BK904.out 1; have hfz13_2 := blk_frozen BK904.out 2))
          (try simp only [Act.put, List.setIfInBounds_toArray, List.set_cons_zero, List.set_cons_succ])
          go_cut [31] (fun v31 wc => ∃ (kq : Nat) (x31_6 : Bool), v31 = .bool x31_6 ∧ Aside0 (spec_l3allows.j1 kq x5_1 x31_6 l0_0 a1_0 a1_1 l1_2 ((rd_T127 l0_0 x5_1).f0) ((rd_T127 l0_0 x5_1).f1) ((rd_T127 l0_0 x5_1).f2) = some r) ∧ Aside0 (kq ≤ k1) ∧ Aside0 (wc.heap[gb901]? = some (.cells #[(.slice (some ad903) l0_0.length c0_0)] 64 (0, 0))) ∧ Aside0 (wc.heap[gb902]? = some (.cells #[.int .u32 a1_0, .int .u32 a1_1, (.slice A1_2 l1_2.length c1_2)] 85 (0, 0))) ∧ Aside0 (wc.heap[gb904]? = some (.cells #[.int .u32 ((rd_T127 l0_0 x5_1).f0), .int .u32 ((rd_T127 l0_0 x5_1).f1), (.slice A903_2 ((rd_T127 l0_0 x5_1).f2).length c903_2)] 127 (0, 0))) ∧ Aside0 (Below w.heap.size w wc))
          case first =>
            have H := HC7.out
            clear HC7
            by_cases c14 : ((rd_T127 l0_0 x5_1).f0) = a1_0
            · rw [if_pos c14] at H
              have c14b0 : (((rd_T127 l0_0 x5_1).f0) == a1_0) = true := beq_iff_eq.mpr c14
              have c14b1 : (((rd_T127 l0_0 x5_1).f0) != a1_0) = false := bne_eq_false_iff_eq.mpr c14
              clear c14
              (first | rw [c14b0] | (simp only [i64_w, i32_w]; rw [c14b0]) | skip)
              have H' := Aside0.mk H
              clear H
              have hnb15 := NB904_901.out
              have hnc15 := NB901_904.out
              have hnb16 := NB904_902.out
              have hnc16 := NB902_904.out
              have hcz17_0 : w10.cell? ⟨gb904, 0, none⟩ = some (.int .u32 0) := (blk_cell BK904.out 0).trans rfl
              have hcz17_1 : w10.cell? ⟨gb904, 1, none⟩ = some (.int .u32 0) := (blk_cell BK904.out 1).trans rfl
              have hcz17_2 : w10.cell? ⟨gb904, 2, none⟩ = some (.slice none 0 0) := (blk_cell BK904.out 2).trans rfl
              have hfz17_0 := blk_frozen BK904.out 0
              have hfz17_1 := blk_frozen BK904.out 1
              have hfz17_2 := blk_frozen BK904.out 2
              have hnb18 := NB902_901.out
              have hnc18 := NB901_902.out
              have hcz19_0 : w10.cell? ⟨gb902, 0, none⟩ = some (.int .u32 a1_0) := (blk_cell BK902.out 0).trans rfl
              have hcz19_1 : w10.cell? ⟨gb902, 1, none⟩ = some (.int .u32 a1_1) := (blk_cell BK902.out 1).trans rfl
              have hcz19_2 : w10.cell? ⟨gb902, 2, none⟩ = some (.slice A1_2 l1_2.length c1_2) := (blk_cell BK902.out 2).trans rfl
              have hfz19_0 := blk_frozen BK902.out 0
              have hfz19_1 := blk_frozen BK902.out 1
              have hfz19_2 := blk_frozen BK902.out 2
              go_wp2
              go_meet
              case rel => exact ⟨_, ((((rd_T127 l0_0 x5_1).f1) != a1_1)), (by first | rfl | (simp; done) | (simp [*]; done)), H', ⟨by have := HK1.out; first | omega | exact Nat.le_refl _⟩, ⟨by (with_reducible repeat (first | refine blk_drewN ?_ _ | refine blk_drew ?_ | refine blk_alloc ?_ _)); refine blk_far ?_ NB901_904.out _; (with_reducible repeat (first | refine blk_drewN ?_ _ | refine blk_drew ?_ | refine blk_alloc ?_ _)); refine blk_far ?_ NB901_904.out _; (with_reducible repeat (first | refine blk_drewN ?_ _ | refine blk_drew ?_ | refine blk_alloc ?_ _)); refine blk_far ?_ NB901_904.out _; (with_reducible repeat (first | refine blk_drewN ?_ _ | refine blk_drew ?_ | refine blk_alloc ?_ _)); exact BK901.out⟩, ⟨by (with_reducible repeat (first | refine blk_drewN ?_ _ | refine blk_drew ?_ | refine blk_alloc ?_ _)); refine blk_far ?_ NB902_904.out _; (with_reducible repeat (first | refine blk_drewN ?_ _ | refine blk_drew ?_ | refine blk_alloc ?_ _)); refine blk_far ?_ NB902_904.out _; (with_reducible repeat (first | refine blk_drewN ?_ _ | refine blk_drew ?_ | refine blk_alloc ?_ _)); refine blk_far ?_ NB902_904.out _; (with_reducible repeat (first | refine blk_drewN ?_ _ | refine blk_drew ?_ | refine blk_alloc ?_ _)); exact BK902.out⟩, ⟨by (with_reducible repeat (first | refine blk_drewN ?_ _ | refine blk_drew ?_ | refine blk_alloc ?_ _)); refine blk_put (cs := #[.int .u32 ((rd_T127 l0_0 x5_1).f0), .int .u32 ((rd_T127 l0_0 x5_1).f1), .slice none 0 0]) ?_ 2 _ rfl; (with_reducible repeat (first | refine blk_drewN ?_ _ | refine blk_drew ?_ | refine blk_alloc ?_ _)); refine blk_put (cs := #[.int .u32 ((rd_T127 l0_0 x5_1).f0), .int .u32 0, .slice none 0 0]) ?_ 1 _ rfl; (with_reducible repeat (first | refine blk_drewN ?_ _ | refine blk_drew ?_ | refine blk_alloc ?_ _)); refine blk_put (cs := #[.int .u32 0, .int .u32 0, .slice none 0 0]) ?_ 0 _ rfl; (with_reducible repeat (first | refine blk_drewN ?_ _ | refine blk_drew ?_ | refine blk_alloc ?_ _)); exact BK904.out⟩, ⟨by repeat (first | (with_reducible first | exact HB.out | apply below_alloc | apply pw_below_drewN | apply below_drew1 | refine below_set ?_ GE901.out | refine below_set ?_ GE902.out | refine below_set ?_ GE904.out) | exact HB.out)⟩⟩
            · rw [if_neg c14] at H
              have c14b0 : (((rd_T127 l0_0 x5_1).f0) == a1_0) = false := beq_eq_false_iff_ne.mpr c14
              have c14b1 : (((rd_T127 l0_0 x5_1).f0) != a1_0) = true := bne_iff_ne.mpr c14
              (first | rw [c14b0] | (simp only [i64_w, i32_w]; rw [c14b0]) | skip)
              have H' := Aside0.mk H
              clear H
              have hnb20 := NB904_901.out
              have hnc20 := NB901_904.out
              have hnb21 := NB904_902.out
              have hnc21 := NB902_904.out
              have hcz22_0 : w10.cell? ⟨gb904, 0, none⟩ = some (.int .u32 0) := (blk_cell BK904.out 0).trans rfl
              have hcz22_1 : w10.cell? ⟨gb904, 1, none⟩ = some (.int .u32 0) := (blk_cell BK904.out 1).trans rfl
              have hcz22_2 : w10.cell? ⟨gb904, 2, none⟩ = some (.slice none 0 0) := (blk_cell BK904.out 2).trans rfl
              have hfz22_0 := blk_frozen BK904.out 0
              have hfz22_1 := blk_frozen BK904.out 1
              have hfz22_2 := blk_frozen BK904.out 2
              have hnb23 := NB902_901.out
              have hnc23 := NB901_902.out
              have hcz24_0 : w10.cell? ⟨gb902, 0, none⟩ = some (.int .u32 a1_0) := (blk_cell BK902.out 0).trans rfl
              have hcz24_1 : w10.cell? ⟨gb902, 1, none⟩ = some (.int .u32 a1_1) := (blk_cell BK902.out 1).trans rfl
              have hcz24_2 : w10.cell? ⟨gb902, 2, none⟩ = some (.slice A1_2 l1_2.length c1_2) := (blk_cell BK902.out 2).trans rfl
              have hfz24_0 := blk_frozen BK902.out 0
              have hfz24_1 := blk_frozen BK902.out 1
              have hfz24_2 := blk_frozen BK902.out 2
              go_wp2
              go_meet
              case rel => exact ⟨_, (true), (by first | rfl | (simp; done) | (simp [*]; done)), H', ⟨by have := HK1.out; first | omega | exact Nat.le_refl _⟩, ⟨by (with_reducible repeat (first | refine blk_drewN ?_ _ | refine blk_drew ?_ | refine blk_alloc ?_ _)); refine blk_far ?_ NB901_904.out _; (with_reducible repeat (first | refine blk_drewN ?_ _ | refine blk_drew ?_ | refine blk_alloc ?_ _)); refine blk_far ?_ NB901_904.out _; (with_reducible repeat (first | refine blk_drewN ?_ _ | refine blk_drew ?_ | refine blk_alloc ?_ _)); refine blk_far ?_ NB901_904.out _; (with_reducible repeat (first | refine blk_drewN ?_ _ | refine blk_drew ?_ | refine blk_alloc ?_ _)); exact BK901.out⟩, ⟨by (with_reducible repeat (first | refine blk_drewN ?_ _ | refine blk_drew ?_ | refine blk_alloc ?_ _)); refine blk_far ?_ NB902_904.out _; (with_reducible repeat (first | refine blk_drewN ?_ _ | refine blk_drew ?_ | refine blk_alloc ?_ _)); refine blk_far ?_ NB902_904.out _; (with_reducible repeat (first | refine blk_drewN ?_ _ | refine blk_drew ?_ | refine blk_alloc ?_ _)); refine blk_far ?_ NB902_904.out _; (with_reducible repeat (first | refine blk_drewN ?_ _ | refine blk_drew ?_ | refine blk_alloc ?_ _)); exact BK902.out⟩, ⟨by (with_reducible repeat (first | refine blk_drewN ?_ _ | refine blk_drew ?_ | refine blk_alloc ?_ _)); refine blk_put (cs := #[.int .u32 ((rd_T127 l0_0 x5_1).f0), .int .u32 ((rd_T127 l0_0 x5_1).f1), .slice none 0 0]) ?_ 2 _ rfl; (with_reducible repeat (first | refine blk_drewN ?_ _ | refine blk_drew ?_ | refine blk_alloc ?_ _)); refine blk_put (cs := #[.int .u32 ((rd_T127 l0_0 x5_1).f0), .int .u32 0, .slice none 0 0]) ?_ 1 _ rfl; (with_reducible repeat (first | refine blk_drewN ?_ _ | refine blk_drew ?_ | refine blk_alloc ?_ _)); refine blk_put (cs := #[.int .u32 0, .int .u32 0, .slice none 0 0]) ?_ 0 _ rfl; (with_reducible repeat (first | refine blk_drewN ?_ _ | refine blk_drew ?_ | refine blk_alloc ?_ _)); exact BK904.out⟩, ⟨by repeat (first | (with_reducible first | exact HB.out | apply below_alloc | apply pw_below_drewN | apply below_drew1 | refine below_set ?_ GE901.out | refine below_set ?_ GE902.out | refine below_set ?_ GE904.out) | exact HB.out)⟩⟩
          case rest =>
            clear HC7
            try clear c1
            try clear c2
            try clear p2
            try clear c5
            try clear c5b0
            try clear c6
            try clear c6b0
            try clear c8
            try clear c9
            try clear p9
            try clear q9
            try clear hx9
            try clear c10
            try clear c11
            try clear c12
            try clear c14
            try clear c14b0
            try clear c14b1
            try clear c15
            try clear c16
            try clear c18
            try clear c20
            try clear c21
            try clear c23
            try clear hcz13_0
            try clear hcz13_1
            try clear hcz13_2
            try clear hcz17_0
            try clear hcz17_1
            try clear hcz17_2
            try clear hcz19_0
            try clear hcz19_1
            try clear hcz19_2
            try clear hcz22_0
            try clear hcz22_1
            try clear hcz22_2
            try clear hcz24_0
            try clear hcz24_1
            try clear hcz24_2
            try clear hcz9_0
            try clear hfz13_0
            try clear hfz13_1
            try clear hfz13_2
            try clear hfz17_0
            try clear hfz17_1
            try clear hfz17_2
            try clear hfz19_0
            try clear hfz19_1
            try clear hfz19_2
            try clear hfz22_0
            try clear hfz22_1
            try clear hfz22_2
            try clear hfz24_0
            try clear hfz24_1
            try clear hfz24_2
            try clear hfz9_0
            try clear hx903_0
            try clear hx903_1
            try clear hx903_2
            try clear p2
            try clear p903
            try clear q903
            obtain ⟨kq, x31_6, rfl, HA, HJ6, BK901, BK902, BK904, HB⟩ := hcut
            cases kq with
            | zero => exact absurd HA.out (by simp [spec_l3allows.j1])
            | succ kj6 =>
              have H := HA.out
              clear HA
              simp only [spec_l3allows.j1] at H
              by_cases c25 : x31_6 = true
              · subst c25
                have H1 : (spec_l3allows.l0 kj6 (wrap64 (x5_1 + 1)) l0_0 a1_0 a1_1 l1_2) = some r := by rw [if_pos rfl] at H; exact H
                clear H
                have H := H1
                clear H1
                have H' := Aside0.mk H
                clear H
                go_wp2
                go_roundg kj6
                case measure => have := HK1.out; have := HJ6.out; omega
                case rel => exact ⟨(wrap64 (x5_1 + 1)), (by first | rfl | (simp; done) | (simp [*]; done)), H', ⟨by have := HK1.out; have := HJ6.out; omega⟩, ⟨by (with_reducible repeat (first | refine blk_drewN ?_ _ | refine blk_drew ?_ | refine blk_alloc ?_ _)); exact BK901.out⟩, ⟨by (with_reducible repeat (first | refine blk_drewN ?_ _ | refine blk_drew ?_ | refine blk_alloc ?_ _)); exact BK902.out⟩, ⟨by repeat (first | (with_reducible first | exact HB.out | apply below_alloc | apply pw_below_drewN | apply below_drew1 | refine below_set ?_ GE901.out | refine below_set ?_ GE902.out | refine below_set ?_ GE904.out) | exact HB.out)⟩⟩
              · replace c25 := Bool.eq_false_iff.mpr c25
                subst c25
                have H1 : (spec_l3allows.l1 kj6 x5_1 0 l0_0 a1_0 a1_1 l1_2 ((rd_T127 l0_0 x5_1).f0) ((rd_T127 l0_0 x5_1).f1) ((rd_T127 l0_0 x5_1).f2)) = some r := by rw [if_neg (show ¬ (false = true) by decide)] at H; exact H
                clear H
                have H := H1
                clear H1
                have H' := Aside0.mk H
                clear H
                go_wp2
                go_loopg [7] kj6 (fun kq v7 w' => ∃ (x7_3 : Int), v7 = .int .i64 x7_3 ∧ Aside0 (spec_l3allows.l1 kq x5_1 x7_3 l0_0 a1_0 a1_1 l1_2 ((rd_T127 l0_0 x5_1).f0) ((rd_T127 l0_0 x5_1).f1) ((rd_T127 l0_0 x5_1).f2) = some r) ∧ Aside0 (kq ≤ kj6) ∧ Aside0 (w'.heap[gb901]? = some (.cells #[(.slice (some ad903) l0_0.length c0_0)] 64 (0, 0))) ∧ Aside0 (w'.heap[gb902]? = some (.cells #[.int .u32 a1_0, .int .u32 a1_1, (.slice A1_2 l1_2.length c1_2)] 85 (0, 0))) ∧ Aside0 (w'.heap[gb904]? = some (.cells #[.int .u32 ((rd_T127 l0_0 x5_1).f0), .int .u32 ((rd_T127 l0_0 x5_1).f1), (.slice A903_2 ((rd_T127 l0_0 x5_1).f2).length c903_2)] 127 (0, 0))) ∧ Aside0 (Below w.heap.size w w'))
                case atStart => exact ⟨(0), (by first | rfl | (simp; done) | (simp [*]; done)), H', ⟨Nat.le_refl _⟩, ⟨by (with_reducible repeat (first | refine blk_drewN ?_ _ | refine blk_drew ?_ | refine blk_alloc ?_ _)); exact BK901.out⟩, ⟨by (with_reducible repeat (first | refine blk_drewN ?_ _ | refine blk_drew ?_ | refine blk_alloc ?_ _)); exact BK902.out⟩, ⟨by (with_reducible repeat (first | refine blk_drewN ?_ _ | refine blk_drew ?_ | refine blk_alloc ?_ _)); exact BK904.out⟩, ⟨by repeat (first | (with_reducible first | exact HB.out | apply below_alloc | apply pw_below_drewN | apply below_drew1 | refine below_set ?_ GE901.out | refine below_set ?_ GE902.out | refine below_set ?_ GE904.out) | exact HB.out)⟩⟩
                case round =>
                  clear H'
                  try clear c1
                  try clear c2
                  try clear p2
                  try clear c5
                  try clear c5b0
                  try clear c6
                  try clear c6b0
                  try clear p6
                  try clear c8
                  try clear c9
                  try clear p9
                  try clear q9
                  try clear hx9
                  try clear c10
                  try clear c11
                  try clear c12
                  try clear c14
                  try clear c14b0
                  try clear c14b1
                  try clear c15
                  try clear c16
                  try clear c18
                  try clear c20
                  try clear c21
                  try clear c23
                  try clear c25
                  try clear hcz13_0
                  try clear hcz13_1
                  try clear hcz13_2
                  try clear hcz17_0
                  try clear hcz17_1
                  try clear hcz17_2
                  try clear hcz19_0
                  try clear hcz19_1
                  try clear hcz19_2
                  try clear hcz22_0
                  try clear hcz22_1
                  try clear hcz22_2
                  try clear hcz24_0
                  try clear hcz24_1
                  try clear hcz24_2
                  try clear hcz9_0
                  try clear hfz13_0
                  try clear hfz13_1
                  try clear hfz13_2
                  try clear hfz17_0
                  try clear hfz17_1
                  try clear hfz17_2
                  try clear hfz19_0
                  try clear hfz19_1
                  try clear hfz19_2
                  try clear hfz22_0
                  try clear hfz22_1
                  try clear hfz22_2
                  try clear hfz24_0
                  try clear hfz24_1
                  try clear hfz24_2
                  try clear hfz9_0
                  try clear hx903_0
                  try clear hx903_1
                  try clear hx903_2
                  try clear p2
                  try clear p9
                  try clear p903
                  try clear q9
                  try clear q903
                  obtain ⟨x7_3, rfl, HA, HK3, BK901, BK902, BK904, HB⟩ := hrel
                  cases gk with
                  | zero => exact absurd HA.out (by simp [spec_l3allows.l1])
                  | succ k3 =>
                    have H := HA.out
                    clear HA
                    simp only [spec_l3allows.l1] at H
                    by_cases c26 : x7_3 < (((rd_T127 l0_0 x5_1).f2).length : Int)
                    · rw [if_pos c26] at H
                      have c26b0 : decide (x7_3 < (((rd_T127 l0_0 x5_1).f2).length : Int)) = true := decide_eq_true c26
                      clear c26
                      by_cases c27 : 0 ≤ x7_3
                      · rw [if_pos c27] at H
                        have c27b0 : decide (0 ≤ x7_3) = true := decide_eq_true c27
                        clear c27
                        replace H := Option.bind_eq_some_iff.mp H
                        obtain ⟨t906, A280, H⟩ := H
                        replace H : (if t906 = true then (some true) else (spec_l3allows.l1 k3 x5_1 (wrap64 (x7_3 + 1)) l0_0 a1_0 a1_1 l1_2 ((rd_T127 l0_0 x5_1).f0) ((rd_T127 l0_0 x5_1).f1) ((rd_T127 l0_0 x5_1).f2))) = some r := H
                        have A28 := Aside0.mk A280
                        clear A280
                        by_cases c29 : t906 = true
                        · subst c29
                          have H1 : (some true) = some r := by rw [if_pos rfl] at H; exact H
                          clear H
                          have H := H1
                          clear H1
                          obtain rfl := Option.some.inj H
                          have hnb30 := NB904_901.out
                          have hnc30 := NB901_904.out
                          have hnb31 := NB904_902.out
                          have hnc31 := NB902_904.out
                          have hcz32_0 : wr.cell? ⟨gb904, 0, none⟩ = some (.int .u32 ((rd_T127 l0_0 x5_1).f0)) := (blk_cell BK904.out 0).trans rfl
                          have hcz32_1 : wr.cell? ⟨gb904, 1, none⟩ = some (.int .u32 ((rd_T127 l0_0 x5_1).f1)) := (blk_cell BK904.out 1).trans rfl
                          have hcz32_2 : wr.cell? ⟨gb904, 2, none⟩ = some (.slice A903_2 ((rd_T127 l0_0 x5_1).f2).length c903_2) := (blk_cell BK904.out 2).trans rfl
                          have hfz32_0 := blk_frozen BK904.out 0
                          have hfz32_1 := blk_frozen BK904.out 1
                          have hfz32_2 := blk_frozen BK904.out 2
                          try go_wp2
                          have n0_ := Aside0.mk (blk_drew BK901.out)
                          have n1_ := Aside0.mk (blk_drew BK902.out)
                          have n2_ := Aside0.mk (blk_drew BK904.out)
                          have n3_ := Aside0.mk (below_drew1 HB.out)
                          clear BK901
                          clear BK902
                          clear BK904
                          clear HB
                          have BK901 := n0_
                          have BK902 := n1_
                          have BK904 := n2_
                          have HB := n3_
                          clear n0_ n1_ n2_ n3_
                          have p905 : 0 ≤ (x7_3 : Int) := of_decide_eq_true (by first | (with_reducible assumption) | assumption)
                          have q905 : x7_3 < (((rd_T127 l0_0 x5_1).f2).length : Int) := of_decide_eq_true (by first | (with_reducible assumption) | assumption)
                          obtain ⟨ad905, A905_0, c905_0, e905, hx905_0, hl905_0, hi905_0⟩ := at_T131 HR903_2.out x7_3 p905 q905
                          have hw905_0 := hx905_0
                          cases e905
                          replace hx905_0 := (HB.out.cell (World.block_lt_of_cell? w _ hx905_0)).trans hx905_0
                          have HR905_0 := Aside0.mk hi905_0
                          have HC905_0 := Aside0.mk hl905_0
                          clear hi905_0 hl905_0
                          replace p905 := eq_true p905
                          replace q905 := eq_true q905
                          refine start_ (n := 8) (S := fun w' => w'.cell? ⟨gb904, 0, none⟩ = some (.int .u32 ((rd_T127 l0_0 x5_1).f0)) ∧ w'.cell? ⟨gb904, 1, none⟩ = some (.int .u32 ((rd_T127 l0_0 x5_1).f1)) ∧ w'.cell? ⟨gb904, 2, none⟩ = some (.slice (some ad905) ((rd_T127 l0_0 x5_1).f2).length c903_2) ∧ w'.cell? ⟨gb902, 0, none⟩ = some (.int .u32 a1_0) ∧ w'.cell? ⟨gb902, 1, none⟩ = some (.int .u32 a1_1) ∧ w'.cell? ⟨gb902, 2, none⟩ = some (.slice A1_2 l1_2.length c1_2) ∧ w'.cell? (ad905.add (x7_3).toNat) = some (.slice A905_0 ((rd_T131 ((rd_T127 l0_0 x5_1).f2) x7_3).f0).length c905_0)) (ds := []) #[false, false, false, false, false, false, false, false] (by kernel_rfl) rfl rfl ⟨(blk_cell BK904.out 0).trans rfl, (blk_cell BK904.out 1).trans rfl, (blk_cell BK904.out 2).trans rfl, (blk_cell BK902.out 0).trans rfl, (blk_cell BK902.out 1).trans rfl, (blk_cell BK902.out 2).trans rfl, ((HB.out.cell (World.block_lt_of_cell? w _ hw905_0)).trans hw905_0)⟩ (fun hHeld => ?_); refine with_tabW spec_l3allows.tab9 spec_l3allows.bits9 (fun HT_ HW_ => ?_)
                          generalize wr.drew = w33 at BK901 BK902 BK904 HB HR905_0 hx905_0 hHeld ⊢
                          refine pure_ (i := 0) (N := some 39) (v := ?_) (a' := ?_) #[true, false, false, false, false, false, false, false] rfl rfl (any_of HT_.out (by kernel_rfl)) (fun _ _ _ h => h) (Or.inl ⟨by rfl, ?_⟩) ?_ ?_
                          rotate_left
                          · intro w'
                            go_simp
                            with_reducible rfl
                          rotate_left
                          · simp only [Act.put, List.setIfInBounds_toArray, List.set_cons_zero, List.set_cons_succ, i64_w, i32_w]
                            rfl
                          refine pure_ (i := 2) (N := some 41) (v := ?_) (a' := ?_) #[true, false, true, false, false, false, false, false] rfl rfl (any_of HT_.out (by kernel_rfl)) (fun _ _ _ h => h) (Or.inl ⟨by rfl, ?_⟩) ?_ ?_
                          rotate_left
                          · intro w'
                            go_simp
                            with_reducible rfl
                          rotate_left
                          · simp only [Act.put, List.setIfInBounds_toArray, List.set_cons_zero, List.set_cons_succ, i64_w, i32_w]
                            rfl
                          refine pure_ (i := 5) (N := some 44) (v := ?_) (a' := ?_) #[true, false, true, false, false, true, false, false] rfl rfl (any_of HT_.out (by kernel_rfl)) (fun _ _ _ h => h) (Or.inl ⟨by rfl, ?_⟩) ?_ ?_
                          rotate_left
                          · intro w'
                            go_simp
                            with_reducible rfl
                          rotate_left
                          · simp only [Act.put, List.setIfInBounds_toArray, List.set_cons_zero, List.set_cons_succ, i64_w, i32_w]
                            rfl
                          refine take_ (i := 1) (N := some 40) (v := ?_) (a' := ?_) #[true, true, true, false, false, true, false, false] rfl rfl (take_ofW HT_.out HW_.out (by kernel_rfl)) (fun _ _ _ h => h) (Or.inl ⟨by rfl, ?_⟩) hHeld ?_ ?_
                          rotate_left
                          · rintro w' ⟨s0, s1, s2, s3, s4, s5, s6⟩
                            go_simp
                            with_reducible rfl
                          rotate_left
                          · simp only [Act.put, List.setIfInBounds_toArray, List.set_cons_zero, List.set_cons_succ, i64_w, i32_w]
                            rfl
                          refine pure_ (i := 3) (N := some 42) (v := ?_) (a' := ?_) #[true, true, true, true, false, true, false, false] rfl rfl (any_of HT_.out (by kernel_rfl)) (fun _ _ _ h => h) (Or.inl ⟨by rfl, ?_⟩) ?_ ?_
                          rotate_left
                          · intro w'
                            go_simp
                            with_reducible rfl
                          rotate_left
                          · simp only [Act.put, List.setIfInBounds_toArray, List.set_cons_zero, List.set_cons_succ, i64_w, i32_w]
                            rfl
                          refine take_ (i := 4) (N := some 43) (v := ?_) (a' := ?_) #[true, true, true, true, true, true, false, false] rfl rfl (take_ofW HT_.out HW_.out (by kernel_rfl)) (fun _ _ _ h => h) (Or.inl ⟨by rfl, ?_⟩) hHeld ?_ ?_
                          rotate_left
                          · rintro w' ⟨s0, s1, s2, s3, s4, s5, s6⟩
                            go_simp
                            with_reducible rfl
                          rotate_left
                          · simp only [Act.put, List.setIfInBounds_toArray, List.set_cons_zero, List.set_cons_succ, i64_w, i32_w]
                            rfl
                          refine take_ (i := 6) (N := some 45) (v := ?_) (a' := ?_) #[true, true, true, true, true, true, true, false] rfl rfl (take_ofW HT_.out HW_.out (by kernel_rfl)) (fun _ _ _ h => h) (Or.inl ⟨by rfl, ?_⟩) hHeld ?_ ?_
                          rotate_left
                          · rintro w' ⟨s0, s1, s2, s3, s4, s5, s6⟩
                            go_simp
                            with_reducible rfl
                          rotate_left
                          · simp only [Act.put, List.setIfInBounds_toArray, List.set_cons_zero, List.set_cons_succ, i64_w, i32_w]
                            rfl
                          refine one_ (i := 7) (N := some 46) #[true, true, true, true, true, true, true, true] rfl rfl (one_of HT_.out (by kernel_rfl)) (by decide) (fun K hK => ?_)
                          refine goes_ Try.func140 (by kernel_rfl) rfl #[.agg #[.slice A905_0 ((rd_T131 ((rd_T127 l0_0 x5_1).f2) x7_3).f0).length c905_0], .slice A1_2 l1_2.length c1_2] (by rfl) rfl rfl (by (try simp only [List.map_toArray, List.map_cons, List.map_nil]); first | done | rfl | (simp only [List.length_drop, List.length_take]; rfl)) ?_
                          with_reducible refine (spec_l3ruleHolds.calls k3 _ _ ((rd_T131 ((rd_T127 l0_0 x5_1).f2) x7_3).f0) _ _ l1_2 true _ ?side1 ?side2 ?side3 ?side4 A28.out).mono ?_
                          (case side1 => repeat (first | exact (Kd.C_below HR905_0.out HB.out) | (with_reducible refine Kd.C_alloc ?_ _) | (with_reducible refine Kd.C_drewN ?_ _) | (with_reducible refine Kd.C_drew ?_)))
                          (case side2 => exact HC905_0.out)
                          (case side3 => repeat (first | exact (Kd.C_below HR1_2.out HB.out) | (with_reducible refine Kd.C_alloc ?_ _) | (with_reducible refine Kd.C_drewN ?_ _) | (with_reducible refine Kd.C_drew ?_)))
                          (case side4 => exact HC1_2.out)
                          rintro e w34 ⟨rfl, hb⟩
                          refine ⟨_, rfl, ?_⟩
                          have n0_ := Aside0.mk (blk_below (g := gb901) (o := .cells #[.slice (some ad903) l0_0.length c0_0] 64 (0, 0)) (by (with_reducible repeat (first | refine blk_drewN ?_ _ | refine blk_drew ?_ | refine blk_alloc ?_ _)); exact BK901.out) hb)
                          have n1_ := Aside0.mk (blk_below (g := gb902) (o := .cells #[.int .u32 a1_0, .int .u32 a1_1, .slice A1_2 l1_2.length c1_2] 85 (0, 0)) (by (with_reducible repeat (first | refine blk_drewN ?_ _ | refine blk_drew ?_ | refine blk_alloc ?_ _)); exact BK902.out) hb)
                          have n2_ := Aside0.mk (blk_below (g := gb904) (o := .cells #[.int .u32 ((rd_T127 l0_0 x5_1).f0), .int .u32 ((rd_T127 l0_0 x5_1).f1), .slice (some ad905) ((rd_T127 l0_0 x5_1).f2).length c903_2] 127 (0, 0)) (by (with_reducible repeat (first | refine blk_drewN ?_ _ | refine blk_drew ?_ | refine blk_alloc ?_ _)); exact BK904.out) hb)
                          have n3_ := Aside0.mk (below_step (by repeat (first | (with_reducible first | exact HB.out | apply below_alloc | apply pw_below_drewN | apply below_drew1 | refine below_set ?_ GE901.out | refine below_set ?_ GE902.out | refine below_set ?_ GE904.out) | exact HB.out)) hb)
                          clear BK901
                          clear BK902
                          clear BK904
                          clear HB
                          have BK901 := n0_
                          have BK902 := n1_
                          have BK904 := n2_
                          have HB := n3_
                          clear n0_ n1_ n2_ n3_
                          (try clear hb)
                          (try clear hb2)
                          (try clear hk)
                          (try clear hi)
                          refine hK.out _ _ ⟨(blk_cell BK904.out 0).trans rfl, (blk_cell BK904.out 1).trans rfl, (blk_cell BK904.out 2).trans rfl, (blk_cell BK902.out 0).trans rfl, (blk_cell BK902.out 1).trans rfl, (blk_cell BK902.out 2).trans rfl, ((HB.out.cell (World.block_lt_of_cell? w _ hw905_0)).trans hw905_0)⟩ (fun hHeld => ?_)
                          clear hK K
                          refine norm_ (a' := ?_) ?_ ?_
                          rotate_left
                          · show Act.put _ (some 46) _ = _
                            simp only [Act.put, List.setIfInBounds_toArray, List.set_cons_zero, List.set_cons_succ, i64_w, i32_w]
                            rfl
                          refine done_ (done_of HT_.out (by kernel_rfl)) ?_
                          try go_wp2
                          go_ret
                          exact ⟨by first | rfl | (simp [errW_none, errW_some] <;> rfl) | (simp [*, errW_none, errW_some] <;> rfl), by repeat (first | (with_reducible first | exact HB.out | apply below_alloc | apply pw_below_drewN | apply below_drew1 | refine below_set ?_ GE901.out | refine below_set ?_ GE902.out | refine below_set ?_ GE904.out) | exact HB.out)⟩
                        · replace c29 := Bool.eq_false_iff.mpr c29
                          subst c29
                          have H1 : (spec_l3allows.l1 k3 x5_1 (wrap64 (x7_3 + 1)) l0_0 a1_0 a1_1 l1_2 ((rd_T127 l0_0 x5_1).f0) ((rd_T127 l0_0 x5_1).f1) ((rd_T127 l0_0 x5_1).f2)) = some r := by rw [if_neg (show ¬ (false = true) by decide)] at H; exact H
                          clear H
                          have H := H1
                          clear H1
                          have H' := Aside0.mk H
                          clear H
                          have hnb35 := NB904_901.out
                          have hnc35 := NB901_904.out
                          have hnb36 := NB904_902.out
                          have hnc36 := NB902_904.out
                          have hcz37_0 : wr.cell? ⟨gb904, 0, none⟩ = some (.int .u32 ((rd_T127 l0_0 x5_1).f0)) := (blk_cell BK904.out 0).trans rfl
                          have hcz37_1 : wr.cell? ⟨gb904, 1, none⟩ = some (.int .u32 ((rd_T127 l0_0 x5_1).f1)) := (blk_cell BK904.out 1).trans rfl
                          have hcz37_2 : wr.cell? ⟨gb904, 2, none⟩ = some (.slice A903_2 ((rd_T127 l0_0 x5_1).f2).length c903_2) := (blk_cell BK904.out 2).trans rfl
                          have hfz37_0 := blk_frozen BK904.out 0
                          have hfz37_1 := blk_frozen BK904.out 1
                          have hfz37_2 := blk_frozen BK904.out 2
                          try go_wp2
                          have n0_ := Aside0.mk (blk_drew BK901.out)
                          have n1_ := Aside0.mk (blk_drew BK902.out)
                          have n2_ := Aside0.mk (blk_drew BK904.out)
                          have n3_ := Aside0.mk (below_drew1 HB.out)
                          clear BK901
                          clear BK902
                          clear BK904
                          clear HB
                          have BK901 := n0_
                          have BK902 := n1_
                          have BK904 := n2_
                          have HB := n3_
                          clear n0_ n1_ n2_ n3_
                          have p905 : 0 ≤ (x7_3 : Int) := of_decide_eq_true (by first | (with_reducible assumption) | assumption)
                          have q905 : x7_3 < (((rd_T127 l0_0 x5_1).f2).length : Int) := of_decide_eq_true (by first | (with_reducible assumption) | assumption)
                          obtain ⟨ad905, A905_0, c905_0, e905, hx905_0, hl905_0, hi905_0⟩ := at_T131 HR903_2.out x7_3 p905 q905
                          have hw905_0 := hx905_0
                          cases e905
                          replace hx905_0 := (HB.out.cell (World.block_lt_of_cell? w _ hx905_0)).trans hx905_0
                          have HR905_0 := Aside0.mk hi905_0
                          have HC905_0 := Aside0.mk hl905_0
                          clear hi905_0 hl905_0
                          replace p905 := eq_true p905
                          replace q905 := eq_true q905
                          refine start_ (n := 8) (S := fun w' => w'.cell? ⟨gb904, 0, none⟩ = some (.int .u32 ((rd_T127 l0_0 x5_1).f0)) ∧ w'.cell? ⟨gb904, 1, none⟩ = some (.int .u32 ((rd_T127 l0_0 x5_1).f1)) ∧ w'.cell? ⟨gb904, 2, none⟩ = some (.slice (some ad905) ((rd_T127 l0_0 x5_1).f2).length c903_2) ∧ w'.cell? ⟨gb902, 0, none⟩ = some (.int .u32 a1_0) ∧ w'.cell? ⟨gb902, 1, none⟩ = some (.int .u32 a1_1) ∧ w'.cell? ⟨gb902, 2, none⟩ = some (.slice A1_2 l1_2.length c1_2) ∧ w'.cell? (ad905.add (x7_3).toNat) = some (.slice A905_0 ((rd_T131 ((rd_T127 l0_0 x5_1).f2) x7_3).f0).length c905_0)) (ds := []) #[false, false, false, false, false, false, false, false] (by kernel_rfl) rfl rfl ⟨(blk_cell BK904.out 0).trans rfl, (blk_cell BK904.out 1).trans rfl, (blk_cell BK904.out 2).trans rfl, (blk_cell BK902.out 0).trans rfl, (blk_cell BK902.out 1).trans rfl, (blk_cell BK902.out 2).trans rfl, ((HB.out.cell (World.block_lt_of_cell? w _ hw905_0)).trans hw905_0)⟩ (fun hHeld => ?_); refine with_tabW spec_l3allows.tab9 spec_l3allows.bits9 (fun HT_ HW_ => ?_)
                          generalize wr.drew = w38 at BK901 BK902 BK904 HB HR905_0 hx905_0 hHeld ⊢
                          refine pure_ (i := 0) (N := some 39) (v := ?_) (a' := ?_) #[true, false, false, false, false, false, false, false] rfl rfl (any_of HT_.out (by kernel_rfl)) (fun _ _ _ h => h) (Or.inl ⟨by rfl, ?_⟩) ?_ ?_
                          rotate_left
                          · intro w'
                            go_simp
                            with_reducible rfl
                          rotate_left
                          · simp only [Act.put, List.setIfInBounds_toArray, List.set_cons_zero, List.set_cons_succ, i64_w, i32_w]
                            rfl
                          refine pure_ (i := 2) (N := some 41) (v := ?_) (a' := ?_) #[true, false, true, false, false, false, false, false] rfl rfl (any_of HT_.out (by kernel_rfl)) (fun _ _ _ h => h) (Or.inl ⟨by rfl, ?_⟩) ?_ ?_
                          rotate_left
                          · intro w'
                            go_simp
                            with_reducible rfl
                          rotate_left
                          · simp only [Act.put, List.setIfInBounds_toArray, List.set_cons_zero, List.set_cons_succ, i64_w, i32_w]
                            rfl
                          refine pure_ (i := 5) (N := some 44) (v := ?_) (a' := ?_) #[true, false, true, false, false, true, false, false] rfl rfl (any_of HT_.out (by kernel_rfl)) (fun _ _ _ h => h) (Or.inl ⟨by rfl, ?_⟩) ?_ ?_
                          rotate_left
                          · intro w'
                            go_simp
                            with_reducible rfl
                          rotate_left
                          · simp only [Act.put, List.setIfInBounds_toArray, List.set_cons_zero, List.set_cons_succ, i64_w, i32_w]
                            rfl
                          refine take_ (i := 1) (N := some 40) (v := ?_) (a' := ?_) #[true, true, true, false, false, true, false, false] rfl rfl (take_ofW HT_.out HW_.out (by kernel_rfl)) (fun _ _ _ h => h) (Or.inl ⟨by rfl, ?_⟩) hHeld ?_ ?_
                          rotate_left
                          · rintro w' ⟨s0, s1, s2, s3, s4, s5, s6⟩
                            go_simp
                            with_reducible rfl
                          rotate_left
                          · simp only [Act.put, List.setIfInBounds_toArray, List.set_cons_zero, List.set_cons_succ, i64_w, i32_w]
                            rfl
                          refine pure_ (i := 3) (N := some 42) (v := ?_) (a' := ?_) #[true, true, true, true, false, true, false, false] rfl rfl (any_of HT_.out (by kernel_rfl)) (fun _ _ _ h => h) (Or.inl ⟨by rfl, ?_⟩) ?_ ?_
                          rotate_left
                          · intro w'
                            go_simp
                            with_reducible rfl
                          rotate_left
                          · simp only [Act.put, List.setIfInBounds_toArray, List.set_cons_zero, List.set_cons_succ, i64_w, i32_w]
                            rfl
                          refine take_ (i := 4) (N := some 43) (v := ?_) (a' := ?_) #[true, true, true, true, true, true, false, false] rfl rfl (take_ofW HT_.out HW_.out (by kernel_rfl)) (fun _ _ _ h => h) (Or.inl ⟨by rfl, ?_⟩) hHeld ?_ ?_
                          rotate_left
                          · rintro w' ⟨s0, s1, s2, s3, s4, s5, s6⟩
                            go_simp
                            with_reducible rfl
                          rotate_left
                          · simp only [Act.put, List.setIfInBounds_toArray, List.set_cons_zero, List.set_cons_succ, i64_w, i32_w]
                            rfl
                          refine take_ (i := 6) (N := some 45) (v := ?_) (a' := ?_) #[true, true, true, true, true, true, true, false] rfl rfl (take_ofW HT_.out HW_.out (by kernel_rfl)) (fun _ _ _ h => h) (Or.inl ⟨by rfl, ?_⟩) hHeld ?_ ?_
                          rotate_left
                          · rintro w' ⟨s0, s1, s2, s3, s4, s5, s6⟩
                            go_simp
                            with_reducible rfl
                          rotate_left
                          · simp only [Act.put, List.setIfInBounds_toArray, List.set_cons_zero, List.set_cons_succ, i64_w, i32_w]
                            rfl
                          refine one_ (i := 7) (N := some 46) #[true, true, true, true, true, true, true, true] rfl rfl (one_of HT_.out (by kernel_rfl)) (by decide) (fun K hK => ?_)
                          refine goes_ Try.func140 (by kernel_rfl) rfl #[.agg #[.slice A905_0 ((rd_T131 ((rd_T127 l0_0 x5_1).f2) x7_3).f0).length c905_0], .slice A1_2 l1_2.length c1_2] (by rfl) rfl rfl (by (try simp only [List.map_toArray, List.map_cons, List.map_nil]); first | done | rfl | (simp only [List.length_drop, List.length_take]; rfl)) ?_
                          with_reducible refine (spec_l3ruleHolds.calls k3 _ _ ((rd_T131 ((rd_T127 l0_0 x5_1).f2) x7_3).f0) _ _ l1_2 false _ ?side1 ?side2 ?side3 ?side4 A28.out).mono ?_
                          (case side1 => repeat (first | exact (Kd.C_below HR905_0.out HB.out) | (with_reducible refine Kd.C_alloc ?_ _) | (with_reducible refine Kd.C_drewN ?_ _) | (with_reducible refine Kd.C_drew ?_)))
                          (case side2 => exact HC905_0.out)
                          (case side3 => repeat (first | exact (Kd.C_below HR1_2.out HB.out) | (with_reducible refine Kd.C_alloc ?_ _) | (with_reducible refine Kd.C_drewN ?_ _) | (with_reducible refine Kd.C_drew ?_)))
                          (case side4 => exact HC1_2.out)
                          rintro e w39 ⟨rfl, hb⟩
                          refine ⟨_, rfl, ?_⟩
                          have n0_ := Aside0.mk (blk_below (g := gb901) (o := .cells #[.slice (some ad903) l0_0.length c0_0] 64 (0, 0)) (by (with_reducible repeat (first | refine blk_drewN ?_ _ | refine blk_drew ?_ | refine blk_alloc ?_ _)); exact BK901.out) hb)
                          have n1_ := Aside0.mk (blk_below (g := gb902) (o := .cells #[.int .u32 a1_0, .int .u32 a1_1, .slice A1_2 l1_2.length c1_2] 85 (0, 0)) (by (with_reducible repeat (first | refine blk_drewN ?_ _ | refine blk_drew ?_ | refine blk_alloc ?_ _)); exact BK902.out) hb)
                          have n2_ := Aside0.mk (blk_below (g := gb904) (o := .cells #[.int .u32 ((rd_T127 l0_0 x5_1).f0), .int .u32 ((rd_T127 l0_0 x5_1).f1), .slice (some ad905) ((rd_T127 l0_0 x5_1).f2).length c903_2] 127 (0, 0)) (by (with_reducible repeat (first | refine blk_drewN ?_ _ | refine blk_drew ?_ | refine blk_alloc ?_ _)); exact BK904.out) hb)
                          have n3_ := Aside0.mk (below_step (by repeat (first | (with_reducible first | exact HB.out | apply below_alloc | apply pw_below_drewN | apply below_drew1 | refine below_set ?_ GE901.out | refine below_set ?_ GE902.out | refine below_set ?_ GE904.out) | exact HB.out)) hb)
                          clear BK901
                          clear BK902
                          clear BK904
                          clear HB
                          have BK901 := n0_
                          have BK902 := n1_
                          have BK904 := n2_
                          have HB := n3_
                          clear n0_ n1_ n2_ n3_
                          (try clear hb)
                          (try clear hb2)
                          (try clear hk)
                          (try clear hi)
                          refine hK.out _ _ ⟨(blk_cell BK904.out 0).trans rfl, (blk_cell BK904.out 1).trans rfl, (blk_cell BK904.out 2).trans rfl, (blk_cell BK902.out 0).trans rfl, (blk_cell BK902.out 1).trans rfl, (blk_cell BK902.out 2).trans rfl, ((HB.out.cell (World.block_lt_of_cell? w _ hw905_0)).trans hw905_0)⟩ (fun hHeld => ?_)
                          clear hK K
                          refine norm_ (a' := ?_) ?_ ?_
                          rotate_left
                          · show Act.put _ (some 46) _ = _
                            simp only [Act.put, List.setIfInBounds_toArray, List.set_cons_zero, List.set_cons_succ, i64_w, i32_w]
                            rfl
                          refine done_ (done_of HT_.out (by kernel_rfl)) ?_
                          try go_wp2
                          go_roundg k3
                          case measure => have := HK1.out; have := HJ6.out; have := HK3.out; omega
                          case rel => exact ⟨(wrap64 (x7_3 + 1)), (by first | rfl | (simp; done) | (simp [*]; done)), H', ⟨by have := HK1.out; have := HJ6.out; have := HK3.out; omega⟩, ⟨by (with_reducible repeat (first | refine blk_drewN ?_ _ | refine blk_drew ?_ | refine blk_alloc ?_ _)); exact BK901.out⟩, ⟨by (with_reducible repeat (first | refine blk_drewN ?_ _ | refine blk_drew ?_ | refine blk_alloc ?_ _)); exact BK902.out⟩, ⟨by (with_reducible repeat (first | refine blk_drewN ?_ _ | refine blk_drew ?_ | refine blk_alloc ?_ _)); exact BK904.out⟩, ⟨by repeat (first | (with_reducible first | exact HB.out | apply below_alloc | apply pw_below_drewN | apply below_drew1 | refine below_set ?_ GE901.out | refine below_set ?_ GE902.out | refine below_set ?_ GE904.out) | exact HB.out)⟩⟩
                      · rw [if_neg c27] at H
                        exact absurd H (by simp)
                    · rw [if_neg c26] at H
                      have c26b0 : decide (x7_3 < (((rd_T127 l0_0 x5_1).f2).length : Int)) = false := decide_eq_false c26
                      clear c26
                      have H' := Aside0.mk H
                      clear H
                      have hnb40 := NB904_901.out
                      have hnc40 := NB901_904.out
                      have hnb41 := NB904_902.out
                      have hnc41 := NB902_904.out
                      have hcz42_0 : wr.cell? ⟨gb904, 0, none⟩ = some (.int .u32 ((rd_T127 l0_0 x5_1).f0)) := (blk_cell BK904.out 0).trans rfl
                      have hcz42_1 : wr.cell? ⟨gb904, 1, none⟩ = some (.int .u32 ((rd_T127 l0_0 x5_1).f1)) := (blk_cell BK904.out 1).trans rfl
                      have hcz42_2 : wr.cell? ⟨gb904, 2, none⟩ = some (.slice A903_2 ((rd_T127 l0_0 x5_1).f2).length c903_2) := (blk_cell BK904.out 2).trans rfl
                      have hfz42_0 := blk_frozen BK904.out 0
                      have hfz42_1 := blk_frozen BK904.out 1
                      have hfz42_2 := blk_frozen BK904.out 2
                      go_wp2
                      go_roundg k3
                      case measure => have := HK1.out; have := HJ6.out; have := HK3.out; omega
                      case rel => exact ⟨(wrap64 (x5_1 + 1)), (by first | rfl | (simp; done) | (simp [*]; done)), H', ⟨by have := HK1.out; have := HJ6.out; have := HK3.out; omega⟩, ⟨by (with_reducible repeat (first | refine blk_drewN ?_ _ | refine blk_drew ?_ | refine blk_alloc ?_ _)); exact BK901.out⟩, ⟨by (with_reducible repeat (first | refine blk_drewN ?_ _ | refine blk_drew ?_ | refine blk_alloc ?_ _)); exact BK902.out⟩, ⟨by repeat (first | (with_reducible first | exact HB.out | apply below_alloc | apply pw_below_drewN | apply below_drew1 | refine below_set ?_ GE901.out | refine below_set ?_ GE902.out | refine below_set ?_ GE904.out) | exact HB.out)⟩⟩
        · rw [if_neg c6] at H
          exact absurd H (by simp)
      · rw [if_neg c5] at H
        have c5b0 : decide (x5_1 < (l0_0.length : Int)) = false := decide_eq_false c5
        clear c5
        obtain rfl := Option.some.inj H
        have hnb43 := NB901_902.out
        have hnc43 := NB902_901.out
        have hcz44_0 : wr.cell? ⟨gb901, 0, none⟩ = some (.slice A0_0 l0_0.length c0_0) := (blk_cell BK901.out 0).trans rfl
        have hfz44_0 := blk_frozen BK901.out 0
        go_wp2
        go_ret
        exact ⟨by first | rfl | (simp [errW_none, errW_some] <;> rfl) | (simp [*, errW_none, errW_some] <;> rfl), by repeat (first | (with_reducible first | exact HB.out | apply below_alloc | apply pw_below_drewN | apply below_drew1 | refine below_set ?_ GE901.out | refine below_set ?_ GE902.out) | exact HB.out)⟩

end Go.Proofs.Ytdipinclchkhjaa.P
