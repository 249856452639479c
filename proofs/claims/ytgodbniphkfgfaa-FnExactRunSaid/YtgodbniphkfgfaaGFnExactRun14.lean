import Derived.Test.YtgodbniphkfgfaaGFnExactRun5
import Derived.Test.YtgodbniphkfgfaaGFnExactRun13
import Derived.Test.YtgodbniphkfgfaaGFnExactRun10
import Derived.Test.YtgodbniphkfgfaaGFnExactRun11
namespace Go.Proofs.Ytgodbniphkfgfaa.P
open Go.RowKit Go.Proofs.YtgodbniphkfgfaaW.PrintWords Go.Proofs.YtgodbniphkfgfaaW.PrintLast Go.Proofs.YtgodbniphkfgfaaW.PrintMore
attribute [local go_sem] max2_int min2_int max_two min_two max_three min_three max_four min_four   -- for this text's walks alone
set_option linter.unusedVariables false
set_option linter.unusedSimpArgs false

/-! ### impl_Validate: function 28 -/
mutual
def impl_Validate.j0 : Nat → List (S54) → Bool → Option (Int × Int)
  | 0, _, _ => none
  | k + 1, x0, x14 => if x14 = true then (some (1, 0)) else (impl_Validate.l0 k x0 x0 (x0.length : Int) 0)
def impl_Validate.l0 : Nat → List (S54) → List (S54) → Int → Int → Option (Int × Int)
  | 0, _, _, _, _ => none
  | k + 1, x0, x15, x16, x17 => if x17 < x16 then (if 0 ≤ x17 then (if x17 < (x15.length : Int) then ((impl_Ins_fault.f k ((rd_T54 x15 x17).f0) ((rd_T54 x15 x17).f1) ((rd_T54 x15 x17).f2) ((rd_T54 x15 x17).f3) x17 (x0.length : Int)).bind fun t420 => (if t420 = 0 then (impl_Validate.l0 k x0 x15 x16 (wrap64 (x17 + 1))) else (some (t420, x17)))) else (none)) else (none)) else (some (0, 0))
end
def impl_Validate.f (k : Nat) (l0 : List (S54)) : Option (Int × Int) := if (l0.length : Int) < 1 then (impl_Validate.j0 k l0 true) else (impl_Validate.j0 k l0 (decide ((l0.length : Int) > 4096)))
set_option maxHeartbeats 8000000 in
set_option maxRecDepth 100000 in
theorem impl_Validate.calls (k : Nat) (A0 : Option Addr) (c0 : Nat) (l0 : List (S54)) (r1 : Int) (r2 : Int) (w : World) (hr0 : Kd.C k54 w A0 l0.length l0) (hc0 : l0.length ≤ c0) (h : impl_Validate.f k l0 = some (r1, r2)) :
    Calls Try.prog 28 #[.slice A0 l0.length c0] w fun e w' => e = .returned (.tuple #[.int .i64 r1, .int .i64 r2]) ∧ Below w.heap.size w w' := by
  have hu54 := Try.underlying54
  have HR0 := Aside0.mk hr0
  have HC0 := Aside0.mk hc0
  clear hr0 hc0
  have HB := Aside0.mk (Below.refl w.heap.size w)
  have H : (if (l0.length : Int) < 1 then (impl_Validate.j0 k l0 true) else (impl_Validate.j0 k l0 (decide ((l0.length : Int) > 4096)))) = some (r1, r2) := h
  clear h
  have HC2 := Aside0.mk H
  clear H
  go_enter Try.func28, Try.ntmps28
  go_upto_region 1 with (fail)
  go_cut [14] (fun v14 wc => ∃ (kq : Nat) (x14_1 : Bool), v14 = .bool x14_1 ∧ Aside0 (impl_Validate.j0 kq l0 x14_1 = some (r1, r2)) ∧ Aside0 (kq ≤ k) ∧ Aside0 (Below w.heap.size w wc))
  case first =>
    have H := HC2.out
    clear HC2
    by_cases c3 : (l0.length : Int) < 1
    · rw [if_pos c3] at H
      have c3b0 : decide ((l0.length : Int) < 1) = true := decide_eq_true c3
      have c3b1 : decide (l0.length < 1) = true := decide_eq_true (by omega)
      clear c3
      (first | rw [c3b0] | (simp only [i64_w, i32_w]; rw [c3b0]) | skip)
      have H' := Aside0.mk H
      clear H
      go_wp2
      go_meet
      case rel => exact ⟨_, (true), (by first | rfl | (simp; done) | (simp [*]; done)), H', ⟨by first | omega | exact Nat.le_refl _⟩, ⟨by repeat (first | (with_reducible first | exact HB.out | apply below_alloc | apply pw_below_drewN | apply below_drew1) | exact HB.out)⟩⟩
    · rw [if_neg c3] at H
      have c3b0 : decide ((l0.length : Int) < 1) = false := decide_eq_false c3
      have c3b1 : decide (l0.length < 1) = false := decide_eq_false (by omega)
      clear c3
      (first | rw [c3b0] | (simp only [i64_w, i32_w]; rw [c3b0]) | skip)
      have H' := Aside0.mk H
      clear H
      go_wp2
      go_meet
      case rel => exact ⟨_, (decide ((l0.length : Int) > 4096)), (by first | rfl | (simp; done) | (simp [*]; done)), H', ⟨by first | omega | exact Nat.le_refl _⟩, ⟨by repeat (first | (with_reducible first | exact HB.out | apply below_alloc | apply pw_below_drewN | apply below_drew1) | exact HB.out)⟩⟩
  case rest =>
    clear HC2
    try clear c2
    try clear p2
    try clear c3
    try clear c3b0
    try clear c3b1
    obtain ⟨kq, x14_1, rfl, HA, HJ1, HB⟩ := hcut
    cases kq with
    | zero => exact absurd HA.out (by simp [impl_Validate.j0])
    | succ kj1 =>
      have H := HA.out
      clear HA
      simp only [impl_Validate.j0] at H
      by_cases c4 : x14_1 = true
      · subst c4
        have H1 : (some (1, 0)) = some (r1, r2) := by rw [if_pos rfl] at H; exact H
        clear H
        have H := H1
        clear H1
        simp only [Option.some.injEq, Prod.mk.injEq] at H
        obtain ⟨rfl, rfl⟩ := H
        go_wp2
        go_ret2
        exact ⟨by first | rfl | (simp [errW_none, errW_some] <;> rfl) | (simp [*, errW_none, errW_some] <;> rfl), by repeat (first | (with_reducible first | exact HB.out | apply below_alloc | apply pw_below_drewN | apply below_drew1) | exact HB.out)⟩
      · replace c4 := Bool.eq_false_iff.mpr c4
        subst c4
        have H1 : (impl_Validate.l0 kj1 l0 l0 (l0.length : Int) 0) = some (r1, r2) := by rw [if_neg (show ¬ (false = true) by decide)] at H; exact H
        clear H
        have H := H1
        clear H1
        have H' := Aside0.mk H
        clear H
        go_wp2
        go_loopg [17] kj1 (fun kq v17 w' => ∃ (x17_2 : Int), v17 = .int .i64 x17_2 ∧ Aside0 (impl_Validate.l0 kq l0 l0 (l0.length : Int) x17_2 = some (r1, r2)) ∧ Aside0 (kq ≤ kj1) ∧ Aside0 (Below w.heap.size w w'))
        case atStart => exact ⟨(0), (by first | rfl | (simp; done) | (simp [*]; done)), H', ⟨Nat.le_refl _⟩, ⟨by repeat (first | (with_reducible first | exact HB.out | apply below_alloc | apply pw_below_drewN | apply below_drew1) | exact HB.out)⟩⟩
        case round =>
          clear H'
          try clear c2
          try clear p2
          try clear c3
          try clear c3b0
          try clear c3b1
          try clear c4
          try clear p2
          obtain ⟨x17_2, rfl, HA, HK2, HB⟩ := hrel
          cases gk with
          | zero => exact absurd HA.out (by simp [impl_Validate.l0])
          | succ k2 =>
            have H := HA.out
            clear HA
            simp only [impl_Validate.l0] at H
            by_cases c5 : x17_2 < (l0.length : Int)
            · rw [if_pos c5] at H
              have c5b0 : decide (x17_2 < (l0.length : Int)) = true := decide_eq_true c5
              clear c5
              by_cases c6 : 0 ≤ x17_2
              · rw [if_pos c6] at H
                have c6b0 : decide (0 ≤ x17_2) = true := decide_eq_true c6
                clear c6
                by_cases c7 : x17_2 < (l0.length : Int)
                · rw [if_pos c7] at H
                  have c7b0 : decide (x17_2 < (l0.length : Int)) = true := decide_eq_true c7
                  clear c7
                  replace H := Option.bind_eq_some_iff.mp H
                  obtain ⟨t420, A80, H⟩ := H
                  replace H : (if t420 = 0 then (impl_Validate.l0 k2 l0 l0 (l0.length : Int) (wrap64 (x17_2 + 1))) else (some (t420, x17_2))) = some (r1, r2) := H
                  have A8 := Aside0.mk A80
                  clear A80
                  by_cases c9 : t420 = 0
                  · rw [if_pos c9] at H
                    have c9b0 : (t420 == 0) = true := beq_iff_eq.mpr c9
                    have c9b1 : (t420 != 0) = false := bne_eq_false_iff_eq.mpr c9
                    clear c9
                    have H' := Aside0.mk H
                    clear H
                    have p418 : 0 ≤ (x17_2 : Int) := of_decide_eq_true (by first | (with_reducible assumption) | assumption)
                    have q418 : x17_2 < (l0.length : Int) := of_decide_eq_true (by first | (with_reducible assumption) | assumption)
                    obtain ⟨ad418, e418, hx418_0, hx418_1, hx418_2, hx418_3⟩ := at_T54 HR0.out x17_2 p418 q418
                    cases e418
                    replace hx418_0 := (HB.out.cell (World.block_lt_of_cell? w _ hx418_0)).trans hx418_0
                    replace hx418_1 := (HB.out.cell (World.block_lt_of_cell? w _ hx418_1)).trans hx418_1
                    replace hx418_2 := (HB.out.cell (World.block_lt_of_cell? w _ hx418_2)).trans hx418_2
                    replace hx418_3 := (HB.out.cell (World.block_lt_of_cell? w _ hx418_3)).trans hx418_3
                    replace p418 := eq_true p418
                    replace q418 := eq_true q418
                    go_wp2_with (first | ((with_reducible refine gate_dst (N := 5) rfl ?_); (try (refine gate_guard (by rfl) ?_; dsimp only)); refine box_event ?hg (N := 5) ?hd (cs := #[.int .u16 0, .int .u8 0, .int .u8 0, .int .u32 0]) (t := 54) ?hr ?_; (case hd => rfl); (case hg => rfl); (case hr => first | (go_simp; done) | (go_simp; rfl)); intro gb419 hg w10 hbox hb; have n0_ := Aside0.mk (below_step (by repeat (first | (with_reducible first | exact HB.out | apply below_alloc | apply pw_below_drewN | apply below_drew1) | exact HB.out)) hb); have n1_ := Aside0.mk (hbox); have n2_ := Aside0.mk ((by rw [hg]; exact (below_size (by repeat (first | (with_reducible first | exact HB.out | apply below_alloc | apply pw_below_drewN | apply below_drew1) | exact HB.out))) : w.heap.size ≤ gb419)); have n3_ := Aside0.mk ((by rw [hg]; exact (below_size (by repeat (first | (with_reducible first | exact HB.out | apply below_alloc | apply pw_below_drewN | apply below_drew1) | exact HB.out))) : w.heap.size ≤ gb419)); clear HB; have HB := n0_; have BK419 := n1_; have GW419 := n2_; have GE419 := n3_; clear n0_ n1_ n2_ n3_; clear hb hbox hg; have hcz11_0 : w10.cell? ⟨gb419, 0, none⟩ = some (.int .u16 0) := (blk_cell BK419.out 0).trans rfl; have hcz11_1 : w10.cell? ⟨gb419, 1, none⟩ = some (.int .u8 0) := (blk_cell BK419.out 1).trans rfl; have hcz11_2 : w10.cell? ⟨gb419, 2, none⟩ = some (.int .u8 0) := (blk_cell BK419.out 2).trans rfl; have hcz11_3 : w10.cell? ⟨gb419, 3, none⟩ = some (.int .u32 0) := (blk_cell BK419.out 3).trans rfl; have hfz11_0 := blk_frozen BK419.out 0; have hfz11_1 := blk_frozen BK419.out 1; have hfz11_2 := blk_frozen BK419.out 2; have hfz11_3 := blk_frozen BK419.out 3) | ((with_reducible refine gate_callee (f := 46) rfl ?_); refine goesL_ (some 26) rfl rfl Try.func46 (by kernel_rfl) rfl #[.agg #[.int .u16 ((rd_T54 l0 x17_2).f0), .int .u8 ((rd_T54 l0 x17_2).f1), .int .u8 ((rd_T54 l0 x17_2).f2), .int .u32 ((rd_T54 l0 x17_2).f3)], .int .i64 x17_2, .int .i64 (l0.length : Int)] rfl (by (try simp only [List.map_toArray, List.map_cons, List.map_nil]); first | done | rfl | (simp only [List.length_drop, List.length_take]; rfl)) ?_; (with_reducible refine (impl_Ins_fault.calls k2 ((rd_T54 l0 x17_2).f0) ((rd_T54 l0 x17_2).f1) ((rd_T54 l0 x17_2).f2) ((rd_T54 l0 x17_2).f3) x17_2 (l0.length : Int) t420 _ A8.out).mono ?_); rintro e w12 ⟨rfl, hb⟩; refine ⟨_, rfl, ?_⟩; have n0_ := Aside0.mk (blk_below (g := gb419) (o := .cells #[.int .u16 ((rd_T54 l0 x17_2).f0), .int .u8 ((rd_T54 l0 x17_2).f1), .int .u8 ((rd_T54 l0 x17_2).f2), .int .u32 ((rd_T54 l0 x17_2).f3)] 54 (0, 0)) (by (with_reducible repeat (first | refine blk_drewN ?_ _ | refine blk_drew ?_ | refine blk_alloc ?_ _)); refine blk_put (cs := #[.int .u16 ((rd_T54 l0 x17_2).f0), .int .u8 ((rd_T54 l0 x17_2).f1), .int .u8 ((rd_T54 l0 x17_2).f2), .int .u32 0]) ?_ 3 _ rfl; (with_reducible repeat (first | refine blk_drewN ?_ _ | refine blk_drew ?_ | refine blk_alloc ?_ _)); refine blk_put (cs := #[.int .u16 ((rd_T54 l0 x17_2).f0), .int .u8 ((rd_T54 l0 x17_2).f1), .int .u8 0, .int .u32 0]) ?_ 2 _ rfl; (with_reducible repeat (first | refine blk_drewN ?_ _ | refine blk_drew ?_ | refine blk_alloc ?_ _)); refine blk_put (cs := #[.int .u16 ((rd_T54 l0 x17_2).f0), .int .u8 0, .int .u8 0, .int .u32 0]) ?_ 1 _ rfl; (with_reducible repeat (first | refine blk_drewN ?_ _ | refine blk_drew ?_ | refine blk_alloc ?_ _)); refine blk_put (cs := #[.int .u16 0, .int .u8 0, .int .u8 0, .int .u32 0]) ?_ 0 _ rfl; (with_reducible repeat (first | refine blk_drewN ?_ _ | refine blk_drew ?_ | refine blk_alloc ?_ _)); exact BK419.out) hb); have n1_ := Aside0.mk (below_step (by repeat (first | (with_reducible first | exact HB.out | apply below_alloc | apply pw_below_drewN | apply below_drew1 | refine below_set ?_ GE419.out) | exact HB.out)) hb); clear BK419; clear HB; have BK419 := n0_; have HB := n1_; clear n0_ n1_; (try clear hb); (try clear hb2); (try clear hk); (try clear hi)))
                    go_roundg k2
                    case measure => have := HJ1.out; have := HK2.out; omega
                    case rel => exact ⟨(wrap64 (x17_2 + 1)), (by first | rfl | (simp; done) | (simp [*]; done)), H', ⟨by have := HJ1.out; have := HK2.out; omega⟩, ⟨by repeat (first | (with_reducible first | exact HB.out | apply below_alloc | apply pw_below_drewN | apply below_drew1 | refine below_set ?_ GE419.out) | exact HB.out)⟩⟩
                  · rw [if_neg c9] at H
                    have c9b0 : (t420 == 0) = false := beq_eq_false_iff_ne.mpr c9
                    have c9b1 : (t420 != 0) = true := bne_iff_ne.mpr c9
                    simp only [Option.some.injEq, Prod.mk.injEq] at H
                    obtain ⟨rfl, rfl⟩ := H
                    have p418 : 0 ≤ (x17_2 : Int) := of_decide_eq_true (by first | (with_reducible assumption) | assumption)
                    have q418 : x17_2 < (l0.length : Int) := of_decide_eq_true (by first | (with_reducible assumption) | assumption)
                    obtain ⟨ad418, e418, hx418_0, hx418_1, hx418_2, hx418_3⟩ := at_T54 HR0.out x17_2 p418 q418
                    cases e418
                    replace hx418_0 := (HB.out.cell (World.block_lt_of_cell? w _ hx418_0)).trans hx418_0
                    replace hx418_1 := (HB.out.cell (World.block_lt_of_cell? w _ hx418_1)).trans hx418_1
                    replace hx418_2 := (HB.out.cell (World.block_lt_of_cell? w _ hx418_2)).trans hx418_2
                    replace hx418_3 := (HB.out.cell (World.block_lt_of_cell? w _ hx418_3)).trans hx418_3
                    replace p418 := eq_true p418
                    replace q418 := eq_true q418
                    go_wp2_with (first | ((with_reducible refine gate_dst (N := 5) rfl ?_); (try (refine gate_guard (by rfl) ?_; dsimp only)); refine box_event ?hg (N := 5) ?hd (cs := #[.int .u16 0, .int .u8 0, .int .u8 0, .int .u32 0]) (t := 54) ?hr ?_; (case hd => rfl); (case hg => rfl); (case hr => first | (go_simp; done) | (go_simp; rfl)); intro gb419 hg w13 hbox hb; have n0_ := Aside0.mk (below_step (by repeat (first | (with_reducible first | exact HB.out | apply below_alloc | apply pw_below_drewN | apply below_drew1) | exact HB.out)) hb); have n1_ := Aside0.mk (hbox); have n2_ := Aside0.mk ((by rw [hg]; exact (below_size (by repeat (first | (with_reducible first | exact HB.out | apply below_alloc | apply pw_below_drewN | apply below_drew1) | exact HB.out))) : w.heap.size ≤ gb419)); have n3_ := Aside0.mk ((by rw [hg]; exact (below_size (by repeat (first | (with_reducible first | exact HB.out | apply below_alloc | apply pw_below_drewN | apply below_drew1) | exact HB.out))) : w.heap.size ≤ gb419)); clear HB; have HB := n0_; have BK419 := n1_; have GW419 := n2_; have GE419 := n3_; clear n0_ n1_ n2_ n3_; clear hb hbox hg; have hcz14_0 : w13.cell? ⟨gb419, 0, none⟩ = some (.int .u16 0) := (blk_cell BK419.out 0).trans rfl; have hcz14_1 : w13.cell? ⟨gb419, 1, none⟩ = some (.int .u8 0) := (blk_cell BK419.out 1).trans rfl; have hcz14_2 : w13.cell? ⟨gb419, 2, none⟩ = some (.int .u8 0) := (blk_cell BK419.out 2).trans rfl; have hcz14_3 : w13.cell? ⟨gb419, 3, none⟩ = some (.int .u32 0) := (blk_cell BK419.out 3).trans rfl; have hfz14_0 := blk_frozen BK419.out 0; have hfz14_1 := blk_frozen BK419.out 1; have hfz14_2 := blk_frozen BK419.out 2; have hfz14_3 := blk_frozen BK419.out 3) | ((with_reducible refine gate_callee (f := 46) rfl ?_); refine goesL_ (some 26) rfl rfl Try.func46 (by kernel_rfl) rfl #[.agg #[.int .u16 ((rd_T54 l0 x17_2).f0), .int .u8 ((rd_T54 l0 x17_2).f1), .int .u8 ((rd_T54 l0 x17_2).f2), .int .u32 ((rd_T54 l0 x17_2).f3)], .int .i64 x17_2, .int .i64 (l0.length : Int)] rfl (by (try simp only [List.map_toArray, List.map_cons, List.map_nil]); first | done | rfl | (simp only [List.length_drop, List.length_take]; rfl)) ?_; (with_reducible refine (impl_Ins_fault.calls k2 ((rd_T54 l0 x17_2).f0) ((rd_T54 l0 x17_2).f1) ((rd_T54 l0 x17_2).f2) ((rd_T54 l0 x17_2).f3) x17_2 (l0.length : Int) t420 _ A8.out).mono ?_); rintro e w15 ⟨rfl, hb⟩; refine ⟨_, rfl, ?_⟩; have n0_ := Aside0.mk (blk_below (g := gb419) (o := .cells #[.int .u16 ((rd_T54 l0 x17_2).f0), .int .u8 ((rd_T54 l0 x17_2).f1), .int .u8 ((rd_T54 l0 x17_2).f2), .int .u32 ((rd_T54 l0 x17_2).f3)] 54 (0, 0)) (by (with_reducible repeat (first | refine blk_drewN ?_ _ | refine blk_drew ?_ | refine blk_alloc ?_ _)); refine blk_put (cs := #[.int .u16 ((rd_T54 l0 x17_2).f0), .int .u8 ((rd_T54 l0 x17_2).f1), .int .u8 ((rd_T54 l0 x17_2).f2), .int .u32 0]) ?_ 3 _ rfl; (with_reducible repeat (first | refine blk_drewN ?_ _ | refine blk_drew ?_ | refine blk_alloc ?_ _)); refine blk_put (cs := #[.int .u16 ((rd_T54 l0 x17_2).f0), .int .u8 ((rd_T54 l0 x17_2).f1), .int .u8 0, .int .u32 0]) ?_ 2 _ rfl; (with_reducible repeat (first | refine blk_drewN ?_ _ | refine blk_drew ?_ | refine blk_alloc ?_ _)); refine blk_put (cs := #[.int .u16 ((rd_T54 l0 x17_2).f0), .int .u8 0, .int .u8 0, .int .u32 0]) ?_ 1 _ rfl; (with_reducible repeat (first | refine blk_drewN ?_ _ | refine blk_drew ?_ | refine blk_alloc ?_ _)); refine blk_put (cs := #[.int .u16 0, .int .u8 0, .int .u8 0, .int .u32 0]) ?_ 0 _ rfl; (with_reducible repeat (first | refine blk_drewN ?_ _ | refine blk_drew ?_ | refine blk_alloc ?_ _)); exact BK419.out) hb); have n1_ := Aside0.mk (below_step (by repeat (first | (with_reducible first | exact HB.out | apply below_alloc | apply pw_below_drewN | apply below_drew1 | refine below_set ?_ GE419.out) | exact HB.out)) hb); clear BK419; clear HB; have BK419 := n0_; have HB := n1_; clear n0_ n1_; (try clear hb); (try clear hb2); (try clear hk); (try clear hi)))
                    go_ret2
                    exact ⟨by first | rfl | (simp [errW_none, errW_some] <;> rfl) | (simp [*, errW_none, errW_some] <;> rfl), by repeat (first | (with_reducible first | exact HB.out | apply below_alloc | apply pw_below_drewN | apply below_drew1 | refine below_set ?_ GE419.out) | exact HB.out)⟩
                · rw [if_neg c7] at H
                  exact absurd H (by simp)
              · rw [if_neg c6] at H
                exact absurd H (by simp)
            · rw [if_neg c5] at H
              have c5b0 : decide (x17_2 < (l0.length : Int)) = false := decide_eq_false c5
              clear c5
              simp only [Option.some.injEq, Prod.mk.injEq] at H
              obtain ⟨rfl, rfl⟩ := H
              go_wp2
              go_ret2
              exact ⟨by first | rfl | (simp [errW_none, errW_some] <;> rfl) | (simp [*, errW_none, errW_some] <;> rfl), by repeat (first | (with_reducible first | exact HB.out | apply below_alloc | apply pw_below_drewN | apply below_drew1) | exact HB.out)⟩

end Go.Proofs.Ytgodbniphkfgfaa.P

namespace Go.Proofs.Ytgodbniphkfgfaa.P
open Go.RowKit Go.Proofs.YtgodbniphkfgfaaW.PrintWords Go.Proofs.YtgodbniphkfgfaaW.PrintLast Go.Proofs.YtgodbniphkfgfaaW.PrintMore
set_option linter.unusedVariables false
set_option linter.unusedSimpArgs false
/-- An instruction's fields in their ranges. -/
def InsR (x : S54) : Prop := (0 ≤ x.f0 ∧ x.f0 < 65536) ∧ (0 ≤ x.f1 ∧ x.f1 < 256) ∧ (0 ≤ x.f2 ∧ x.f2 < 256) ∧ 0 ≤ x.f3 ∧ x.f3 < 4294967296
/-! The faults of one instruction, from the last that is looked for to the first. -/
def ft5 (c i n : Int) : Int := if i = n - 1 ∧ c ≠ 6 ∧ c ≠ 22 then 7 else 0
def ft4 (c k i n : Int) : Int := if (c = 100 ∨ c = 116) ∧ k ≥ 32 then 6 else ft5 c i n
def ft3 (c k i n : Int) : Int := if c = 52 ∧ k = 0 then 6 else ft4 c k i n
def ft2 (c t f k i n : Int) : Int := if sortN c = 2 ∧ (i + 1 + t ≥ n ∨ i + 1 + f ≥ n) then 5 else ft3 c k i n
def ft1 (c t f k i n : Int) : Int := if c = 5 ∧ i + 1 + k ≥ n then 5 else ft2 c t f k i n
def ft0 (c t f k i n : Int) : Int := if (c = 96 ∨ c = 97 ∨ c = 2 ∨ c = 3) ∧ k ≥ 16 then 4 else ft1 c t f k i n
def insFault (x : S54) (i n : Int) : Int := if sortN x.f0 = 0 then 2 else if x.f0 = 32 ∧ (x.f3 % 4 ≠ 0 ∨ x.f3 > 60) then 3 else ft0 x.f0 x.f1 x.f2 x.f3 i n
theorem sort_end (c : Int) : sortN c = 4 ↔ c = 6 ∨ c = 22 := by
  unfold sortN
  split
  · rename_i h
    simp only [plainCodes, List.mem_cons, List.not_mem_nil, or_false] at h
    rcases h with rfl | rfl | rfl | rfl | rfl | rfl | rfl | rfl | rfl | rfl | rfl | rfl | rfl | rfl | rfl | rfl | rfl | rfl | rfl | rfl | rfl | rfl | rfl | rfl | rfl | rfl | rfl | rfl <;> decide
  · split
    · rename_i h; subst h; decide
    · split
      · rename_i h
        simp only [testCodes, List.mem_cons, List.not_mem_nil, or_false] at h
        rcases h with rfl | rfl | rfl | rfl | rfl | rfl | rfl | rfl <;> decide
      · split <;> rename_i h
        · simpa [endCodes] using h
        · simpa [endCodes] using h
theorem sort_skip (c : Int) : sortN c = 3 ↔ c = 5 := by
  unfold sortN
  split
  · rename_i h
    simp only [plainCodes, List.mem_cons, List.not_mem_nil, or_false] at h
    rcases h with rfl | rfl | rfl | rfl | rfl | rfl | rfl | rfl | rfl | rfl | rfl | rfl | rfl | rfl | rfl | rfl | rfl | rfl | rfl | rfl | rfl | rfl | rfl | rfl | rfl | rfl | rfl | rfl <;> decide
  · split
    · rename_i h; simp [h]
    · rename_i h
      split
      · simp [h]
      · split <;> simp [h]
theorem specFault_ev (l : List S54) (i : Nat) (hi : i < l.length) (hl : l.length ≤ 4096) (hr : InsR l[i]) : Ev (fun k => spec_l1fault.f k l (i : Int)) (insFault l[i] i l.length) := by
  obtain ⟨⟨a0, a1⟩, ⟨b0, b1⟩, ⟨c0, c1⟩, d0, d1⟩ := hr
  obtain ⟨c, hc⟩ : ∃ c, c = l[i].f0 := ⟨_, rfl⟩
  obtain ⟨t, ht⟩ : ∃ c, c = l[i].f1 := ⟨_, rfl⟩
  obtain ⟨f, hf⟩ : ∃ c, c = l[i].f2 := ⟨_, rfl⟩
  obtain ⟨kk, hkk⟩ : ∃ c, c = l[i].f3 := ⟨_, rfl⟩
  obtain ⟨n, hn⟩ : ∃ n : Int, n = (l.length : Int) := ⟨_, rfl⟩
  obtain ⟨K1, h1⟩ := ev_get (l1known_ev c)
  obtain ⟨K2, h2⟩ := ev_get (l1isTest_ev c (by omega))
  have j5 : ∀ k b, spec_l1fault.j5 (k + 1) i n c b = some (if b = true then 6 else ft5 c i n) := by
    intro k b
    rw [spec_l1fault.j5, wrap64_id (by omega) (by omega)]
    unfold ft5
    by_cases hb : b = true
    · simp [hb]
    · rw [if_neg hb, if_neg hb]
      by_cases e : (i : Int) = n - 1
      · rw [if_pos e]
        by_cases e1 : c = 6
        · rw [if_pos e1, if_neg (by simp [e1])]
        · rw [if_neg e1]
          by_cases e2 : c = 22
          · rw [if_pos e2, if_neg (by simp [e2])]
          · rw [if_neg e2, if_pos ⟨e, e1, e2⟩]
      · rw [if_neg e, if_neg (fun h => e h.1)]
  have j4 : ∀ k b, spec_l1fault.j4 (k + 2) i n c kk b = some (if b = true then 6 else ft4 c kk i n) := by
    intro k b
    rw [spec_l1fault.j4]
    simp only [j5]
    unfold ft4
    by_cases hb : b = true
    · simp [hb]
    · rw [if_neg hb, if_neg hb]
      by_cases e1 : c = 100
      · rw [if_pos e1]; simp only [decide_eq_true_eq]; congr 1; by_cases e : kk ≥ 32 <;> simp [e, e1]
      · rw [if_neg e1]
        by_cases e2 : c = 116
        · rw [if_pos e2]; simp only [decide_eq_true_eq]; congr 1; by_cases e : kk ≥ 32 <;> simp [e, e2]
        · rw [if_neg e2]; simp [e1, e2]
  have j3 : ∀ k b, spec_l1fault.j3 (k + 3) i n c kk b = some (if b = true then 5 else ft3 c kk i n) := by
    intro k b
    rw [spec_l1fault.j3]
    simp only [j4]
    unfold ft3
    by_cases hb : b = true
    · simp [hb]
    · rw [if_neg hb, if_neg hb]
      by_cases e1 : c = 52
      · rw [if_pos e1]; simp only [beq_iff_eq]; congr 1; by_cases e : kk = 0 <;> simp [e, e1]
      · rw [if_neg e1]; simp [e1]
  have j2 : ∀ k b, K2 ≤ k → spec_l1fault.j2 (k + 4) l i n c kk b = some (if b = true then 5 else ft2 c t f kk i n) := by
    intro k b hk
    rw [spec_l1fault.j2]
    simp only [j3]
    rw [h2 (k + 3) (by omega), Option.bind_some, rdIns_eq l i hi, ← ht, ← hf, if_pos (by omega : (0 : Int) ≤ i), if_pos (by omega : (i : Int) < l.length)]
    rw [wrap64_id (i := (i : Int) + 1) (by omega) (by omega), wrap64_id (i := t) (by omega) (by omega), wrap64_id (i := f) (by omega) (by omega), wrap64_id (i := (i : Int) + 1 + t) (by omega) (by omega), wrap64_id (i := (i : Int) + 1 + f) (by omega) (by omega)]
    unfold ft2
    by_cases hb : b = true
    · simp [hb]
    · rw [if_neg hb, if_neg hb]
      by_cases e : sortN c = 2
      · rw [if_pos (by simp [e])]
        by_cases e1 : (i : Int) + 1 + t ≥ n
        · rw [if_pos e1]; simp [e, e1]
        · rw [if_neg e1]; simp only [decide_eq_true_eq]; congr 1; by_cases e2 : (i : Int) + 1 + f ≥ n <;> simp [e, e1, e2]
      · rw [if_neg (by simp [e])]; simp [e]
  have j1 : ∀ k b, K2 ≤ k → spec_l1fault.j1 (k + 5) l i n c kk b = some (if b = true then 4 else ft1 c t f kk i n) := by
    intro k b hk
    rw [spec_l1fault.j1]
    simp only [j2 _ _ hk]
    rw [wrap64_id (i := (i : Int) + 1) (by omega) (by omega), wrap64_id (i := (i : Int) + 1 + kk) (by omega) (by omega)]
    unfold ft1
    by_cases hb : b = true
    · simp [hb]
    · rw [if_neg hb, if_neg hb]
      by_cases e1 : c = 5
      · rw [if_pos e1]; simp only [decide_eq_true_eq]; congr 1; by_cases e : (i : Int) + 1 + kk ≥ n <;> simp [e, e1]
      · rw [if_neg e1]; simp [e1]
  have j0 : ∀ k b, K2 ≤ k → spec_l1fault.j0 (k + 6) l i n c kk b = some (if b = true then 3 else ft0 c t f kk i n) := by
    intro k b hk
    rw [spec_l1fault.j0]
    simp only [j1 _ _ hk]
    unfold ft0
    by_cases hb : b = true
    · simp [hb]
    · rw [if_neg hb, if_neg hb]
      simp only [decide_eq_true_eq, Bool.false_eq_true, if_false]
      by_cases e1 : c = 96
      · rw [if_pos e1]; congr 1; by_cases e : kk ≥ 16 <;> simp [e, e1]
      · rw [if_neg e1]
        by_cases e2 : c = 97
        · rw [if_pos e2]; congr 1; by_cases e : kk ≥ 16 <;> simp [e, e2]
        · rw [if_neg e2]
          by_cases e3 : c = 2
          · rw [if_pos e3]; congr 1; by_cases e : kk ≥ 16 <;> simp [e, e3]
          · rw [if_neg e3]
            by_cases e4 : c = 3
            · rw [if_pos e4]; congr 1; by_cases e : kk ≥ 16 <;> simp [e, e4]
            · rw [if_neg e4]; simp [e1, e2, e3, e4]
  refine ev_mk (K1 + K2 + 6) fun k hk => ?_
  obtain ⟨k, rfl⟩ : ∃ m, k = m + 6 := ⟨k - 6, by omega⟩
  unfold spec_l1fault.f insFault
  rw [if_pos (by omega), if_pos (by omega), rdIns_eq l i hi, ← hc, ← ht, ← hf, ← hkk, ← hn, wrap64_id (i := c) (by omega) (by omega), wrap64_id (i := kk) (by omega) (by omega), h1 _ (by omega), Option.bind_some]
  simp only [j0 _ _ (show K2 ≤ k by omega)]
  rw [Int.tmod_eq_emod_of_nonneg (by omega)]
  by_cases e0 : sortN c = 0
  · rw [if_neg (by simp [e0]), if_pos e0]
  · rw [if_pos (by simp [e0]), if_neg e0]
    by_cases e1 : c = 32
    · rw [if_pos e1]
      by_cases e2 : kk % 4 = 0
      · rw [if_pos e2]; simp only [decide_eq_true_eq]; congr 1; by_cases e : kk > 60 <;> simp [e, e1, e2]
      · rw [if_neg e2]; simp [e1, e2]
    · rw [if_neg e1]; simp [e1]
theorem contains4_ev (c : Int) : Ev (fun k => slices_Contains_uint16_uint16.f k [96, 97, 2, 3] c) (decide (c = 96 ∨ c = 97 ∨ c = 2 ∨ c = 3)) := by
  refine ev_mk 6 fun k hk => ?_
  obtain ⟨k, rfl⟩ : ∃ m, k = m + 5 := ⟨k - 5, by omega⟩
  have r0 : rd [96, 97, 2, 3] 0 = 96 := rfl
  have r1 : rd [96, 97, 2, 3] 1 = 97 := rfl
  have r2 : rd [96, 97, 2, 3] 2 = 2 := rfl
  have r3 : rd [96, 97, 2, 3] 3 = 3 := rfl
  have w0 : wrap64 (0 + 1) = 1 := by rw [wrap64_id (by omega) (by omega)]; rfl
  have w1 : wrap64 (1 + 1) = 2 := by rw [wrap64_id (by omega) (by omega)]; rfl
  have w2 : wrap64 (2 + 1) = 3 := by rw [wrap64_id (by omega) (by omega)]; rfl
  have w3 : wrap64 (3 + 1) = 4 := by rw [wrap64_id (by omega) (by omega)]; rfl
  have hl : (([96, 97, 2, 3] : List Int).length : Int) = 4 := rfl
  unfold slices_Contains_uint16_uint16.f slices_Index_uint16_uint16.f
  rw [hl]
  by_cases e0 : c = 96
  · rw [slices_Index_uint16_uint16.l0, hl, if_pos (by decide), if_pos (by decide), if_pos (by decide), r0, if_pos e0]; simp [e0]
  · rw [slices_Index_uint16_uint16.l0, hl, if_pos (by decide), if_pos (by decide), if_pos (by decide), r0, if_neg e0, w0]
    by_cases e1 : c = 97
    · rw [slices_Index_uint16_uint16.l0, hl, if_pos (by decide), if_pos (by decide), if_pos (by decide), r1, if_pos e1]; simp [e1]
    · rw [slices_Index_uint16_uint16.l0, hl, if_pos (by decide), if_pos (by decide), if_pos (by decide), r1, if_neg e1, w1]
      by_cases e2 : c = 2
      · rw [slices_Index_uint16_uint16.l0, hl, if_pos (by decide), if_pos (by decide), if_pos (by decide), r2, if_pos e2]; simp [e2]
      · rw [slices_Index_uint16_uint16.l0, hl, if_pos (by decide), if_pos (by decide), if_pos (by decide), r2, if_neg e2, w2]
        by_cases e3 : c = 3
        · rw [slices_Index_uint16_uint16.l0, hl, if_pos (by decide), if_pos (by decide), if_pos (by decide), r3, if_pos e3]; simp [e3]
        · rw [slices_Index_uint16_uint16.l0, hl, if_pos (by decide), if_pos (by decide), if_pos (by decide), r3, if_neg e3, w3, slices_Index_uint16_uint16.l0, if_neg (by decide)]
          simp [e0, e1, e2, e3]
theorem implFault_ev (x : S54) (i n : Int) (h0 : 0 ≤ i) (h1 : i < n) (hn : n ≤ 4096) (hr : InsR x) : Ev (fun k => impl_Ins_fault.f k x.f0 x.f1 x.f2 x.f3 i n) (insFault x i n) := by
  obtain ⟨c, t, f, kk⟩ := x
  obtain ⟨⟨a0, a1⟩, ⟨b0, b1⟩, ⟨c0, c1⟩, d0, d1⟩ := hr
  simp only at a0 a1 b0 b1 c0 c1 d0 d1
  obtain ⟨K1, hc⟩ := ev_get (contains4_ev c)
  obtain ⟨s, hs⟩ : ∃ s, s = sortN c := ⟨_, rfl⟩
  have hs4 := sort_end c
  have hs3 := sort_skip c
  rw [← hs] at hs4 hs3
  have wu : ∀ x : Int, IntKind.u64.wrap x = x % 18446744073709551616 := fun x => by simp [IntKind.wrap, IntKind.bits, IntKind.signed]
  have j5 : ∀ k b, impl_Ins_fault.j5 (k + 1) i n s b = some (if b = true then 6 else ft5 c i n) := by
    intro k b
    rw [impl_Ins_fault.j5, wrap64_id (by omega) (by omega)]
    unfold ft5
    by_cases hb : b = true
    · simp [hb]
    · rw [if_neg hb, if_neg hb]
      by_cases e : i = n - 1
      · rw [if_pos e]
        by_cases e1 : s = 4
        · rw [if_pos e1, if_neg (fun h => (hs4.1 e1).elim h.2.1 h.2.2)]
        · rw [if_neg e1, if_pos ⟨e, fun h => e1 (hs4.2 (.inl h)), fun h => e1 (hs4.2 (.inr h))⟩]
      · rw [if_neg e, if_neg (fun h => e h.1)]
  have j4 : ∀ k b, impl_Ins_fault.j4 (k + 2) i n s b c t f kk = some (if b = true then 6 else ft4 c kk i n) := by
    intro k b
    rw [impl_Ins_fault.j4]
    simp only [j5]
    unfold ft4
    by_cases hb : b = true
    · simp [hb]
    · rw [if_neg hb, if_neg hb]
      by_cases e1 : c = 100
      · rw [if_pos e1]; simp only [decide_eq_true_eq]; congr 1; by_cases e : kk ≥ 32 <;> simp [e, e1]
      · rw [if_neg e1]
        by_cases e2 : c = 116
        · rw [if_pos e2]; simp only [decide_eq_true_eq]; congr 1; by_cases e : kk ≥ 32 <;> simp [e, e2]
        · rw [if_neg e2]; simp [e1, e2]
  have j3 : ∀ k b, impl_Ins_fault.j3 (k + 3) i n s b c t f kk = some (if b = true then 5 else ft3 c kk i n) := by
    intro k b
    rw [impl_Ins_fault.j3]
    simp only [j4]
    unfold ft3
    by_cases hb : b = true
    · simp [hb]
    · rw [if_neg hb, if_neg hb]
      by_cases e1 : c = 52
      · rw [if_pos e1]; simp only [beq_iff_eq]; congr 1; by_cases e : kk = 0 <;> simp [e, e1]
      · rw [if_neg e1]; simp [e1]
  have j2 : ∀ k b, impl_Ins_fault.j2 (k + 4) i n s b c t f kk = some (if b = true then 5 else ft2 c t f kk i n) := by
    intro k b
    have hm : mx t f = if t < f then f else t := rfl
    have hm0 : 0 ≤ mx t f ∧ mx t f < 256 := by rw [hm]; split <;> omega
    rw [impl_Ins_fault.j2]
    simp only [j3]
    rw [wrap64_id (i := i + 1) (by omega) (by omega), wrap64_id (i := mx t f) (by omega) (by omega), wrap64_id (i := i + 1 + mx t f) (by omega) (by omega)]
    unfold ft2
    rw [← hs]
    by_cases hb : b = true
    · simp [hb]
    · rw [if_neg hb, if_neg hb]
      by_cases e : s = 2
      · rw [if_pos e]
        simp only [decide_eq_true_eq]
        congr 1
        by_cases e1 : i + 1 + mx t f ≥ n
        · rw [if_pos e1, if_pos ⟨e, by rw [hm] at e1; split at e1 <;> omega⟩]
        · rw [if_neg e1, if_neg (fun h => by rw [hm] at e1; have h2 := h.2; split at e1 <;> omega)]
      · rw [if_neg e]; simp [e]
  have j1 : ∀ k b, impl_Ins_fault.j1 (k + 5) i n s b c t f kk = some (if b = true then 4 else ft1 c t f kk i n) := by
    intro k b
    rw [impl_Ins_fault.j1]
    simp only [j2]
    unfold ft1
    by_cases hb : b = true
    · simp [hb]
    · rw [if_neg hb, if_neg hb]
      by_cases e1 : c = 5
      · rw [if_pos (hs3.2 e1)]
        have hw : IntKind.u64.wrap (IntKind.u64.wrap (IntKind.u64.wrap i + 1) + IntKind.u64.wrap kk) = i + 1 + kk := by rw [wu, wu, wu, wu]; omega
        have hw2 : IntKind.u64.wrap n = n := by rw [wu]; omega
        rw [hw, hw2]
        simp only [decide_eq_true_eq]; congr 1; by_cases e : i + 1 + kk ≥ n <;> simp [e, e1]
      · rw [if_neg (fun h => e1 (hs3.1 h))]; simp [e1]
  have j0 : ∀ k b, K1 ≤ k → impl_Ins_fault.j0 (k + 6) i n s b c t f kk = some (if b = true then 3 else ft0 c t f kk i n) := by
    intro k b hk
    rw [impl_Ins_fault.j0, hc _ (by omega), Option.bind_some]
    simp only [j1]
    unfold ft0
    by_cases hb : b = true
    · simp [hb]
    · rw [if_neg hb, if_neg hb]
      simp only [decide_eq_true_eq, Bool.false_eq_true, if_false]
      by_cases e : c = 96 ∨ c = 97 ∨ c = 2 ∨ c = 3
      · rw [if_pos e]; congr 1; by_cases e2 : kk ≥ 16 <;> simp [e, e2]
      · rw [if_neg e]; simp [e]
  refine ev_mk (K1 + 8) fun k hk => ?_
  obtain ⟨k, rfl⟩ : ∃ m, k = m + 6 := ⟨k - 6, by omega⟩
  unfold impl_Ins_fault.f insFault
  rw [sortOf_is c (k + 6) (by omega), Option.bind_some, ← hs]
  simp only [j0 _ _ (show K1 ≤ k by omega)]
  rw [Int.tmod_eq_emod_of_nonneg d0]
  by_cases e0 : s = 0
  · rw [if_pos e0, if_pos e0]
  · rw [if_neg e0, if_neg e0]
    by_cases e1 : c = 32
    · rw [if_pos e1]
      by_cases e2 : kk % 4 = 0
      · rw [if_pos e2]; simp only [decide_eq_true_eq]; congr 1; by_cases e : kk > 60 <;> simp [e, e1, e2]
      · rw [if_neg e2]; simp [e1, e2]
    · rw [if_neg e1]; simp [e1]
/-! A program's first fault, and where. -/
def faultFrom (l : List S54) (n : Int) : Nat → List S54 → Int × Int
  | _, [] => (0, 0)
  | i, x :: r => if insFault x i n = 0 then faultFrom l n (i + 1) r else (insFault x i n, i)
def validN (l : List S54) : Int × Int := if l.length < 1 ∨ l.length > 4096 then (1, 0) else faultFrom l l.length 0 l
theorem specValidate_ev (l : List S54) (hr : ∀ x ∈ l, InsR x) : Ev (fun k => spec_Validate.f k l) (validN l) := by
  have key : l.length ≤ 4096 → ∀ d i : Nat, i + d = l.length → Ev (fun k => spec_Validate.l0 k l (i : Int)) (faultFrom l l.length i (l.drop i)) := by
    intro hl d
    induction d with
    | zero =>
      intro i hi
      refine ev_end fun k => ?_
      rw [spec_Validate.l0, if_neg (by omega), List.drop_of_length_le (by omega)]
      rfl
    | succ d ih =>
      intro i hi
      have hlt : i < l.length := by omega
      rw [List.drop_eq_getElem_cons hlt]
      obtain ⟨K1, h1⟩ := ev_get (specFault_ev l i hlt hl (hr _ (List.getElem_mem hlt)))
      obtain ⟨K2, h2⟩ := ev_get (ih (i + 1) (by omega))
      refine ev_mk (K1 + K2 + 1) fun k hk => ?_
      obtain ⟨k, rfl⟩ : ∃ m, k = m + 1 := ⟨k - 1, by omega⟩
      rw [spec_Validate.l0, if_pos (by omega), h1 k (by omega), Option.bind_some, faultFrom]
      by_cases e : insFault l[i] i l.length = 0
      · rw [if_pos e, if_pos e, wrap64_id (by omega) (by omega)]
        exact h2 k (by omega)
      · rw [if_neg e, if_neg e]
  unfold validN
  by_cases h1 : l.length < 1
  · rw [if_pos (.inl h1)]
    refine ev_mk 1 fun k hk => ?_
    obtain ⟨k, rfl⟩ : ∃ m, k = m + 1 := ⟨k - 1, by omega⟩
    unfold spec_Validate.f
    rw [if_pos (by omega), spec_Validate.j0, if_pos rfl]
  · by_cases h2 : l.length > 4096
    · rw [if_pos (.inr h2)]
      refine ev_mk 1 fun k hk => ?_
      obtain ⟨k, rfl⟩ : ∃ m, k = m + 1 := ⟨k - 1, by omega⟩
      unfold spec_Validate.f
      rw [if_neg (by omega), spec_Validate.j0, if_pos (by simp; omega)]
    · rw [if_neg (by omega)]
      have h := key (by omega) l.length 0 (by omega)
      rw [List.drop_zero] at h
      refine ev_step _ (g := fun k => spec_Validate.f k l) (fun k => ?_) h
      unfold spec_Validate.f
      rw [if_neg (by omega), spec_Validate.j0, if_neg (by simp; omega)]
      rfl
theorem implValidate_ev (l : List S54) (hr : ∀ x ∈ l, InsR x) : Ev (fun k => impl_Validate.f k l) (validN l) := by
  have key : l.length ≤ 4096 → ∀ d i : Nat, i + d = l.length → Ev (fun k => impl_Validate.l0 k l l (l.length : Int) (i : Int)) (faultFrom l l.length i (l.drop i)) := by
    intro hl d
    induction d with
    | zero =>
      intro i hi
      refine ev_end fun k => ?_
      rw [impl_Validate.l0, if_neg (by omega), List.drop_of_length_le (by omega)]
      rfl
    | succ d ih =>
      intro i hi
      have hlt : i < l.length := by omega
      rw [List.drop_eq_getElem_cons hlt]
      obtain ⟨K1, h1⟩ := ev_get (implFault_ev l[i] i l.length (by omega) (by omega) (by omega) (hr _ (List.getElem_mem hlt)))
      obtain ⟨K2, h2⟩ := ev_get (ih (i + 1) (by omega))
      refine ev_mk (K1 + K2 + 1) fun k hk => ?_
      obtain ⟨k, rfl⟩ : ∃ m, k = m + 1 := ⟨k - 1, by omega⟩
      rw [impl_Validate.l0, if_pos (by omega), if_pos (by omega), if_pos (by omega), rdIns_eq l i hlt, h1 k (by omega), Option.bind_some, faultFrom]
      by_cases e : insFault l[i] i l.length = 0
      · rw [if_pos e, if_pos e, wrap64_id (by omega) (by omega)]
        exact h2 k (by omega)
      · rw [if_neg e, if_neg e]
  unfold validN
  by_cases h1 : l.length < 1
  · rw [if_pos (.inl h1)]
    refine ev_mk 1 fun k hk => ?_
    obtain ⟨k, rfl⟩ : ∃ m, k = m + 1 := ⟨k - 1, by omega⟩
    unfold impl_Validate.f
    rw [if_pos (by omega), impl_Validate.j0, if_pos rfl]
  · by_cases h2 : l.length > 4096
    · rw [if_pos (.inr h2)]
      refine ev_mk 1 fun k hk => ?_
      obtain ⟨k, rfl⟩ : ∃ m, k = m + 1 := ⟨k - 1, by omega⟩
      unfold impl_Validate.f
      rw [if_neg (by omega), impl_Validate.j0, if_pos (by simp; omega)]
    · rw [if_neg (by omega)]
      have h := key (by omega) l.length 0 (by omega)
      rw [List.drop_zero] at h
      refine ev_step _ (g := fun k => impl_Validate.f k l) (fun k => ?_) h
      unfold impl_Validate.f
      rw [if_neg (by omega), impl_Validate.j0, if_neg (by simp; omega)]
      rfl
end Go.Proofs.Ytgodbniphkfgfaa.P
