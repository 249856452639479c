import Derived.Test.YtdipinclchkhjaaGFnNorm4
import Derived.Test.YtdipinclchkhjaaGFnNorm7
import Derived.Test.YtdipinclchkhjaaGFnNorm8
import Derived.Test.YtdipinclchkhjaaGFnNorm14
namespace Go.Proofs.Ytdipinclchkhjaa.P
open Go.RowKit Go.Proofs.YtdipinclchkhjaaW.PrintWords Go.Proofs.YtdipinclchkhjaaW.PrintLast Go.Proofs.YtdipinclchkhjaaW.PrintMore
attribute [local go_sem] max2_int min2_int max_two min_two max_three min_three max_four min_four   -- for this text's walks alone
set_option linter.unusedVariables false
set_option linter.unusedSimpArgs false

/-! ### laws_FnNorm: function 10 -/
mutual
def laws_FnNorm.j0 : Nat → Bool → Int → Int → Int → Int → Int → Int → Option (Bool)
  | 0, _, _, _, _, _, _, _ => none
  | k + 1, x26, x822000, x822001, x822002, x823000, x823001, x823002 => if x26 = true then (some true) else ((spec_ConWithin.f k x822000 x822001 x822002 x823000 x823001 x823002).bind fun t825 => ((spec_ConWithin.f k x823000 x823001 x823002 x822000 x822001 x822002).bind fun t826 => ((impl_ConWithin.f x822000 x822001 x822002 x823000 x823001 x823002).bind fun t827 => (if (t827 != t825) = true then (laws_FnNorm.j1 k t825 t826 true x822000 x822001 x822002 x823000 x823001 x823002) else ((impl_ConWithin.f x823000 x823001 x823002 x822000 x822001 x822002).bind fun t828 => (laws_FnNorm.j1 k t825 t826 (t828 != t826) x822000 x822001 x822002 x823000 x823001 x823002))))))
def laws_FnNorm.j1 : Nat → Bool → Bool → Bool → Int → Int → Int → Int → Int → Int → Option (Bool)
  | 0, _, _, _, _, _, _, _, _, _ => none
  | k + 1, x5, x6, x44, x822000, x822001, x822002, x823000, x823001, x823002 => if x44 = true then (some false) else ((impl_NormCon.f x822000 x822001 x822002).bind fun bt829 => ((impl_NormCon.f x823000 x823001 x823002).bind fun bt833 => ((impl_ConWithin.f bt829.1 bt829.2.1 bt829.2.2 bt833.1 bt833.2.1 bt833.2.2).bind fun t837 => (if (t837 != x5) = true then (laws_FnNorm.j2 k x5 x6 true x822000 x822001 x822002 x823000 x823001 x823002 bt829.1 bt829.2.1 bt829.2.2 bt833.1 bt833.2.1 bt833.2.2) else ((impl_ConWithin.f bt833.1 bt833.2.1 bt833.2.2 bt829.1 bt829.2.1 bt829.2.2).bind fun t838 => (laws_FnNorm.j2 k x5 x6 (t838 != x6) x822000 x822001 x822002 x823000 x823001 x823002 bt829.1 bt829.2.1 bt829.2.2 bt833.1 bt833.2.1 bt833.2.2))))))
def laws_FnNorm.j2 : Nat → Bool → Bool → Bool → Int → Int → Int → Int → Int → Int → Int → Int → Int → Int → Int → Int → Option (Bool)
  | 0, _, _, _, _, _, _, _, _, _, _, _, _, _, _, _ => none
  | k + 1, x5, x6, x60, x822000, x822001, x822002, x823000, x823001, x823002, x833000, x833001, x833002, x837000, x837001, x837002 => if x60 = true then (some false) else ((impl_ConWithin.f x822000 x822001 x822002 x833000 x833001 x833002).bind fun t839 => (if t839 = true then ((impl_ConWithin.f x833000 x833001 x833002 x822000 x822001 x822002).bind fun t840 => (if t840 = true then ((impl_ConWithin.f x823000 x823001 x823002 x837000 x837001 x837002).bind fun t841 => (if t841 = true then ((impl_ConWithin.f x837000 x837001 x837002 x823000 x823001 x823002).bind fun t842 => (if t842 = true then ((laws_sameCon.f x833000 x833001 x833002 x837000 x837001 x837002).bind fun t843 => (if x5 = true then (some (t843 == x6)) else (some (t843 == false)))) else (some false))) else (some false))) else (some false))) else (some false)))
end
def laws_FnNorm.f (k : Nat) (l0 : List Int) : Option (Bool) := if (l0.length : Int) > 1048576 then (some true) else ((spec_DrawConWithin.f k l0).bind fun bt815 => ((spec_ConWithin.f k bt815.1 bt815.2.1 bt815.2.2.1 bt815.1 bt815.2.1 bt815.2.2.1).bind fun t823 => (if t823 = true then ((spec_ConWithin.f k bt815.2.2.2.1 bt815.2.2.2.2.1 bt815.2.2.2.2.2 bt815.2.2.2.1 bt815.2.2.2.2.1 bt815.2.2.2.2.2).bind fun t824 => (laws_FnNorm.j0 k (!t824) bt815.1 bt815.2.1 bt815.2.2.1 bt815.2.2.2.1 bt815.2.2.2.2.1 bt815.2.2.2.2.2)) else (laws_FnNorm.j0 k true bt815.1 bt815.2.1 bt815.2.2.1 bt815.2.2.2.1 bt815.2.2.2.2.1 bt815.2.2.2.2.2))))
set_option maxHeartbeats 8000000 in
set_option maxRecDepth 100000 in
theorem laws_FnNorm.calls (k : Nat) (A0 : Option Addr) (c0 : Nat) (l0 : List Int) (r : Bool) (w : World) (hr0 : Kd.C (Kd.int .u8) w A0 l0.length l0) (hc0 : l0.length ≤ c0) (h : laws_FnNorm.f k l0 = some r) :
    Calls Try.prog 10 #[.slice A0 l0.length c0] w fun e w' => e = .returned (.bool r) ∧ Below w.heap.size w w' := by
  have hu26 := Try.underlying26
  have HR0 := Aside0.mk hr0
  have HC0 := Aside0.mk hc0
  clear hr0 hc0
  have HB := Aside0.mk (Below.refl w.heap.size w)
  have H : (if (l0.length : Int) > 1048576 then (some true) else ((spec_DrawConWithin.f k l0).bind fun bt815 => ((spec_ConWithin.f k bt815.1 bt815.2.1 bt815.2.2.1 bt815.1 bt815.2.1 bt815.2.2.1).bind fun t823 => (if t823 = true then ((spec_ConWithin.f k bt815.2.2.2.1 bt815.2.2.2.2.1 bt815.2.2.2.2.2 bt815.2.2.2.1 bt815.2.2.2.2.1 bt815.2.2.2.2.2).bind fun t824 => (laws_FnNorm.j0 k (!t824) bt815.1 bt815.2.1 bt815.2.2.1 bt815.2.2.2.1 bt815.2.2.2.2.1 bt815.2.2.2.2.2)) else (laws_FnNorm.j0 k true bt815.1 bt815.2.1 bt815.2.2.1 bt815.2.2.2.1 bt815.2.2.2.2.1 bt815.2.2.2.2.2))))) = some r := h
  clear h
  by_cases c2 : (l0.length : Int) > 1048576
  · rw [if_pos c2] at H
    have c2b0 : decide (1048576 < (l0.length : Int)) = true := decide_eq_true c2
    have c2b1 : decide (1048576 < l0.length) = true := decide_eq_true (by omega)
    clear c2
    obtain rfl := Option.some.inj H
    go_enter Try.func10, Try.ntmps10
    go_wp2
    go_ret
    exact ⟨by first | rfl | (simp [errW_none, errW_some] <;> rfl) | (simp [*, errW_none, errW_some] <;> rfl), by repeat (first | (with_reducible first | exact HB.out | apply below_alloc | apply pw_below_drewN | apply below_drew1) | exact HB.out)⟩
  · rw [if_neg c2] at H
    have c2b0 : decide (1048576 < (l0.length : Int)) = false := decide_eq_false c2
    have c2b1 : decide (1048576 < l0.length) = false := decide_eq_false (by omega)
    clear c2
    replace H := Option.bind_eq_some_iff.mp H
    obtain ⟨⟨t815, t816, t817, t818, t819, t820⟩, A30, H⟩ := H
    replace H : ((spec_ConWithin.f k t815 t816 t817 t815 t816 t817).bind fun t823 => (if t823 = true then ((spec_ConWithin.f k t818 t819 t820 t818 t819 t820).bind fun t824 => (laws_FnNorm.j0 k (!t824) t815 t816 t817 t818 t819 t820)) else (laws_FnNorm.j0 k true t815 t816 t817 t818 t819 t820))) = some r := H
    have A3 := Aside0.mk A30
    clear A30
    have HC4 := Aside0.mk H
    clear H
    go_enter Try.func10, Try.ntmps10
    go_upto_region 4 with (first | ((with_reducible refine gate_callee (f := 51) rfl ?_); refine goesL_ (some 14) rfl rfl Try.func51 (by kernel_rfl) rfl #[.slice A0 l0.length c0] rfl (by (try simp only [List.map_toArray, List.map_cons, List.map_nil]); first | done | rfl | (simp only [List.length_drop, List.length_take]; rfl)) ?_; (with_reducible refine (spec_DrawConWithin.calls k _ _ l0 t815 t816 t817 t818 t819 t820 _ ?side1 ?side2 A3.out).mono ?_); (case side1 => repeat (first | exact HR0.out | (with_reducible refine Kd.C_alloc ?_ _) | (with_reducible refine Kd.C_drewN ?_ _) | (with_reducible refine Kd.C_drew ?_))); (case side2 => exact HC0.out); rintro e w5 ⟨rfl, hb⟩; refine ⟨_, rfl, ?_⟩; have n0_ := Aside0.mk (below_step (by repeat (first | (with_reducible first | exact HB.out | apply below_alloc | apply pw_below_drewN | apply below_drew1) | exact HB.out)) hb); clear HB; have HB := n0_; clear n0_; (try clear hb); (try clear hb2); (try clear hk); (try clear hi)) | ((with_reducible refine gate_dst (N := 3) rfl ?_); refine box_event ?hg (N := 3) ?hd (cs := #[.int .i64 0, .int .u64 0, .int .u64 0]) (t := 26) ?hr ?_; (case hd => rfl); (case hg => rfl); (case hr => first | (go_simp; done) | (go_simp; rfl)); intro gb821 hg w6 hbox hb; have n0_ := Aside0.mk (below_step (by repeat (first | (with_reducible first | exact HB.out | apply below_alloc | apply pw_below_drewN | apply below_drew1) | exact HB.out)) hb); have n1_ := Aside0.mk (hbox); have n2_ := Aside0.mk ((by rw [hg]; exact (below_size (by repeat (first | (with_reducible first | exact HB.out | apply below_alloc | apply pw_below_drewN | apply below_drew1) | exact HB.out))) : w.heap.size ≤ gb821)); have n3_ := Aside0.mk ((by rw [hg]; exact (below_size (by repeat (first | (with_reducible first | exact HB.out | apply below_alloc | apply pw_below_drewN | apply below_drew1) | exact HB.out))) : w.heap.size ≤ gb821)); clear HB; have HB := n0_; have BK821 := n1_; have GW821 := n2_; have GE821 := n3_; clear n0_ n1_ n2_ n3_; clear hb hbox hg) | ((with_reducible refine gate_dst (N := 4) rfl ?_); refine box_event ?hg (N := 4) ?hd (cs := #[.int .i64 0, .int .u64 0, .int .u64 0]) (t := 26) ?hr ?_; (case hd => rfl); (case hg => rfl); (case hr => first | (go_simp; done) | (go_simp; rfl)); intro gb822 hg w7 hbox hb; have n0_ := Aside0.mk (blk_below (g := gb821) (o := .cells #[.int .i64 0, .int .u64 0, .int .u64 0] 26 (0, 0)) (by (with_reducible repeat (first | refine blk_drewN ?_ _ | refine blk_drew ?_ | refine blk_alloc ?_ _)); exact BK821.out) hb); have n1_ := Aside0.mk (below_step (by repeat (first | (with_reducible first | exact HB.out | apply below_alloc | apply pw_below_drewN | apply below_drew1 | refine below_set ?_ GE821.out) | exact HB.out)) hb); have n2_ := Aside0.mk (hbox); have n3_ := Aside0.mk ((by rw [hg]; exact (below_size (by repeat (first | (with_reducible first | exact HB.out | apply below_alloc | apply pw_below_drewN | apply below_drew1 | refine below_set ?_ GE821.out) | exact HB.out))) : w.heap.size ≤ gb822)); have n4_ := Aside0.mk ((by rw [hg]; exact (below_size (by repeat (first | (with_reducible first | exact HB.out | apply below_alloc | apply pw_below_drewN | apply below_drew1 | refine below_set ?_ GE821.out) | exact HB.out))) : w.heap.size ≤ gb822)); have n5_ := Aside0.mk ((by rw [hg]; exact Nat.ne_of_lt (blk_lt (g := gb821) (o := .cells #[.int .i64 0, .int .u64 0, .int .u64 0] 26 (0, 0)) (by (with_reducible repeat (first | refine blk_drewN ?_ _ | refine blk_drew ?_ | refine blk_alloc ?_ _)); exact BK821.out)) : gb821 ≠ gb822)); have n6_ := Aside0.mk ((by rw [hg]; exact Nat.ne_of_gt (blk_lt (g := gb821) (o := .cells #[.int .i64 0, .int .u64 0, .int .u64 0] 26 (0, 0)) (by (with_reducible repeat (first | refine blk_drewN ?_ _ | refine blk_drew ?_ | refine blk_alloc ?_ _)); exact BK821.out)) : gb822 ≠ gb821)); clear BK821; clear HB; have BK821 := n0_; have HB := n1_; have BK822 := n2_; have GW822 := n3_; have GE822 := n4_; have NB821_822 := n5_; have NB822_821 := n6_; clear n0_ n1_ n2_ n3_ n4_ n5_ n6_; clear hb hbox hg; have hnb8 := NB821_822.out; have hnc8 := NB822_821.out; have hcz9_0 : w7.cell? ⟨gb821, 0, none⟩ = some (.int .i64 0) := (blk_cell BK821.out 0).trans rfl; have hcz9_1 : w7.cell? ⟨gb821, 1, none⟩ = some (.int .u64 0) := (blk_cell BK821.out 1).trans rfl; have hcz9_2 : w7.cell? ⟨gb821, 2, none⟩ = some (.int .u64 0) := (blk_cell BK821.out 2).trans rfl; have hfz9_0 := blk_frozen BK821.out 0; have hfz9_1 := blk_frozen BK821.out 1; have hfz9_2 := blk_frozen BK821.out 2; have hcz10_0 : w7.cell? ⟨gb822, 0, none⟩ = some (.int .i64 0) := (blk_cell BK822.out 0).trans rfl; have hcz10_1 : w7.cell? ⟨gb822, 1, none⟩ = some (.int .u64 0) := (blk_cell BK822.out 1).trans rfl; have hcz10_2 : w7.cell? ⟨gb822, 2, none⟩ = some (.int .u64 0) := (blk_cell BK822.out 2).trans rfl; have hfz10_0 := blk_frozen BK822.out 0; have hfz10_1 := blk_frozen BK822.out 1; have hfz10_2 := blk_frozen BK822.out 2))
    (try simp only [Act.put, List.setIfInBounds_toArray, List.set_cons_zero, List.set_cons_succ])
    go_cut [26] (fun v26 wc => ∃ (kq : Nat) (x26_3 : Bool), v26 = .bool x26_3 ∧ Aside0 (laws_FnNorm.j0 kq x26_3 t815 t816 t817 t818 t819 t820 = some r) ∧ Aside0 (kq ≤ k) ∧ Aside0 (wc.heap[gb821]? = some (.cells #[.int .i64 t815, .int .u64 t816, .int .u64 t817] 26 (0, 0))) ∧ Aside0 (wc.heap[gb822]? = some (.cells #[.int .i64 t818, .int .u64 t819, .int .u64 t820] 26 (0, 0))) ∧ Aside0 (Below w.heap.size w wc))
    case first =>
      have H := HC4.out
      clear HC4
      replace H := Option.bind_eq_some_iff.mp H
      obtain ⟨t823, A110, H⟩ := H
      replace H : (if t823 = true then ((spec_ConWithin.f k t818 t819 t820 t818 t819 t820).bind fun t824 => (laws_FnNorm.j0 k (!t824) t815 t816 t817 t818 t819 t820)) else (laws_FnNorm.j0 k true t815 t816 t817 t818 t819 t820)) = some r := H
      have A11 := Aside0.mk A110
      clear A110
      by_cases c12 : t823 = true
      · subst c12
        have H1 : ((spec_ConWithin.f k t818 t819 t820 t818 t819 t820).bind fun t824 => (laws_FnNorm.j0 k (!t824) t815 t816 t817 t818 t819 t820)) = some r := by rw [if_pos rfl] at H; exact H
        clear H
        have H := H1
        clear H1
        replace H := Option.bind_eq_some_iff.mp H
        obtain ⟨t824, A130, H⟩ := H
        replace H : (laws_FnNorm.j0 k (!t824) t815 t816 t817 t818 t819 t820) = some r := H
        have A13 := Aside0.mk A130
        clear A130
        have H' := Aside0.mk H
        clear H
        have hnb14 := NB821_822.out
        have hnc14 := NB822_821.out
        have hcz15_0 : w7.cell? ⟨gb821, 0, none⟩ = some (.int .i64 0) := (blk_cell BK821.out 0).trans rfl
        have hcz15_1 : w7.cell? ⟨gb821, 1, none⟩ = some (.int .u64 0) := (blk_cell BK821.out 1).trans rfl
        have hcz15_2 : w7.cell? ⟨gb821, 2, none⟩ = some (.int .u64 0) := (blk_cell BK821.out 2).trans rfl
        have hfz15_0 := blk_frozen BK821.out 0
        have hfz15_1 := blk_frozen BK821.out 1
        have hfz15_2 := blk_frozen BK821.out 2
        go_wp2_with (first | ((with_reducible refine gate_callee (f := 13) rfl ?_); refine goesL_ (some 19) rfl rfl Try.func13 (by kernel_rfl) rfl #[.agg #[.int .i64 t815, .int .u64 t816, .int .u64 t817], .agg #[.int .i64 t815, .int .u64 t816, .int .u64 t817]] rfl (by (try simp only [List.map_toArray, List.map_cons, List.map_nil]); first | done | rfl | (simp only [List.length_drop, List.length_take]; rfl)) ?_; (with_reducible refine (spec_ConWithin.calls k t815 t816 t817 t815 t816 t817 true _ A11.out).mono ?_); rintro e w16 ⟨rfl, hb⟩; refine ⟨_, rfl, ?_⟩; have n0_ := Aside0.mk (blk_below (g := gb821) (o := .cells #[.int .i64 t815, .int .u64 t816, .int .u64 t817] 26 (0, 0)) (by (with_reducible repeat (first | refine blk_drewN ?_ _ | refine blk_drew ?_ | refine blk_alloc ?_ _)); refine blk_far ?_ NB821_822.out _; (with_reducible repeat (first | refine blk_drewN ?_ _ | refine blk_drew ?_ | refine blk_alloc ?_ _)); refine blk_far ?_ NB821_822.out _; (with_reducible repeat (first | refine blk_drewN ?_ _ | refine blk_drew ?_ | refine blk_alloc ?_ _)); refine blk_far ?_ NB821_822.out _; (with_reducible repeat (first | refine blk_drewN ?_ _ | refine blk_drew ?_ | refine blk_alloc ?_ _)); refine blk_put (cs := #[.int .i64 t815, .int .u64 t816, .int .u64 0]) ?_ 2 _ rfl; (with_reducible repeat (first | refine blk_drewN ?_ _ | refine blk_drew ?_ | refine blk_alloc ?_ _)); refine blk_put (cs := #[.int .i64 t815, .int .u64 0, .int .u64 0]) ?_ 1 _ rfl; (with_reducible repeat (first | refine blk_drewN ?_ _ | refine blk_drew ?_ | refine blk_alloc ?_ _)); refine blk_put (cs := #[.int .i64 0, .int .u64 0, .int .u64 0]) ?_ 0 _ rfl; (with_reducible repeat (first | refine blk_drewN ?_ _ | refine blk_drew ?_ | refine blk_alloc ?_ _)); exact BK821.out) hb); have n1_ := Aside0.mk (blk_below (g := gb822) (o := .cells #[.int .i64 t818, .int .u64 t819, .int .u64 t820] 26 (0, 0)) (by (with_reducible repeat (first | refine blk_drewN ?_ _ | refine blk_drew ?_ | refine blk_alloc ?_ _)); refine blk_put (cs := #[.int .i64 t818, .int .u64 t819, .int .u64 0]) ?_ 2 _ rfl; (with_reducible repeat (first | refine blk_drewN ?_ _ | refine blk_drew ?_ | refine blk_alloc ?_ _)); refine blk_put (cs := #[.int .i64 t818, .int .u64 0, .int .u64 0]) ?_ 1 _ rfl; (with_reducible repeat (first | refine blk_drewN ?_ _ | refine blk_drew ?_ | refine blk_alloc ?_ _)); refine blk_put (cs := #[.int .i64 0, .int .u64 0, .int .u64 0]) ?_ 0 _ rfl; (with_reducible repeat (first | refine blk_drewN ?_ _ | refine blk_drew ?_ | refine blk_alloc ?_ _)); refine blk_far ?_ NB822_821.out _; (with_reducible repeat (first | refine blk_drewN ?_ _ | refine blk_drew ?_ | refine blk_alloc ?_ _)); refine blk_far ?_ NB822_821.out _; (with_reducible repeat (first | refine blk_drewN ?_ _ | refine blk_drew ?_ | refine blk_alloc ?_ _)); refine blk_far ?_ NB822_821.out _; (with_reducible repeat (first | refine blk_drewN ?_ _ | refine blk_drew ?_ | refine blk_alloc ?_ _)); exact BK822.out) hb); have n2_ := Aside0.mk (below_step (by repeat (first | (with_reducible first | exact HB.out | apply below_alloc | apply pw_below_drewN | apply below_drew1 | refine below_set ?_ GE821.out | refine below_set ?_ GE822.out) | exact HB.out)) hb); clear BK821; clear BK822; clear HB; have BK821 := n0_; have BK822 := n1_; have HB := n2_; clear n0_ n1_ n2_; (try clear hb); (try clear hb2); (try clear hk); (try clear hi); have hcz17_0 : w16.cell? ⟨gb822, 0, none⟩ = some (.int .i64 t818) := (blk_cell BK822.out 0).trans rfl; have hcz17_1 : w16.cell? ⟨gb822, 1, none⟩ = some (.int .u64 t819) := (blk_cell BK822.out 1).trans rfl; have hcz17_2 : w16.cell? ⟨gb822, 2, none⟩ = some (.int .u64 t820) := (blk_cell BK822.out 2).trans rfl; have hfz17_0 := blk_frozen BK822.out 0; have hfz17_1 := blk_frozen BK822.out 1; have hfz17_2 := blk_frozen BK822.out 2) | (go_at_call 13; (with_reducible refine (spec_ConWithin.calls k t818 t819 t820 t818 t819 t820 t824 _ A13.out).mono ?_); rintro e w18 ⟨rfl, hb⟩; have n0_ := Aside0.mk (blk_below (g := gb821) (o := .cells #[.int .i64 t815, .int .u64 t816, .int .u64 t817] 26 (0, 0)) (by (with_reducible repeat (first | refine blk_drewN ?_ _ | refine blk_drew ?_ | refine blk_alloc ?_ _)); exact BK821.out) hb); have n1_ := Aside0.mk (blk_below (g := gb822) (o := .cells #[.int .i64 t818, .int .u64 t819, .int .u64 t820] 26 (0, 0)) (by (with_reducible repeat (first | refine blk_drewN ?_ _ | refine blk_drew ?_ | refine blk_alloc ?_ _)); exact BK822.out) hb); have n2_ := Aside0.mk (below_step (by repeat (first | (with_reducible first | exact HB.out | apply below_alloc | apply pw_below_drewN | apply below_drew1 | refine below_set ?_ GE821.out | refine below_set ?_ GE822.out) | exact HB.out)) hb); clear BK821; clear BK822; clear HB; have BK821 := n0_; have BK822 := n1_; have HB := n2_; clear n0_ n1_ n2_; (try clear hb); (try clear hb2); (try clear hk); (try clear hi)))
        go_meet
        case rel => exact ⟨_, (!t824), (by first | rfl | (simp; done) | (simp [*]; done)), H', ⟨by first | omega | exact Nat.le_refl _⟩, ⟨by (with_reducible repeat (first | refine blk_drewN ?_ _ | refine blk_drew ?_ | refine blk_alloc ?_ _)); exact BK821.out⟩, ⟨by (with_reducible repeat (first | refine blk_drewN ?_ _ | refine blk_drew ?_ | refine blk_alloc ?_ _)); exact BK822.out⟩, ⟨by repeat (first | (with_reducible first | exact HB.out | apply below_alloc | apply pw_below_drewN | apply below_drew1 | refine below_set ?_ GE821.out | refine below_set ?_ GE822.out) | exact HB.out)⟩⟩
      · replace c12 := Bool.eq_false_iff.mpr c12
        subst c12
        have H1 : (laws_FnNorm.j0 k true t815 t816 t817 t818 t819 t820) = some r := by rw [if_neg (show ¬ (false = true) by decide)] at H; exact H
        clear H
        have H := H1
        clear H1
        have H' := Aside0.mk H
        clear H
        have hnb19 := NB821_822.out
        have hnc19 := NB822_821.out
        have hcz20_0 : w7.cell? ⟨gb821, 0, none⟩ = some (.int .i64 0) := (blk_cell BK821.out 0).trans rfl
        have hcz20_1 : w7.cell? ⟨gb821, 1, none⟩ = some (.int .u64 0) := (blk_cell BK821.out 1).trans rfl
        have hcz20_2 : w7.cell? ⟨gb821, 2, none⟩ = some (.int .u64 0) := (blk_cell BK821.out 2).trans rfl
        have hfz20_0 := blk_frozen BK821.out 0
        have hfz20_1 := blk_frozen BK821.out 1
        have hfz20_2 := blk_frozen BK821.out 2
        go_wp2_with (first | ((with_reducible refine gate_callee (f := 13) rfl ?_); refine goesL_ (some 19) rfl rfl Try.func13 (by kernel_rfl) rfl #[.agg #[.int .i64 t815, .int .u64 t816, .int .u64 t817], .agg #[.int .i64 t815, .int .u64 t816, .int .u64 t817]] rfl (by (try simp only [List.map_toArray, List.map_cons, List.map_nil]); first | done | rfl | (simp only [List.length_drop, List.length_take]; rfl)) ?_; (with_reducible refine (spec_ConWithin.calls k t815 t816 t817 t815 t816 t817 false _ A11.out).mono ?_); rintro e w21 ⟨rfl, hb⟩; refine ⟨_, rfl, ?_⟩; have n0_ := Aside0.mk (blk_below (g := gb821) (o := .cells #[.int .i64 t815, .int .u64 t816, .int .u64 t817] 26 (0, 0)) (by (with_reducible repeat (first | refine blk_drewN ?_ _ | refine blk_drew ?_ | refine blk_alloc ?_ _)); refine blk_far ?_ NB821_822.out _; (with_reducible repeat (first | refine blk_drewN ?_ _ | refine blk_drew ?_ | refine blk_alloc ?_ _)); refine blk_far ?_ NB821_822.out _; (with_reducible repeat (first | refine blk_drewN ?_ _ | refine blk_drew ?_ | refine blk_alloc ?_ _)); refine blk_far ?_ NB821_822.out _; (with_reducible repeat (first | refine blk_drewN ?_ _ | refine blk_drew ?_ | refine blk_alloc ?_ _)); refine blk_put (cs := #[.int .i64 t815, .int .u64 t816, .int .u64 0]) ?_ 2 _ rfl; (with_reducible repeat (first | refine blk_drewN ?_ _ | refine blk_drew ?_ | refine blk_alloc ?_ _)); refine blk_put (cs := #[.int .i64 t815, .int .u64 0, .int .u64 0]) ?_ 1 _ rfl; (with_reducible repeat (first | refine blk_drewN ?_ _ | refine blk_drew ?_ | refine blk_alloc ?_ _)); refine blk_put (cs := #[.int .i64 0, .int .u64 0, .int .u64 0]) ?_ 0 _ rfl; (with_reducible repeat (first | refine blk_drewN ?_ _ | refine blk_drew ?_ | refine blk_alloc ?_ _)); exact BK821.out) hb); have n1_ := Aside0.mk (blk_below (g := gb822) (o := .cells #[.int .i64 t818, .int .u64 t819, .int .u64 t820] 26 (0, 0)) (by (with_reducible repeat (first | refine blk_drewN ?_ _ | refine blk_drew ?_ | refine blk_alloc ?_ _)); refine blk_put (cs := #[.int .i64 t818, .int .u64 t819, .int .u64 0]) ?_ 2 _ rfl; (with_reducible repeat (first | refine blk_drewN ?_ _ | refine blk_drew ?_ | refine blk_alloc ?_ _)); refine blk_put (cs := #[.int .i64 t818, .int .u64 0, .int .u64 0]) ?_ 1 _ rfl; (with_reducible repeat (first | refine blk_drewN ?_ _ | refine blk_drew ?_ | refine blk_alloc ?_ _)); refine blk_put (cs := #[.int .i64 0, .int .u64 0, .int .u64 0]) ?_ 0 _ rfl; (with_reducible repeat (first | refine blk_drewN ?_ _ | refine blk_drew ?_ | refine blk_alloc ?_ _)); refine blk_far ?_ NB822_821.out _; (with_reducible repeat (first | refine blk_drewN ?_ _ | refine blk_drew ?_ | refine blk_alloc ?_ _)); refine blk_far ?_ NB822_821.out _; (with_reducible repeat (first | refine blk_drewN ?_ _ | refine blk_drew ?_ | refine blk_alloc ?_ _)); refine blk_far ?_ NB822_821.out _; (with_reducible repeat (first | refine blk_drewN ?_ _ | refine blk_drew ?_ | refine blk_alloc ?_ _)); exact BK822.out) hb); have n2_ := Aside0.mk (below_step (by repeat (first | (with_reducible first | exact HB.out | apply below_alloc | apply pw_below_drewN | apply below_drew1 | refine below_set ?_ GE821.out | refine below_set ?_ GE822.out) | exact HB.out)) hb); clear BK821; clear BK822; clear HB; have BK821 := n0_; have BK822 := n1_; have HB := n2_; clear n0_ n1_ n2_; (try clear hb); (try clear hb2); (try clear hk); (try clear hi)))
        go_meet
        case rel => exact ⟨_, (true), (by first | rfl | (simp; done) | (simp [*]; done)), H', ⟨by first | omega | exact Nat.le_refl _⟩, ⟨by (with_reducible repeat (first | refine blk_drewN ?_ _ | refine blk_drew ?_ | refine blk_alloc ?_ _)); exact BK821.out⟩, ⟨by (with_reducible repeat (first | refine blk_drewN ?_ _ | refine blk_drew ?_ | refine blk_alloc ?_ _)); exact BK822.out⟩, ⟨by repeat (first | (with_reducible first | exact HB.out | apply below_alloc | apply pw_below_drewN | apply below_drew1 | refine below_set ?_ GE821.out | refine below_set ?_ GE822.out) | exact HB.out)⟩⟩
    case rest =>
      clear HC4
      try clear c1
      try clear c2
      try clear c2b0
      try clear c2b1
      try clear p2
      try clear c5
      try clear c8
      try clear c10
      try clear c12
      try clear c13
      try clear c14
      try clear c19
      try clear hcz10_0
      try clear hcz10_1
      try clear hcz10_2
      try clear hcz15_0
      try clear hcz15_1
      try clear hcz15_2
      try clear hcz17_0
      try clear hcz17_1
      try clear hcz17_2
      try clear hcz20_0
      try clear hcz20_1
      try clear hcz20_2
      try clear hcz9_0
      try clear hcz9_1
      try clear hcz9_2
      try clear hfz10_0
      try clear hfz10_1
      try clear hfz10_2
      try clear hfz15_0
      try clear hfz15_1
      try clear hfz15_2
      try clear hfz17_0
      try clear hfz17_1
      try clear hfz17_2
      try clear hfz20_0
      try clear hfz20_1
      try clear hfz20_2
      try clear hfz9_0
      try clear hfz9_1
      try clear hfz9_2
      obtain ⟨kq, x26_3, rfl, HA, HJ3, BK821, BK822, HB⟩ := hcut
      cases kq with
      | zero => exact absurd HA.out (by simp [laws_FnNorm.j0])
      | succ kj3 =>
        have H := HA.out
        clear HA
        simp only [laws_FnNorm.j0] at H
        by_cases c22 : x26_3 = true
        · subst c22
          have H1 : (some true) = some r := by rw [if_pos rfl] at H; exact H
          clear H
          have H := H1
          clear H1
          obtain rfl := Option.some.inj H
          go_wp2
          go_ret
          exact ⟨by first | rfl | (simp [errW_none, errW_some] <;> rfl) | (simp [*, errW_none, errW_some] <;> rfl), by repeat (first | (with_reducible first | exact HB.out | apply below_alloc | apply pw_below_drewN | apply below_drew1 | refine below_set ?_ GE821.out | refine below_set ?_ GE822.out) | exact HB.out)⟩
        · replace c22 := Bool.eq_false_iff.mpr c22
          subst c22
          have H1 : ((spec_ConWithin.f kj3 t815 t816 t817 t818 t819 t820).bind fun t825 => ((spec_ConWithin.f kj3 t818 t819 t820 t815 t816 t817).bind fun t826 => ((impl_ConWithin.f t815 t816 t817 t818 t819 t820).bind fun t827 => (if (t827 != t825) = true then (laws_FnNorm.j1 kj3 t825 t826 true t815 t816 t817 t818 t819 t820) else ((impl_ConWithin.f t818 t819 t820 t815 t816 t817).bind fun t828 => (laws_FnNorm.j1 kj3 t825 t826 (t828 != t826) t815 t816 t817 t818 t819 t820)))))) = some r := by rw [if_neg (show ¬ (false = true) by decide)] at H; exact H
          clear H
          have H := H1
          clear H1
          replace H := Option.bind_eq_some_iff.mp H
          obtain ⟨t825, A230, H⟩ := H
          replace H : ((spec_ConWithin.f kj3 t818 t819 t820 t815 t816 t817).bind fun t826 => ((impl_ConWithin.f t815 t816 t817 t818 t819 t820).bind fun t827 => (if (t827 != t825) = true then (laws_FnNorm.j1 kj3 t825 t826 true t815 t816 t817 t818 t819 t820) else ((impl_ConWithin.f t818 t819 t820 t815 t816 t817).bind fun t828 => (laws_FnNorm.j1 kj3 t825 t826 (t828 != t826) t815 t816 t817 t818 t819 t820))))) = some r := H
          have A23 := Aside0.mk A230
          clear A230
          replace H := Option.bind_eq_some_iff.mp H
          obtain ⟨t826, A240, H⟩ := H
          replace H : ((impl_ConWithin.f t815 t816 t817 t818 t819 t820).bind fun t827 => (if (t827 != t825) = true then (laws_FnNorm.j1 kj3 t825 t826 true t815 t816 t817 t818 t819 t820) else ((impl_ConWithin.f t818 t819 t820 t815 t816 t817).bind fun t828 => (laws_FnNorm.j1 kj3 t825 t826 (t828 != t826) t815 t816 t817 t818 t819 t820)))) = some r := H
          have A24 := Aside0.mk A240
          clear A240
          have HC25 := Aside0.mk H
          clear H
          have hnb26 := NB821_822.out
          have hnc26 := NB822_821.out
          have hcz27_0 : wc.cell? ⟨gb821, 0, none⟩ = some (.int .i64 t815) := (blk_cell BK821.out 0).trans rfl
          have hcz27_1 : wc.cell? ⟨gb821, 1, none⟩ = some (.int .u64 t816) := (blk_cell BK821.out 1).trans rfl
          have hcz27_2 : wc.cell? ⟨gb821, 2, none⟩ = some (.int .u64 t817) := (blk_cell BK821.out 2).trans rfl
          have hfz27_0 := blk_frozen BK821.out 0
          have hfz27_1 := blk_frozen BK821.out 1
          have hfz27_2 := blk_frozen BK821.out 2
          have hcz28_0 : wc.cell? ⟨gb822, 0, none⟩ = some (.int .i64 t818) := (blk_cell BK822.out 0).trans rfl
          have hcz28_1 : wc.cell? ⟨gb822, 1, none⟩ = some (.int .u64 t819) := (blk_cell BK822.out 1).trans rfl
          have hcz28_2 : wc.cell? ⟨gb822, 2, none⟩ = some (.int .u64 t820) := (blk_cell BK822.out 2).trans rfl
          have hfz28_0 := blk_frozen BK822.out 0
          have hfz28_1 := blk_frozen BK822.out 1
          have hfz28_2 := blk_frozen BK822.out 2
          go_upto_region 8 with (first | ((with_reducible refine gate_callee (f := 13) rfl ?_); refine goesL_ (some 29) rfl rfl Try.func13 (by kernel_rfl) rfl #[.agg #[.int .i64 t815, .int .u64 t816, .int .u64 t817], .agg #[.int .i64 t818, .int .u64 t819, .int .u64 t820]] rfl (by (try simp only [List.map_toArray, List.map_cons, List.map_nil]); first | done | rfl | (simp only [List.length_drop, List.length_take]; rfl)) ?_; (with_reducible refine (spec_ConWithin.calls kj3 t815 t816 t817 t818 t819 t820 t825 _ A23.out).mono ?_); rintro e w29 ⟨rfl, hb⟩; refine ⟨_, rfl, ?_⟩; have n0_ := Aside0.mk (blk_below (g := gb821) (o := .cells #[.int .i64 t815, .int .u64 t816, .int .u64 t817] 26 (0, 0)) (by (with_reducible repeat (first | refine blk_drewN ?_ _ | refine blk_drew ?_ | refine blk_alloc ?_ _)); exact BK821.out) hb); have n1_ := Aside0.mk (blk_below (g := gb822) (o := .cells #[.int .i64 t818, .int .u64 t819, .int .u64 t820] 26 (0, 0)) (by (with_reducible repeat (first | refine blk_drewN ?_ _ | refine blk_drew ?_ | refine blk_alloc ?_ _)); exact BK822.out) hb); have n2_ := Aside0.mk (below_step (by repeat (first | (with_reducible first | exact HB.out | apply below_alloc | apply pw_below_drewN | apply below_drew1 | refine below_set ?_ GE821.out | refine below_set ?_ GE822.out) | exact HB.out)) hb); clear BK821; clear BK822; clear HB; have BK821 := n0_; have BK822 := n1_; have HB := n2_; clear n0_ n1_ n2_; (try clear hb); (try clear hb2); (try clear hk); (try clear hi); have hcz30_0 : w29.cell? ⟨gb822, 0, none⟩ = some (.int .i64 t818) := (blk_cell BK822.out 0).trans rfl; have hcz30_1 : w29.cell? ⟨gb822, 1, none⟩ = some (.int .u64 t819) := (blk_cell BK822.out 1).trans rfl; have hcz30_2 : w29.cell? ⟨gb822, 2, none⟩ = some (.int .u64 t820) := (blk_cell BK822.out 2).trans rfl; have hfz30_0 := blk_frozen BK822.out 0; have hfz30_1 := blk_frozen BK822.out 1; have hfz30_2 := blk_frozen BK822.out 2; have hcz31_0 : w29.cell? ⟨gb821, 0, none⟩ = some (.int .i64 t815) := (blk_cell BK821.out 0).trans rfl; have hcz31_1 : w29.cell? ⟨gb821, 1, none⟩ = some (.int .u64 t816) := (blk_cell BK821.out 1).trans rfl; have hcz31_2 : w29.cell? ⟨gb821, 2, none⟩ = some (.int .u64 t817) := (blk_cell BK821.out 2).trans rfl; have hfz31_0 := blk_frozen BK821.out 0; have hfz31_1 := blk_frozen BK821.out 1; have hfz31_2 := blk_frozen BK821.out 2) | ((with_reducible refine gate_callee (f := 13) rfl ?_); refine goesL_ (some 32) rfl rfl Try.func13 (by kernel_rfl) rfl #[.agg #[.int .i64 t818, .int .u64 t819, .int .u64 t820], .agg #[.int .i64 t815, .int .u64 t816, .int .u64 t817]] rfl (by (try simp only [List.map_toArray, List.map_cons, List.map_nil]); first | done | rfl | (simp only [List.length_drop, List.length_take]; rfl)) ?_; (with_reducible refine (spec_ConWithin.calls kj3 t818 t819 t820 t815 t816 t817 t826 _ A24.out).mono ?_); rintro e w32 ⟨rfl, hb⟩; refine ⟨_, rfl, ?_⟩; have n0_ := Aside0.mk (blk_below (g := gb821) (o := .cells #[.int .i64 t815, .int .u64 t816, .int .u64 t817] 26 (0, 0)) (by (with_reducible repeat (first | refine blk_drewN ?_ _ | refine blk_drew ?_ | refine blk_alloc ?_ _)); exact BK821.out) hb); have n1_ := Aside0.mk (blk_below (g := gb822) (o := .cells #[.int .i64 t818, .int .u64 t819, .int .u64 t820] 26 (0, 0)) (by (with_reducible repeat (first | refine blk_drewN ?_ _ | refine blk_drew ?_ | refine blk_alloc ?_ _)); exact BK822.out) hb); have n2_ := Aside0.mk (below_step (by repeat (first | (with_reducible first | exact HB.out | apply below_alloc | apply pw_below_drewN | apply below_drew1 | refine below_set ?_ GE821.out | refine below_set ?_ GE822.out) | exact HB.out)) hb); clear BK821; clear BK822; clear HB; have BK821 := n0_; have BK822 := n1_; have HB := n2_; clear n0_ n1_ n2_; (try clear hb); (try clear hb2); (try clear hk); (try clear hi)))
          (try simp only [Act.put, List.setIfInBounds_toArray, List.set_cons_zero, List.set_cons_succ])
          go_cut [44] (fun v44 wc => ∃ (kq : Nat) (x44_24 : Bool), v44 = .bool x44_24 ∧ Aside0 (laws_FnNorm.j1 kq t825 t826 x44_24 t815 t816 t817 t818 t819 t820 = some r) ∧ Aside0 (kq ≤ kj3) ∧ Aside0 (wc.heap[gb821]? = some (.cells #[.int .i64 t815, .int .u64 t816, .int .u64 t817] 26 (0, 0))) ∧ Aside0 (wc.heap[gb822]? = some (.cells #[.int .i64 t818, .int .u64 t819, .int .u64 t820] 26 (0, 0))) ∧ Aside0 (Below w.heap.size w wc))
          case first =>
            have H := HC25.out
            clear HC25
            replace H := Option.bind_eq_some_iff.mp H
            obtain ⟨t827, A330, H⟩ := H
            replace H : (if (t827 != t825) = true then (laws_FnNorm.j1 kj3 t825 t826 true t815 t816 t817 t818 t819 t820) else ((impl_ConWithin.f t818 t819 t820 t815 t816 t817).bind fun t828 => (laws_FnNorm.j1 kj3 t825 t826 (t828 != t826) t815 t816 t817 t818 t819 t820))) = some r := H
            have A33 := Aside0.mk A330
            clear A330
            by_cases c34 : (t827 != t825) = true
            · rw [if_pos c34] at H
              have c34b0 : (t827 != t825) = true := c34
              (try (have c34b1 : decide (t827 = t825) = false := by simpa using c34))
              (try (have c34b2 : (t827 == t825) = false := by simpa using c34))
              (try (have c34b3 : ¬ (t827 = t825) := by simpa using c34))
              clear c34
              (first | rw [c34b0] | (simp only [i64_w, i32_w]; rw [c34b0]) | skip)
              have H' := Aside0.mk H
              clear H
              have hnb35 := NB821_822.out
              have hnc35 := NB822_821.out
              have hcz36_0 : w32.cell? ⟨gb821, 0, none⟩ = some (.int .i64 t815) := (blk_cell BK821.out 0).trans rfl
              have hcz36_1 : w32.cell? ⟨gb821, 1, none⟩ = some (.int .u64 t816) := (blk_cell BK821.out 1).trans rfl
              have hcz36_2 : w32.cell? ⟨gb821, 2, none⟩ = some (.int .u64 t817) := (blk_cell BK821.out 2).trans rfl
              have hfz36_0 := blk_frozen BK821.out 0
              have hfz36_1 := blk_frozen BK821.out 1
              have hfz36_2 := blk_frozen BK821.out 2
              have hcz37_0 : w32.cell? ⟨gb822, 0, none⟩ = some (.int .i64 t818) := (blk_cell BK822.out 0).trans rfl
              have hcz37_1 : w32.cell? ⟨gb822, 1, none⟩ = some (.int .u64 t819) := (blk_cell BK822.out 1).trans rfl
              have hcz37_2 : w32.cell? ⟨gb822, 2, none⟩ = some (.int .u64 t820) := (blk_cell BK822.out 2).trans rfl
              have hfz37_0 := blk_frozen BK822.out 0
              have hfz37_1 := blk_frozen BK822.out 1
              have hfz37_2 := blk_frozen BK822.out 2
              go_wp2_with (first | ((with_reducible refine gate_callee (f := 15) rfl ?_); refine goesL_ (some 35) rfl rfl Try.func15 (by kernel_rfl) rfl #[.agg #[.int .i64 t815, .int .u64 t816, .int .u64 t817], .agg #[.int .i64 t818, .int .u64 t819, .int .u64 t820]] rfl (by (try simp only [List.map_toArray, List.map_cons, List.map_nil]); first | done | rfl | (simp only [List.length_drop, List.length_take]; rfl)) ?_; (with_reducible refine (impl_ConWithin.calls t815 t816 t817 t818 t819 t820 t827 _ A33.out).mono ?_); rintro e w38 ⟨rfl, hb⟩; refine ⟨_, rfl, ?_⟩; have n0_ := Aside0.mk (blk_below (g := gb821) (o := .cells #[.int .i64 t815, .int .u64 t816, .int .u64 t817] 26 (0, 0)) (by (with_reducible repeat (first | refine blk_drewN ?_ _ | refine blk_drew ?_ | refine blk_alloc ?_ _)); exact BK821.out) hb); have n1_ := Aside0.mk (blk_below (g := gb822) (o := .cells #[.int .i64 t818, .int .u64 t819, .int .u64 t820] 26 (0, 0)) (by (with_reducible repeat (first | refine blk_drewN ?_ _ | refine blk_drew ?_ | refine blk_alloc ?_ _)); exact BK822.out) hb); have n2_ := Aside0.mk (below_step (by repeat (first | (with_reducible first | exact HB.out | apply below_alloc | apply pw_below_drewN | apply below_drew1 | refine below_set ?_ GE821.out | refine below_set ?_ GE822.out) | exact HB.out)) hb); clear BK821; clear BK822; clear HB; have BK821 := n0_; have BK822 := n1_; have HB := n2_; clear n0_ n1_ n2_; (try clear hb); (try clear hb2); (try clear hk); (try clear hi)))
              go_meet
              case rel => exact ⟨_, (true), (by first | rfl | (simp; done) | (simp [*]; done)), H', ⟨by have := HJ3.out; first | omega | exact Nat.le_refl _⟩, ⟨by (with_reducible repeat (first | refine blk_drewN ?_ _ | refine blk_drew ?_ | refine blk_alloc ?_ _)); exact BK821.out⟩, ⟨by (with_reducible repeat (first | refine blk_drewN ?_ _ | refine blk_drew ?_ | refine blk_alloc ?_ _)); exact BK822.out⟩, ⟨by repeat (first | (with_reducible first | exact HB.out | apply below_alloc | apply pw_below_drewN | apply below_drew1 | refine below_set ?_ GE821.out | refine below_set ?_ GE822.out) | exact HB.out)⟩⟩
            · rw [if_neg c34] at H
              have c34b0 : (t827 != t825) = false := by simpa using c34
              (try (have c34b1 : decide (t827 = t825) = true := by simpa using c34))
              (try (have c34b2 : (t827 == t825) = true := by simpa using c34))
              clear c34
              (first | rw [c34b0] | (simp only [i64_w, i32_w]; rw [c34b0]) | skip)
              replace H := Option.bind_eq_some_iff.mp H
              obtain ⟨t828, A390, H⟩ := H
              replace H : (laws_FnNorm.j1 kj3 t825 t826 (t828 != t826) t815 t816 t817 t818 t819 t820) = some r := H
              have A39 := Aside0.mk A390
              clear A390
              have H' := Aside0.mk H
              clear H
              have hnb40 := NB821_822.out
              have hnc40 := NB822_821.out
              have hcz41_0 : w32.cell? ⟨gb821, 0, none⟩ = some (.int .i64 t815) := (blk_cell BK821.out 0).trans rfl
              have hcz41_1 : w32.cell? ⟨gb821, 1, none⟩ = some (.int .u64 t816) := (blk_cell BK821.out 1).trans rfl
              have hcz41_2 : w32.cell? ⟨gb821, 2, none⟩ = some (.int .u64 t817) := (blk_cell BK821.out 2).trans rfl
              have hfz41_0 := blk_frozen BK821.out 0
              have hfz41_1 := blk_frozen BK821.out 1
              have hfz41_2 := blk_frozen BK821.out 2
              have hcz42_0 : w32.cell? ⟨gb822, 0, none⟩ = some (.int .i64 t818) := (blk_cell BK822.out 0).trans rfl
              have hcz42_1 : w32.cell? ⟨gb822, 1, none⟩ = some (.int .u64 t819) := (blk_cell BK822.out 1).trans rfl
              have hcz42_2 : w32.cell? ⟨gb822, 2, none⟩ = some (.int .u64 t820) := (blk_cell BK822.out 2).trans rfl
              have hfz42_0 := blk_frozen BK822.out 0
              have hfz42_1 := blk_frozen BK822.out 1
              have hfz42_2 := blk_frozen BK822.out 2
              go_wp2_with (first | ((with_reducible refine gate_callee (f := 15) rfl ?_); refine goesL_ (some 35) rfl rfl Try.func15 (by kernel_rfl) rfl #[.agg #[.int .i64 t815, .int .u64 t816, .int .u64 t817], .agg #[.int .i64 t818, .int .u64 t819, .int .u64 t820]] rfl (by (try simp only [List.map_toArray, List.map_cons, List.map_nil]); first | done | rfl | (simp only [List.length_drop, List.length_take]; rfl)) ?_; (with_reducible refine (impl_ConWithin.calls t815 t816 t817 t818 t819 t820 t827 _ A33.out).mono ?_); rintro e w43 ⟨rfl, hb⟩; refine ⟨_, rfl, ?_⟩; have n0_ := Aside0.mk (blk_below (g := gb821) (o := .cells #[.int .i64 t815, .int .u64 t816, .int .u64 t817] 26 (0, 0)) (by (with_reducible repeat (first | refine blk_drewN ?_ _ | refine blk_drew ?_ | refine blk_alloc ?_ _)); exact BK821.out) hb); have n1_ := Aside0.mk (blk_below (g := gb822) (o := .cells #[.int .i64 t818, .int .u64 t819, .int .u64 t820] 26 (0, 0)) (by (with_reducible repeat (first | refine blk_drewN ?_ _ | refine blk_drew ?_ | refine blk_alloc ?_ _)); exact BK822.out) hb); have n2_ := Aside0.mk (below_step (by repeat (first | (with_reducible first | exact HB.out | apply below_alloc | apply pw_below_drewN | apply below_drew1 | refine below_set ?_ GE821.out | refine below_set ?_ GE822.out) | exact HB.out)) hb); clear BK821; clear BK822; clear HB; have BK821 := n0_; have BK822 := n1_; have HB := n2_; clear n0_ n1_ n2_; (try clear hb); (try clear hb2); (try clear hk); (try clear hi); have hcz44_0 : w43.cell? ⟨gb822, 0, none⟩ = some (.int .i64 t818) := (blk_cell BK822.out 0).trans rfl; have hcz44_1 : w43.cell? ⟨gb822, 1, none⟩ = some (.int .u64 t819) := (blk_cell BK822.out 1).trans rfl; have hcz44_2 : w43.cell? ⟨gb822, 2, none⟩ = some (.int .u64 t820) := (blk_cell BK822.out 2).trans rfl; have hfz44_0 := blk_frozen BK822.out 0; have hfz44_1 := blk_frozen BK822.out 1; have hfz44_2 := blk_frozen BK822.out 2; have hcz45_0 : w43.cell? ⟨gb821, 0, none⟩ = some (.int .i64 t815) := (blk_cell BK821.out 0).trans rfl; have hcz45_1 : w43.cell? ⟨gb821, 1, none⟩ = some (.int .u64 t816) := (blk_cell BK821.out 1).trans rfl; have hcz45_2 : w43.cell? ⟨gb821, 2, none⟩ = some (.int .u64 t817) := (blk_cell BK821.out 2).trans rfl; have hfz45_0 := blk_frozen BK821.out 0; have hfz45_1 := blk_frozen BK821.out 1; have hfz45_2 := blk_frozen BK821.out 2) | (go_at_call 15; (with_reducible refine (impl_ConWithin.calls t818 t819 t820 t815 t816 t817 t828 _ A39.out).mono ?_); rintro e w46 ⟨rfl, hb⟩; have n0_ := Aside0.mk (blk_below (g := gb821) (o := .cells #[.int .i64 t815, .int .u64 t816, .int .u64 t817] 26 (0, 0)) (by (with_reducible repeat (first | refine blk_drewN ?_ _ | refine blk_drew ?_ | refine blk_alloc ?_ _)); exact BK821.out) hb); have n1_ := Aside0.mk (blk_below (g := gb822) (o := .cells #[.int .i64 t818, .int .u64 t819, .int .u64 t820] 26 (0, 0)) (by (with_reducible repeat (first | refine blk_drewN ?_ _ | refine blk_drew ?_ | refine blk_alloc ?_ _)); exact BK822.out) hb); have n2_ := Aside0.mk (below_step (by repeat (first | (with_reducible first | exact HB.out | apply below_alloc | apply pw_below_drewN | apply below_drew1 | refine below_set ?_ GE821.out | refine below_set ?_ GE822.out) | exact HB.out)) hb); clear BK821; clear BK822; clear HB; have BK821 := n0_; have BK822 := n1_; have HB := n2_; clear n0_ n1_ n2_; (try clear hb); (try clear hb2); (try clear hk); (try clear hi)))
              go_meet
              case rel => exact ⟨_, ((t828 != t826)), (by first | rfl | (simp; done) | (simp [*]; done)), H', ⟨by have := HJ3.out; first | omega | exact Nat.le_refl _⟩, ⟨by (with_reducible repeat (first | refine blk_drewN ?_ _ | refine blk_drew ?_ | refine blk_alloc ?_ _)); exact BK821.out⟩, ⟨by (with_reducible repeat (first | refine blk_drewN ?_ _ | refine blk_drew ?_ | refine blk_alloc ?_ _)); exact BK822.out⟩, ⟨by repeat (first | (with_reducible first | exact HB.out | apply below_alloc | apply pw_below_drewN | apply below_drew1 | refine below_set ?_ GE821.out | refine below_set ?_ GE822.out) | exact HB.out)⟩⟩
          case rest =>
            clear HC25
            try clear c1
            try clear c2
            try clear c2b0
            try clear c2b1
            try clear p2
            try clear c3
            try clear c4
            try clear c5
            try clear c8
            try clear c10
            try clear c12
            try clear c13
            try clear c14
            try clear c15
            try clear c19
            try clear c22
            try clear c26
            try clear c34
            try clear c34b0
            try clear c34b1
            try clear c34b2
            try clear c35
            try clear c40
            try clear hcz10_0
            try clear hcz10_1
            try clear hcz10_2
            try clear hcz15_0
            try clear hcz15_1
            try clear hcz15_2
            try clear hcz17_0
            try clear hcz17_1
            try clear hcz17_2
            try clear hcz20_0
            try clear hcz20_1
            try clear hcz20_2
            try clear hcz27_0
            try clear hcz27_1
            try clear hcz27_2
            try clear hcz28_0
            try clear hcz28_1
            try clear hcz28_2
            try clear hcz30_0
            try clear hcz30_1
            try clear hcz30_2
            try clear hcz31_0
            try clear hcz31_1
            try clear hcz31_2
            try clear hcz36_0
            try clear hcz36_1
            try clear hcz36_2
            try clear hcz37_0
            try clear hcz37_1
            try clear hcz37_2
            try clear hcz41_0
            try clear hcz41_1
            try clear hcz41_2
            try clear hcz42_0
            try clear hcz42_1
            try clear hcz42_2
            try clear hcz44_0
            try clear hcz44_1
            try clear hcz44_2
            try clear hcz45_0
            try clear hcz45_1
            try clear hcz45_2
            try clear hcz9_0
            try clear hcz9_1
            try clear hcz9_2
            try clear hfz10_0
            try clear hfz10_1
            try clear hfz10_2
            try clear hfz15_0
            try clear hfz15_1
            try clear hfz15_2
            try clear hfz17_0
            try clear hfz17_1
            try clear hfz17_2
            try clear hfz20_0
            try clear hfz20_1
            try clear hfz20_2
            try clear hfz27_0
            try clear hfz27_1
            try clear hfz27_2
            try clear hfz28_0
            try clear hfz28_1
            try clear hfz28_2
            try clear hfz30_0
            try clear hfz30_1
            try clear hfz30_2
            try clear hfz31_0
            try clear hfz31_1
            try clear hfz31_2
            try clear hfz36_0
            try clear hfz36_1
            try clear hfz36_2
            try clear hfz37_0
            try clear hfz37_1
            try clear hfz37_2
            try clear hfz41_0
            try clear hfz41_1
            try clear hfz41_2
            try clear hfz42_0
            try clear hfz42_1
            try clear hfz42_2
            try clear hfz44_0
            try clear hfz44_1
            try clear hfz44_2
            try clear hfz45_0
            try clear hfz45_1
            try clear hfz45_2
            try clear hfz9_0
            try clear hfz9_1
            try clear hfz9_2
            try clear p2
            obtain ⟨kq, x44_24, rfl, HA, HJ24, BK821, BK822, HB⟩ := hcut
            cases kq with
            | zero => exact absurd HA.out (by simp [laws_FnNorm.j1])
            | succ kj24 =>
              have H := HA.out
              clear HA
              simp only [laws_FnNorm.j1] at H
              by_cases c47 : x44_24 = true
              · subst c47
                have H1 : (some false) = some r := by rw [if_pos rfl] at H; exact H
                clear H
                have H := H1
                clear H1
                obtain rfl := Option.some.inj H
                go_wp2
                go_ret
                exact ⟨by first | rfl | (simp [errW_none, errW_some] <;> rfl) | (simp [*, errW_none, errW_some] <;> rfl), by repeat (first | (with_reducible first | exact HB.out | apply below_alloc | apply pw_below_drewN | apply below_drew1 | refine below_set ?_ GE821.out | refine below_set ?_ GE822.out) | exact HB.out)⟩
              · replace c47 := Bool.eq_false_iff.mpr c47
                subst c47
                have H1 : ((impl_NormCon.f t815 t816 t817).bind fun bt829 => ((impl_NormCon.f t818 t819 t820).bind fun bt833 => ((impl_ConWithin.f bt829.1 bt829.2.1 bt829.2.2 bt833.1 bt833.2.1 bt833.2.2).bind fun t837 => (if (t837 != t825) = true then (laws_FnNorm.j2 kj24 t825 t826 true t815 t816 t817 t818 t819 t820 bt829.1 bt829.2.1 bt829.2.2 bt833.1 bt833.2.1 bt833.2.2) else ((impl_ConWithin.f bt833.1 bt833.2.1 bt833.2.2 bt829.1 bt829.2.1 bt829.2.2).bind fun t838 => (laws_FnNorm.j2 kj24 t825 t826 (t838 != t826) t815 t816 t817 t818 t819 t820 bt829.1 bt829.2.1 bt829.2.2 bt833.1 bt833.2.1 bt833.2.2)))))) = some r := by rw [if_neg (show ¬ (false = true) by decide)] at H; exact H
                clear H
                have H := H1
                clear H1
                replace H := Option.bind_eq_some_iff.mp H
                obtain ⟨⟨t829, t830, t831⟩, A480, H⟩ := H
                replace H : ((impl_NormCon.f t818 t819 t820).bind fun bt833 => ((impl_ConWithin.f t829 t830 t831 bt833.1 bt833.2.1 bt833.2.2).bind fun t837 => (if (t837 != t825) = true then (laws_FnNorm.j2 kj24 t825 t826 true t815 t816 t817 t818 t819 t820 t829 t830 t831 bt833.1 bt833.2.1 bt833.2.2) else ((impl_ConWithin.f bt833.1 bt833.2.1 bt833.2.2 t829 t830 t831).bind fun t838 => (laws_FnNorm.j2 kj24 t825 t826 (t838 != t826) t815 t816 t817 t818 t819 t820 t829 t830 t831 bt833.1 bt833.2.1 bt833.2.2))))) = some r := H
                have A48 := Aside0.mk A480
                clear A480
                replace H := Option.bind_eq_some_iff.mp H
                obtain ⟨⟨t833, t834, t835⟩, A490, H⟩ := H
                replace H : ((impl_ConWithin.f t829 t830 t831 t833 t834 t835).bind fun t837 => (if (t837 != t825) = true then (laws_FnNorm.j2 kj24 t825 t826 true t815 t816 t817 t818 t819 t820 t829 t830 t831 t833 t834 t835) else ((impl_ConWithin.f t833 t834 t835 t829 t830 t831).bind fun t838 => (laws_FnNorm.j2 kj24 t825 t826 (t838 != t826) t815 t816 t817 t818 t819 t820 t829 t830 t831 t833 t834 t835)))) = some r := H
                have A49 := Aside0.mk A490
                clear A490
                have HC50 := Aside0.mk H
                clear H
                have hnb51 := NB821_822.out
                have hnc51 := NB822_821.out
                have hcz52_0 : wc.cell? ⟨gb821, 0, none⟩ = some (.int .i64 t815) := (blk_cell BK821.out 0).trans rfl
                have hcz52_1 : wc.cell? ⟨gb821, 1, none⟩ = some (.int .u64 t816) := (blk_cell BK821.out 1).trans rfl
                have hcz52_2 : wc.cell? ⟨gb821, 2, none⟩ = some (.int .u64 t817) := (blk_cell BK821.out 2).trans rfl
                have hfz52_0 := blk_frozen BK821.out 0
                have hfz52_1 := blk_frozen BK821.out 1
                have hfz52_2 := blk_frozen BK821.out 2
                go_upto_region 12 with (first | ((with_reducible refine gate_callee (f := 37) rfl ?_); refine goesL_ (some 46) rfl rfl Try.func37 (by kernel_rfl) rfl #[.agg #[.int .i64 t815, .int .u64 t816, .int .u64 t817]] rfl (by (try simp only [List.map_toArray, List.map_cons, List.map_nil]); first | done | rfl | (simp only [List.length_drop, List.length_take]; rfl)) ?_; (with_reducible refine (impl_NormCon.calls t815 t816 t817 t829 t830 t831 _ A48.out).mono ?_); rintro e w53 ⟨rfl, hb⟩; refine ⟨_, rfl, ?_⟩; have n0_ := Aside0.mk (blk_below (g := gb821) (o := .cells #[.int .i64 t815, .int .u64 t816, .int .u64 t817] 26 (0, 0)) (by (with_reducible repeat (first | refine blk_drewN ?_ _ | refine blk_drew ?_ | refine blk_alloc ?_ _)); exact BK821.out) hb); have n1_ := Aside0.mk (blk_below (g := gb822) (o := .cells #[.int .i64 t818, .int .u64 t819, .int .u64 t820] 26 (0, 0)) (by (with_reducible repeat (first | refine blk_drewN ?_ _ | refine blk_drew ?_ | refine blk_alloc ?_ _)); exact BK822.out) hb); have n2_ := Aside0.mk (below_step (by repeat (first | (with_reducible first | exact HB.out | apply below_alloc | apply pw_below_drewN | apply below_drew1 | refine below_set ?_ GE821.out | refine below_set ?_ GE822.out) | exact HB.out)) hb); clear BK821; clear BK822; clear HB; have BK821 := n0_; have BK822 := n1_; have HB := n2_; clear n0_ n1_ n2_; (try clear hb); (try clear hb2); (try clear hk); (try clear hi)) | ((with_reducible refine gate_dst (N := 7) rfl ?_); refine box_event ?hg (N := 7) ?hd (cs := #[.int .i64 0, .int .u64 0, .int .u64 0]) (t := 26) ?hr ?_; (case hd => rfl); (case hg => rfl); (case hr => first | (go_simp; done) | (go_simp; rfl)); intro gb832 hg w54 hbox hb; have n0_ := Aside0.mk (blk_below (g := gb821) (o := .cells #[.int .i64 t815, .int .u64 t816, .int .u64 t817] 26 (0, 0)) (by (with_reducible repeat (first | refine blk_drewN ?_ _ | refine blk_drew ?_ | refine blk_alloc ?_ _)); exact BK821.out) hb); have n1_ := Aside0.mk (blk_below (g := gb822) (o := .cells #[.int .i64 t818, .int .u64 t819, .int .u64 t820] 26 (0, 0)) (by (with_reducible repeat (first | refine blk_drewN ?_ _ | refine blk_drew ?_ | refine blk_alloc ?_ _)); exact BK822.out) hb); have n2_ := Aside0.mk (below_step (by repeat (first | (with_reducible first | exact HB.out | apply below_alloc | apply pw_below_drewN | apply below_drew1 | refine below_set ?_ GE821.out | refine below_set ?_ GE822.out) | exact HB.out)) hb); have n3_ := Aside0.mk (hbox); have n4_ := Aside0.mk ((by rw [hg]; exact (below_size (by repeat (first | (with_reducible first | exact HB.out | apply below_alloc | apply pw_below_drewN | apply below_drew1 | refine below_set ?_ GE821.out | refine below_set ?_ GE822.out) | exact HB.out))) : w.heap.size ≤ gb832)); have n5_ := Aside0.mk ((by rw [hg]; exact (below_size (by repeat (first | (with_reducible first | exact HB.out | apply below_alloc | apply pw_below_drewN | apply below_drew1 | refine below_set ?_ GE821.out | refine below_set ?_ GE822.out) | exact HB.out))) : w.heap.size ≤ gb832)); have n6_ := Aside0.mk ((by rw [hg]; exact Nat.ne_of_lt (blk_lt (g := gb821) (o := .cells #[.int .i64 t815, .int .u64 t816, .int .u64 t817] 26 (0, 0)) (by (with_reducible repeat (first | refine blk_drewN ?_ _ | refine blk_drew ?_ | refine blk_alloc ?_ _)); exact BK821.out)) : gb821 ≠ gb832)); have n7_ := Aside0.mk ((by rw [hg]; exact Nat.ne_of_gt (blk_lt (g := gb821) (o := .cells #[.int .i64 t815, .int .u64 t816, .int .u64 t817] 26 (0, 0)) (by (with_reducible repeat (first | refine blk_drewN ?_ _ | refine blk_drew ?_ | refine blk_alloc ?_ _)); exact BK821.out)) : gb832 ≠ gb821)); have n8_ := Aside0.mk ((by rw [hg]; exact Nat.ne_of_lt (blk_lt (g := gb822) (o := .cells #[.int .i64 t818, .int .u64 t819, .int .u64 t820] 26 (0, 0)) (by (with_reducible repeat (first | refine blk_drewN ?_ _ | refine blk_drew ?_ | refine blk_alloc ?_ _)); exact BK822.out)) : gb822 ≠ gb832)); have n9_ := Aside0.mk ((by rw [hg]; exact Nat.ne_of_gt (blk_lt (g := gb822) (o := .cells #[.int .i64 t818, .int .u64 t819, .int .u64 t820] 26 (0, 0)) (by (with_reducible repeat (first | refine blk_drewN ?_ _ | refine blk_drew ?_ | refine blk_alloc ?_ _)); exact BK822.out)) : gb832 ≠ gb822)); clear BK821; clear BK822; clear HB; have BK821 := n0_; have BK822 := n1_; have HB := n2_; have BK832 := n3_; have GW832 := n4_; have GE832 := n5_; have NB821_832 := n6_; have NB832_821 := n7_; have NB822_832 := n8_; have NB832_822 := n9_; clear n0_ n1_ n2_ n3_ n4_ n5_ n6_ n7_ n8_ n9_; clear hb hbox hg; have hnb55 := NB832_821.out; have hnc55 := NB821_832.out; have hnb56 := NB832_822.out; have hnc56 := NB822_832.out; have hcz57_0 : w54.cell? ⟨gb832, 0, none⟩ = some (.int .i64 0) := (blk_cell BK832.out 0).trans rfl; have hcz57_1 : w54.cell? ⟨gb832, 1, none⟩ = some (.int .u64 0) := (blk_cell BK832.out 1).trans rfl; have hcz57_2 : w54.cell? ⟨gb832, 2, none⟩ = some (.int .u64 0) := (blk_cell BK832.out 2).trans rfl; have hfz57_0 := blk_frozen BK832.out 0; have hfz57_1 := blk_frozen BK832.out 1; have hfz57_2 := blk_frozen BK832.out 2; have hcz58_0 : w54.cell? ⟨gb822, 0, none⟩ = some (.int .i64 t818) := (blk_cell BK822.out 0).trans rfl; have hcz58_1 : w54.cell? ⟨gb822, 1, none⟩ = some (.int .u64 t819) := (blk_cell BK822.out 1).trans rfl; have hcz58_2 : w54.cell? ⟨gb822, 2, none⟩ = some (.int .u64 t820) := (blk_cell BK822.out 2).trans rfl; have hfz58_0 := blk_frozen BK822.out 0; have hfz58_1 := blk_frozen BK822.out 1; have hfz58_2 := blk_frozen BK822.out 2) | ((with_reducible refine gate_callee (f := 37) rfl ?_); refine goesL_ (some 48) rfl rfl Try.func37 (by kernel_rfl) rfl #[.agg #[.int .i64 t818, .int .u64 t819, .int .u64 t820]] rfl (by (try simp only [List.map_toArray, List.map_cons, List.map_nil]); first | done | rfl | (simp only [List.length_drop, List.length_take]; rfl)) ?_; (with_reducible refine (impl_NormCon.calls t818 t819 t820 t833 t834 t835 _ A49.out).mono ?_); rintro e w59 ⟨rfl, hb⟩; refine ⟨_, rfl, ?_⟩; have n0_ := Aside0.mk (blk_below (g := gb821) (o := .cells #[.int .i64 t815, .int .u64 t816, .int .u64 t817] 26 (0, 0)) (by (with_reducible repeat (first | refine blk_drewN ?_ _ | refine blk_drew ?_ | refine blk_alloc ?_ _)); refine blk_far ?_ NB821_832.out _; (with_reducible repeat (first | refine blk_drewN ?_ _ | refine blk_drew ?_ | refine blk_alloc ?_ _)); refine blk_far ?_ NB821_832.out _; (with_reducible repeat (first | refine blk_drewN ?_ _ | refine blk_drew ?_ | refine blk_alloc ?_ _)); refine blk_far ?_ NB821_832.out _; (with_reducible repeat (first | refine blk_drewN ?_ _ | refine blk_drew ?_ | refine blk_alloc ?_ _)); exact BK821.out) hb); have n1_ := Aside0.mk (blk_below (g := gb822) (o := .cells #[.int .i64 t818, .int .u64 t819, .int .u64 t820] 26 (0, 0)) (by (with_reducible repeat (first | refine blk_drewN ?_ _ | refine blk_drew ?_ | refine blk_alloc ?_ _)); refine blk_far ?_ NB822_832.out _; (with_reducible repeat (first | refine blk_drewN ?_ _ | refine blk_drew ?_ | refine blk_alloc ?_ _)); refine blk_far ?_ NB822_832.out _; (with_reducible repeat (first | refine blk_drewN ?_ _ | refine blk_drew ?_ | refine blk_alloc ?_ _)); refine blk_far ?_ NB822_832.out _; (with_reducible repeat (first | refine blk_drewN ?_ _ | refine blk_drew ?_ | refine blk_alloc ?_ _)); exact BK822.out) hb); have n2_ := Aside0.mk (blk_below (g := gb832) (o := .cells #[.int .i64 t829, .int .u64 t830, .int .u64 t831] 26 (0, 0)) (by (with_reducible repeat (first | refine blk_drewN ?_ _ | refine blk_drew ?_ | refine blk_alloc ?_ _)); refine blk_put (cs := #[.int .i64 t829, .int .u64 t830, .int .u64 0]) ?_ 2 _ rfl; (with_reducible repeat (first | refine blk_drewN ?_ _ | refine blk_drew ?_ | refine blk_alloc ?_ _)); refine blk_put (cs := #[.int .i64 t829, .int .u64 0, .int .u64 0]) ?_ 1 _ rfl; (with_reducible repeat (first | refine blk_drewN ?_ _ | refine blk_drew ?_ | refine blk_alloc ?_ _)); refine blk_put (cs := #[.int .i64 0, .int .u64 0, .int .u64 0]) ?_ 0 _ rfl; (with_reducible repeat (first | refine blk_drewN ?_ _ | refine blk_drew ?_ | refine blk_alloc ?_ _)); exact BK832.out) hb); have n3_ := Aside0.mk (below_step (by repeat (first | (with_reducible first | exact HB.out | apply below_alloc | apply pw_below_drewN | apply below_drew1 | refine below_set ?_ GE821.out | refine below_set ?_ GE822.out | refine below_set ?_ GE832.out) | exact HB.out)) hb); clear BK821; clear BK822; clear BK832; clear HB; have BK821 := n0_; have BK822 := n1_; have BK832 := n2_; have HB := n3_; clear n0_ n1_ n2_ n3_; (try clear hb); (try clear hb2); (try clear hk); (try clear hi)) | ((with_reducible refine gate_dst (N := 8) rfl ?_); refine box_event ?hg (N := 8) ?hd (cs := #[.int .i64 0, .int .u64 0, .int .u64 0]) (t := 26) ?hr ?_; (case hd => rfl); (case hg => rfl); (case hr => first | (go_simp; done) | (go_simp; rfl)); intro gb836 hg w60 hbox hb; have n0_ := Aside0.mk (blk_below (g := gb821) (o := .cells #[.int .i64 t815, .int .u64 t816, .int .u64 t817] 26 (0, 0)) (by (with_reducible repeat (first | refine blk_drewN ?_ _ | refine blk_drew ?_ | refine blk_alloc ?_ _)); exact BK821.out) hb); have n1_ := Aside0.mk (blk_below (g := gb822) (o := .cells #[.int .i64 t818, .int .u64 t819, .int .u64 t820] 26 (0, 0)) (by (with_reducible repeat (first | refine blk_drewN ?_ _ | refine blk_drew ?_ | refine blk_alloc ?_ _)); exact BK822.out) hb); have n2_ := Aside0.mk (blk_below (g := gb832) (o := .cells #[.int .i64 t829, .int .u64 t830, .int .u64 t831] 26 (0, 0)) (by (with_reducible repeat (first | refine blk_drewN ?_ _ | refine blk_drew ?_ | refine blk_alloc ?_ _)); exact BK832.out) hb); have n3_ := Aside0.mk (below_step (by repeat (first | (with_reducible first | exact HB.out | apply below_alloc | apply pw_below_drewN | apply below_drew1 | refine below_set ?_ GE821.out | refine below_set ?_ GE822.out | refine below_set ?_ GE832.out) | exact HB.out)) hb); have n4_ := Aside0.mk (hbox); have n5_ := Aside0.mk ((by rw [hg]; exact (below_size (by repeat (first | (with_reducible first | exact HB.out | apply below_alloc | apply pw_below_drewN | apply below_drew1 | refine below_set ?_ GE821.out | refine below_set ?_ GE822.out | refine below_set ?_ GE832.out) | exact HB.out))) : w.heap.size ≤ gb836)); have n6_ := Aside0.mk ((by rw [hg]; exact (below_size (by repeat (first | (with_reducible first | exact HB.out | apply below_alloc | apply pw_below_drewN | apply below_drew1 | refine below_set ?_ GE821.out | refine below_set ?_ GE822.out | refine below_set ?_ GE832.out) | exact HB.out))) : w.heap.size ≤ gb836)); have n7_ := Aside0.mk ((by rw [hg]; exact Nat.ne_of_lt (blk_lt (g := gb821) (o := .cells #[.int .i64 t815, .int .u64 t816, .int .u64 t817] 26 (0, 0)) (by (with_reducible repeat (first | refine blk_drewN ?_ _ | refine blk_drew ?_ | refine blk_alloc ?_ _)); exact BK821.out)) : gb821 ≠ gb836)); have n8_ := Aside0.mk ((by rw [hg]; exact Nat.ne_of_gt (blk_lt (g := gb821) (o := .cells #[.int .i64 t815, .int .u64 t816, .int .u64 t817] 26 (0, 0)) (by (with_reducible repeat (first | refine blk_drewN ?_ _ | refine blk_drew ?_ | refine blk_alloc ?_ _)); exact BK821.out)) : gb836 ≠ gb821)); have n9_ := Aside0.mk ((by rw [hg]; exact Nat.ne_of_lt (blk_lt (g := gb822) (o := .cells #[.int .i64 t818, .int .u64 t819, .int .u64 t820] 26 (0, 0)) (by (with_reducible repeat (first | refine blk_drewN ?_ _ | refine blk_drew ?_ | refine blk_alloc ?_ _)); exact BK822.out)) : gb822 ≠ gb836)); have n10_ := Aside0.mk ((by rw [hg]; exact Nat.ne_of_gt (blk_lt (g := gb822) (o := .cells #[.int .i64 t818, .int .u64 t819, .int .u64 t820] 26 (0, 0)) (by (with_reducible repeat (first | refine blk_drewN ?_ _ | refine blk_drew ?_ | refine blk_alloc ?_ _)); exact BK822.out)) : gb836 ≠ gb822)); have n11_ := Aside0.mk ((by rw [hg]; exact Nat.ne_of_lt (blk_lt (g := gb832) (o := .cells #[.int .i64 t829, .int .u64 t830, .int .u64 t831] 26 (0, 0)) (by (with_reducible repeat (first | refine blk_drewN ?_ _ | refine blk_drew ?_ | refine blk_alloc ?_ _)); exact BK832.out)) : gb832 ≠ gb836)); have n12_ := Aside0.mk ((by rw [hg]; exact Nat.ne_of_gt (blk_lt (g := gb832) (o := .cells #[.int .i64 t829, .int .u64 t830, .int .u64 t831] 26 (0, 0)) (by (with_reducible repeat (first | refine blk_drewN ?_ _ | refine blk_drew ?_ | refine blk_alloc ?_ _)); exact BK832.out)) : gb836 ≠ gb832)); clear BK821; clear BK822; clear BK832; clear HB; have BK821 := n0_; have BK822 := n1_; have BK832 := n2_; have HB := n3_; have BK836 := n4_; have GW836 := n5_; have GE836 := n6_; have NB821_836 := n7_; have NB836_821 := n8_; have NB822_836 := n9_; have NB836_822 := n10_; have NB832_836 := n11_; have NB836_832 := n12_; clear n0_ n1_ n2_ n3_ n4_ n5_ n6_ n7_ n8_ n9_ n10_ n11_ n12_; clear hb hbox hg; have hnb61 := NB836_821.out; have hnc61 := NB821_836.out; have hnb62 := NB836_822.out; have hnc62 := NB822_836.out; have hnb63 := NB836_832.out; have hnc63 := NB832_836.out; have hcz64_0 : w60.cell? ⟨gb836, 0, none⟩ = some (.int .i64 0) := (blk_cell BK836.out 0).trans rfl; have hcz64_1 : w60.cell? ⟨gb836, 1, none⟩ = some (.int .u64 0) := (blk_cell BK836.out 1).trans rfl; have hcz64_2 : w60.cell? ⟨gb836, 2, none⟩ = some (.int .u64 0) := (blk_cell BK836.out 2).trans rfl; have hfz64_0 := blk_frozen BK836.out 0; have hfz64_1 := blk_frozen BK836.out 1; have hfz64_2 := blk_frozen BK836.out 2))
                (try simp only [Act.put, List.setIfInBounds_toArray, List.set_cons_zero, List.set_cons_succ])
                go_cut [60] (fun v60 wc => ∃ (kq : Nat) (x60_49 : Bool), v60 = .bool x60_49 ∧ Aside0 (laws_FnNorm.j2 kq t825 t826 x60_49 t815 t816 t817 t818 t819 t820 t829 t830 t831 t833 t834 t835 = some r) ∧ Aside0 (kq ≤ kj24) ∧ Aside0 (wc.heap[gb821]? = some (.cells #[.int .i64 t815, .int .u64 t816, .int .u64 t817] 26 (0, 0))) ∧ Aside0 (wc.heap[gb822]? = some (.cells #[.int .i64 t818, .int .u64 t819, .int .u64 t820] 26 (0, 0))) ∧ Aside0 (wc.heap[gb832]? = some (.cells #[.int .i64 t829, .int .u64 t830, .int .u64 t831] 26 (0, 0))) ∧ Aside0 (wc.heap[gb836]? = some (.cells #[.int .i64 t833, .int .u64 t834, .int .u64 t835] 26 (0, 0))) ∧ Aside0 (Below w.heap.size w wc))
                case first =>
                  have H := HC50.out
                  clear HC50
                  replace H := Option.bind_eq_some_iff.mp H
                  obtain ⟨t837, A650, H⟩ := H
                  replace H : (if (t837 != t825) = true then (laws_FnNorm.j2 kj24 t825 t826 true t815 t816 t817 t818 t819 t820 t829 t830 t831 t833 t834 t835) else ((impl_ConWithin.f t833 t834 t835 t829 t830 t831).bind fun t838 => (laws_FnNorm.j2 kj24 t825 t826 (t838 != t826) t815 t816 t817 t818 t819 t820 t829 t830 t831 t833 t834 t835))) = some r := H
                  have A65 := Aside0.mk A650
                  clear A650
                  by_cases c66 : (t837 != t825) = true
                  · rw [if_pos c66] at H
                    have c66b0 : (t837 != t825) = true := c66
                    (try (have c66b1 : decide (t837 = t825) = false := by simpa using c66))
                    (try (have c66b2 : (t837 == t825) = false := by simpa using c66))
                    (try (have c66b3 : ¬ (t837 = t825) := by simpa using c66))
                    clear c66
                    (first | rw [c66b0] | (simp only [i64_w, i32_w]; rw [c66b0]) | skip)
                    have H' := Aside0.mk H
                    clear H
                    have hnb67 := NB832_821.out
                    have hnc67 := NB821_832.out
                    have hnb68 := NB832_822.out
                    have hnc68 := NB822_832.out
                    have hnb69 := NB832_836.out
                    have hnc69 := NB836_832.out
                    have hcz70_0 : w60.cell? ⟨gb832, 0, none⟩ = some (.int .i64 t829) := (blk_cell BK832.out 0).trans rfl
                    have hcz70_1 : w60.cell? ⟨gb832, 1, none⟩ = some (.int .u64 t830) := (blk_cell BK832.out 1).trans rfl
                    have hcz70_2 : w60.cell? ⟨gb832, 2, none⟩ = some (.int .u64 t831) := (blk_cell BK832.out 2).trans rfl
                    have hfz70_0 := blk_frozen BK832.out 0
                    have hfz70_1 := blk_frozen BK832.out 1
                    have hfz70_2 := blk_frozen BK832.out 2
                    have hnb71 := NB836_821.out
                    have hnc71 := NB821_836.out
                    have hnb72 := NB836_822.out
                    have hnc72 := NB822_836.out
                    have hcz73_0 : w60.cell? ⟨gb836, 0, none⟩ = some (.int .i64 0) := (blk_cell BK836.out 0).trans rfl
                    have hcz73_1 : w60.cell? ⟨gb836, 1, none⟩ = some (.int .u64 0) := (blk_cell BK836.out 1).trans rfl
                    have hcz73_2 : w60.cell? ⟨gb836, 2, none⟩ = some (.int .u64 0) := (blk_cell BK836.out 2).trans rfl
                    have hfz73_0 := blk_frozen BK836.out 0
                    have hfz73_1 := blk_frozen BK836.out 1
                    have hfz73_2 := blk_frozen BK836.out 2
                    go_wp2_with (first | ((with_reducible refine gate_callee (f := 15) rfl ?_); refine goesL_ (some 51) rfl rfl Try.func15 (by kernel_rfl) rfl #[.agg #[.int .i64 t829, .int .u64 t830, .int .u64 t831], .agg #[.int .i64 t833, .int .u64 t834, .int .u64 t835]] rfl (by (try simp only [List.map_toArray, List.map_cons, List.map_nil]); first | done | rfl | (simp only [List.length_drop, List.length_take]; rfl)) ?_; (with_reducible refine (impl_ConWithin.calls t829 t830 t831 t833 t834 t835 t837 _ A65.out).mono ?_); rintro e w74 ⟨rfl, hb⟩; refine ⟨_, rfl, ?_⟩; have n0_ := Aside0.mk (blk_below (g := gb821) (o := .cells #[.int .i64 t815, .int .u64 t816, .int .u64 t817] 26 (0, 0)) (by (with_reducible repeat (first | refine blk_drewN ?_ _ | refine blk_drew ?_ | refine blk_alloc ?_ _)); refine blk_far ?_ NB821_836.out _; (with_reducible repeat (first | refine blk_drewN ?_ _ | refine blk_drew ?_ | refine blk_alloc ?_ _)); refine blk_far ?_ NB821_836.out _; (with_reducible repeat (first | refine blk_drewN ?_ _ | refine blk_drew ?_ | refine blk_alloc ?_ _)); refine blk_far ?_ NB821_836.out _; (with_reducible repeat (first | refine blk_drewN ?_ _ | refine blk_drew ?_ | refine blk_alloc ?_ _)); exact BK821.out) hb); have n1_ := Aside0.mk (blk_below (g := gb822) (o := .cells #[.int .i64 t818, .int .u64 t819, .int .u64 t820] 26 (0, 0)) (by (with_reducible repeat (first | refine blk_drewN ?_ _ | refine blk_drew ?_ | refine blk_alloc ?_ _)); refine blk_far ?_ NB822_836.out _; (with_reducible repeat (first | refine blk_drewN ?_ _ | refine blk_drew ?_ | refine blk_alloc ?_ _)); refine blk_far ?_ NB822_836.out _; (with_reducible repeat (first | refine blk_drewN ?_ _ | refine blk_drew ?_ | refine blk_alloc ?_ _)); refine blk_far ?_ NB822_836.out _; (with_reducible repeat (first | refine blk_drewN ?_ _ | refine blk_drew ?_ | refine blk_alloc ?_ _)); exact BK822.out) hb); have n2_ := Aside0.mk (blk_below (g := gb832) (o := .cells #[.int .i64 t829, .int .u64 t830, .int .u64 t831] 26 (0, 0)) (by (with_reducible repeat (first | refine blk_drewN ?_ _ | refine blk_drew ?_ | refine blk_alloc ?_ _)); refine blk_far ?_ NB832_836.out _; (with_reducible repeat (first | refine blk_drewN ?_ _ | refine blk_drew ?_ | refine blk_alloc ?_ _)); refine blk_far ?_ NB832_836.out _; (with_reducible repeat (first | refine blk_drewN ?_ _ | refine blk_drew ?_ | refine blk_alloc ?_ _)); refine blk_far ?_ NB832_836.out _; (with_reducible repeat (first | refine blk_drewN ?_ _ | refine blk_drew ?_ | refine blk_alloc ?_ _)); exact BK832.out) hb); have n3_ := Aside0.mk (blk_below (g := gb836) (o := .cells #[.int .i64 t833, .int .u64 t834, .int .u64 t835] 26 (0, 0)) (by (with_reducible repeat (first | refine blk_drewN ?_ _ | refine blk_drew ?_ | refine blk_alloc ?_ _)); refine blk_put (cs := #[.int .i64 t833, .int .u64 t834, .int .u64 0]) ?_ 2 _ rfl; (with_reducible repeat (first | refine blk_drewN ?_ _ | refine blk_drew ?_ | refine blk_alloc ?_ _)); refine blk_put (cs := #[.int .i64 t833, .int .u64 0, .int .u64 0]) ?_ 1 _ rfl; (with_reducible repeat (first | refine blk_drewN ?_ _ | refine blk_drew ?_ | refine blk_alloc ?_ _)); refine blk_put (cs := #[.int .i64 0, .int .u64 0, .int .u64 0]) ?_ 0 _ rfl; (with_reducible repeat (first | refine blk_drewN ?_ _ | refine blk_drew ?_ | refine blk_alloc ?_ _)); exact BK836.out) hb); have n4_ := Aside0.mk (below_step (by repeat (first | (with_reducible first | exact HB.out | apply below_alloc | apply pw_below_drewN | apply below_drew1 | refine below_set ?_ GE821.out | refine below_set ?_ GE822.out | refine below_set ?_ GE832.out | refine below_set ?_ GE836.out) | exact HB.out)) hb); clear BK821; clear BK822; clear BK832; clear BK836; clear HB; have BK821 := n0_; have BK822 := n1_; have BK832 := n2_; have BK836 := n3_; have HB := n4_; clear n0_ n1_ n2_ n3_ n4_; (try clear hb); (try clear hb2); (try clear hk); (try clear hi)))
                    go_meet
                    case rel => exact ⟨_, (true), (by first | rfl | (simp; done) | (simp [*]; done)), H', ⟨by have := HJ3.out; have := HJ24.out; first | omega | exact Nat.le_refl _⟩, ⟨by (with_reducible repeat (first | refine blk_drewN ?_ _ | refine blk_drew ?_ | refine blk_alloc ?_ _)); exact BK821.out⟩, ⟨by (with_reducible repeat (first | refine blk_drewN ?_ _ | refine blk_drew ?_ | refine blk_alloc ?_ _)); exact BK822.out⟩, ⟨by (with_reducible repeat (first | refine blk_drewN ?_ _ | refine blk_drew ?_ | refine blk_alloc ?_ _)); exact BK832.out⟩, ⟨by (with_reducible repeat (first | refine blk_drewN ?_ _ | refine blk_drew ?_ | refine blk_alloc ?_ _)); exact BK836.out⟩, ⟨by repeat (first | (with_reducible first | exact HB.out | apply below_alloc | apply pw_below_drewN | apply below_drew1 | refine below_set ?_ GE821.out | refine below_set ?_ GE822.out | refine below_set ?_ GE832.out | refine below_set ?_ GE836.out) | exact HB.out)⟩⟩
                  · rw [if_neg c66] at H
                    have c66b0 : (t837 != t825) = false := by simpa using c66
                    (try (have c66b1 : decide (t837 = t825) = true := by simpa using c66))
                    (try (have c66b2 : (t837 == t825) = true := by simpa using c66))
                    clear c66
                    (first | rw [c66b0] | (simp only [i64_w, i32_w]; rw [c66b0]) | skip)
                    replace H := Option.bind_eq_some_iff.mp H
                    obtain ⟨t838, A750, H⟩ := H
                    replace H : (laws_FnNorm.j2 kj24 t825 t826 (t838 != t826) t815 t816 t817 t818 t819 t820 t829 t830 t831 t833 t834 t835) = some r := H
                    have A75 := Aside0.mk A750
                    clear A750
                    have H' := Aside0.mk H
                    clear H
                    have hnb76 := NB832_821.out
                    have hnc76 := NB821_832.out
                    have hnb77 := NB832_822.out
                    have hnc77 := NB822_832.out
                    have hnb78 := NB832_836.out
                    have hnc78 := NB836_832.out
                    have hcz79_0 : w60.cell? ⟨gb832, 0, none⟩ = some (.int .i64 t829) := (blk_cell BK832.out 0).trans rfl
                    have hcz79_1 : w60.cell? ⟨gb832, 1, none⟩ = some (.int .u64 t830) := (blk_cell BK832.out 1).trans rfl
                    have hcz79_2 : w60.cell? ⟨gb832, 2, none⟩ = some (.int .u64 t831) := (blk_cell BK832.out 2).trans rfl
                    have hfz79_0 := blk_frozen BK832.out 0
                    have hfz79_1 := blk_frozen BK832.out 1
                    have hfz79_2 := blk_frozen BK832.out 2
                    have hnb80 := NB836_821.out
                    have hnc80 := NB821_836.out
                    have hnb81 := NB836_822.out
                    have hnc81 := NB822_836.out
                    have hcz82_0 : w60.cell? ⟨gb836, 0, none⟩ = some (.int .i64 0) := (blk_cell BK836.out 0).trans rfl
                    have hcz82_1 : w60.cell? ⟨gb836, 1, none⟩ = some (.int .u64 0) := (blk_cell BK836.out 1).trans rfl
                    have hcz82_2 : w60.cell? ⟨gb836, 2, none⟩ = some (.int .u64 0) := (blk_cell BK836.out 2).trans rfl
                    have hfz82_0 := blk_frozen BK836.out 0
                    have hfz82_1 := blk_frozen BK836.out 1
                    have hfz82_2 := blk_frozen BK836.out 2
                    go_wp2_with (first | ((with_reducible refine gate_callee (f := 15) rfl ?_); refine goesL_ (some 51) rfl rfl Try.func15 (by kernel_rfl) rfl #[.agg #[.int .i64 t829, .int .u64 t830, .int .u64 t831], .agg #[.int .i64 t833, .int .u64 t834, .int .u64 t835]] rfl (by (try simp only [List.map_toArray, List.map_cons, List.map_nil]); first | done | rfl | (simp only [List.length_drop, List.length_take]; rfl)) ?_; (with_reducible refine (impl_ConWithin.calls t829 t830 t831 t833 t834 t835 t837 _ A65.out).mono ?_); rintro e w83 ⟨rfl, hb⟩; refine ⟨_, rfl, ?_⟩; have n0_ := Aside0.mk (blk_below (g := gb821) (o := .cells #[.int .i64 t815, .int .u64 t816, .int .u64 t817] 26 (0, 0)) (by (with_reducible repeat (first | refine blk_drewN ?_ _ | refine blk_drew ?_ | refine blk_alloc ?_ _)); refine blk_far ?_ NB821_836.out _; (with_reducible repeat (first | refine blk_drewN ?_ _ | refine blk_drew ?_ | refine blk_alloc ?_ _)); refine blk_far ?_ NB821_836.out _; (with_reducible repeat (first | refine blk_drewN ?_ _ | refine blk_drew ?_ | refine blk_alloc ?_ _)); refine blk_far ?_ NB821_836.out _; (with_reducible repeat (first | refine blk_drewN ?_ _ | refine blk_drew ?_ | refine blk_alloc ?_ _)); exact BK821.out) hb); have n1_ := Aside0.mk (blk_below (g := gb822) (o := .cells #[.int .i64 t818, .int .u64 t819, .int .u64 t820] 26 (0, 0)) (by (with_reducible repeat (first | refine blk_drewN ?_ _ | refine blk_drew ?_ | refine blk_alloc ?_ _)); refine blk_far ?_ NB822_836.out _; (with_reducible repeat (first | refine blk_drewN ?_ _ | refine blk_drew ?_ | refine blk_alloc ?_ _)); refine blk_far ?_ NB822_836.out _; (with_reducible repeat (first | refine blk_drewN ?_ _ | refine blk_drew ?_ | refine blk_alloc ?_ _)); refine blk_far ?_ NB822_836.out _; (with_reducible repeat (first | refine blk_drewN ?_ _ | refine blk_drew ?_ | refine blk_alloc ?_ _)); exact BK822.out) hb); have n2_ := Aside0.mk (blk_below (g := gb832) (o := .cells #[.int .i64 t829, .int .u64 t830, .int .u64 t831] 26 (0, 0)) (by (with_reducible repeat (first | refine blk_drewN ?_ _ | refine blk_drew ?_ | refine blk_alloc ?_ _)); refine blk_far ?_ NB832_836.out _; (with_reducible repeat (first | refine blk_drewN ?_ _ | refine blk_drew ?_ | refine blk_alloc ?_ _)); refine blk_far ?_ NB832_836.out _; (with_reducible repeat (first | refine blk_drewN ?_ _ | refine blk_drew ?_ | refine blk_alloc ?_ _)); refine blk_far ?_ NB832_836.out _; (with_reducible repeat (first | refine blk_drewN ?_ _ | refine blk_drew ?_ | refine blk_alloc ?_ _)); exact BK832.out) hb); have n3_ := Aside0.mk (blk_below (g := gb836) (o := .cells #[.int .i64 t833, .int .u64 t834, .int .u64 t835] 26 (0, 0)) (by (with_reducible repeat (first | refine blk_drewN ?_ _ | refine blk_drew ?_ | refine blk_alloc ?_ _)); refine blk_put (cs := #[.int .i64 t833, .int .u64 t834, .int .u64 0]) ?_ 2 _ rfl; (with_reducible repeat (first | refine blk_drewN ?_ _ | refine blk_drew ?_ | refine blk_alloc ?_ _)); refine blk_put (cs := #[.int .i64 t833, .int .u64 0, .int .u64 0]) ?_ 1 _ rfl; (with_reducible repeat (first | refine blk_drewN ?_ _ | refine blk_drew ?_ | refine blk_alloc ?_ _)); refine blk_put (cs := #[.int .i64 0, .int .u64 0, .int .u64 0]) ?_ 0 _ rfl; (with_reducible repeat (first | refine blk_drewN ?_ _ | refine blk_drew ?_ | refine blk_alloc ?_ _)); exact BK836.out) hb); have n4_ := Aside0.mk (below_step (by repeat (first | (with_reducible first | exact HB.out | apply below_alloc | apply pw_below_drewN | apply below_drew1 | refine below_set ?_ GE821.out | refine below_set ?_ GE822.out | refine below_set ?_ GE832.out | refine below_set ?_ GE836.out) | exact HB.out)) hb); clear BK821; clear BK822; clear BK832; clear BK836; clear HB; have BK821 := n0_; have BK822 := n1_; have BK832 := n2_; have BK836 := n3_; have HB := n4_; clear n0_ n1_ n2_ n3_ n4_; (try clear hb); (try clear hb2); (try clear hk); (try clear hi); have hcz84_0 : w83.cell? ⟨gb836, 0, none⟩ = some (.int .i64 t833) := (blk_cell BK836.out 0).trans rfl; have hcz84_1 : w83.cell? ⟨gb836, 1, none⟩ = some (.int .u64 t834) := (blk_cell BK836.out 1).trans rfl; have hcz84_2 : w83.cell? ⟨gb836, 2, none⟩ = some (.int .u64 t835) := (blk_cell BK836.out 2).trans rfl; have hfz84_0 := blk_frozen BK836.out 0; have hfz84_1 := blk_frozen BK836.out 1; have hfz84_2 := blk_frozen BK836.out 2; have hcz85_0 : w83.cell? ⟨gb832, 0, none⟩ = some (.int .i64 t829) := (blk_cell BK832.out 0).trans rfl; have hcz85_1 : w83.cell? ⟨gb832, 1, none⟩ = some (.int .u64 t830) := (blk_cell BK832.out 1).trans rfl; have hcz85_2 : w83.cell? ⟨gb832, 2, none⟩ = some (.int .u64 t831) := (blk_cell BK832.out 2).trans rfl; have hfz85_0 := blk_frozen BK832.out 0; have hfz85_1 := blk_frozen BK832.out 1; have hfz85_2 := blk_frozen BK832.out 2) | (go_at_call 15; (with_reducible refine (impl_ConWithin.calls t833 t834 t835 t829 t830 t831 t838 _ A75.out).mono ?_); rintro e w86 ⟨rfl, hb⟩; have n0_ := Aside0.mk (blk_below (g := gb821) (o := .cells #[.int .i64 t815, .int .u64 t816, .int .u64 t817] 26 (0, 0)) (by (with_reducible repeat (first | refine blk_drewN ?_ _ | refine blk_drew ?_ | refine blk_alloc ?_ _)); exact BK821.out) hb); have n1_ := Aside0.mk (blk_below (g := gb822) (o := .cells #[.int .i64 t818, .int .u64 t819, .int .u64 t820] 26 (0, 0)) (by (with_reducible repeat (first | refine blk_drewN ?_ _ | refine blk_drew ?_ | refine blk_alloc ?_ _)); exact BK822.out) hb); have n2_ := Aside0.mk (blk_below (g := gb832) (o := .cells #[.int .i64 t829, .int .u64 t830, .int .u64 t831] 26 (0, 0)) (by (with_reducible repeat (first | refine blk_drewN ?_ _ | refine blk_drew ?_ | refine blk_alloc ?_ _)); exact BK832.out) hb); have n3_ := Aside0.mk (blk_below (g := gb836) (o := .cells #[.int .i64 t833, .int .u64 t834, .int .u64 t835] 26 (0, 0)) (by (with_reducible repeat (first | refine blk_drewN ?_ _ | refine blk_drew ?_ | refine blk_alloc ?_ _)); exact BK836.out) hb); have n4_ := Aside0.mk (below_step (by repeat (first | (with_reducible first | exact HB.out | apply below_alloc | apply pw_below_drewN | apply below_drew1 | refine below_set ?_ GE821.out | refine below_set ?_ GE822.out | refine below_set ?_ GE832.out | refine below_set ?_ GE836.out) | exact HB.out)) hb); clear BK821; clear BK822; clear BK832; clear BK836; clear HB; have BK821 := n0_; have BK822 := n1_; have BK832 := n2_; have BK836 := n3_; have HB := n4_; clear n0_ n1_ n2_ n3_ n4_; (try clear hb); (try clear hb2); (try clear hk); (try clear hi)))
                    go_meet
                    case rel => exact ⟨_, ((t838 != t826)), (by first | rfl | (simp; done) | (simp [*]; done)), H', ⟨by have := HJ3.out; have := HJ24.out; first | omega | exact Nat.le_refl _⟩, ⟨by (with_reducible repeat (first | refine blk_drewN ?_ _ | refine blk_drew ?_ | refine blk_alloc ?_ _)); exact BK821.out⟩, ⟨by (with_reducible repeat (first | refine blk_drewN ?_ _ | refine blk_drew ?_ | refine blk_alloc ?_ _)); exact BK822.out⟩, ⟨by (with_reducible repeat (first | refine blk_drewN ?_ _ | refine blk_drew ?_ | refine blk_alloc ?_ _)); exact BK832.out⟩, ⟨by (with_reducible repeat (first | refine blk_drewN ?_ _ | refine blk_drew ?_ | refine blk_alloc ?_ _)); exact BK836.out⟩, ⟨by repeat (first | (with_reducible first | exact HB.out | apply below_alloc | apply pw_below_drewN | apply below_drew1 | refine below_set ?_ GE821.out | refine below_set ?_ GE822.out | refine below_set ?_ GE832.out | refine below_set ?_ GE836.out) | exact HB.out)⟩⟩
                case rest =>
                  clear HC50
                  try clear c1
                  try clear c2
                  try clear c2b0
                  try clear c2b1
                  try clear p2
                  try clear c3
                  try clear c4
                  try clear c5
                  try clear c6
                  try clear c7
                  try clear c8
                  try clear c10
                  try clear c12
                  try clear c13
                  try clear c14
                  try clear c15
                  try clear c19
                  try clear c22
                  try clear c26
                  try clear c34
                  try clear c34b0
                  try clear c34b1
                  try clear c34b2
                  try clear c35
                  try clear c37
                  try clear c40
                  try clear c47
                  try clear c51
                  try clear c55
                  try clear c56
                  try clear c61
                  try clear c62
                  try clear c63
                  try clear c66
                  try clear c66b0
                  try clear c66b1
                  try clear c66b2
                  try clear c67
                  try clear c68
                  try clear c69
                  try clear c71
                  try clear c72
                  try clear c76
                  try clear c77
                  try clear c78
                  try clear c80
                  try clear c81
                  try clear hcz10_0
                  try clear hcz10_1
                  try clear hcz10_2
                  try clear hcz15_0
                  try clear hcz15_1
                  try clear hcz15_2
                  try clear hcz17_0
                  try clear hcz17_1
                  try clear hcz17_2
                  try clear hcz20_0
                  try clear hcz20_1
                  try clear hcz20_2
                  try clear hcz27_0
                  try clear hcz27_1
                  try clear hcz27_2
                  try clear hcz28_0
                  try clear hcz28_1
                  try clear hcz28_2
                  try clear hcz30_0
                  try clear hcz30_1
                  try clear hcz30_2
                  try clear hcz31_0
                  try clear hcz31_1
                  try clear hcz31_2
                  try clear hcz36_0
                  try clear hcz36_1
                  try clear hcz36_2
                  try clear hcz37_0
                  try clear hcz37_1
                  try clear hcz37_2
                  try clear hcz41_0
                  try clear hcz41_1
                  try clear hcz41_2
                  try clear hcz42_0
                  try clear hcz42_1
                  try clear hcz42_2
                  try clear hcz44_0
                  try clear hcz44_1
                  try clear hcz44_2
                  try clear hcz45_0
                  try clear hcz45_1
                  try clear hcz45_2
                  try clear hcz52_0
                  try clear hcz52_1
                  try clear hcz52_2
                  try clear hcz57_0
                  try clear hcz57_1
                  try clear hcz57_2
                  try clear hcz58_0
                  try clear hcz58_1
                  try clear hcz58_2
                  try clear hcz64_0
                  try clear hcz64_1
                  try clear hcz64_2
                  try clear hcz70_0
                  try clear hcz70_1
                  try clear hcz70_2
                  try clear hcz73_0
                  try clear hcz73_1
                  try clear hcz73_2
                  try clear hcz79_0
                  try clear hcz79_1
                  try clear hcz79_2
                  try clear hcz82_0
                  try clear hcz82_1
                  try clear hcz82_2
                  try clear hcz84_0
                  try clear hcz84_1
                  try clear hcz84_2
                  try clear hcz85_0
                  try clear hcz85_1
                  try clear hcz85_2
                  try clear hcz9_0
                  try clear hcz9_1
                  try clear hcz9_2
                  try clear hfz10_0
                  try clear hfz10_1
                  try clear hfz10_2
                  try clear hfz15_0
                  try clear hfz15_1
                  try clear hfz15_2
                  try clear hfz17_0
                  try clear hfz17_1
                  try clear hfz17_2
                  try clear hfz20_0
                  try clear hfz20_1
                  try clear hfz20_2
                  try clear hfz27_0
                  try clear hfz27_1
                  try clear hfz27_2
                  try clear hfz28_0
                  try clear hfz28_1
                  try clear hfz28_2
                  try clear hfz30_0
                  try clear hfz30_1
                  try clear hfz30_2
                  try clear hfz31_0
                  try clear hfz31_1
                  try clear hfz31_2
                  try clear hfz36_0
                  try clear hfz36_1
                  try clear hfz36_2
                  try clear hfz37_0
                  try clear hfz37_1
                  try clear hfz37_2
                  try clear hfz41_0
                  try clear hfz41_1
                  try clear hfz41_2
                  try clear hfz42_0
                  try clear hfz42_1
                  try clear hfz42_2
                  try clear hfz44_0
                  try clear hfz44_1
                  try clear hfz44_2
                  try clear hfz45_0
                  try clear hfz45_1
                  try clear hfz45_2
                  try clear hfz52_0
                  try clear hfz52_1
                  try clear hfz52_2
                  try clear hfz57_0
                  try clear hfz57_1
                  try clear hfz57_2
                  try clear hfz58_0
                  try clear hfz58_1
                  try clear hfz58_2
                  try clear hfz64_0
                  try clear hfz64_1
                  try clear hfz64_2
                  try clear hfz70_0
                  try clear hfz70_1
                  try clear hfz70_2
                  try clear hfz73_0
                  try clear hfz73_1
                  try clear hfz73_2
                  try clear hfz79_0
                  try clear hfz79_1
                  try clear hfz79_2
                  try clear hfz82_0
                  try clear hfz82_1
                  try clear hfz82_2
                  try clear hfz84_0
                  try clear hfz84_1
                  try clear hfz84_2
                  try clear hfz85_0
                  try clear hfz85_1
                  try clear hfz85_2
                  try clear hfz9_0
                  try clear hfz9_1
                  try clear hfz9_2
                  try clear p2
                  obtain ⟨kq, x60_49, rfl, HA, HJ49, BK821, BK822, BK832, BK836, HB⟩ := hcut
                  cases kq with
                  | zero => exact absurd HA.out (by simp [laws_FnNorm.j2])
                  | succ kj49 =>
                    have H := HA.out
                    clear HA
                    simp only [laws_FnNorm.j2] at H
                    by_cases c87 : x60_49 = true
                    · subst c87
                      have H1 : (some false) = some r := by rw [if_pos rfl] at H; exact H
                      clear H
                      have H := H1
                      clear H1
                      obtain rfl := Option.some.inj H
                      go_wp2
                      go_ret
                      exact ⟨by first | rfl | (simp [errW_none, errW_some] <;> rfl) | (simp [*, errW_none, errW_some] <;> rfl), by repeat (first | (with_reducible first | exact HB.out | apply below_alloc | apply pw_below_drewN | apply below_drew1 | refine below_set ?_ GE821.out | refine below_set ?_ GE822.out | refine below_set ?_ GE832.out | refine below_set ?_ GE836.out) | exact HB.out)⟩
                    · replace c87 := Bool.eq_false_iff.mpr c87
                      subst c87
                      have H1 : ((impl_ConWithin.f t815 t816 t817 t829 t830 t831).bind fun t839 => (if t839 = true then ((impl_ConWithin.f t829 t830 t831 t815 t816 t817).bind fun t840 => (if t840 = true then ((impl_ConWithin.f t818 t819 t820 t833 t834 t835).bind fun t841 => (if t841 = true then ((impl_ConWithin.f t833 t834 t835 t818 t819 t820).bind fun t842 => (if t842 = true then ((laws_sameCon.f t829 t830 t831 t833 t834 t835).bind fun t843 => (if t825 = true then (some (t843 == t826)) else (some (t843 == false)))) else (some false))) else (some false))) else (some false))) else (some false))) = some r := by rw [if_neg (show ¬ (false = true) by decide)] at H; exact H
                      clear H
                      have H := H1
                      clear H1
                      replace H := Option.bind_eq_some_iff.mp H
                      obtain ⟨t839, A880, H⟩ := H
                      replace H : (if t839 = true then ((impl_ConWithin.f t829 t830 t831 t815 t816 t817).bind fun t840 => (if t840 = true then ((impl_ConWithin.f t818 t819 t820 t833 t834 t835).bind fun t841 => (if t841 = true then ((impl_ConWithin.f t833 t834 t835 t818 t819 t820).bind fun t842 => (if t842 = true then ((laws_sameCon.f t829 t830 t831 t833 t834 t835).bind fun t843 => (if t825 = true then (some (t843 == t826)) else (some (t843 == false)))) else (some false))) else (some false))) else (some false))) else (some false)) = some r := H
                      have A88 := Aside0.mk A880
                      clear A880
                      by_cases c89 : t839 = true
                      · subst c89
                        have H1 : ((impl_ConWithin.f t829 t830 t831 t815 t816 t817).bind fun t840 => (if t840 = true then ((impl_ConWithin.f t818 t819 t820 t833 t834 t835).bind fun t841 => (if t841 = true then ((impl_ConWithin.f t833 t834 t835 t818 t819 t820).bind fun t842 => (if t842 = true then ((laws_sameCon.f t829 t830 t831 t833 t834 t835).bind fun t843 => (if t825 = true then (some (t843 == t826)) else (some (t843 == false)))) else (some false))) else (some false))) else (some false))) = some r := by rw [if_pos rfl] at H; exact H
                        clear H
                        have H := H1
                        clear H1
                        replace H := Option.bind_eq_some_iff.mp H
                        obtain ⟨t840, A900, H⟩ := H
                        replace H : (if t840 = true then ((impl_ConWithin.f t818 t819 t820 t833 t834 t835).bind fun t841 => (if t841 = true then ((impl_ConWithin.f t833 t834 t835 t818 t819 t820).bind fun t842 => (if t842 = true then ((laws_sameCon.f t829 t830 t831 t833 t834 t835).bind fun t843 => (if t825 = true then (some (t843 == t826)) else (some (t843 == false)))) else (some false))) else (some false))) else (some false)) = some r := H
                        have A90 := Aside0.mk A900
                        clear A900
                        by_cases c91 : t840 = true
                        · subst c91
                          have H1 : ((impl_ConWithin.f t818 t819 t820 t833 t834 t835).bind fun t841 => (if t841 = true then ((impl_ConWithin.f t833 t834 t835 t818 t819 t820).bind fun t842 => (if t842 = true then ((laws_sameCon.f t829 t830 t831 t833 t834 t835).bind fun t843 => (if t825 = true then (some (t843 == t826)) else (some (t843 == false)))) else (some false))) else (some false))) = some r := by rw [if_pos rfl] at H; exact H
                          clear H
                          have H := H1
                          clear H1
                          replace H := Option.bind_eq_some_iff.mp H
                          obtain ⟨t841, A920, H⟩ := H
                          replace H : (if t841 = true then ((impl_ConWithin.f t833 t834 t835 t818 t819 t820).bind fun t842 => (if t842 = true then ((laws_sameCon.f t829 t830 t831 t833 t834 t835).bind fun t843 => (if t825 = true then (some (t843 == t826)) else (some (t843 == false)))) else (some false))) else (some false)) = some r := H
                          have A92 := Aside0.mk A920
                          clear A920
                          by_cases c93 : t841 = true
                          · subst c93
                            have H1 : ((impl_ConWithin.f t833 t834 t835 t818 t819 t820).bind fun t842 => (if t842 = true then ((laws_sameCon.f t829 t830 t831 t833 t834 t835).bind fun t843 => (if t825 = true then (some (t843 == t826)) else (some (t843 == false)))) else (some false))) = some r := by rw [if_pos rfl] at H; exact H
                            clear H
                            have H := H1
                            clear H1
                            replace H := Option.bind_eq_some_iff.mp H
                            obtain ⟨t842, A940, H⟩ := H
                            replace H : (if t842 = true then ((laws_sameCon.f t829 t830 t831 t833 t834 t835).bind fun t843 => (if t825 = true then (some (t843 == t826)) else (some (t843 == false)))) else (some false)) = some r := H
                            have A94 := Aside0.mk A940
                            clear A940
                            by_cases c95 : t842 = true
                            · subst c95
                              have H1 : ((laws_sameCon.f t829 t830 t831 t833 t834 t835).bind fun t843 => (if t825 = true then (some (t843 == t826)) else (some (t843 == false)))) = some r := by rw [if_pos rfl] at H; exact H
                              clear H
                              have H := H1
                              clear H1
                              replace H := Option.bind_eq_some_iff.mp H
                              obtain ⟨t843, A960, H⟩ := H
                              replace H : (if t825 = true then (some (t843 == t826)) else (some (t843 == false))) = some r := H
                              have A96 := Aside0.mk A960
                              clear A960
                              by_cases c97 : t825 = true
                              · subst c97
                                have H1 : (some (t843 == t826)) = some r := by rw [if_pos rfl] at H; exact H
                                clear H
                                have H := H1
                                clear H1
                                obtain rfl := Option.some.inj H
                                have hnb98 := NB821_822.out
                                have hnc98 := NB822_821.out
                                have hnb99 := NB821_832.out
                                have hnc99 := NB832_821.out
                                have hnb100 := NB821_836.out
                                have hnc100 := NB836_821.out
                                have hcz101_0 : wc.cell? ⟨gb821, 0, none⟩ = some (.int .i64 t815) := (blk_cell BK821.out 0).trans rfl
                                have hcz101_1 : wc.cell? ⟨gb821, 1, none⟩ = some (.int .u64 t816) := (blk_cell BK821.out 1).trans rfl
                                have hcz101_2 : wc.cell? ⟨gb821, 2, none⟩ = some (.int .u64 t817) := (blk_cell BK821.out 2).trans rfl
                                have hfz101_0 := blk_frozen BK821.out 0
                                have hfz101_1 := blk_frozen BK821.out 1
                                have hfz101_2 := blk_frozen BK821.out 2
                                have hnb102 := NB832_822.out
                                have hnc102 := NB822_832.out
                                have hnb103 := NB832_836.out
                                have hnc103 := NB836_832.out
                                have hcz104_0 : wc.cell? ⟨gb832, 0, none⟩ = some (.int .i64 t829) := (blk_cell BK832.out 0).trans rfl
                                have hcz104_1 : wc.cell? ⟨gb832, 1, none⟩ = some (.int .u64 t830) := (blk_cell BK832.out 1).trans rfl
                                have hcz104_2 : wc.cell? ⟨gb832, 2, none⟩ = some (.int .u64 t831) := (blk_cell BK832.out 2).trans rfl
                                have hfz104_0 := blk_frozen BK832.out 0
                                have hfz104_1 := blk_frozen BK832.out 1
                                have hfz104_2 := blk_frozen BK832.out 2
                                go_wp2_with (first | ((with_reducible refine gate_callee (f := 15) rfl ?_); refine goesL_ (some 63) rfl rfl Try.func15 (by kernel_rfl) rfl #[.agg #[.int .i64 t815, .int .u64 t816, .int .u64 t817], .agg #[.int .i64 t829, .int .u64 t830, .int .u64 t831]] rfl (by (try simp only [List.map_toArray, List.map_cons, List.map_nil]); first | done | rfl | (simp only [List.length_drop, List.length_take]; rfl)) ?_; (with_reducible refine (impl_ConWithin.calls t815 t816 t817 t829 t830 t831 true _ A88.out).mono ?_); rintro e w105 ⟨rfl, hb⟩; refine ⟨_, rfl, ?_⟩; have n0_ := Aside0.mk (blk_below (g := gb821) (o := .cells #[.int .i64 t815, .int .u64 t816, .int .u64 t817] 26 (0, 0)) (by (with_reducible repeat (first | refine blk_drewN ?_ _ | refine blk_drew ?_ | refine blk_alloc ?_ _)); exact BK821.out) hb); have n1_ := Aside0.mk (blk_below (g := gb822) (o := .cells #[.int .i64 t818, .int .u64 t819, .int .u64 t820] 26 (0, 0)) (by (with_reducible repeat (first | refine blk_drewN ?_ _ | refine blk_drew ?_ | refine blk_alloc ?_ _)); exact BK822.out) hb); have n2_ := Aside0.mk (blk_below (g := gb832) (o := .cells #[.int .i64 t829, .int .u64 t830, .int .u64 t831] 26 (0, 0)) (by (with_reducible repeat (first | refine blk_drewN ?_ _ | refine blk_drew ?_ | refine blk_alloc ?_ _)); exact BK832.out) hb); have n3_ := Aside0.mk (blk_below (g := gb836) (o := .cells #[.int .i64 t833, .int .u64 t834, .int .u64 t835] 26 (0, 0)) (by (with_reducible repeat (first | refine blk_drewN ?_ _ | refine blk_drew ?_ | refine blk_alloc ?_ _)); exact BK836.out) hb); have n4_ := Aside0.mk (below_step (by repeat (first | (with_reducible first | exact HB.out | apply below_alloc | apply pw_below_drewN | apply below_drew1 | refine below_set ?_ GE821.out | refine below_set ?_ GE822.out | refine below_set ?_ GE832.out | refine below_set ?_ GE836.out) | exact HB.out)) hb); clear BK821; clear BK822; clear BK832; clear BK836; clear HB; have BK821 := n0_; have BK822 := n1_; have BK832 := n2_; have BK836 := n3_; have HB := n4_; clear n0_ n1_ n2_ n3_ n4_; (try clear hb); (try clear hb2); (try clear hk); (try clear hi); have hcz106_0 : w105.cell? ⟨gb832, 0, none⟩ = some (.int .i64 t829) := (blk_cell BK832.out 0).trans rfl; have hcz106_1 : w105.cell? ⟨gb832, 1, none⟩ = some (.int .u64 t830) := (blk_cell BK832.out 1).trans rfl; have hcz106_2 : w105.cell? ⟨gb832, 2, none⟩ = some (.int .u64 t831) := (blk_cell BK832.out 2).trans rfl; have hfz106_0 := blk_frozen BK832.out 0; have hfz106_1 := blk_frozen BK832.out 1; have hfz106_2 := blk_frozen BK832.out 2; have hcz107_0 : w105.cell? ⟨gb821, 0, none⟩ = some (.int .i64 t815) := (blk_cell BK821.out 0).trans rfl; have hcz107_1 : w105.cell? ⟨gb821, 1, none⟩ = some (.int .u64 t816) := (blk_cell BK821.out 1).trans rfl; have hcz107_2 : w105.cell? ⟨gb821, 2, none⟩ = some (.int .u64 t817) := (blk_cell BK821.out 2).trans rfl; have hfz107_0 := blk_frozen BK821.out 0; have hfz107_1 := blk_frozen BK821.out 1; have hfz107_2 := blk_frozen BK821.out 2) | (go_at_call 15; (with_reducible refine (impl_ConWithin.calls t829 t830 t831 t815 t816 t817 true _ A90.out).mono ?_); rintro e w108 ⟨rfl, hb⟩; have n0_ := Aside0.mk (blk_below (g := gb821) (o := .cells #[.int .i64 t815, .int .u64 t816, .int .u64 t817] 26 (0, 0)) (by (with_reducible repeat (first | refine blk_drewN ?_ _ | refine blk_drew ?_ | refine blk_alloc ?_ _)); exact BK821.out) hb); have n1_ := Aside0.mk (blk_below (g := gb822) (o := .cells #[.int .i64 t818, .int .u64 t819, .int .u64 t820] 26 (0, 0)) (by (with_reducible repeat (first | refine blk_drewN ?_ _ | refine blk_drew ?_ | refine blk_alloc ?_ _)); exact BK822.out) hb); have n2_ := Aside0.mk (blk_below (g := gb832) (o := .cells #[.int .i64 t829, .int .u64 t830, .int .u64 t831] 26 (0, 0)) (by (with_reducible repeat (first | refine blk_drewN ?_ _ | refine blk_drew ?_ | refine blk_alloc ?_ _)); exact BK832.out) hb); have n3_ := Aside0.mk (blk_below (g := gb836) (o := .cells #[.int .i64 t833, .int .u64 t834, .int .u64 t835] 26 (0, 0)) (by (with_reducible repeat (first | refine blk_drewN ?_ _ | refine blk_drew ?_ | refine blk_alloc ?_ _)); exact BK836.out) hb); have n4_ := Aside0.mk (below_step (by repeat (first | (with_reducible first | exact HB.out | apply below_alloc | apply pw_below_drewN | apply below_drew1 | refine below_set ?_ GE821.out | refine below_set ?_ GE822.out | refine below_set ?_ GE832.out | refine below_set ?_ GE836.out) | exact HB.out)) hb); clear BK821; clear BK822; clear BK832; clear BK836; clear HB; have BK821 := n0_; have BK822 := n1_; have BK832 := n2_; have BK836 := n3_; have HB := n4_; clear n0_ n1_ n2_ n3_ n4_; (try clear hb); (try clear hb2); (try clear hk); (try clear hi); have hnb109 := NB822_836.out; have hnc109 := NB836_822.out; have hcz110_0 : w108.cell? ⟨gb822, 0, none⟩ = some (.int .i64 t818) := (blk_cell BK822.out 0).trans rfl; have hcz110_1 : w108.cell? ⟨gb822, 1, none⟩ = some (.int .u64 t819) := (blk_cell BK822.out 1).trans rfl; have hcz110_2 : w108.cell? ⟨gb822, 2, none⟩ = some (.int .u64 t820) := (blk_cell BK822.out 2).trans rfl; have hfz110_0 := blk_frozen BK822.out 0; have hfz110_1 := blk_frozen BK822.out 1; have hfz110_2 := blk_frozen BK822.out 2; have hcz111_0 : w108.cell? ⟨gb836, 0, none⟩ = some (.int .i64 t833) := (blk_cell BK836.out 0).trans rfl; have hcz111_1 : w108.cell? ⟨gb836, 1, none⟩ = some (.int .u64 t834) := (blk_cell BK836.out 1).trans rfl; have hcz111_2 : w108.cell? ⟨gb836, 2, none⟩ = some (.int .u64 t835) := (blk_cell BK836.out 2).trans rfl; have hfz111_0 := blk_frozen BK836.out 0; have hfz111_1 := blk_frozen BK836.out 1; have hfz111_2 := blk_frozen BK836.out 2) | (go_at_call 15; (with_reducible refine (impl_ConWithin.calls t818 t819 t820 t833 t834 t835 true _ A92.out).mono ?_); rintro e w112 ⟨rfl, hb⟩; have n0_ := Aside0.mk (blk_below (g := gb821) (o := .cells #[.int .i64 t815, .int .u64 t816, .int .u64 t817] 26 (0, 0)) (by (with_reducible repeat (first | refine blk_drewN ?_ _ | refine blk_drew ?_ | refine blk_alloc ?_ _)); exact BK821.out) hb); have n1_ := Aside0.mk (blk_below (g := gb822) (o := .cells #[.int .i64 t818, .int .u64 t819, .int .u64 t820] 26 (0, 0)) (by (with_reducible repeat (first | refine blk_drewN ?_ _ | refine blk_drew ?_ | refine blk_alloc ?_ _)); exact BK822.out) hb); have n2_ := Aside0.mk (blk_below (g := gb832) (o := .cells #[.int .i64 t829, .int .u64 t830, .int .u64 t831] 26 (0, 0)) (by (with_reducible repeat (first | refine blk_drewN ?_ _ | refine blk_drew ?_ | refine blk_alloc ?_ _)); exact BK832.out) hb); have n3_ := Aside0.mk (blk_below (g := gb836) (o := .cells #[.int .i64 t833, .int .u64 t834, .int .u64 t835] 26 (0, 0)) (by (with_reducible repeat (first | refine blk_drewN ?_ _ | refine blk_drew ?_ | refine blk_alloc ?_ _)); exact BK836.out) hb); have n4_ := Aside0.mk (below_step (by repeat (first | (with_reducible first | exact HB.out | apply below_alloc | apply pw_below_drewN | apply below_drew1 | refine below_set ?_ GE821.out | refine below_set ?_ GE822.out | refine below_set ?_ GE832.out | refine below_set ?_ GE836.out) | exact HB.out)) hb); clear BK821; clear BK822; clear BK832; clear BK836; clear HB; have BK821 := n0_; have BK822 := n1_; have BK832 := n2_; have BK836 := n3_; have HB := n4_; clear n0_ n1_ n2_ n3_ n4_; (try clear hb); (try clear hb2); (try clear hk); (try clear hi); have hcz113_0 : w112.cell? ⟨gb836, 0, none⟩ = some (.int .i64 t833) := (blk_cell BK836.out 0).trans rfl; have hcz113_1 : w112.cell? ⟨gb836, 1, none⟩ = some (.int .u64 t834) := (blk_cell BK836.out 1).trans rfl; have hcz113_2 : w112.cell? ⟨gb836, 2, none⟩ = some (.int .u64 t835) := (blk_cell BK836.out 2).trans rfl; have hfz113_0 := blk_frozen BK836.out 0; have hfz113_1 := blk_frozen BK836.out 1; have hfz113_2 := blk_frozen BK836.out 2; have hcz114_0 : w112.cell? ⟨gb822, 0, none⟩ = some (.int .i64 t818) := (blk_cell BK822.out 0).trans rfl; have hcz114_1 : w112.cell? ⟨gb822, 1, none⟩ = some (.int .u64 t819) := (blk_cell BK822.out 1).trans rfl; have hcz114_2 : w112.cell? ⟨gb822, 2, none⟩ = some (.int .u64 t820) := (blk_cell BK822.out 2).trans rfl; have hfz114_0 := blk_frozen BK822.out 0; have hfz114_1 := blk_frozen BK822.out 1; have hfz114_2 := blk_frozen BK822.out 2) | (go_at_call 15; (with_reducible refine (impl_ConWithin.calls t833 t834 t835 t818 t819 t820 true _ A94.out).mono ?_); rintro e w115 ⟨rfl, hb⟩; have n0_ := Aside0.mk (blk_below (g := gb821) (o := .cells #[.int .i64 t815, .int .u64 t816, .int .u64 t817] 26 (0, 0)) (by (with_reducible repeat (first | refine blk_drewN ?_ _ | refine blk_drew ?_ | refine blk_alloc ?_ _)); exact BK821.out) hb); have n1_ := Aside0.mk (blk_below (g := gb822) (o := .cells #[.int .i64 t818, .int .u64 t819, .int .u64 t820] 26 (0, 0)) (by (with_reducible repeat (first | refine blk_drewN ?_ _ | refine blk_drew ?_ | refine blk_alloc ?_ _)); exact BK822.out) hb); have n2_ := Aside0.mk (blk_below (g := gb832) (o := .cells #[.int .i64 t829, .int .u64 t830, .int .u64 t831] 26 (0, 0)) (by (with_reducible repeat (first | refine blk_drewN ?_ _ | refine blk_drew ?_ | refine blk_alloc ?_ _)); exact BK832.out) hb); have n3_ := Aside0.mk (blk_below (g := gb836) (o := .cells #[.int .i64 t833, .int .u64 t834, .int .u64 t835] 26 (0, 0)) (by (with_reducible repeat (first | refine blk_drewN ?_ _ | refine blk_drew ?_ | refine blk_alloc ?_ _)); exact BK836.out) hb); have n4_ := Aside0.mk (below_step (by repeat (first | (with_reducible first | exact HB.out | apply below_alloc | apply pw_below_drewN | apply below_drew1 | refine below_set ?_ GE821.out | refine below_set ?_ GE822.out | refine below_set ?_ GE832.out | refine below_set ?_ GE836.out) | exact HB.out)) hb); clear BK821; clear BK822; clear BK832; clear BK836; clear HB; have BK821 := n0_; have BK822 := n1_; have BK832 := n2_; have BK836 := n3_; have HB := n4_; clear n0_ n1_ n2_ n3_ n4_; (try clear hb); (try clear hb2); (try clear hk); (try clear hi); have hcz116_0 : w115.cell? ⟨gb832, 0, none⟩ = some (.int .i64 t829) := (blk_cell BK832.out 0).trans rfl; have hcz116_1 : w115.cell? ⟨gb832, 1, none⟩ = some (.int .u64 t830) := (blk_cell BK832.out 1).trans rfl; have hcz116_2 : w115.cell? ⟨gb832, 2, none⟩ = some (.int .u64 t831) := (blk_cell BK832.out 2).trans rfl; have hfz116_0 := blk_frozen BK832.out 0; have hfz116_1 := blk_frozen BK832.out 1; have hfz116_2 := blk_frozen BK832.out 2; have hcz117_0 : w115.cell? ⟨gb836, 0, none⟩ = some (.int .i64 t833) := (blk_cell BK836.out 0).trans rfl; have hcz117_1 : w115.cell? ⟨gb836, 1, none⟩ = some (.int .u64 t834) := (blk_cell BK836.out 1).trans rfl; have hcz117_2 : w115.cell? ⟨gb836, 2, none⟩ = some (.int .u64 t835) := (blk_cell BK836.out 2).trans rfl; have hfz117_0 := blk_frozen BK836.out 0; have hfz117_1 := blk_frozen BK836.out 1; have hfz117_2 := blk_frozen BK836.out 2) | ((with_reducible refine gate_callee (f := 36) rfl ?_); refine goesL_ (some 85) rfl rfl Try.func36 (by kernel_rfl) rfl #[.agg #[.int .i64 t829, .int .u64 t830, .int .u64 t831], .agg #[.int .i64 t833, .int .u64 t834, .int .u64 t835]] rfl (by (try simp only [List.map_toArray, List.map_cons, List.map_nil]); first | done | rfl | (simp only [List.length_drop, List.length_take]; rfl)) ?_; (with_reducible refine (laws_sameCon.calls t829 t830 t831 t833 t834 t835 t843 _ A96.out).mono ?_); rintro e w118 ⟨rfl, hb⟩; refine ⟨_, rfl, ?_⟩; have n0_ := Aside0.mk (blk_below (g := gb821) (o := .cells #[.int .i64 t815, .int .u64 t816, .int .u64 t817] 26 (0, 0)) (by (with_reducible repeat (first | refine blk_drewN ?_ _ | refine blk_drew ?_ | refine blk_alloc ?_ _)); exact BK821.out) hb); have n1_ := Aside0.mk (blk_below (g := gb822) (o := .cells #[.int .i64 t818, .int .u64 t819, .int .u64 t820] 26 (0, 0)) (by (with_reducible repeat (first | refine blk_drewN ?_ _ | refine blk_drew ?_ | refine blk_alloc ?_ _)); exact BK822.out) hb); have n2_ := Aside0.mk (blk_below (g := gb832) (o := .cells #[.int .i64 t829, .int .u64 t830, .int .u64 t831] 26 (0, 0)) (by (with_reducible repeat (first | refine blk_drewN ?_ _ | refine blk_drew ?_ | refine blk_alloc ?_ _)); exact BK832.out) hb); have n3_ := Aside0.mk (blk_below (g := gb836) (o := .cells #[.int .i64 t833, .int .u64 t834, .int .u64 t835] 26 (0, 0)) (by (with_reducible repeat (first | refine blk_drewN ?_ _ | refine blk_drew ?_ | refine blk_alloc ?_ _)); exact BK836.out) hb); have n4_ := Aside0.mk (below_step (by repeat (first | (with_reducible first | exact HB.out | apply below_alloc | apply pw_below_drewN | apply below_drew1 | refine below_set ?_ GE821.out | refine below_set ?_ GE822.out | refine below_set ?_ GE832.out | refine below_set ?_ GE836.out) | exact HB.out)) hb); clear BK821; clear BK822; clear BK832; clear BK836; clear HB; have BK821 := n0_; have BK822 := n1_; have BK832 := n2_; have BK836 := n3_; have HB := n4_; clear n0_ n1_ n2_ n3_ n4_; (try clear hb); (try clear hb2); (try clear hk); (try clear hi)))
                                go_ret
                                exact ⟨by first | rfl | (simp [errW_none, errW_some] <;> rfl) | (simp [*, errW_none, errW_some] <;> rfl), by repeat (first | (with_reducible first | exact HB.out | apply below_alloc | apply pw_below_drewN | apply below_drew1 | refine below_set ?_ GE821.out | refine below_set ?_ GE822.out | refine below_set ?_ GE832.out | refine below_set ?_ GE836.out) | exact HB.out)⟩
                              · replace c97 := Bool.eq_false_iff.mpr c97
                                subst c97
                                have H1 : (some (t843 == false)) = some r := by rw [if_neg (show ¬ (false = true) by decide)] at H; exact H
                                clear H
                                have H := H1
                                clear H1
                                obtain rfl := Option.some.inj H
                                have hnb119 := NB821_822.out
                                have hnc119 := NB822_821.out
                                have hnb120 := NB821_832.out
                                have hnc120 := NB832_821.out
                                have hnb121 := NB821_836.out
                                have hnc121 := NB836_821.out
                                have hcz122_0 : wc.cell? ⟨gb821, 0, none⟩ = some (.int .i64 t815) := (blk_cell BK821.out 0).trans rfl
                                have hcz122_1 : wc.cell? ⟨gb821, 1, none⟩ = some (.int .u64 t816) := (blk_cell BK821.out 1).trans rfl
                                have hcz122_2 : wc.cell? ⟨gb821, 2, none⟩ = some (.int .u64 t817) := (blk_cell BK821.out 2).trans rfl
                                have hfz122_0 := blk_frozen BK821.out 0
                                have hfz122_1 := blk_frozen BK821.out 1
                                have hfz122_2 := blk_frozen BK821.out 2
                                have hnb123 := NB832_822.out
                                have hnc123 := NB822_832.out
                                have hnb124 := NB832_836.out
                                have hnc124 := NB836_832.out
                                have hcz125_0 : wc.cell? ⟨gb832, 0, none⟩ = some (.int .i64 t829) := (blk_cell BK832.out 0).trans rfl
                                have hcz125_1 : wc.cell? ⟨gb832, 1, none⟩ = some (.int .u64 t830) := (blk_cell BK832.out 1).trans rfl
                                have hcz125_2 : wc.cell? ⟨gb832, 2, none⟩ = some (.int .u64 t831) := (blk_cell BK832.out 2).trans rfl
                                have hfz125_0 := blk_frozen BK832.out 0
                                have hfz125_1 := blk_frozen BK832.out 1
                                have hfz125_2 := blk_frozen BK832.out 2
                                go_wp2_with (first | ((with_reducible refine gate_callee (f := 15) rfl ?_); refine goesL_ (some 63) rfl rfl Try.func15 (by kernel_rfl) rfl #[.agg #[.int .i64 t815, .int .u64 t816, .int .u64 t817], .agg #[.int .i64 t829, .int .u64 t830, .int .u64 t831]] rfl (by (try simp only [List.map_toArray, List.map_cons, List.map_nil]); first | done | rfl | (simp only [List.length_drop, List.length_take]; rfl)) ?_; (with_reducible refine (impl_ConWithin.calls t815 t816 t817 t829 t830 t831 true _ A88.out).mono ?_); rintro e w126 ⟨rfl, hb⟩; refine ⟨_, rfl, ?_⟩; have n0_ := Aside0.mk (blk_below (g := gb821) (o := .cells #[.int .i64 t815, .int .u64 t816, .int .u64 t817] 26 (0, 0)) (by (with_reducible repeat (first | refine blk_drewN ?_ _ | refine blk_drew ?_ | refine blk_alloc ?_ _)); exact BK821.out) hb); have n1_ := Aside0.mk (blk_below (g := gb822) (o := .cells #[.int .i64 t818, .int .u64 t819, .int .u64 t820] 26 (0, 0)) (by (with_reducible repeat (first | refine blk_drewN ?_ _ | refine blk_drew ?_ | refine blk_alloc ?_ _)); exact BK822.out) hb); have n2_ := Aside0.mk (blk_below (g := gb832) (o := .cells #[.int .i64 t829, .int .u64 t830, .int .u64 t831] 26 (0, 0)) (by (with_reducible repeat (first | refine blk_drewN ?_ _ | refine blk_drew ?_ | refine blk_alloc ?_ _)); exact BK832.out) hb); have n3_ := Aside0.mk (blk_below (g := gb836) (o := .cells #[.int .i64 t833, .int .u64 t834, .int .u64 t835] 26 (0, 0)) (by (with_reducible repeat (first | refine blk_drewN ?_ _ | refine blk_drew ?_ | refine blk_alloc ?_ _)); exact BK836.out) hb); have n4_ := Aside0.mk (below_step (by repeat (first | (with_reducible first | exact HB.out | apply below_alloc | apply pw_below_drewN | apply below_drew1 | refine below_set ?_ GE821.out | refine below_set ?_ GE822.out | refine below_set ?_ GE832.out | refine below_set ?_ GE836.out) | exact HB.out)) hb); clear BK821; clear BK822; clear BK832; clear BK836; clear HB; have BK821 := n0_; have BK822 := n1_; have BK832 := n2_; have BK836 := n3_; have HB := n4_; clear n0_ n1_ n2_ n3_ n4_; (try clear hb); (try clear hb2); (try clear hk); (try clear hi); have hcz127_0 : w126.cell? ⟨gb832, 0, none⟩ = some (.int .i64 t829) := (blk_cell BK832.out 0).trans rfl; have hcz127_1 : w126.cell? ⟨gb832, 1, none⟩ = some (.int .u64 t830) := (blk_cell BK832.out 1).trans rfl; have hcz127_2 : w126.cell? ⟨gb832, 2, none⟩ = some (.int .u64 t831) := (blk_cell BK832.out 2).trans rfl; have hfz127_0 := blk_frozen BK832.out 0; have hfz127_1 := blk_frozen BK832.out 1; have hfz127_2 := blk_frozen BK832.out 2; have hcz128_0 : w126.cell? ⟨gb821, 0, none⟩ = some (.int .i64 t815) := (blk_cell BK821.out 0).trans rfl; have hcz128_1 : w126.cell? ⟨gb821, 1, none⟩ = some (.int .u64 t816) := (blk_cell BK821.out 1).trans rfl; have hcz128_2 : w126.cell? ⟨gb821, 2, none⟩ = some (.int .u64 t817) := (blk_cell BK821.out 2).trans rfl; have hfz128_0 := blk_frozen BK821.out 0; have hfz128_1 := blk_frozen BK821.out 1; have hfz128_2 := blk_frozen BK821.out 2) | (go_at_call 15; (with_reducible refine (impl_ConWithin.calls t829 t830 t831 t815 t816 t817 true _ A90.out).mono ?_); rintro e w129 ⟨rfl, hb⟩; have n0_ := Aside0.mk (blk_below (g := gb821) (o := .cells #[.int .i64 t815, .int .u64 t816, .int .u64 t817] 26 (0, 0)) (by (with_reducible repeat (first | refine blk_drewN ?_ _ | refine blk_drew ?_ | refine blk_alloc ?_ _)); exact BK821.out) hb); have n1_ := Aside0.mk (blk_below (g := gb822) (o := .cells #[.int .i64 t818, .int .u64 t819, .int .u64 t820] 26 (0, 0)) (by (with_reducible repeat (first | refine blk_drewN ?_ _ | refine blk_drew ?_ | refine blk_alloc ?_ _)); exact BK822.out) hb); have n2_ := Aside0.mk (blk_below (g := gb832) (o := .cells #[.int .i64 t829, .int .u64 t830, .int .u64 t831] 26 (0, 0)) (by (with_reducible repeat (first | refine blk_drewN ?_ _ | refine blk_drew ?_ | refine blk_alloc ?_ _)); exact BK832.out) hb); have n3_ := Aside0.mk (blk_below (g := gb836) (o := .cells #[.int .i64 t833, .int .u64 t834, .int .u64 t835] 26 (0, 0)) (by (with_reducible repeat (first | refine blk_drewN ?_ _ | refine blk_drew ?_ | refine blk_alloc ?_ _)); exact BK836.out) hb); have n4_ := Aside0.mk (below_step (by repeat (first | (with_reducible first | exact HB.out | apply below_alloc | apply pw_below_drewN | apply below_drew1 | refine below_set ?_ GE821.out | refine below_set ?_ GE822.out | refine below_set ?_ GE832.out | refine below_set ?_ GE836.out) | exact HB.out)) hb); clear BK821; clear BK822; clear BK832; clear BK836; clear HB; have BK821 := n0_; have BK822 := n1_; have BK832 := n2_; have BK836 := n3_; have HB := n4_; clear n0_ n1_ n2_ n3_ n4_; (try clear hb); (try clear hb2); (try clear hk); (try clear hi); have hnb130 := NB822_836.out; have hnc130 := NB836_822.out; have hcz131_0 : w129.cell? ⟨gb822, 0, none⟩ = some (.int .i64 t818) := (blk_cell BK822.out 0).trans rfl; have hcz131_1 : w129.cell? ⟨gb822, 1, none⟩ = some (.int .u64 t819) := (blk_cell BK822.out 1).trans rfl; have hcz131_2 : w129.cell? ⟨gb822, 2, none⟩ = some (.int .u64 t820) := (blk_cell BK822.out 2).trans rfl; have hfz131_0 := blk_frozen BK822.out 0; have hfz131_1 := blk_frozen BK822.out 1; have hfz131_2 := blk_frozen BK822.out 2; have hcz132_0 : w129.cell? ⟨gb836, 0, none⟩ = some (.int .i64 t833) := (blk_cell BK836.out 0).trans rfl; have hcz132_1 : w129.cell? ⟨gb836, 1, none⟩ = some (.int .u64 t834) := (blk_cell BK836.out 1).trans rfl; have hcz132_2 : w129.cell? ⟨gb836, 2, none⟩ = some (.int .u64 t835) := (blk_cell BK836.out 2).trans rfl; have hfz132_0 := blk_frozen BK836.out 0; have hfz132_1 := blk_frozen BK836.out 1; have hfz132_2 := blk_frozen BK836.out 2) | (go_at_call 15; (with_reducible refine (impl_ConWithin.calls t818 t819 t820 t833 t834 t835 true _ A92.out).mono ?_); rintro e w133 ⟨rfl, hb⟩; have n0_ := Aside0.mk (blk_below (g := gb821) (o := .cells #[.int .i64 t815, .int .u64 t816, .int .u64 t817] 26 (0, 0)) (by (with_reducible repeat (first | refine blk_drewN ?_ _ | refine blk_drew ?_ | refine blk_alloc ?_ _)); exact BK821.out) hb); have n1_ := Aside0.mk (blk_below (g := gb822) (o := .cells #[.int .i64 t818, .int .u64 t819, .int .u64 t820] 26 (0, 0)) (by (with_reducible repeat (first | refine blk_drewN ?_ _ | refine blk_drew ?_ | refine blk_alloc ?_ _)); exact BK822.out) hb); have n2_ := Aside0.mk (blk_below (g := gb832) (o := .cells #[.int .i64 t829, .int .u64 t830, .int .u64 t831] 26 (0, 0)) (by (with_reducible repeat (first | refine blk_drewN ?_ _ | refine blk_drew ?_ | refine blk_alloc ?_ _)); exact BK832.out) hb); have n3_ := Aside0.mk (blk_below (g := gb836) (o := .cells #[.int .i64 t833, .int .u64 t834, .int .u64 t835] 26 (0, 0)) (by (with_reducible repeat (first | refine blk_drewN ?_ _ | refine blk_drew ?_ | refine blk_alloc ?_ _)); exact BK836.out) hb); have n4_ := Aside0.mk (below_step (by repeat (first | (with_reducible first | exact HB.out | apply below_alloc | apply pw_below_drewN | apply below_drew1 | refine below_set ?_ GE821.out | refine below_set ?_ GE822.out | refine below_set ?_ GE832.out | refine below_set ?_ GE836.out) | exact HB.out)) hb); clear BK821; clear BK822; clear BK832; clear BK836; clear HB; have BK821 := n0_; have BK822 := n1_; have BK832 := n2_; have BK836 := n3_; have HB := n4_; clear n0_ n1_ n2_ n3_ n4_; (try clear hb); (try clear hb2); (try clear hk); (try clear hi); have hcz134_0 : w133.cell? ⟨gb836, 0, none⟩ = some (.int .i64 t833) := (blk_cell BK836.out 0).trans rfl; have hcz134_1 : w133.cell? ⟨gb836, 1, none⟩ = some (.int .u64 t834) := (blk_cell BK836.out 1).trans rfl; have hcz134_2 : w133.cell? ⟨gb836, 2, none⟩ = some (.int .u64 t835) := (blk_cell BK836.out 2).trans rfl; have hfz134_0 := blk_frozen BK836.out 0; have hfz134_1 := blk_frozen BK836.out 1; have hfz134_2 := blk_frozen BK836.out 2; have hcz135_0 : w133.cell? ⟨gb822, 0, none⟩ = some (.int .i64 t818) := (blk_cell BK822.out 0).trans rfl; have hcz135_1 : w133.cell? ⟨gb822, 1, none⟩ = some (.int .u64 t819) := (blk_cell BK822.out 1).trans rfl; have hcz135_2 : w133.cell? ⟨gb822, 2, none⟩ = some (.int .u64 t820) := (blk_cell BK822.out 2).trans rfl; have hfz135_0 := blk_frozen BK822.out 0; have hfz135_1 := blk_frozen BK822.out 1; have hfz135_2 := blk_frozen BK822.out 2) | (go_at_call 15; (with_reducible refine (impl_ConWithin.calls t833 t834 t835 t818 t819 t820 true _ A94.out).mono ?_); rintro e w136 ⟨rfl, hb⟩; have n0_ := Aside0.mk (blk_below (g := gb821) (o := .cells #[.int .i64 t815, .int .u64 t816, .int .u64 t817] 26 (0, 0)) (by (with_reducible repeat (first | refine blk_drewN ?_ _ | refine blk_drew ?_ | refine blk_alloc ?_ _)); exact BK821.out) hb); have n1_ := Aside0.mk (blk_below (g := gb822) (o := .cells #[.int .i64 t818, .int .u64 t819, .int .u64 t820] 26 (0, 0)) (by (with_reducible repeat (first | refine blk_drewN ?_ _ | refine blk_drew ?_ | refine blk_alloc ?_ _)); exact BK822.out) hb); have n2_ := Aside0.mk (blk_below (g := gb832) (o := .cells #[.int .i64 t829, .int .u64 t830, .int .u64 t831] 26 (0, 0)) (by (with_reducible repeat (first | refine blk_drewN ?_ _ | refine blk_drew ?_ | refine blk_alloc ?_ _)); exact BK832.out) hb); have n3_ := Aside0.mk (blk_below (g := gb836) (o := .cells #[.int .i64 t833, .int .u64 t834, .int .u64 t835] 26 (0, 0)) (by (with_reducible repeat (first | refine blk_drewN ?_ _ | refine blk_drew ?_ | refine blk_alloc ?_ _)); exact BK836.out) hb); have n4_ := Aside0.mk (below_step (by repeat (first | (with_reducible first | exact HB.out | apply below_alloc | apply pw_below_drewN | apply below_drew1 | refine below_set ?_ GE821.out | refine below_set ?_ GE822.out | refine below_set ?_ GE832.out | refine below_set ?_ GE836.out) | exact HB.out)) hb); clear BK821; clear BK822; clear BK832; clear BK836; clear HB; have BK821 := n0_; have BK822 := n1_; have BK832 := n2_; have BK836 := n3_; have HB := n4_; clear n0_ n1_ n2_ n3_ n4_; (try clear hb); (try clear hb2); (try clear hk); (try clear hi); have hcz137_0 : w136.cell? ⟨gb832, 0, none⟩ = some (.int .i64 t829) := (blk_cell BK832.out 0).trans rfl; have hcz137_1 : w136.cell? ⟨gb832, 1, none⟩ = some (.int .u64 t830) := (blk_cell BK832.out 1).trans rfl; have hcz137_2 : w136.cell? ⟨gb832, 2, none⟩ = some (.int .u64 t831) := (blk_cell BK832.out 2).trans rfl; have hfz137_0 := blk_frozen BK832.out 0; have hfz137_1 := blk_frozen BK832.out 1; have hfz137_2 := blk_frozen BK832.out 2; have hcz138_0 : w136.cell? ⟨gb836, 0, none⟩ = some (.int .i64 t833) := (blk_cell BK836.out 0).trans rfl; have hcz138_1 : w136.cell? ⟨gb836, 1, none⟩ = some (.int .u64 t834) := (blk_cell BK836.out 1).trans rfl; have hcz138_2 : w136.cell? ⟨gb836, 2, none⟩ = some (.int .u64 t835) := (blk_cell BK836.out 2).trans rfl; have hfz138_0 := blk_frozen BK836.out 0; have hfz138_1 := blk_frozen BK836.out 1; have hfz138_2 := blk_frozen BK836.out 2) | ((with_reducible refine gate_callee (f := 36) rfl ?_); refine goesL_ (some 85) rfl rfl Try.func36 (by kernel_rfl) rfl #[.agg #[.int .i64 t829, .int .u64 t830, .int .u64 t831], .agg #[.int .i64 t833, .int .u64 t834, .int .u64 t835]] rfl (by (try simp only [List.map_toArray, List.map_cons, List.map_nil]); first | done | rfl | (simp only [List.length_drop, List.length_take]; rfl)) ?_; (with_reducible refine (laws_sameCon.calls t829 t830 t831 t833 t834 t835 t843 _ A96.out).mono ?_); rintro e w139 ⟨rfl, hb⟩; refine ⟨_, rfl, ?_⟩; have n0_ := Aside0.mk (blk_below (g := gb821) (o := .cells #[.int .i64 t815, .int .u64 t816, .int .u64 t817] 26 (0, 0)) (by (with_reducible repeat (first | refine blk_drewN ?_ _ | refine blk_drew ?_ | refine blk_alloc ?_ _)); exact BK821.out) hb); have n1_ := Aside0.mk (blk_below (g := gb822) (o := .cells #[.int .i64 t818, .int .u64 t819, .int .u64 t820] 26 (0, 0)) (by (with_reducible repeat (first | refine blk_drewN ?_ _ | refine blk_drew ?_ | refine blk_alloc ?_ _)); exact BK822.out) hb); have n2_ := Aside0.mk (blk_below (g := gb832) (o := .cells #[.int .i64 t829, .int .u64 t830, .int .u64 t831] 26 (0, 0)) (by (with_reducible repeat (first | refine blk_drewN ?_ _ | refine blk_drew ?_ | refine blk_alloc ?_ _)); exact BK832.out) hb); have n3_ := Aside0.mk (blk_below (g := gb836) (o := .cells #[.int .i64 t833, .int .u64 t834, .int .u64 t835] 26 (0, 0)) (by (with_reducible repeat (first | refine blk_drewN ?_ _ | refine blk_drew ?_ | refine blk_alloc ?_ _)); exact BK836.out) hb); have n4_ := Aside0.mk (below_step (by repeat (first | (with_reducible first | exact HB.out | apply below_alloc | apply pw_below_drewN | apply below_drew1 | refine below_set ?_ GE821.out | refine below_set ?_ GE822.out | refine below_set ?_ GE832.out | refine below_set ?_ GE836.out) | exact HB.out)) hb); clear BK821; clear BK822; clear BK832; clear BK836; clear HB; have BK821 := n0_; have BK822 := n1_; have BK832 := n2_; have BK836 := n3_; have HB := n4_; clear n0_ n1_ n2_ n3_ n4_; (try clear hb); (try clear hb2); (try clear hk); (try clear hi)))
                                go_ret
                                exact ⟨by first | rfl | (simp [errW_none, errW_some] <;> rfl) | (simp [*, errW_none, errW_some] <;> rfl), by repeat (first | (with_reducible first | exact HB.out | apply below_alloc | apply pw_below_drewN | apply below_drew1 | refine below_set ?_ GE821.out | refine below_set ?_ GE822.out | refine below_set ?_ GE832.out | refine below_set ?_ GE836.out) | exact HB.out)⟩
                            · replace c95 := Bool.eq_false_iff.mpr c95
                              subst c95
                              have H1 : (some false) = some r := by rw [if_neg (show ¬ (false = true) by decide)] at H; exact H
                              clear H
                              have H := H1
                              clear H1
                              obtain rfl := Option.some.inj H
                              have hnb140 := NB821_822.out
                              have hnc140 := NB822_821.out
                              have hnb141 := NB821_832.out
                              have hnc141 := NB832_821.out
                              have hnb142 := NB821_836.out
                              have hnc142 := NB836_821.out
                              have hcz143_0 : wc.cell? ⟨gb821, 0, none⟩ = some (.int .i64 t815) := (blk_cell BK821.out 0).trans rfl
                              have hcz143_1 : wc.cell? ⟨gb821, 1, none⟩ = some (.int .u64 t816) := (blk_cell BK821.out 1).trans rfl
                              have hcz143_2 : wc.cell? ⟨gb821, 2, none⟩ = some (.int .u64 t817) := (blk_cell BK821.out 2).trans rfl
                              have hfz143_0 := blk_frozen BK821.out 0
                              have hfz143_1 := blk_frozen BK821.out 1
                              have hfz143_2 := blk_frozen BK821.out 2
                              have hnb144 := NB832_822.out
                              have hnc144 := NB822_832.out
                              have hnb145 := NB832_836.out
                              have hnc145 := NB836_832.out
                              have hcz146_0 : wc.cell? ⟨gb832, 0, none⟩ = some (.int .i64 t829) := (blk_cell BK832.out 0).trans rfl
                              have hcz146_1 : wc.cell? ⟨gb832, 1, none⟩ = some (.int .u64 t830) := (blk_cell BK832.out 1).trans rfl
                              have hcz146_2 : wc.cell? ⟨gb832, 2, none⟩ = some (.int .u64 t831) := (blk_cell BK832.out 2).trans rfl
                              have hfz146_0 := blk_frozen BK832.out 0
                              have hfz146_1 := blk_frozen BK832.out 1
                              have hfz146_2 := blk_frozen BK832.out 2
                              go_wp2_with (first | ((with_reducible refine gate_callee (f := 15) rfl ?_); refine goesL_ (some 63) rfl rfl Try.func15 (by kernel_rfl) rfl #[.agg #[.int .i64 t815, .int .u64 t816, .int .u64 t817], .agg #[.int .i64 t829, .int .u64 t830, .int .u64 t831]] rfl (by (try simp only [List.map_toArray, List.map_cons, List.map_nil]); first | done | rfl | (simp only [List.length_drop, List.length_take]; rfl)) ?_; (with_reducible refine (impl_ConWithin.calls t815 t816 t817 t829 t830 t831 true _ A88.out).mono ?_); rintro e w147 ⟨rfl, hb⟩; refine ⟨_, rfl, ?_⟩; have n0_ := Aside0.mk (blk_below (g := gb821) (o := .cells #[.int .i64 t815, .int .u64 t816, .int .u64 t817] 26 (0, 0)) (by (with_reducible repeat (first | refine blk_drewN ?_ _ | refine blk_drew ?_ | refine blk_alloc ?_ _)); exact BK821.out) hb); have n1_ := Aside0.mk (blk_below (g := gb822) (o := .cells #[.int .i64 t818, .int .u64 t819, .int .u64 t820] 26 (0, 0)) (by (with_reducible repeat (first | refine blk_drewN ?_ _ | refine blk_drew ?_ | refine blk_alloc ?_ _)); exact BK822.out) hb); have n2_ := Aside0.mk (blk_below (g := gb832) (o := .cells #[.int .i64 t829, .int .u64 t830, .int .u64 t831] 26 (0, 0)) (by (with_reducible repeat (first | refine blk_drewN ?_ _ | refine blk_drew ?_ | refine blk_alloc ?_ _)); exact BK832.out) hb); have n3_ := Aside0.mk (blk_below (g := gb836) (o := .cells #[.int .i64 t833, .int .u64 t834, .int .u64 t835] 26 (0, 0)) (by (with_reducible repeat (first | refine blk_drewN ?_ _ | refine blk_drew ?_ | refine blk_alloc ?_ _)); exact BK836.out) hb); have n4_ := Aside0.mk (below_step (by repeat (first | (with_reducible first | exact HB.out | apply below_alloc | apply pw_below_drewN | apply below_drew1 | refine below_set ?_ GE821.out | refine below_set ?_ GE822.out | refine below_set ?_ GE832.out | refine below_set ?_ GE836.out) | exact HB.out)) hb); clear BK821; clear BK822; clear BK832; clear BK836; clear HB; have BK821 := n0_; have BK822 := n1_; have BK832 := n2_; have BK836 := n3_; have HB := n4_; clear n0_ n1_ n2_ n3_ n4_; (try clear hb); (try clear hb2); (try clear hk); (try clear hi); have hcz148_0 : w147.cell? ⟨gb832, 0, none⟩ = some (.int .i64 t829) := (blk_cell BK832.out 0).trans rfl; have hcz148_1 : w147.cell? ⟨gb832, 1, none⟩ = some (.int .u64 t830) := (blk_cell BK832.out 1).trans rfl; have hcz148_2 : w147.cell? ⟨gb832, 2, none⟩ = some (.int .u64 t831) := (blk_cell BK832.out 2).trans rfl; have hfz148_0 := blk_frozen BK832.out 0; have hfz148_1 := blk_frozen BK832.out 1; have hfz148_2 := blk_frozen BK832.out 2; have hcz149_0 : w147.cell? ⟨gb821, 0, none⟩ = some (.int .i64 t815) := (blk_cell BK821.out 0).trans rfl; have hcz149_1 : w147.cell? ⟨gb821, 1, none⟩ = some (.int .u64 t816) := (blk_cell BK821.out 1).trans rfl; have hcz149_2 : w147.cell? ⟨gb821, 2, none⟩ = some (.int .u64 t817) := (blk_cell BK821.out 2).trans rfl; have hfz149_0 := blk_frozen BK821.out 0; have hfz149_1 := blk_frozen BK821.out 1; have hfz149_2 := blk_frozen BK821.out 2) | (go_at_call 15; (with_reducible refine (impl_ConWithin.calls t829 t830 t831 t815 t816 t817 true _ A90.out).mono ?_); rintro e w150 ⟨rfl, hb⟩; have n0_ := Aside0.mk (blk_below (g := gb821) (o := .cells #[.int .i64 t815, .int .u64 t816, .int .u64 t817] 26 (0, 0)) (by (with_reducible repeat (first | refine blk_drewN ?_ _ | refine blk_drew ?_ | refine blk_alloc ?_ _)); exact BK821.out) hb); have n1_ := Aside0.mk (blk_below (g := gb822) (o := .cells #[.int .i64 t818, .int .u64 t819, .int .u64 t820] 26 (0, 0)) (by (with_reducible repeat (first | refine blk_drewN ?_ _ | refine blk_drew ?_ | refine blk_alloc ?_ _)); exact BK822.out) hb); have n2_ := Aside0.mk (blk_below (g := gb832) (o := .cells #[.int .i64 t829, .int .u64 t830, .int .u64 t831] 26 (0, 0)) (by (with_reducible repeat (first | refine blk_drewN ?_ _ | refine blk_drew ?_ | refine blk_alloc ?_ _)); exact BK832.out) hb); have n3_ := Aside0.mk (blk_below (g := gb836) (o := .cells #[.int .i64 t833, .int .u64 t834, .int .u64 t835] 26 (0, 0)) (by (with_reducible repeat (first | refine blk_drewN ?_ _ | refine blk_drew ?_ | refine blk_alloc ?_ _)); exact BK836.out) hb); have n4_ := Aside0.mk (below_step (by repeat (first | (with_reducible first | exact HB.out | apply below_alloc | apply pw_below_drewN | apply below_drew1 | refine below_set ?_ GE821.out | refine below_set ?_ GE822.out | refine below_set ?_ GE832.out | refine below_set ?_ GE836.out) | exact HB.out)) hb); clear BK821; clear BK822; clear BK832; clear BK836; clear HB; have BK821 := n0_; have BK822 := n1_; have BK832 := n2_; have BK836 := n3_; have HB := n4_; clear n0_ n1_ n2_ n3_ n4_; (try clear hb); (try clear hb2); (try clear hk); (try clear hi); have hnb151 := NB822_836.out; have hnc151 := NB836_822.out; have hcz152_0 : w150.cell? ⟨gb822, 0, none⟩ = some (.int .i64 t818) := (blk_cell BK822.out 0).trans rfl; have hcz152_1 : w150.cell? ⟨gb822, 1, none⟩ = some (.int .u64 t819) := (blk_cell BK822.out 1).trans rfl; have hcz152_2 : w150.cell? ⟨gb822, 2, none⟩ = some (.int .u64 t820) := (blk_cell BK822.out 2).trans rfl; have hfz152_0 := blk_frozen BK822.out 0; have hfz152_1 := blk_frozen BK822.out 1; have hfz152_2 := blk_frozen BK822.out 2; have hcz153_0 : w150.cell? ⟨gb836, 0, none⟩ = some (.int .i64 t833) := (blk_cell BK836.out 0).trans rfl; have hcz153_1 : w150.cell? ⟨gb836, 1, none⟩ = some (.int .u64 t834) := (blk_cell BK836.out 1).trans rfl; have hcz153_2 : w150.cell? ⟨gb836, 2, none⟩ = some (.int .u64 t835) := (blk_cell BK836.out 2).trans rfl; have hfz153_0 := blk_frozen BK836.out 0; have hfz153_1 := blk_frozen BK836.out 1; have hfz153_2 := blk_frozen BK836.out 2) | (go_at_call 15; (with_reducible refine (impl_ConWithin.calls t818 t819 t820 t833 t834 t835 true _ A92.out).mono ?_); rintro e w154 ⟨rfl, hb⟩; have n0_ := Aside0.mk (blk_below (g := gb821) (o := .cells #[.int .i64 t815, .int .u64 t816, .int .u64 t817] 26 (0, 0)) (by (with_reducible repeat (first | refine blk_drewN ?_ _ | refine blk_drew ?_ | refine blk_alloc ?_ _)); exact BK821.out) hb); have n1_ := Aside0.mk (blk_below (g := gb822) (o := .cells #[.int .i64 t818, .int .u64 t819, .int .u64 t820] 26 (0, 0)) (by (with_reducible repeat (first | refine blk_drewN ?_ _ | refine blk_drew ?_ | refine blk_alloc ?_ _)); exact BK822.out) hb); have n2_ := Aside0.mk (blk_below (g := gb832) (o := .cells #[.int .i64 t829, .int .u64 t830, .int .u64 t831] 26 (0, 0)) (by (with_reducible repeat (first | refine blk_drewN ?_ _ | refine blk_drew ?_ | refine blk_alloc ?_ _)); exact BK832.out) hb); have n3_ := Aside0.mk (blk_below (g := gb836) (o := .cells #[.int .i64 t833, .int .u64 t834, .int .u64 t835] 26 (0, 0)) (by (with_reducible repeat (first | refine blk_drewN ?_ _ | refine blk_drew ?_ | refine blk_alloc ?_ _)); exact BK836.out) hb); have n4_ := Aside0.mk (below_step (by repeat (first | (with_reducible first | exact HB.out | apply below_alloc | apply pw_below_drewN | apply below_drew1 | refine below_set ?_ GE821.out | refine below_set ?_ GE822.out | refine below_set ?_ GE832.out | refine below_set ?_ GE836.out) | exact HB.out)) hb); clear BK821; clear BK822; clear BK832; clear BK836; clear HB; have BK821 := n0_; have BK822 := n1_; have BK832 := n2_; have BK836 := n3_; have HB := n4_; clear n0_ n1_ n2_ n3_ n4_; (try clear hb); (try clear hb2); (try clear hk); (try clear hi); have hcz155_0 : w154.cell? ⟨gb836, 0, none⟩ = some (.int .i64 t833) := (blk_cell BK836.out 0).trans rfl; have hcz155_1 : w154.cell? ⟨gb836, 1, none⟩ = some (.int .u64 t834) := (blk_cell BK836.out 1).trans rfl; have hcz155_2 : w154.cell? ⟨gb836, 2, none⟩ = some (.int .u64 t835) := (blk_cell BK836.out 2).trans rfl; have hfz155_0 := blk_frozen BK836.out 0; have hfz155_1 := blk_frozen BK836.out 1; have hfz155_2 := blk_frozen BK836.out 2; have hcz156_0 : w154.cell? ⟨gb822, 0, none⟩ = some (.int .i64 t818) := (blk_cell BK822.out 0).trans rfl; have hcz156_1 : w154.cell? ⟨gb822, 1, none⟩ = some (.int .u64 t819) := (blk_cell BK822.out 1).trans rfl; have hcz156_2 : w154.cell? ⟨gb822, 2, none⟩ = some (.int .u64 t820) := (blk_cell BK822.out 2).trans rfl; have hfz156_0 := blk_frozen BK822.out 0; have hfz156_1 := blk_frozen BK822.out 1; have hfz156_2 := blk_frozen BK822.out 2) | (go_at_call 15; (with_reducible refine (impl_ConWithin.calls t833 t834 t835 t818 t819 t820 false _ A94.out).mono ?_); rintro e w157 ⟨rfl, hb⟩; have n0_ := Aside0.mk (blk_below (g := gb821) (o := .cells #[.int .i64 t815, .int .u64 t816, .int .u64 t817] 26 (0, 0)) (by (with_reducible repeat (first | refine blk_drewN ?_ _ | refine blk_drew ?_ | refine blk_alloc ?_ _)); exact BK821.out) hb); have n1_ := Aside0.mk (blk_below (g := gb822) (o := .cells #[.int .i64 t818, .int .u64 t819, .int .u64 t820] 26 (0, 0)) (by (with_reducible repeat (first | refine blk_drewN ?_ _ | refine blk_drew ?_ | refine blk_alloc ?_ _)); exact BK822.out) hb); have n2_ := Aside0.mk (blk_below (g := gb832) (o := .cells #[.int .i64 t829, .int .u64 t830, .int .u64 t831] 26 (0, 0)) (by (with_reducible repeat (first | refine blk_drewN ?_ _ | refine blk_drew ?_ | refine blk_alloc ?_ _)); exact BK832.out) hb); have n3_ := Aside0.mk (blk_below (g := gb836) (o := .cells #[.int .i64 t833, .int .u64 t834, .int .u64 t835] 26 (0, 0)) (by (with_reducible repeat (first | refine blk_drewN ?_ _ | refine blk_drew ?_ | refine blk_alloc ?_ _)); exact BK836.out) hb); have n4_ := Aside0.mk (below_step (by repeat (first | (with_reducible first | exact HB.out | apply below_alloc | apply pw_below_drewN | apply below_drew1 | refine below_set ?_ GE821.out | refine below_set ?_ GE822.out | refine below_set ?_ GE832.out | refine below_set ?_ GE836.out) | exact HB.out)) hb); clear BK821; clear BK822; clear BK832; clear BK836; clear HB; have BK821 := n0_; have BK822 := n1_; have BK832 := n2_; have BK836 := n3_; have HB := n4_; clear n0_ n1_ n2_ n3_ n4_; (try clear hb); (try clear hb2); (try clear hk); (try clear hi)))
                              go_ret
                              exact ⟨by first | rfl | (simp [errW_none, errW_some] <;> rfl) | (simp [*, errW_none, errW_some] <;> rfl), by repeat (first | (with_reducible first | exact HB.out | apply below_alloc | apply pw_below_drewN | apply below_drew1 | refine below_set ?_ GE821.out | refine below_set ?_ GE822.out | refine below_set ?_ GE832.out | refine below_set ?_ GE836.out) | exact HB.out)⟩
                          · replace c93 := Bool.eq_false_iff.mpr c93
                            subst c93
                            have H1 : (some false) = some r := by rw [if_neg (show ¬ (false = true) by decide)] at H; exact H
                            clear H
                            have H := H1
                            clear H1
                            obtain rfl := Option.some.inj H
                            have hnb158 := NB821_822.out
                            have hnc158 := NB822_821.out
                            have hnb159 := NB821_832.out
                            have hnc159 := NB832_821.out
                            have hnb160 := NB821_836.out
                            have hnc160 := NB836_821.out
                            have hcz161_0 : wc.cell? ⟨gb821, 0, none⟩ = some (.int .i64 t815) := (blk_cell BK821.out 0).trans rfl
                            have hcz161_1 : wc.cell? ⟨gb821, 1, none⟩ = some (.int .u64 t816) := (blk_cell BK821.out 1).trans rfl
                            have hcz161_2 : wc.cell? ⟨gb821, 2, none⟩ = some (.int .u64 t817) := (blk_cell BK821.out 2).trans rfl
                            have hfz161_0 := blk_frozen BK821.out 0
                            have hfz161_1 := blk_frozen BK821.out 1
                            have hfz161_2 := blk_frozen BK821.out 2
                            have hnb162 := NB832_822.out
                            have hnc162 := NB822_832.out
                            have hnb163 := NB832_836.out
                            have hnc163 := NB836_832.out
                            have hcz164_0 : wc.cell? ⟨gb832, 0, none⟩ = some (.int .i64 t829) := (blk_cell BK832.out 0).trans rfl
                            have hcz164_1 : wc.cell? ⟨gb832, 1, none⟩ = some (.int .u64 t830) := (blk_cell BK832.out 1).trans rfl
                            have hcz164_2 : wc.cell? ⟨gb832, 2, none⟩ = some (.int .u64 t831) := (blk_cell BK832.out 2).trans rfl
                            have hfz164_0 := blk_frozen BK832.out 0
                            have hfz164_1 := blk_frozen BK832.out 1
                            have hfz164_2 := blk_frozen BK832.out 2
                            go_wp2_with (first | ((with_reducible refine gate_callee (f := 15) rfl ?_); refine goesL_ (some 63) rfl rfl Try.func15 (by kernel_rfl) rfl #[.agg #[.int .i64 t815, .int .u64 t816, .int .u64 t817], .agg #[.int .i64 t829, .int .u64 t830, .int .u64 t831]] rfl (by (try simp only [List.map_toArray, List.map_cons, List.map_nil]); first | done | rfl | (simp only [List.length_drop, List.length_take]; rfl)) ?_; (with_reducible refine (impl_ConWithin.calls t815 t816 t817 t829 t830 t831 true _ A88.out).mono ?_); rintro e w165 ⟨rfl, hb⟩; refine ⟨_, rfl, ?_⟩; have n0_ := Aside0.mk (blk_below (g := gb821) (o := .cells #[.int .i64 t815, .int .u64 t816, .int .u64 t817] 26 (0, 0)) (by (with_reducible repeat (first | refine blk_drewN ?_ _ | refine blk_drew ?_ | refine blk_alloc ?_ _)); exact BK821.out) hb); have n1_ := Aside0.mk (blk_below (g := gb822) (o := .cells #[.int .i64 t818, .int .u64 t819, .int .u64 t820] 26 (0, 0)) (by (with_reducible repeat (first | refine blk_drewN ?_ _ | refine blk_drew ?_ | refine blk_alloc ?_ _)); exact BK822.out) hb); have n2_ := Aside0.mk (blk_below (g := gb832) (o := .cells #[.int .i64 t829, .int .u64 t830, .int .u64 t831] 26 (0, 0)) (by (with_reducible repeat (first | refine blk_drewN ?_ _ | refine blk_drew ?_ | refine blk_alloc ?_ _)); exact BK832.out) hb); have n3_ := Aside0.mk (blk_below (g := gb836) (o := .cells #[.int .i64 t833, .int .u64 t834, .int .u64 t835] 26 (0, 0)) (by (with_reducible repeat (first | refine blk_drewN ?_ _ | refine blk_drew ?_ | refine blk_alloc ?_ _)); exact BK836.out) hb); have n4_ := Aside0.mk (below_step (by repeat (first | (with_reducible first | exact HB.out | apply below_alloc | apply pw_below_drewN | apply below_drew1 | refine below_set ?_ GE821.out | refine below_set ?_ GE822.out | refine below_set ?_ GE832.out | refine below_set ?_ GE836.out) | exact HB.out)) hb); clear BK821; clear BK822; clear BK832; clear BK836; clear HB; have BK821 := n0_; have BK822 := n1_; have BK832 := n2_; have BK836 := n3_; have HB := n4_; clear n0_ n1_ n2_ n3_ n4_; (try clear hb); (try clear hb2); (try clear hk); (try clear hi); have hcz166_0 : w165.cell? ⟨gb832, 0, none⟩ = some (.int .i64 t829) := (blk_cell BK832.out 0).trans rfl; have hcz166_1 : w165.cell? ⟨gb832, 1, none⟩ = some (.int .u64 t830) := (blk_cell BK832.out 1).trans rfl; have hcz166_2 : w165.cell? ⟨gb832, 2, none⟩ = some (.int .u64 t831) := (blk_cell BK832.out 2).trans rfl; have hfz166_0 := blk_frozen BK832.out 0; have hfz166_1 := blk_frozen BK832.out 1; have hfz166_2 := blk_frozen BK832.out 2; have hcz167_0 : w165.cell? ⟨gb821, 0, none⟩ = some (.int .i64 t815) := (blk_cell BK821.out 0).trans rfl; have hcz167_1 : w165.cell? ⟨gb821, 1, none⟩ = some (.int .u64 t816) := (blk_cell BK821.out 1).trans rfl; have hcz167_2 : w165.cell? ⟨gb821, 2, none⟩ = some (.int .u64 t817) := (blk_cell BK821.out 2).trans rfl; have hfz167_0 := blk_frozen BK821.out 0; have hfz167_1 := blk_frozen BK821.out 1; have hfz167_2 := blk_frozen BK821.out 2) | (go_at_call 15; (with_reducible refine (impl_ConWithin.calls t829 t830 t831 t815 t816 t817 true _ A90.out).mono ?_); rintro e w168 ⟨rfl, hb⟩; have n0_ := Aside0.mk (blk_below (g := gb821) (o := .cells #[.int .i64 t815, .int .u64 t816, .int .u64 t817] 26 (0, 0)) (by (with_reducible repeat (first | refine blk_drewN ?_ _ | refine blk_drew ?_ | refine blk_alloc ?_ _)); exact BK821.out) hb); have n1_ := Aside0.mk (blk_below (g := gb822) (o := .cells #[.int .i64 t818, .int .u64 t819, .int .u64 t820] 26 (0, 0)) (by (with_reducible repeat (first | refine blk_drewN ?_ _ | refine blk_drew ?_ | refine blk_alloc ?_ _)); exact BK822.out) hb); have n2_ := Aside0.mk (blk_below (g := gb832) (o := .cells #[.int .i64 t829, .int .u64 t830, .int .u64 t831] 26 (0, 0)) (by (with_reducible repeat (first | refine blk_drewN ?_ _ | refine blk_drew ?_ | refine blk_alloc ?_ _)); exact BK832.out) hb); have n3_ := Aside0.mk (blk_below (g := gb836) (o := .cells #[.int .i64 t833, .int .u64 t834, .int .u64 t835] 26 (0, 0)) (by (with_reducible repeat (first | refine blk_drewN ?_ _ | refine blk_drew ?_ | refine blk_alloc ?_ _)); exact BK836.out) hb); have n4_ := Aside0.mk (below_step (by repeat (first | (with_reducible first | exact HB.out | apply below_alloc | apply pw_below_drewN | apply below_drew1 | refine below_set ?_ GE821.out | refine below_set ?_ GE822.out | refine below_set ?_ GE832.out | refine below_set ?_ GE836.out) | exact HB.out)) hb); clear BK821; clear BK822; clear BK832; clear BK836; clear HB; have BK821 := n0_; have BK822 := n1_; have BK832 := n2_; have BK836 := n3_; have HB := n4_; clear n0_ n1_ n2_ n3_ n4_; (try clear hb); (try clear hb2); (try clear hk); (try clear hi); have hnb169 := NB822_836.out; have hnc169 := NB836_822.out; have hcz170_0 : w168.cell? ⟨gb822, 0, none⟩ = some (.int .i64 t818) := (blk_cell BK822.out 0).trans rfl; have hcz170_1 : w168.cell? ⟨gb822, 1, none⟩ = some (.int .u64 t819) := (blk_cell BK822.out 1).trans rfl; have hcz170_2 : w168.cell? ⟨gb822, 2, none⟩ = some (.int .u64 t820) := (blk_cell BK822.out 2).trans rfl; have hfz170_0 := blk_frozen BK822.out 0; have hfz170_1 := blk_frozen BK822.out 1; have hfz170_2 := blk_frozen BK822.out 2; have hcz171_0 : w168.cell? ⟨gb836, 0, none⟩ = some (.int .i64 t833) := (blk_cell BK836.out 0).trans rfl; have hcz171_1 : w168.cell? ⟨gb836, 1, none⟩ = some (.int .u64 t834) := (blk_cell BK836.out 1).trans rfl; have hcz171_2 : w168.cell? ⟨gb836, 2, none⟩ = some (.int .u64 t835) := (blk_cell BK836.out 2).trans rfl; have hfz171_0 := blk_frozen BK836.out 0; have hfz171_1 := blk_frozen BK836.out 1; have hfz171_2 := blk_frozen BK836.out 2) | (go_at_call 15; (with_reducible refine (impl_ConWithin.calls t818 t819 t820 t833 t834 t835 false _ A92.out).mono ?_); rintro e w172 ⟨rfl, hb⟩; have n0_ := Aside0.mk (blk_below (g := gb821) (o := .cells #[.int .i64 t815, .int .u64 t816, .int .u64 t817] 26 (0, 0)) (by (with_reducible repeat (first | refine blk_drewN ?_ _ | refine blk_drew ?_ | refine blk_alloc ?_ _)); exact BK821.out) hb); have n1_ := Aside0.mk (blk_below (g := gb822) (o := .cells #[.int .i64 t818, .int .u64 t819, .int .u64 t820] 26 (0, 0)) (by (with_reducible repeat (first | refine blk_drewN ?_ _ | refine blk_drew ?_ | refine blk_alloc ?_ _)); exact BK822.out) hb); have n2_ := Aside0.mk (blk_below (g := gb832) (o := .cells #[.int .i64 t829, .int .u64 t830, .int .u64 t831] 26 (0, 0)) (by (with_reducible repeat (first | refine blk_drewN ?_ _ | refine blk_drew ?_ | refine blk_alloc ?_ _)); exact BK832.out) hb); have n3_ := Aside0.mk (blk_below (g := gb836) (o := .cells #[.int .i64 t833, .int .u64 t834, .int .u64 t835] 26 (0, 0)) (by (with_reducible repeat (first | refine blk_drewN ?_ _ | refine blk_drew ?_ | refine blk_alloc ?_ _)); exact BK836.out) hb); have n4_ := Aside0.mk (below_step (by repeat (first | (with_reducible first | exact HB.out | apply below_alloc | apply pw_below_drewN | apply below_drew1 | refine below_set ?_ GE821.out | refine below_set ?_ GE822.out | refine below_set ?_ GE832.out | refine below_set ?_ GE836.out) | exact HB.out)) hb); clear BK821; clear BK822; clear BK832; clear BK836; clear HB; have BK821 := n0_; have BK822 := n1_; have BK832 := n2_; have BK836 := n3_; have HB := n4_; clear n0_ n1_ n2_ n3_ n4_; (try clear hb); (try clear hb2); (try clear hk); (try clear hi)))
                            go_ret
                            exact ⟨by first | rfl | (simp [errW_none, errW_some] <;> rfl) | (simp [*, errW_none, errW_some] <;> rfl), by repeat (first | (with_reducible first | exact HB.out | apply below_alloc | apply pw_below_drewN | apply below_drew1 | refine below_set ?_ GE821.out | refine below_set ?_ GE822.out | refine below_set ?_ GE832.out | refine below_set ?_ GE836.out) | exact HB.out)⟩
                        · replace c91 := Bool.eq_false_iff.mpr c91
                          subst c91
                          have H1 : (some false) = some r := by rw [if_neg (show ¬ (false = true) by decide)] at H; exact H
                          clear H
                          have H := H1
                          clear H1
                          obtain rfl := Option.some.inj H
                          have hnb173 := NB821_822.out
                          have hnc173 := NB822_821.out
                          have hnb174 := NB821_832.out
                          have hnc174 := NB832_821.out
                          have hnb175 := NB821_836.out
                          have hnc175 := NB836_821.out
                          have hcz176_0 : wc.cell? ⟨gb821, 0, none⟩ = some (.int .i64 t815) := (blk_cell BK821.out 0).trans rfl
                          have hcz176_1 : wc.cell? ⟨gb821, 1, none⟩ = some (.int .u64 t816) := (blk_cell BK821.out 1).trans rfl
                          have hcz176_2 : wc.cell? ⟨gb821, 2, none⟩ = some (.int .u64 t817) := (blk_cell BK821.out 2).trans rfl
                          have hfz176_0 := blk_frozen BK821.out 0
                          have hfz176_1 := blk_frozen BK821.out 1
                          have hfz176_2 := blk_frozen BK821.out 2
                          have hnb177 := NB832_822.out
                          have hnc177 := NB822_832.out
                          have hnb178 := NB832_836.out
                          have hnc178 := NB836_832.out
                          have hcz179_0 : wc.cell? ⟨gb832, 0, none⟩ = some (.int .i64 t829) := (blk_cell BK832.out 0).trans rfl
                          have hcz179_1 : wc.cell? ⟨gb832, 1, none⟩ = some (.int .u64 t830) := (blk_cell BK832.out 1).trans rfl
                          have hcz179_2 : wc.cell? ⟨gb832, 2, none⟩ = some (.int .u64 t831) := (blk_cell BK832.out 2).trans rfl
                          have hfz179_0 := blk_frozen BK832.out 0
                          have hfz179_1 := blk_frozen BK832.out 1
                          have hfz179_2 := blk_frozen BK832.out 2
                          go_wp2_with (first | ((with_reducible refine gate_callee (f := 15) rfl ?_); refine goesL_ (some 63) rfl rfl Try.func15 (by kernel_rfl) rfl #[.agg #[.int .i64 t815, .int .u64 t816, .int .u64 t817], .agg #[.int .i64 t829, .int .u64 t830, .int .u64 t831]] rfl (by (try simp only [List.map_toArray, List.map_cons, List.map_nil]); first | done | rfl | (simp only [List.length_drop, List.length_take]; rfl)) ?_; (with_reducible refine (impl_ConWithin.calls t815 t816 t817 t829 t830 t831 true _ A88.out).mono ?_); rintro e w180 ⟨rfl, hb⟩; refine ⟨_, rfl, ?_⟩; have n0_ := Aside0.mk (blk_below (g := gb821) (o := .cells #[.int .i64 t815, .int .u64 t816, .int .u64 t817] 26 (0, 0)) (by (with_reducible repeat (first | refine blk_drewN ?_ _ | refine blk_drew ?_ | refine blk_alloc ?_ _)); exact BK821.out) hb); have n1_ := Aside0.mk (blk_below (g := gb822) (o := .cells #[.int .i64 t818, .int .u64 t819, .int .u64 t820] 26 (0, 0)) (by (with_reducible repeat (first | refine blk_drewN ?_ _ | refine blk_drew ?_ | refine blk_alloc ?_ _)); exact BK822.out) hb); have n2_ := Aside0.mk (blk_below (g := gb832) (o := .cells #[.int .i64 t829, .int .u64 t830, .int .u64 t831] 26 (0, 0)) (by (with_reducible repeat (first | refine blk_drewN ?_ _ | refine blk_drew ?_ | refine blk_alloc ?_ _)); exact BK832.out) hb); have n3_ := Aside0.mk (blk_below (g := gb836) (o := .cells #[.int .i64 t833, .int .u64 t834, .int .u64 t835] 26 (0, 0)) (by (with_reducible repeat (first | refine blk_drewN ?_ _ | refine blk_drew ?_ | refine blk_alloc ?_ _)); exact BK836.out) hb); have n4_ := Aside0.mk (below_step (by repeat (first | (with_reducible first | exact HB.out | apply below_alloc | apply pw_below_drewN | apply below_drew1 | refine below_set ?_ GE821.out | refine below_set ?_ GE822.out | refine below_set ?_ GE832.out | refine below_set ?_ GE836.out) | exact HB.out)) hb); clear BK821; clear BK822; clear BK832; clear BK836; clear HB; have BK821 := n0_; have BK822 := n1_; have BK832 := n2_; have BK836 := n3_; have HB := n4_; clear n0_ n1_ n2_ n3_ n4_; (try clear hb); (try clear hb2); (try clear hk); (try clear hi); have hcz181_0 : w180.cell? ⟨gb832, 0, none⟩ = some (.int .i64 t829) := (blk_cell BK832.out 0).trans rfl; have hcz181_1 : w180.cell? ⟨gb832, 1, none⟩ = some (.int .u64 t830) := (blk_cell BK832.out 1).trans rfl; have hcz181_2 : w180.cell? ⟨gb832, 2, none⟩ = some (.int .u64 t831) := (blk_cell BK832.out 2).trans rfl; have hfz181_0 := blk_frozen BK832.out 0; have hfz181_1 := blk_frozen BK832.out 1; have hfz181_2 := blk_frozen BK832.out 2; have hcz182_0 : w180.cell? ⟨gb821, 0, none⟩ = some (.int .i64 t815) := (blk_cell BK821.out 0).trans rfl; have hcz182_1 : w180.cell? ⟨gb821, 1, none⟩ = some (.int .u64 t816) := (blk_cell BK821.out 1).trans rfl; have hcz182_2 : w180.cell? ⟨gb821, 2, none⟩ = some (.int .u64 t817) := (blk_cell BK821.out 2).trans rfl; have hfz182_0 := blk_frozen BK821.out 0; have hfz182_1 := blk_frozen BK821.out 1; have hfz182_2 := blk_frozen BK821.out 2) | (go_at_call 15; (with_reducible refine (impl_ConWithin.calls t829 t830 t831 t815 t816 t817 false _ A90.out).mono ?_); rintro e w183 ⟨rfl, hb⟩; have n0_ := Aside0.mk (blk_below (g := gb821) (o := .cells #[.int .i64 t815, .int .u64 t816, .int .u64 t817] 26 (0, 0)) (by (with_reducible repeat (first | refine blk_drewN ?_ _ | refine blk_drew ?_ | refine blk_alloc ?_ _)); exact BK821.out) hb); have n1_ := Aside0.mk (blk_below (g := gb822) (o := .cells #[.int .i64 t818, .int .u64 t819, .int .u64 t820] 26 (0, 0)) (by (with_reducible repeat (first | refine blk_drewN ?_ _ | refine blk_drew ?_ | refine blk_alloc ?_ _)); exact BK822.out) hb); have n2_ := Aside0.mk (blk_below (g := gb832) (o := .cells #[.int .i64 t829, .int .u64 t830, .int .u64 t831] 26 (0, 0)) (by (with_reducible repeat (first | refine blk_drewN ?_ _ | refine blk_drew ?_ | refine blk_alloc ?_ _)); exact BK832.out) hb); have n3_ := Aside0.mk (blk_below (g := gb836) (o := .cells #[.int .i64 t833, .int .u64 t834, .int .u64 t835] 26 (0, 0)) (by (with_reducible repeat (first | refine blk_drewN ?_ _ | refine blk_drew ?_ | refine blk_alloc ?_ _)); exact BK836.out) hb); have n4_ := Aside0.mk (below_step (by repeat (first | (with_reducible first | exact HB.out | apply below_alloc | apply pw_below_drewN | apply below_drew1 | refine below_set ?_ GE821.out | refine below_set ?_ GE822.out | refine below_set ?_ GE832.out | refine below_set ?_ GE836.out) | exact HB.out)) hb); clear BK821; clear BK822; clear BK832; clear BK836; clear HB; have BK821 := n0_; have BK822 := n1_; have BK832 := n2_; have BK836 := n3_; have HB := n4_; clear n0_ n1_ n2_ n3_ n4_; (try clear hb); (try clear hb2); (try clear hk); (try clear hi)))
                          go_ret
                          exact ⟨by first | rfl | (simp [errW_none, errW_some] <;> rfl) | (simp [*, errW_none, errW_some] <;> rfl), by repeat (first | (with_reducible first | exact HB.out | apply below_alloc | apply pw_below_drewN | apply below_drew1 | refine below_set ?_ GE821.out | refine below_set ?_ GE822.out | refine below_set ?_ GE832.out | refine below_set ?_ GE836.out) | exact HB.out)⟩
                      · replace c89 := Bool.eq_false_iff.mpr c89
                        subst c89
                        have H1 : (some false) = some r := by rw [if_neg (show ¬ (false = true) by decide)] at H; exact H
                        clear H
                        have H := H1
                        clear H1
                        obtain rfl := Option.some.inj H
                        have hnb184 := NB821_822.out
                        have hnc184 := NB822_821.out
                        have hnb185 := NB821_832.out
                        have hnc185 := NB832_821.out
                        have hnb186 := NB821_836.out
                        have hnc186 := NB836_821.out
                        have hcz187_0 : wc.cell? ⟨gb821, 0, none⟩ = some (.int .i64 t815) := (blk_cell BK821.out 0).trans rfl
                        have hcz187_1 : wc.cell? ⟨gb821, 1, none⟩ = some (.int .u64 t816) := (blk_cell BK821.out 1).trans rfl
                        have hcz187_2 : wc.cell? ⟨gb821, 2, none⟩ = some (.int .u64 t817) := (blk_cell BK821.out 2).trans rfl
                        have hfz187_0 := blk_frozen BK821.out 0
                        have hfz187_1 := blk_frozen BK821.out 1
                        have hfz187_2 := blk_frozen BK821.out 2
                        have hnb188 := NB832_822.out
                        have hnc188 := NB822_832.out
                        have hnb189 := NB832_836.out
                        have hnc189 := NB836_832.out
                        have hcz190_0 : wc.cell? ⟨gb832, 0, none⟩ = some (.int .i64 t829) := (blk_cell BK832.out 0).trans rfl
                        have hcz190_1 : wc.cell? ⟨gb832, 1, none⟩ = some (.int .u64 t830) := (blk_cell BK832.out 1).trans rfl
                        have hcz190_2 : wc.cell? ⟨gb832, 2, none⟩ = some (.int .u64 t831) := (blk_cell BK832.out 2).trans rfl
                        have hfz190_0 := blk_frozen BK832.out 0
                        have hfz190_1 := blk_frozen BK832.out 1
                        have hfz190_2 := blk_frozen BK832.out 2
                        go_wp2_with (first | ((with_reducible refine gate_callee (f := 15) rfl ?_); refine goesL_ (some 63) rfl rfl Try.func15 (by kernel_rfl) rfl #[.agg #[.int .i64 t815, .int .u64 t816, .int .u64 t817], .agg #[.int .i64 t829, .int .u64 t830, .int .u64 t831]] rfl (by (try simp only [List.map_toArray, List.map_cons, List.map_nil]); first | done | rfl | (simp only [List.length_drop, List.length_take]; rfl)) ?_; (with_reducible refine (impl_ConWithin.calls t815 t816 t817 t829 t830 t831 false _ A88.out).mono ?_); rintro e w191 ⟨rfl, hb⟩; refine ⟨_, rfl, ?_⟩; have n0_ := Aside0.mk (blk_below (g := gb821) (o := .cells #[.int .i64 t815, .int .u64 t816, .int .u64 t817] 26 (0, 0)) (by (with_reducible repeat (first | refine blk_drewN ?_ _ | refine blk_drew ?_ | refine blk_alloc ?_ _)); exact BK821.out) hb); have n1_ := Aside0.mk (blk_below (g := gb822) (o := .cells #[.int .i64 t818, .int .u64 t819, .int .u64 t820] 26 (0, 0)) (by (with_reducible repeat (first | refine blk_drewN ?_ _ | refine blk_drew ?_ | refine blk_alloc ?_ _)); exact BK822.out) hb); have n2_ := Aside0.mk (blk_below (g := gb832) (o := .cells #[.int .i64 t829, .int .u64 t830, .int .u64 t831] 26 (0, 0)) (by (with_reducible repeat (first | refine blk_drewN ?_ _ | refine blk_drew ?_ | refine blk_alloc ?_ _)); exact BK832.out) hb); have n3_ := Aside0.mk (blk_below (g := gb836) (o := .cells #[.int .i64 t833, .int .u64 t834, .int .u64 t835] 26 (0, 0)) (by (with_reducible repeat (first | refine blk_drewN ?_ _ | refine blk_drew ?_ | refine blk_alloc ?_ _)); exact BK836.out) hb); have n4_ := Aside0.mk (below_step (by repeat (first | (with_reducible first | exact HB.out | apply below_alloc | apply pw_below_drewN | apply below_drew1 | refine below_set ?_ GE821.out | refine below_set ?_ GE822.out | refine below_set ?_ GE832.out | refine below_set ?_ GE836.out) | exact HB.out)) hb); clear BK821; clear BK822; clear BK832; clear BK836; clear HB; have BK821 := n0_; have BK822 := n1_; have BK832 := n2_; have BK836 := n3_; have HB := n4_; clear n0_ n1_ n2_ n3_ n4_; (try clear hb); (try clear hb2); (try clear hk); (try clear hi)))
                        go_ret
                        exact ⟨by first | rfl | (simp [errW_none, errW_some] <;> rfl) | (simp [*, errW_none, errW_some] <;> rfl), by repeat (first | (with_reducible first | exact HB.out | apply below_alloc | apply pw_below_drewN | apply below_drew1 | refine below_set ?_ GE821.out | refine below_set ?_ GE822.out | refine below_set ?_ GE832.out | refine below_set ?_ GE836.out) | exact HB.out)⟩

/-- THE ONE PURE STATEMENT of laws_FnNorm: yours. -/
def laws_FnNorm.Pure : Prop := ∀ (l0 : List Int), l0.length ≤ maxLen → l0.length * 1 ≤ 140737488351232 → (∀ x ∈ l0, (Lit.int .u8 x).wf = true) → ∃ k, laws_FnNorm.f k l0 = some true
theorem laws_FnNorm.walk (P : laws_FnNorm.Pure) (a0 : Option Addr) (len0 cap0 : Nat) (z0 : List Int) (w : World) (w0 : (a0 = none ∧ len0 = 0 ∧ cap0 = 0 ∧ z0 = []) ∨ ∃ x, a0 = some x ∧ len0 ≤ cap0 ∧ cap0 ≤ maxLen ∧ z0.length = cap0 ∧ (∀ i, i < z0.length → w.cell? (x.add i) = some (.int .u8 (z0.getD i 0))) ∧ ∀ n ∈ z0, (Lit.int .u8 n).wf = true) (y0 : len0 * 1 ≤ 140737488351232) :
    Calls Try.prog 10 #[.slice a0 len0 cap0] w fun e w' => e = .returned (.bool true) ∧ Below w.heap.size w w' := by
  obtain ⟨l0, rfl, hr0, hm0, hw0, hc0⟩ := ReadsInt.ofRowC w0
  obtain ⟨k, h⟩ := P l0 hm0 y0 hw0
  refine (laws_FnNorm.calls k _ _ l0 true w (Kd.C_of_reads (d := (0 : Int)) (h1 := fun _ => rfl) hr0) hc0 h).mono ?_
  rintro e w' ⟨rfl, hd⟩
  exact ⟨rfl, hd⟩

end Go.Proofs.Ytdipinclchkhjaa.P
