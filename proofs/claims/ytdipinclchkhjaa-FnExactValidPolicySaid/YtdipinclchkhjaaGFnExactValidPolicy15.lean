import Derived.Test.YtdipinclchkhjaaGFnExactValidPolicy1
import Derived.Test.YtdipinclchkhjaaGFnExactValidPolicy3
import Derived.Test.YtdipinclchkhjaaGFnExactValidPolicy14
import Derived.Test.YtdipinclchkhjaaGFnExactValidPolicy2
namespace Go.Proofs.Ytdipinclchkhjaa.P
open Go.RowKit Go.Proofs.YtdipinclchkhjaaW.PrintWords Go.Proofs.YtdipinclchkhjaaW.PrintLast Go.Proofs.YtdipinclchkhjaaW.PrintMore
attribute [local go_sem] max2_int min2_int max_two min_two max_three min_three max_four min_four   -- for this text's walks alone
set_option linter.unusedVariables false
set_option linter.unusedSimpArgs false

/-! ### spec_l3conOK: function 60 -/
def spec_l3conOK.f (a0_0 : Int) (a0_1 : Int) (a0_2 : Int) : Option (Bool) := if a0_0 = 0 then (if a0_1 = 0 then (some (a0_2 == 0)) else (some false)) else (if a0_0 = 1 then (some ((Go.bits .or .u64 a0_1 a0_2) == a0_1)) else (if a0_0 = 2 then (some (decide (a0_1 ≤ a0_2))) else (some false)))
set_option maxHeartbeats 8000000 in
set_option maxRecDepth 100000 in
theorem spec_l3conOK.calls (a0_0 : Int) (a0_1 : Int) (a0_2 : Int) (r : Bool) (w : World) (h : spec_l3conOK.f a0_0 a0_1 a0_2 = some r) :
    Calls Try.prog 60 #[.agg #[.int .i64 a0_0, .int .u64 a0_1, .int .u64 a0_2]] w fun e w' => e = .returned (.bool r) ∧ Below w.heap.size w w' := by
  have hu26 := Try.underlying26
  have HB := Aside0.mk (Below.refl w.heap.size w)
  have H : (if a0_0 = 0 then (if a0_1 = 0 then (some (a0_2 == 0)) else (some false)) else (if a0_0 = 1 then (some ((Go.bits .or .u64 a0_1 a0_2) == a0_1)) else (if a0_0 = 2 then (some (decide (a0_1 ≤ a0_2))) else (some false)))) = some r := h
  clear h
  by_cases c2 : a0_0 = 0
  · rw [if_pos c2] at H
    have c2b0 : (a0_0 == 0) = true := beq_iff_eq.mpr c2
    have c2b1 : (a0_0 != 0) = false := bne_eq_false_iff_eq.mpr c2
    clear c2
    by_cases c3 : a0_1 = 0
    · rw [if_pos c3] at H
      have c3b0 : (a0_1 == 0) = true := beq_iff_eq.mpr c3
      have c3b1 : (a0_1 != 0) = false := bne_eq_false_iff_eq.mpr c3
      clear c3
      obtain rfl := Option.some.inj H
      go_enter Try.func60, Try.ntmps60
      go_wp2_with (first | ((with_reducible refine gate_dst (N := 1) rfl ?_); refine box_event ?hg (N := 1) ?hd (cs := #[.int .i64 a0_0, .int .u64 a0_1, .int .u64 a0_2]) (t := 26) ?hr ?_; (case hd => rfl); (case hg => rfl); (case hr => first | (go_simp; done) | (go_simp; rfl)); intro gb101 hg w4 hbox hb; have n0_ := Aside0.mk (below_step (by repeat (first | (with_reducible first | exact HB.out | apply below_alloc | apply pw_below_drewN | apply below_drew1) | exact HB.out)) hb); have n1_ := Aside0.mk (hbox); have n2_ := Aside0.mk ((by rw [hg]; exact (below_size (by repeat (first | (with_reducible first | exact HB.out | apply below_alloc | apply pw_below_drewN | apply below_drew1) | exact HB.out))) : w.heap.size ≤ gb101)); have n3_ := Aside0.mk ((by rw [hg]; exact (below_size (by repeat (first | (with_reducible first | exact HB.out | apply below_alloc | apply pw_below_drewN | apply below_drew1) | exact HB.out))) : w.heap.size ≤ gb101)); clear HB; have HB := n0_; have BK101 := n1_; have GW101 := n2_; have GE101 := n3_; clear n0_ n1_ n2_ n3_; clear hb hbox hg; have hcz5_0 : w4.cell? ⟨gb101, 0, none⟩ = some (.int .i64 a0_0) := (blk_cell BK101.out 0).trans rfl; have hcz5_1 : w4.cell? ⟨gb101, 1, none⟩ = some (.int .u64 a0_1) := (blk_cell BK101.out 1).trans rfl; have hcz5_2 : w4.cell? ⟨gb101, 2, none⟩ = some (.int .u64 a0_2) := (blk_cell BK101.out 2).trans rfl; have hfz5_0 := blk_frozen BK101.out 0; have hfz5_1 := blk_frozen BK101.out 1; have hfz5_2 := blk_frozen BK101.out 2))
      go_ret
      exact ⟨by first | rfl | (simp [errW_none, errW_some] <;> rfl) | (simp [*, errW_none, errW_some] <;> rfl), by repeat (first | (with_reducible first | exact HB.out | apply below_alloc | apply pw_below_drewN | apply below_drew1 | refine below_set ?_ GE101.out) | exact HB.out)⟩
    · rw [if_neg c3] at H
      have c3b0 : (a0_1 == 0) = false := beq_eq_false_iff_ne.mpr c3
      have c3b1 : (a0_1 != 0) = true := bne_iff_ne.mpr c3
      obtain rfl := Option.some.inj H
      go_enter Try.func60, Try.ntmps60
      go_wp2_with (first | ((with_reducible refine gate_dst (N := 1) rfl ?_); refine box_event ?hg (N := 1) ?hd (cs := #[.int .i64 a0_0, .int .u64 a0_1, .int .u64 a0_2]) (t := 26) ?hr ?_; (case hd => rfl); (case hg => rfl); (case hr => first | (go_simp; done) | (go_simp; rfl)); intro gb101 hg w6 hbox hb; have n0_ := Aside0.mk (below_step (by repeat (first | (with_reducible first | exact HB.out | apply below_alloc | apply pw_below_drewN | apply below_drew1) | exact HB.out)) hb); have n1_ := Aside0.mk (hbox); have n2_ := Aside0.mk ((by rw [hg]; exact (below_size (by repeat (first | (with_reducible first | exact HB.out | apply below_alloc | apply pw_below_drewN | apply below_drew1) | exact HB.out))) : w.heap.size ≤ gb101)); have n3_ := Aside0.mk ((by rw [hg]; exact (below_size (by repeat (first | (with_reducible first | exact HB.out | apply below_alloc | apply pw_below_drewN | apply below_drew1) | exact HB.out))) : w.heap.size ≤ gb101)); clear HB; have HB := n0_; have BK101 := n1_; have GW101 := n2_; have GE101 := n3_; clear n0_ n1_ n2_ n3_; clear hb hbox hg; have hcz7_0 : w6.cell? ⟨gb101, 0, none⟩ = some (.int .i64 a0_0) := (blk_cell BK101.out 0).trans rfl; have hcz7_1 : w6.cell? ⟨gb101, 1, none⟩ = some (.int .u64 a0_1) := (blk_cell BK101.out 1).trans rfl; have hcz7_2 : w6.cell? ⟨gb101, 2, none⟩ = some (.int .u64 a0_2) := (blk_cell BK101.out 2).trans rfl; have hfz7_0 := blk_frozen BK101.out 0; have hfz7_1 := blk_frozen BK101.out 1; have hfz7_2 := blk_frozen BK101.out 2))
      go_ret
      exact ⟨by first | rfl | (simp [errW_none, errW_some] <;> rfl) | (simp [*, errW_none, errW_some] <;> rfl), by repeat (first | (with_reducible first | exact HB.out | apply below_alloc | apply pw_below_drewN | apply below_drew1 | refine below_set ?_ GE101.out) | exact HB.out)⟩
  · rw [if_neg c2] at H
    have c2b0 : (a0_0 == 0) = false := beq_eq_false_iff_ne.mpr c2
    have c2b1 : (a0_0 != 0) = true := bne_iff_ne.mpr c2
    by_cases c8 : a0_0 = 1
    · rw [if_pos c8] at H
      have c8b0 : (a0_0 == 1) = true := beq_iff_eq.mpr c8
      have c8b1 : (a0_0 != 1) = false := bne_eq_false_iff_eq.mpr c8
      clear c8
      obtain rfl := Option.some.inj H
      go_enter Try.func60, Try.ntmps60
      go_wp2_with (first | ((with_reducible refine gate_dst (N := 1) rfl ?_); refine box_event ?hg (N := 1) ?hd (cs := #[.int .i64 a0_0, .int .u64 a0_1, .int .u64 a0_2]) (t := 26) ?hr ?_; (case hd => rfl); (case hg => rfl); (case hr => first | (go_simp; done) | (go_simp; rfl)); intro gb101 hg w9 hbox hb; have n0_ := Aside0.mk (below_step (by repeat (first | (with_reducible first | exact HB.out | apply below_alloc | apply pw_below_drewN | apply below_drew1) | exact HB.out)) hb); have n1_ := Aside0.mk (hbox); have n2_ := Aside0.mk ((by rw [hg]; exact (below_size (by repeat (first | (with_reducible first | exact HB.out | apply below_alloc | apply pw_below_drewN | apply below_drew1) | exact HB.out))) : w.heap.size ≤ gb101)); have n3_ := Aside0.mk ((by rw [hg]; exact (below_size (by repeat (first | (with_reducible first | exact HB.out | apply below_alloc | apply pw_below_drewN | apply below_drew1) | exact HB.out))) : w.heap.size ≤ gb101)); clear HB; have HB := n0_; have BK101 := n1_; have GW101 := n2_; have GE101 := n3_; clear n0_ n1_ n2_ n3_; clear hb hbox hg; have hcz10_0 : w9.cell? ⟨gb101, 0, none⟩ = some (.int .i64 a0_0) := (blk_cell BK101.out 0).trans rfl; have hcz10_1 : w9.cell? ⟨gb101, 1, none⟩ = some (.int .u64 a0_1) := (blk_cell BK101.out 1).trans rfl; have hcz10_2 : w9.cell? ⟨gb101, 2, none⟩ = some (.int .u64 a0_2) := (blk_cell BK101.out 2).trans rfl; have hfz10_0 := blk_frozen BK101.out 0; have hfz10_1 := blk_frozen BK101.out 1; have hfz10_2 := blk_frozen BK101.out 2))
      go_ret
      exact ⟨by first | rfl | (simp [errW_none, errW_some] <;> rfl) | (simp [*, errW_none, errW_some] <;> rfl), by repeat (first | (with_reducible first | exact HB.out | apply below_alloc | apply pw_below_drewN | apply below_drew1 | refine below_set ?_ GE101.out) | exact HB.out)⟩
    · rw [if_neg c8] at H
      have c8b0 : (a0_0 == 1) = false := beq_eq_false_iff_ne.mpr c8
      have c8b1 : (a0_0 != 1) = true := bne_iff_ne.mpr c8
      by_cases c11 : a0_0 = 2
      · rw [if_pos c11] at H
        have c11b0 : (a0_0 == 2) = true := beq_iff_eq.mpr c11
        have c11b1 : (a0_0 != 2) = false := bne_eq_false_iff_eq.mpr c11
        clear c11
        obtain rfl := Option.some.inj H
        go_enter Try.func60, Try.ntmps60
        go_wp2_with (first | ((with_reducible refine gate_dst (N := 1) rfl ?_); refine box_event ?hg (N := 1) ?hd (cs := #[.int .i64 a0_0, .int .u64 a0_1, .int .u64 a0_2]) (t := 26) ?hr ?_; (case hd => rfl); (case hg => rfl); (case hr => first | (go_simp; done) | (go_simp; rfl)); intro gb101 hg w12 hbox hb; have n0_ := Aside0.mk (below_step (by repeat (first | (with_reducible first | exact HB.out | apply below_alloc | apply pw_below_drewN | apply below_drew1) | exact HB.out)) hb); have n1_ := Aside0.mk (hbox); have n2_ := Aside0.mk ((by rw [hg]; exact (below_size (by repeat (first | (with_reducible first | exact HB.out | apply below_alloc | apply pw_below_drewN | apply below_drew1) | exact HB.out))) : w.heap.size ≤ gb101)); have n3_ := Aside0.mk ((by rw [hg]; exact (below_size (by repeat (first | (with_reducible first | exact HB.out | apply below_alloc | apply pw_below_drewN | apply below_drew1) | exact HB.out))) : w.heap.size ≤ gb101)); clear HB; have HB := n0_; have BK101 := n1_; have GW101 := n2_; have GE101 := n3_; clear n0_ n1_ n2_ n3_; clear hb hbox hg; have hcz13_0 : w12.cell? ⟨gb101, 0, none⟩ = some (.int .i64 a0_0) := (blk_cell BK101.out 0).trans rfl; have hcz13_1 : w12.cell? ⟨gb101, 1, none⟩ = some (.int .u64 a0_1) := (blk_cell BK101.out 1).trans rfl; have hcz13_2 : w12.cell? ⟨gb101, 2, none⟩ = some (.int .u64 a0_2) := (blk_cell BK101.out 2).trans rfl; have hfz13_0 := blk_frozen BK101.out 0; have hfz13_1 := blk_frozen BK101.out 1; have hfz13_2 := blk_frozen BK101.out 2))
        go_ret
        exact ⟨by first | rfl | (simp [errW_none, errW_some] <;> rfl) | (simp [*, errW_none, errW_some] <;> rfl), by repeat (first | (with_reducible first | exact HB.out | apply below_alloc | apply pw_below_drewN | apply below_drew1 | refine below_set ?_ GE101.out) | exact HB.out)⟩
      · rw [if_neg c11] at H
        have c11b0 : (a0_0 == 2) = false := beq_eq_false_iff_ne.mpr c11
        have c11b1 : (a0_0 != 2) = true := bne_iff_ne.mpr c11
        obtain rfl := Option.some.inj H
        go_enter Try.func60, Try.ntmps60
        go_wp2_with (first | ((with_reducible refine gate_dst (N := 1) rfl ?_); refine box_event ?hg (N := 1) ?hd (cs := #[.int .i64 a0_0, .int .u64 a0_1, .int .u64 a0_2]) (t := 26) ?hr ?_; (case hd => rfl); (case hg => rfl); (case hr => first | (go_simp; done) | (go_simp; rfl)); intro gb101 hg w14 hbox hb; have n0_ := Aside0.mk (below_step (by repeat (first | (with_reducible first | exact HB.out | apply below_alloc | apply pw_below_drewN | apply below_drew1) | exact HB.out)) hb); have n1_ := Aside0.mk (hbox); have n2_ := Aside0.mk ((by rw [hg]; exact (below_size (by repeat (first | (with_reducible first | exact HB.out | apply below_alloc | apply pw_below_drewN | apply below_drew1) | exact HB.out))) : w.heap.size ≤ gb101)); have n3_ := Aside0.mk ((by rw [hg]; exact (below_size (by repeat (first | (with_reducible first | exact HB.out | apply below_alloc | apply pw_below_drewN | apply below_drew1) | exact HB.out))) : w.heap.size ≤ gb101)); clear HB; have HB := n0_; have BK101 := n1_; have GW101 := n2_; have GE101 := n3_; clear n0_ n1_ n2_ n3_; clear hb hbox hg; have hcz15_0 : w14.cell? ⟨gb101, 0, none⟩ = some (.int .i64 a0_0) := (blk_cell BK101.out 0).trans rfl; have hcz15_1 : w14.cell? ⟨gb101, 1, none⟩ = some (.int .u64 a0_1) := (blk_cell BK101.out 1).trans rfl; have hcz15_2 : w14.cell? ⟨gb101, 2, none⟩ = some (.int .u64 a0_2) := (blk_cell BK101.out 2).trans rfl; have hfz15_0 := blk_frozen BK101.out 0; have hfz15_1 := blk_frozen BK101.out 1; have hfz15_2 := blk_frozen BK101.out 2))
        go_ret
        exact ⟨by first | rfl | (simp [errW_none, errW_some] <;> rfl) | (simp [*, errW_none, errW_some] <;> rfl), by repeat (first | (with_reducible first | exact HB.out | apply below_alloc | apply pw_below_drewN | apply below_drew1 | refine below_set ?_ GE101.out) | exact HB.out)⟩

end Go.Proofs.Ytdipinclchkhjaa.P

namespace Go.Proofs.Ytdipinclchkhjaa.P
open Go.RowKit Go.Proofs.YtdipinclchkhjaaW.PrintWords Go.Proofs.YtdipinclchkhjaaW.PrintLast Go.Proofs.YtdipinclchkhjaaW.PrintMore
set_option linter.unusedVariables false
set_option linter.unusedSimpArgs false
theorem l3low_is (k : Nat) (hk : k ≤ 64) : spec_l3low.f (k : Int) = some ((2 ^ k - 1 : Nat) : Int) := by
  unfold spec_l3low.f
  by_cases e : k = 64
  · subst e
    rw [if_pos (by decide), show (2 : Nat) ^ 64 - 1 = 18446744073709551615 by decide]
    rfl
  · have hp := two_pow_lt k (by omega)
    have hw : IntKind.u64.wrap (k : Int) = (k : Int) := wrap_u64_id (by omega) (by omega)
    rw [if_neg (by omega), hw, if_pos (by omega)]
    have hs : shl .u64 1 (k : Int) = ((2 ^ k : Nat) : Int) := by
      unfold shl
      have : min (k : Int).toNat IntKind.u64.bits = k := by simp [IntKind.bits]; omega
      rw [this, Int.one_mul]
      have e : ((2 : Int) ^ k) = ((2 ^ k : Nat) : Int) := by simp
      rw [e, wrap_u64_id (by omega) (by omega)]
    rw [hs, wrap_u64_id (by omega) (by omega)]
    congr 1
    omega
/-- The one block that a mask's set is, or none. -/
theorem l3block_mask (a b : Nat) (ha : a < 18446744073709551616) :
    (∃ k, k ≤ 64 ∧ a = 18446744073709551615 - (2 ^ k - 1) ∧ Ev (fun n => spec_l3block.f n 1 a b) ((b : Int), IntKind.u64.wrap ((b : Int) + ((2 ^ k - 1 : Nat) : Int)), true)) ∨
    ((∀ k, k ≤ 64 → a ≠ 18446744073709551615 - (2 ^ k - 1)) ∧ Ev (fun n => spec_l3block.f n 1 a b) (0, 0, false)) := by
  have step : ∀ (i : Nat) (r : Int × Int × Bool), i ≤ 64 → a ≠ 18446744073709551615 - (2 ^ i - 1) → Ev (fun n => spec_l3block.l0 n ((i + 1 : Nat) : Int) 1 a b) r → Ev (fun n => spec_l3block.l0 n (i : Int) 1 a b) r := by
    intro i r hi hne hr
    have hp := two_pow_le i hi
    refine ev_step _ (fun k => ?_) hr
    simp only [spec_l3block.l0]
    rw [if_pos (by omega), l3low_is i hi, Option.bind_some, wrap_u64_id (by omega) (by omega), if_neg (by omega), wrap64_id (by omega) (by omega)]
    rfl
  have hit : ∀ (i : Nat), i ≤ 64 → a = 18446744073709551615 - (2 ^ i - 1) → Ev (fun n => spec_l3block.l0 n (i : Int) 1 a b) ((b : Int), IntKind.u64.wrap ((b : Int) + ((2 ^ i - 1 : Nat) : Int)), true) := by
    intro i hi he
    have hp := two_pow_le i hi
    refine ev_end fun k => ?_
    simp only [spec_l3block.l0]
    rw [if_pos (by omega), l3low_is i hi, Option.bind_some, wrap_u64_id (x := 18446744073709551615 - ((2 ^ i - 1 : Nat) : Int)) (by omega) (by omega), if_pos (by omega)]
  have key : ∀ d i : Nat, i + d = 65 →
      (∃ k, i ≤ k ∧ k ≤ 64 ∧ a = 18446744073709551615 - (2 ^ k - 1) ∧ Ev (fun n => spec_l3block.l0 n (i : Int) 1 a b) ((b : Int), IntKind.u64.wrap ((b : Int) + ((2 ^ k - 1 : Nat) : Int)), true)) ∨
      ((∀ k, i ≤ k → k ≤ 64 → a ≠ 18446744073709551615 - (2 ^ k - 1)) ∧ Ev (fun n => spec_l3block.l0 n (i : Int) 1 a b) (0, 0, false)) := by
    intro d
    induction d with
    | zero =>
      intro i hi
      exact .inr ⟨fun k h1 h2 => by omega, ev_end fun k => by simp only [spec_l3block.l0]; rw [if_neg (by omega)]⟩
    | succ d ih =>
      intro i hi
      by_cases he : a = 18446744073709551615 - (2 ^ i - 1)
      · exact .inl ⟨i, Nat.le_refl _, by omega, he, hit i (by omega) he⟩
      · rcases ih (i + 1) (by omega) with ⟨k, h1, h2, h3, h4⟩ | ⟨h1, h2⟩
        · exact .inl ⟨k, by omega, h2, h3, step i _ (by omega) he h4⟩
        · refine .inr ⟨fun k hk1 hk2 => ?_, step i _ (by omega) he h2⟩
          by_cases e : k = i
          · subst e; exact he
          · exact h1 k (by omega) hk2
  have hf : ∀ r, Ev (fun n => spec_l3block.l0 n ((0 : Nat) : Int) 1 a b) r → Ev (fun n => spec_l3block.f n 1 a b) r := fun r hr => Ev.congr (fun k => by unfold spec_l3block.f; rw [if_neg (by decide), if_neg (by decide)]; rfl) hr
  rcases key 65 0 (by omega) with ⟨k, h1, h2, h3, h4⟩ | ⟨h1, h2⟩
  · exact .inl ⟨k, h2, h3, hf _ h4⟩
  · exact .inr ⟨fun k hk => h1 k (by omega) hk, hf _ h2⟩
theorem l3conOK_is (k : Int) (a b : Nat) (ha : a < 18446744073709551616) (hb : b < 18446744073709551616) : spec_l3conOK.f k a b = some (normRaw k a b).2 := by
  unfold spec_l3conOK.f normRaw
  by_cases h0 : k = 0
  · rw [if_pos h0, if_pos h0]
    by_cases h1 : (a : Int) = 0
    · rw [if_pos h1, h1]; rfl
    · rw [if_neg h1, beq_eq_false_iff_ne.mpr h1]; rfl
  · rw [if_neg h0, if_neg h0]
    by_cases h1 : k = 1
    · rw [if_pos h1, if_pos h1, or64 a b ha hb]
      have hs := sub_bits a b ha hb
      by_cases h2 : (a : Int) = 0 ∧ (b : Int) = 0
      · rw [if_pos h2]
        have ea : a = 0 := by omega
        have eb : b = 0 := by omega
        subst ea; subst eb; rfl
      · rw [if_neg h2, andNot64 b a hb ha]
        congr 1
        rw [Bool.eq_iff_iff, beq_iff_eq, beq_iff_eq]
        constructor
        · intro h
          have := hs.2 (by omega)
          omega
        · intro h
          have := hs.1 (by omega)
          omega
    · rw [if_neg h1, if_neg h1]
      by_cases h2 : k = 2
      · rw [if_pos h2, if_pos h2]
        by_cases h3 : (a : Int) > b
        · rw [if_pos h3, decide_eq_false (by omega)]
        · rw [if_neg h3, decide_eq_true (by omega)]
      · rw [if_neg h2, if_neg h2]
end Go.Proofs.Ytdipinclchkhjaa.P

namespace Go.Proofs.Ytdipinclchkhjaa.P
open Go.RowKit Go.Proofs.YtdipinclchkhjaaW.PrintWords Go.Proofs.YtdipinclchkhjaaW.PrintLast Go.Proofs.YtdipinclchkhjaaW.PrintMore
attribute [local go_sem] max2_int min2_int max_two min_two max_three min_three max_four min_four   -- for this text's walks alone
set_option linter.unusedVariables false
set_option linter.unusedSimpArgs false

-- HAND 113
-- IMPORT Derived.Test.YtdipinclchkhjaaHCond
set_option maxHeartbeats 400000 in
theorem impl_normalRange.does (a b : Int) (w : World) : Calls Try.prog 113 #[.int .u64 a, .int .u64 b] w fun e w' => e = .returned (nrRaw a b).v ∧ w' = w := by
  have hmax : IntKind.u64.max = 18446744073709551615 := rfl
  go_enter Try.func113, Try.ntmps113
  go_wp2
  all_goals (go_ret)
  all_goals (refine ⟨?_, rfl⟩; simp_all [nrRaw, nrN, Cd.v])

end Go.Proofs.Ytdipinclchkhjaa.P

namespace Go.Proofs.Ytdipinclchkhjaa.P
open Go.RowKit Go.Proofs.YtdipinclchkhjaaW.PrintWords Go.Proofs.YtdipinclchkhjaaW.PrintLast Go.Proofs.YtdipinclchkhjaaW.PrintMore
attribute [local go_sem] max2_int min2_int max_two min_two max_three min_three max_four min_four   -- for this text's walks alone
set_option linter.unusedVariables false
set_option linter.unusedSimpArgs false

-- HAND 62
-- IMPORT Derived.Test.YtdipinclchkhjaaHCond
set_option maxHeartbeats 1000000 in
theorem impl_normal.does (k a b : Int) (w : World) : Calls Try.prog 62 #[.agg #[.int .i64 k, .int .u64 a, .int .u64 b]] w fun e w' => e = .returned (.tuple #[(normRaw k a b).1.v, .bool (normRaw k a b).2]) ∧ Below w.heap.size w w' := by
  by_cases c0 : k = 0
  · subst c0
    by_cases c1 : a = 0
    · subst c1
      go_enter Try.func62, Try.ntmps62
      go_wp2
      repeat (go_quiet (fail); try go_wp2)
      go_ret2
      exact ⟨by simp [normRaw, Cd.v], pw_below_drewN (below_alloc (Below.refl _ _) _) _⟩
    · have c1b : (a == 0) = false := beq_eq_false_iff_ne.mpr c1
      go_enter Try.func62, Try.ntmps62
      go_wp2
      repeat (go_quiet (fail); try go_wp2)
      go_ret2
      exact ⟨by simp [normRaw, Cd.v, c1b], pw_below_drewN (below_alloc (Below.refl _ _) _) _⟩
  · have c0b : (k == 0) = false := beq_eq_false_iff_ne.mpr c0
    by_cases c1 : k = 1
    · subst c1
      by_cases c2 : a = 0
      · subst c2
        by_cases c3 : b = 0
        · subst c3
          go_enter Try.func62, Try.ntmps62
          go_wp2
          go_ret2
          exact ⟨by simp [normRaw, Cd.v], below_alloc (Below.refl _ _) _⟩
        · have c3b : (b == 0) = false := beq_eq_false_iff_ne.mpr c3
          go_enter Try.func62, Try.ntmps62
          go_wp2
          repeat (go_quiet (fail); try go_wp2)
          go_ret2
          exact ⟨by simp [normRaw, Cd.v, c3], pw_below_drewN (below_alloc (Below.refl _ _) _) _⟩
      · have c2b : (a == 0) = false := beq_eq_false_iff_ne.mpr c2
        go_enter Try.func62, Try.ntmps62
        go_wp2
        repeat (go_quiet (fail); try go_wp2)
        go_ret2
        exact ⟨by simp [normRaw, Cd.v, c2], pw_below_drewN (below_alloc (Below.refl _ _) _) _⟩
    · have c1b : (k == 1) = false := beq_eq_false_iff_ne.mpr c1
      by_cases c2 : k = 2
      · subst c2
        by_cases c3 : b < a
        · go_enter Try.func62, Try.ntmps62
          go_wp2
          go_ret2
          exact ⟨by simp [normRaw, Cd.v, c3], below_alloc (Below.refl _ _) _⟩
        · have c3b : decide (b < a) = false := decide_eq_false c3
          go_enter Try.func62, Try.ntmps62
          go_wp2_with (go_at_call 113; refine (impl_normalRange.does _ _ _).mono ?_; rintro e w' ⟨rfl, rfl⟩)
          go_ret2
          have c3n : ¬ b < a := by simpa using c3b
          exact ⟨by simp [normRaw, c3n], below_alloc (Below.refl _ _) _⟩
      · have c2b : (k == 2) = false := beq_eq_false_iff_ne.mpr c2
        go_enter Try.func62, Try.ntmps62
        go_wp2
        go_ret2
        exact ⟨by simp [normRaw, Cd.v, c0, c1, c2], below_alloc (Below.refl _ _) _⟩

end Go.Proofs.Ytdipinclchkhjaa.P

namespace Go.Proofs.Ytdipinclchkhjaa.P
open Go.RowKit Go.Proofs.YtdipinclchkhjaaW.PrintWords Go.Proofs.YtdipinclchkhjaaW.PrintLast Go.Proofs.YtdipinclchkhjaaW.PrintMore
set_option linter.unusedVariables false
set_option linter.unusedSimpArgs false

/-! Rules and their conditions, asked by the library's ContainsFunc. -/
def conOKr (c : S26) : Bool := (normRaw c.f0 c.f1 c.f2).2
def ruleOKr (r : S131) : Bool := decide (r.f0.length = 6) && !(r.f0.any fun c => !conOKr c)
set_option maxHeartbeats 2000000 in
theorem validRule1_does (k a b : Int) (w : World) : Calls Try.prog 131 #[.agg #[.int .i64 k, .int .u64 a, .int .u64 b]] w fun e w' => e = .returned (.bool (!(normRaw k a b).2)) ∧ Below w.heap.size w w' := by
  have HN := Aside0.mk (impl_normal.does k a b)
  obtain ⟨v, hv⟩ : ∃ v, v = (normRaw k a b).1.v := ⟨_, rfl⟩
  obtain ⟨p, hp⟩ : ∃ p, p = (normRaw k a b).2 := ⟨_, rfl⟩
  rw [← hv, ← hp] at HN
  rw [← hp]
  clear hv hp
  go_enter Try.func131, Try.ntmps131
  go_wp2_with (go_at_call 62; refine (HN.out _).mono ?_; rintro e w1 ⟨rfl, hb⟩; have HB := Aside0.mk hb; clear hb)
  go_ret
  exact ⟨rfl, below_call (below_alloc (Below.refl _ _) _) HB.out (by simp)⟩
theorem rdCon_eq (l : List S26) (i : Nat) (h : i < l.length) : rd_T26 l (i : Int) = l[i] := by
  simp [rd_T26, List.getD_eq_getElem?_getD, List.getElem?_eq_getElem h]
theorem rdRule_eq (l : List S131) (i : Nat) (h : i < l.length) : rd_T131 l (i : Int) = l[i] := by
  simp [rd_T131, List.getD_eq_getElem?_getD, List.getElem?_eq_getElem h]
def IdxPost (P : Bool) (w : World) (e : Ending) (w' : World) : Prop := ∃ i : Int, e = .returned (.int .i64 i) ∧ (0 ≤ i ↔ P = true) ∧ Below w.heap.size w w'
set_option maxHeartbeats 4000000 in
set_option maxRecDepth 100000 in
theorem indexCon_does (A : Option Addr) (c : Nat) (l : List S26) (w : World) (hr : Kd.C k26 w A l.length l) (hl : l.length ≤ 140737488355328) :
    Calls Try.prog 150 #[.slice A l.length c, .func (.func 131) #[] #[]] w (IdxPost (l.any fun c => !conOKr c) w) := by
  have HR := Aside0.mk hr
  have HL := Aside0.mk hl
  have HB0 := Aside0.mk (Below.refl w.heap.size w)
  have H0 := Aside0.mk (show ∀ j (h : j < l.length), j < 0 → conOKr l[j] = true from fun j h h0 => absurd h0 (Nat.not_lt_zero _))
  clear hr hl
  go_enter Try.func150, Try.ntmps150
  go_wp2
  go_loopg [8] l.length (fun kq v8 w' => ∃ i : Nat, v8 = .int .i64 (i : Int) ∧ Aside0 (kq + i = l.length) ∧ Aside0 (∀ j (h : j < l.length), j < i → conOKr l[j] = true) ∧ Aside0 (Below w.heap.size w w'))
  case atStart => exact ⟨0, rfl, ⟨rfl⟩, H0, HB0⟩
  case round =>
    clear H0 HB0
    obtain ⟨i, rfl, HI, HA, HB⟩ := hrel
    by_cases hi : i < l.length
    · obtain ⟨k1, rfl⟩ : ∃ m, gk = m + 1 := ⟨gk - 1, by have := HI.out; omega⟩
      obtain ⟨ad, rfl, g0, g1, g2⟩ := at_T26 HR.out (i : Int) (by omega) (by omega)
      simp only [Int.toNat_natCast] at g0 g1 g2
      replace g0 := (HB.out.cell (World.block_lt_of_cell? w _ g0)).trans g0
      replace g1 := (HB.out.cell (World.block_lt_of_cell? w _ g1)).trans g1
      replace g2 := (HB.out.cell (World.block_lt_of_cell? w _ g2)).trans g2
      have hib : decide ((i : Int) < (l.length : Int)) = true := decide_eq_true (by omega)
      have hlm : l.length ≤ 140737488355328 := HL.out
      have he := rdCon_eq l i hi
      have hv := validRule1_does (rd_T26 l i).f0 (rd_T26 l i).f1 (rd_T26 l i).f2
      obtain ⟨b, hb⟩ : ∃ b, b = conOKr (rd_T26 l i) := ⟨_, rfl⟩
      have hb2 : (normRaw (rd_T26 l i).f0 (rd_T26 l i).f1 (rd_T26 l i).f2).2 = b := hb.symm
      rw [hb2] at hv
      have HV := Aside0.mk hv
      have HBB := Aside0.mk hb
      clear hv hb hb2
      have HE := Aside0.mk he
      have HII := Aside0.mk hi
      have hibn : decide (i < l.length) = true := decide_eq_true hi
      clear he
      cases b with
      | false =>
        go_wp2_with (go_at_call 131; refine (HV.out _ ).mono ?_; clear HV; rintro e w2 ⟨rfl, hb2⟩; have HB2 := Aside0.mk hb2; clear hb2)
        go_ret
        exact ⟨(i : Int), rfl, ⟨fun _ => List.any_eq_true.2 ⟨l[i]'HII.out, List.getElem_mem _, by rw [← HE.out, ← HBB.out]; rfl⟩, fun _ => Int.natCast_nonneg _⟩, below_call HB.out HB2.out HB.out.size⟩
      | true =>
        go_wp2_with (go_at_call 131; refine (HV.out _ ).mono ?_; clear HV; rintro e w2 ⟨rfl, hb2⟩; have HB2 := Aside0.mk hb2; clear hb2)
        have HA2 := Aside0.mk (show ∀ j (h : j < l.length), j < i + 1 → conOKr l[j] = true from fun j h hj => by
          by_cases hji : j = i
          · subst hji; rw [← HE.out, ← HBB.out]
          · exact HA.out j h (by omega))
        have HI2 := Aside0.mk (show k1 + (i + 1) = l.length by have := HI.out; omega)
        have HB3 := Aside0.mk (below_call HB.out HB2.out HB.out.size)
        go_roundg k1
        case measure => omega
        case rel => exact ⟨i + 1, by first | rfl | (simp; done) | (simp [*]; done), HI2, HA2, HB3⟩
    · have hie : i = l.length := by have := HI.out; omega
      have HA3 := Aside0.mk (show (l.any fun c => !conOKr c) = false from by
        rw [List.any_eq_false]
        intro x hx
        obtain ⟨j, hj, rfl⟩ := List.mem_iff_getElem.1 hx
        rw [HA.out j hj (by omega)]
        decide)
      have hib : decide ((i : Int) < (l.length : Int)) = false := decide_eq_false (by omega)
      have hibn : decide (i < l.length) = false := decide_eq_false (by omega)
      clear hie hi HA HI
      go_wp2
      go_ret
      exact ⟨-1, rfl, ⟨fun h => absurd h (by decide), fun h => by rw [HA3.out] at h; exact absurd h (by decide)⟩, HB.out⟩
set_option maxHeartbeats 4000000 in
theorem containsCon_does (A : Option Addr) (c : Nat) (l : List S26) (w : World) (hr : Kd.C k26 w A l.length l) (hl : l.length ≤ 140737488355328) :
    Calls Try.prog 130 #[.slice A l.length c, .func (.func 131) #[] #[]] w fun e w' => e = .returned (.bool (l.any fun c => !conOKr c)) ∧ Below w.heap.size w w' := by
  have HC := Aside0.mk (indexCon_does A c l w hr hl)
  obtain ⟨p, hp⟩ : ∃ p, p = (l.any fun c => !conOKr c) := ⟨_, rfl⟩
  rw [← hp] at HC
  rw [← hp]
  clear hp hr hl
  go_enter Try.func130, Try.ntmps130
  go_wp2_with (go_at_call 150; refine HC.out.mono ?_; clear HC; rintro e w1 ⟨i, rfl, hi, hb⟩; have HI := Aside0.mk hi; have HB := Aside0.mk hb; clear hi hb)
  go_ret
  have hp3 : decide (0 ≤ i) = p := by rw [Bool.eq_iff_iff, decide_eq_true_eq]; exact HI.out
  exact ⟨congrArg (fun b => Ending.returned (.bool b)) hp3, HB.out⟩
set_option maxHeartbeats 4000000 in
theorem validRule_does (A : Option Addr) (c : Nat) (l : List S26) (w : World) (hr : Kd.C k26 w A l.length l) (hl : l.length ≤ 140737488355328) :
    Calls Try.prog 96 #[.agg #[.slice A l.length c]] w fun e w' => e = .returned (.bool (decide (l.length = 6) && !(l.any fun c => !conOKr c))) ∧ Below w.heap.size w w' := by
  have HC := Aside0.mk (fun W h => containsCon_does A c l W h hl)
  obtain ⟨p, hp⟩ : ∃ p, p = (l.any fun c => !conOKr c) := ⟨_, rfl⟩
  rw [← hp] at HC
  rw [← hp]
  have HR := Aside0.mk hr
  clear hp hr
  by_cases h6 : l.length = 6
  · have h6b : ((l.length : Int) == 6) = true := by rw [beq_iff_eq]; omega
    rw [decide_eq_true h6, Bool.true_and]
    clear h6 hl
    go_enter Try.func96, Try.ntmps96
    go_wp2_with (go_at_call 130; refine (HC.out _ (Kd.C_below HR.out (below_alloc (Below.refl _ _) _))).mono ?_; clear HC; rintro e w1 ⟨rfl, hb⟩; have HB := Aside0.mk hb; clear hb)
    go_ret
    exact ⟨rfl, below_call (below_alloc (Below.refl _ _) _) HB.out (by simp)⟩
  · have h6b : ((l.length : Int) == 6) = false := by rw [beq_eq_false_iff_ne]; omega
    rw [decide_eq_false h6, Bool.false_and]
    clear h6 hl HC
    go_enter Try.func96, Try.ntmps96
    go_wp2
    go_ret
    exact ⟨rfl, below_alloc (Below.refl _ _) _⟩
set_option maxHeartbeats 4000000 in
theorem validPolicy1_does (A : Option Addr) (c : Nat) (l : List S26) (w : World) (hr : Kd.C k26 w A l.length l) (hl : l.length ≤ 140737488355328) :
    Calls Try.prog 95 #[.agg #[.slice A l.length c]] w fun e w' => e = .returned (.bool (!ruleOKr ⟨l⟩)) ∧ Below w.heap.size w w' := by
  have HC := Aside0.mk (fun W h => validRule_does A c l W h hl)
  obtain ⟨p, hp⟩ : ∃ p, p = (decide (l.length = 6) && !(l.any fun c => !conOKr c)) := ⟨_, rfl⟩
  rw [← hp] at HC
  have hp2 : ruleOKr ⟨l⟩ = p := hp.symm
  rw [hp2]
  have HR := Aside0.mk hr
  clear hp hp2 hr hl
  go_enter Try.func95, Try.ntmps95
  go_wp2_with (go_at_call 96; refine (HC.out _ (Kd.C_below HR.out (below_alloc (Below.refl _ _) _))).mono ?_; clear HC; rintro e w1 ⟨rfl, hb⟩; have HB := Aside0.mk hb; clear hb)
  go_ret
  exact ⟨rfl, below_call (below_alloc (Below.refl _ _) _) HB.out (by simp)⟩
set_option maxHeartbeats 4000000 in
set_option maxRecDepth 100000 in
theorem indexRule_does (A : Option Addr) (c : Nat) (l : List S131) (w : World) (hr : Kd.C k131 w A l.length l) (hl : l.length ≤ 140737488355328) (hm : ∀ x ∈ l, x.f0.length ≤ 140737488355328) :
    Calls Try.prog 129 #[.slice A l.length c, .func (.func 95) #[] #[]] w (IdxPost (l.any fun c => !ruleOKr c) w) := by
  have HR := Aside0.mk hr
  have HL := Aside0.mk hl
  have HM := Aside0.mk hm
  have HB0 := Aside0.mk (Below.refl w.heap.size w)
  have H0 := Aside0.mk (show ∀ j (h : j < l.length), j < 0 → ruleOKr l[j] = true from fun j h h0 => absurd h0 (Nat.not_lt_zero _))
  clear hr hl hm
  go_enter Try.func129, Try.ntmps129
  go_wp2
  go_loopg [8] l.length (fun kq v8 w' => ∃ i : Nat, v8 = .int .i64 (i : Int) ∧ Aside0 (kq + i = l.length) ∧ Aside0 (∀ j (h : j < l.length), j < i → ruleOKr l[j] = true) ∧ Aside0 (Below w.heap.size w w'))
  case atStart => exact ⟨0, rfl, ⟨rfl⟩, H0, HB0⟩
  case round =>
    clear H0 HB0
    obtain ⟨i, rfl, HI, HA, HB⟩ := hrel
    by_cases hi : i < l.length
    · obtain ⟨k1, rfl⟩ : ∃ m, gk = m + 1 := ⟨gk - 1, by have := HI.out; omega⟩
      obtain ⟨ad, A1, c1, rfl, g0, g1, g2⟩ := at_T131 HR.out (i : Int) (by omega) (by omega)
      simp only [Int.toNat_natCast] at g0
      replace g0 := (HB.out.cell (World.block_lt_of_cell? w _ g0)).trans g0
      have HG2 := Aside0.mk g2
      clear g1 g2
      have hib : decide ((i : Int) < (l.length : Int)) = true := decide_eq_true (by omega)
      have hlm : l.length ≤ 140737488355328 := HL.out
      have he := rdRule_eq l i hi
      have hle : (rd_T131 l i).f0.length ≤ 140737488355328 := HM.out _ (by rw [he]; exact List.getElem_mem _)
      have hv := fun W h => validPolicy1_does A1 c1 (rd_T131 l i).f0 W h hle
      obtain ⟨b, hb⟩ : ∃ b, b = ruleOKr (rd_T131 l i) := ⟨_, rfl⟩
      have hb2 : ruleOKr ⟨(rd_T131 l i).f0⟩ = b := hb.symm
      rw [hb2] at hv
      have HV := Aside0.mk hv
      have HBB := Aside0.mk hb
      clear hv hb hb2 hle
      have HE := Aside0.mk he
      have HII := Aside0.mk hi
      have hibn : decide (i < l.length) = true := decide_eq_true hi
      clear he
      cases b with
      | false =>
        go_wp2_with (go_at_call 95; refine (HV.out _ (Kd.C_below HG2.out HB.out)).mono ?_; clear HV; rintro e w2 ⟨rfl, hb2⟩; have HB2 := Aside0.mk hb2; clear hb2)
        go_ret
        exact ⟨(i : Int), rfl, ⟨fun _ => List.any_eq_true.2 ⟨l[i]'HII.out, List.getElem_mem _, by rw [← HE.out, ← HBB.out]; rfl⟩, fun _ => Int.natCast_nonneg _⟩, below_call HB.out HB2.out HB.out.size⟩
      | true =>
        go_wp2_with (go_at_call 95; refine (HV.out _ (Kd.C_below HG2.out HB.out)).mono ?_; clear HV; rintro e w2 ⟨rfl, hb2⟩; have HB2 := Aside0.mk hb2; clear hb2)
        have HA2 := Aside0.mk (show ∀ j (h : j < l.length), j < i + 1 → ruleOKr l[j] = true from fun j h hj => by
          by_cases hji : j = i
          · subst hji; rw [← HE.out, ← HBB.out]
          · exact HA.out j h (by omega))
        have HI2 := Aside0.mk (show k1 + (i + 1) = l.length by have := HI.out; omega)
        have HB3 := Aside0.mk (below_call HB.out HB2.out HB.out.size)
        go_roundg k1
        case measure => omega
        case rel => exact ⟨i + 1, by first | rfl | (simp; done) | (simp [*]; done), HI2, HA2, HB3⟩
    · have hie : i = l.length := by have := HI.out; omega
      have HA3 := Aside0.mk (show (l.any fun c => !ruleOKr c) = false from by
        rw [List.any_eq_false]
        intro x hx
        obtain ⟨j, hj, rfl⟩ := List.mem_iff_getElem.1 hx
        rw [HA.out j hj (by omega)]
        decide)
      have hib : decide ((i : Int) < (l.length : Int)) = false := decide_eq_false (by omega)
      have hibn : decide (i < l.length) = false := decide_eq_false (by omega)
      clear hie hi HA HI
      go_wp2
      go_ret
      exact ⟨-1, rfl, ⟨fun h => absurd h (by decide), fun h => by rw [HA3.out] at h; exact absurd h (by decide)⟩, HB.out⟩
set_option maxHeartbeats 4000000 in
theorem containsRule_does (A : Option Addr) (c : Nat) (l : List S131) (w : World) (hr : Kd.C k131 w A l.length l) (hl : l.length ≤ 140737488355328) (hm : ∀ x ∈ l, x.f0.length ≤ 140737488355328) :
    Calls Try.prog 94 #[.slice A l.length c, .func (.func 95) #[] #[]] w fun e w' => e = .returned (.bool (l.any fun c => !ruleOKr c)) ∧ Below w.heap.size w w' := by
  have HC := Aside0.mk (indexRule_does A c l w hr hl hm)
  obtain ⟨p, hp⟩ : ∃ p, p = (l.any fun c => !ruleOKr c) := ⟨_, rfl⟩
  rw [← hp] at HC
  rw [← hp]
  clear hp hr hl hm
  go_enter Try.func94, Try.ntmps94
  go_wp2_with (go_at_call 129; refine HC.out.mono ?_; clear HC; rintro e w1 ⟨i, rfl, hi, hb⟩; have HI := Aside0.mk hi; have HB := Aside0.mk hb; clear hi hb)
  go_ret
  have hp3 : decide (0 ≤ i) = p := by rw [Bool.eq_iff_iff, decide_eq_true_eq]; exact HI.out
  exact ⟨congrArg (fun b => Ending.returned (.bool b)) hp3, HB.out⟩

end Go.Proofs.Ytdipinclchkhjaa.P
