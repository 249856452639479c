import Derived.Test.YtdipinclchkhjaaGFnExactCover1
import Derived.Test.YtdipinclchkhjaaGFnExactCover12
import Derived.Test.YtdipinclchkhjaaGFnExactCover4
import Derived.Test.YtdipinclchkhjaaGFnExactCover5
namespace Go.Proofs.Ytdipinclchkhjaa.P
open Go.RowKit Go.Proofs.YtdipinclchkhjaaW.PrintWords Go.Proofs.YtdipinclchkhjaaW.PrintLast Go.Proofs.YtdipinclchkhjaaW.PrintMore
attribute [local go_sem] max2_int min2_int max_two min_two max_three min_three max_four min_four   -- for this text's walks alone
set_option linter.unusedVariables false
set_option linter.unusedSimpArgs false

/-! ### spec_l3conOK: function 60 -/
def spec_l3conOK.f (a0_0 : Int) (a0_1 : Int) (a0_2 : Int) : Option (Bool) := if a0_0 = 0 then (if a0_1 = 0 then (some (a0_2 == 0)) else (some false)) else (if a0_0 = 1 then (some ((Go.bits .or .u64 a0_1 a0_2) == a0_1)) else (if a0_0 = 2 then (some (decide (a0_1 ≤ a0_2))) else (some false)))
set_option maxHeartbeats 8000000 in
set_option maxRecDepth 100000 in
theorem spec_l3conOK.calls (a0_0 : Int) (a0_1 : Int) (a0_2 : Int) (r : Bool) (w : World) (h : spec_l3conOK.f a0_0 a0_1 a0_2 = some r) :
    Calls Try.prog 60 #[.agg #[.int .i64 a0_0, .int .u64 a0_1, .int .u64 a0_2]] w fun e w' => e = .returned (.bool r) ∧ Below w.heap.size w w' := by
  have hu26 := Try.underlying26
  have HB := Aside0.mk (Below.refl w.heap.size w)
  have H : (if a0_0 = 0 then (if a0_1 = 0 then (some (a0_2 == 0)) else (some false)) else (if a0_0 = 1 then (some ((Go.bits .or .u64 a0_1 a0_2) == a0_1)) else (if a0_0 = 2 then (some (decide (a0_1 ≤ a0_2))) else (some false)))) = some r := h
  clear h
  by_cases c2 : a0_0 = 0
  · rw [if_pos c2] at H
    have c2b0 : (a0_0 == 0) = true := beq_iff_eq.mpr c2
    have c2b1 : (a0_0 != 0) = false := bne_eq_false_iff_eq.mpr c2
    clear c2
    by_cases c3 : a0_1 = 0
    · rw [if_pos c3] at H
      have c3b0 : (a0_1 == 0) = true := beq_iff_eq.mpr c3
      have c3b1 : (a0_1 != 0) = false := bne_eq_false_iff_eq.mpr c3
      clear c3
      obtain rfl := Option.some.inj H
      go_enter Try.func60, Try.ntmps60
      go_wp2_with (first | ((with_reducible refine gate_dst (N := 1) rfl ?_); refine box_event ?hg (N := 1) ?hd (cs := #[.int .i64 a0_0, .int .u64 a0_1, .int .u64 a0_2]) (t := 26) ?hr ?_; (case hd => rfl); (case hg => rfl); (case hr => first | (go_simp; done) | (go_simp; rfl)); intro gb101 hg w4 hbox hb; have n0_ := Aside0.mk (below_step (by repeat (first | (with_reducible first | exact HB.out | apply below_alloc | apply pw_below_drewN | apply below_drew1) | exact HB.out)) hb); have n1_ := Aside0.mk (hbox); have n2_ := Aside0.mk ((by rw [hg]; exact (below_size (by repeat (first | (with_reducible first | exact HB.out | apply below_alloc | apply pw_below_drewN | apply below_drew1) | exact HB.out))) : w.heap.size ≤ gb101)); have n3_ := Aside0.mk ((by rw [hg]; exact (below_size (by repeat (first | (with_reducible first | exact HB.out | apply below_alloc | apply pw_below_drewN | apply below_drew1) | exact HB.out))) : w.heap.size ≤ gb101)); clear HB; have HB := n0_; have BK101 := n1_; have GW101 := n2_; have GE101 := n3_; clear n0_ n1_ n2_ n3_; clear hb hbox hg; have hcz5_0 : w4.cell? ⟨gb101, 0, none⟩ = some (.int .i64 a0_0) := (blk_cell BK101.out 0).trans rfl; have hcz5_1 : w4.cell? ⟨gb101, 1, none⟩ = some (.int .u64 a0_1) := (blk_cell BK101.out 1).trans rfl; have hcz5_2 : w4.cell? ⟨gb101, 2, none⟩ = some (.int .u64 a0_2) := (blk_cell BK101.out 2).trans rfl; have hfz5_0 := blk_frozen BK101.out 0; have hfz5_1 := blk_frozen BK101.out 1; have hfz5_2 := blk_frozen BK101.out 2))
      go_ret
      exact ⟨by first | rfl | (simp [errW_none, errW_some] <;> rfl) | (simp [*, errW_none, errW_some] <;> rfl), by repeat (first | (with_reducible first | exact HB.out | apply below_alloc | apply pw_below_drewN | apply below_drew1 | refine below_set ?_ GE101.out) | exact HB.out)⟩
    · rw [if_neg c3] at H
      have c3b0 : (a0_1 == 0) = false := beq_eq_false_iff_ne.mpr c3
      have c3b1 : (a0_1 != 0) = true := bne_iff_ne.mpr c3
      obtain rfl := Option.some.inj H
      go_enter Try.func60, Try.ntmps60
      go_wp2_with (first | ((with_reducible refine gate_dst (N := 1) rfl ?_); refine box_event ?hg (N := 1) ?hd (cs := #[.int .i64 a0_0, .int .u64 a0_1, .int .u64 a0_2]) (t := 26) ?hr ?_; (case hd => rfl); (case hg => rfl); (case hr => first | (go_simp; done) | (go_simp; rfl)); intro gb101 hg w6 hbox hb; have n0_ := Aside0.mk (below_step (by repeat (first | (with_reducible first | exact HB.out | apply below_alloc | apply pw_below_drewN | apply below_drew1) | exact HB.out)) hb); have n1_ := Aside0.mk (hbox); have n2_ := Aside0.mk ((by rw [hg]; exact (below_size (by repeat (first | (with_reducible first | exact HB.out | apply below_alloc | apply pw_below_drewN | apply below_drew1) | exact HB.out))) : w.heap.size ≤ gb101)); have n3_ := Aside0.mk ((by rw [hg]; exact (below_size (by repeat (first | (with_reducible first | exact HB.out | apply below_alloc | apply pw_below_drewN | apply below_drew1) | exact HB.out))) : w.heap.size ≤ gb101)); clear HB; have HB := n0_; have BK101 := n1_; have GW101 := n2_; have GE101 := n3_; clear n0_ n1_ n2_ n3_; clear hb hbox hg; have hcz7_0 : w6.cell? ⟨gb101, 0, none⟩ = some (.int .i64 a0_0) := (blk_cell BK101.out 0).trans rfl; have hcz7_1 : w6.cell? ⟨gb101, 1, none⟩ = some (.int .u64 a0_1) := (blk_cell BK101.out 1).trans rfl; have hcz7_2 : w6.cell? ⟨gb101, 2, none⟩ = some (.int .u64 a0_2) := (blk_cell BK101.out 2).trans rfl; have hfz7_0 := blk_frozen BK101.out 0; have hfz7_1 := blk_frozen BK101.out 1; have hfz7_2 := blk_frozen BK101.out 2))
      go_ret
      exact ⟨by first | rfl | (simp [errW_none, errW_some] <;> rfl) | (simp [*, errW_none, errW_some] <;> rfl), by repeat (first | (with_reducible first | exact HB.out | apply below_alloc | apply pw_below_drewN | apply below_drew1 | refine below_set ?_ GE101.out) | exact HB.out)⟩
  · rw [if_neg c2] at H
    have c2b0 : (a0_0 == 0) = false := beq_eq_false_iff_ne.mpr c2
    have c2b1 : (a0_0 != 0) = true := bne_iff_ne.mpr c2
    by_cases c8 : a0_0 = 1
    · rw [if_pos c8] at H
      have c8b0 : (a0_0 == 1) = true := beq_iff_eq.mpr c8
      have c8b1 : (a0_0 != 1) = false := bne_eq_false_iff_eq.mpr c8
      clear c8
      obtain rfl := Option.some.inj H
      go_enter Try.func60, Try.ntmps60
      go_wp2_with (first | ((with_reducible refine gate_dst (N := 1) rfl ?_); refine box_event ?hg (N := 1) ?hd (cs := #[.int .i64 a0_0, .int .u64 a0_1, .int .u64 a0_2]) (t := 26) ?hr ?_; (case hd => rfl); (case hg => rfl); (case hr => first | (go_simp; done) | (go_simp; rfl)); intro gb101 hg w9 hbox hb; have n0_ := Aside0.mk (below_step (by repeat (first | (with_reducible first | exact HB.out | apply below_alloc | apply pw_below_drewN | apply below_drew1) | exact HB.out)) hb); have n1_ := Aside0.mk (hbox); have n2_ := Aside0.mk ((by rw [hg]; exact (below_size (by repeat (first | (with_reducible first | exact HB.out | apply below_alloc | apply pw_below_drewN | apply below_drew1) | exact HB.out))) : w.heap.size ≤ gb101)); have n3_ := Aside0.mk ((by rw [hg]; exact (below_size (by repeat (first | (with_reducible first | exact HB.out | apply below_alloc | apply pw_below_drewN | apply below_drew1) | exact HB.out))) : w.heap.size ≤ gb101)); clear HB; have HB := n0_; have BK101 := n1_; have GW101 := n2_; have GE101 := n3_; clear n0_ n1_ n2_ n3_; clear hb hbox hg; have hcz10_0 : w9.cell? ⟨gb101, 0, none⟩ = some (.int .i64 a0_0) := (blk_cell BK101.out 0).trans rfl; have hcz10_1 : w9.cell? ⟨gb101, 1, none⟩ = some (.int .u64 a0_1) := (blk_cell BK101.out 1).trans rfl; have hcz10_2 : w9.cell? ⟨gb101, 2, none⟩ = some (.int .u64 a0_2) := (blk_cell BK101.out 2).trans rfl; have hfz10_0 := blk_frozen BK101.out 0; have hfz10_1 := blk_frozen BK101.out 1; have hfz10_2 := blk_frozen BK101.out 2))
      go_ret
      exact ⟨by first | rfl | (simp [errW_none, errW_some] <;> rfl) | (simp [*, errW_none, errW_some] <;> rfl), by repeat (first | (with_reducible first | exact HB.out | apply below_alloc | apply pw_below_drewN | apply below_drew1 | refine below_set ?_ GE101.out) | exact HB.out)⟩
    · rw [if_neg c8] at H
      have c8b0 : (a0_0 == 1) = false := beq_eq_false_iff_ne.mpr c8
      have c8b1 : (a0_0 != 1) = true := bne_iff_ne.mpr c8
      by_cases c11 : a0_0 = 2
      · rw [if_pos c11] at H
        have c11b0 : (a0_0 == 2) = true := beq_iff_eq.mpr c11
        have c11b1 : (a0_0 != 2) = false := bne_eq_false_iff_eq.mpr c11
        clear c11
        obtain rfl := Option.some.inj H
        go_enter Try.func60, Try.ntmps60
        go_wp2_with (first | ((with_reducible refine gate_dst (N := 1) rfl ?_); refine box_event ?hg (N := 1) ?hd (cs := #[.int .i64 a0_0, .int .u64 a0_1, .int .u64 a0_2]) (t := 26) ?hr ?_; (case hd => rfl); (case hg => rfl); (case hr => first | (go_simp; done) | (go_simp; rfl)); intro gb101 hg w12 hbox hb; have n0_ := Aside0.mk (below_step (by repeat (first | (with_reducible first | exact HB.out | apply below_alloc | apply pw_below_drewN | apply below_drew1) | exact HB.out)) hb); have n1_ := Aside0.mk (hbox); have n2_ := Aside0.mk ((by rw [hg]; exact (below_size (by repeat (first | (with_reducible first | exact HB.out | apply below_alloc | apply pw_below_drewN | apply below_drew1) | exact HB.out))) : w.heap.size ≤ gb101)); have n3_ := Aside0.mk ((by rw [hg]; exact (below_size (by repeat (first | (with_reducible first | exact HB.out | apply below_alloc | apply pw_below_drewN | apply below_drew1) | exact HB.out))) : w.heap.size ≤ gb101)); clear HB; have HB := n0_; have BK101 := n1_; have GW101 := n2_; have GE101 := n3_; clear n0_ n1_ n2_ n3_; clear hb hbox hg; have hcz13_0 : w12.cell? ⟨gb101, 0, none⟩ = some (.int .i64 a0_0) := (blk_cell BK101.out 0).trans rfl; have hcz13_1 : w12.cell? ⟨gb101, 1, none⟩ = some (.int .u64 a0_1) := (blk_cell BK101.out 1).trans rfl; have hcz13_2 : w12.cell? ⟨gb101, 2, none⟩ = some (.int .u64 a0_2) := (blk_cell BK101.out 2).trans rfl; have hfz13_0 := blk_frozen BK101.out 0; have hfz13_1 := blk_frozen BK101.out 1; have hfz13_2 := blk_frozen BK101.out 2))
        go_ret
        exact ⟨by first | rfl | (simp [errW_none, errW_some] <;> rfl) | (simp [*, errW_none, errW_some] <;> rfl), by repeat (first | (with_reducible first | exact HB.out | apply below_alloc | apply pw_below_drewN | apply below_drew1 | refine below_set ?_ GE101.out) | exact HB.out)⟩
      · rw [if_neg c11] at H
        have c11b0 : (a0_0 == 2) = false := beq_eq_false_iff_ne.mpr c11
        have c11b1 : (a0_0 != 2) = true := bne_iff_ne.mpr c11
        obtain rfl := Option.some.inj H
        go_enter Try.func60, Try.ntmps60
        go_wp2_with (first | ((with_reducible refine gate_dst (N := 1) rfl ?_); refine box_event ?hg (N := 1) ?hd (cs := #[.int .i64 a0_0, .int .u64 a0_1, .int .u64 a0_2]) (t := 26) ?hr ?_; (case hd => rfl); (case hg => rfl); (case hr => first | (go_simp; done) | (go_simp; rfl)); intro gb101 hg w14 hbox hb; have n0_ := Aside0.mk (below_step (by repeat (first | (with_reducible first | exact HB.out | apply below_alloc | apply pw_below_drewN | apply below_drew1) | exact HB.out)) hb); have n1_ := Aside0.mk (hbox); have n2_ := Aside0.mk ((by rw [hg]; exact (below_size (by repeat (first | (with_reducible first | exact HB.out | apply below_alloc | apply pw_below_drewN | apply below_drew1) | exact HB.out))) : w.heap.size ≤ gb101)); have n3_ := Aside0.mk ((by rw [hg]; exact (below_size (by repeat (first | (with_reducible first | exact HB.out | apply below_alloc | apply pw_below_drewN | apply below_drew1) | exact HB.out))) : w.heap.size ≤ gb101)); clear HB; have HB := n0_; have BK101 := n1_; have GW101 := n2_; have GE101 := n3_; clear n0_ n1_ n2_ n3_; clear hb hbox hg; have hcz15_0 : w14.cell? ⟨gb101, 0, none⟩ = some (.int .i64 a0_0) := (blk_cell BK101.out 0).trans rfl; have hcz15_1 : w14.cell? ⟨gb101, 1, none⟩ = some (.int .u64 a0_1) := (blk_cell BK101.out 1).trans rfl; have hcz15_2 : w14.cell? ⟨gb101, 2, none⟩ = some (.int .u64 a0_2) := (blk_cell BK101.out 2).trans rfl; have hfz15_0 := blk_frozen BK101.out 0; have hfz15_1 := blk_frozen BK101.out 1; have hfz15_2 := blk_frozen BK101.out 2))
        go_ret
        exact ⟨by first | rfl | (simp [errW_none, errW_some] <;> rfl) | (simp [*, errW_none, errW_some] <;> rfl), by repeat (first | (with_reducible first | exact HB.out | apply below_alloc | apply pw_below_drewN | apply below_drew1 | refine below_set ?_ GE101.out) | exact HB.out)⟩

end Go.Proofs.Ytdipinclchkhjaa.P

namespace Go.Proofs.Ytdipinclchkhjaa.P
open Go.RowKit Go.Proofs.YtdipinclchkhjaaW.PrintWords Go.Proofs.YtdipinclchkhjaaW.PrintLast Go.Proofs.YtdipinclchkhjaaW.PrintMore
set_option linter.unusedVariables false
set_option linter.unusedSimpArgs false
theorem l3low_is (k : Nat) (hk : k ≤ 64) : spec_l3low.f (k : Int) = some ((2 ^ k - 1 : Nat) : Int) := by
  unfold spec_l3low.f
  by_cases e : k = 64
  · subst e
    rw [if_pos (by decide), show (2 : Nat) ^ 64 - 1 = 18446744073709551615 by decide]
    rfl
  · have hp := two_pow_lt k (by omega)
    have hw : IntKind.u64.wrap (k : Int) = (k : Int) := wrap_u64_id (by omega) (by omega)
    rw [if_neg (by omega), hw, if_pos (by omega)]
    have hs : shl .u64 1 (k : Int) = ((2 ^ k : Nat) : Int) := by
      unfold shl
      have : min (k : Int).toNat IntKind.u64.bits = k := by simp [IntKind.bits]; omega
      rw [this, Int.one_mul]
      have e : ((2 : Int) ^ k) = ((2 ^ k : Nat) : Int) := by simp
      rw [e, wrap_u64_id (by omega) (by omega)]
    rw [hs, wrap_u64_id (by omega) (by omega)]
    congr 1
    omega
/-- The one block that a mask's set is, or none. -/
theorem l3block_mask (a b : Nat) (ha : a < 18446744073709551616) :
    (∃ k, k ≤ 64 ∧ a = 18446744073709551615 - (2 ^ k - 1) ∧ Ev (fun n => spec_l3block.f n 1 a b) ((b : Int), IntKind.u64.wrap ((b : Int) + ((2 ^ k - 1 : Nat) : Int)), true)) ∨
    ((∀ k, k ≤ 64 → a ≠ 18446744073709551615 - (2 ^ k - 1)) ∧ Ev (fun n => spec_l3block.f n 1 a b) (0, 0, false)) := by
  have step : ∀ (i : Nat) (r : Int × Int × Bool), i ≤ 64 → a ≠ 18446744073709551615 - (2 ^ i - 1) → Ev (fun n => spec_l3block.l0 n ((i + 1 : Nat) : Int) 1 a b) r → Ev (fun n => spec_l3block.l0 n (i : Int) 1 a b) r := by
    intro i r hi hne hr
    have hp := two_pow_le i hi
    refine ev_step _ (fun k => ?_) hr
    simp only [spec_l3block.l0]
    rw [if_pos (by omega), l3low_is i hi, Option.bind_some, wrap_u64_id (by omega) (by omega), if_neg (by omega), wrap64_id (by omega) (by omega)]
    rfl
  have hit : ∀ (i : Nat), i ≤ 64 → a = 18446744073709551615 - (2 ^ i - 1) → Ev (fun n => spec_l3block.l0 n (i : Int) 1 a b) ((b : Int), IntKind.u64.wrap ((b : Int) + ((2 ^ i - 1 : Nat) : Int)), true) := by
    intro i hi he
    have hp := two_pow_le i hi
    refine ev_end fun k => ?_
    simp only [spec_l3block.l0]
    rw [if_pos (by omega), l3low_is i hi, Option.bind_some, wrap_u64_id (x := 18446744073709551615 - ((2 ^ i - 1 : Nat) : Int)) (by omega) (by omega), if_pos (by omega)]
  have key : ∀ d i : Nat, i + d = 65 →
      (∃ k, i ≤ k ∧ k ≤ 64 ∧ a = 18446744073709551615 - (2 ^ k - 1) ∧ Ev (fun n => spec_l3block.l0 n (i : Int) 1 a b) ((b : Int), IntKind.u64.wrap ((b : Int) + ((2 ^ k - 1 : Nat) : Int)), true)) ∨
      ((∀ k, i ≤ k → k ≤ 64 → a ≠ 18446744073709551615 - (2 ^ k - 1)) ∧ Ev (fun n => spec_l3block.l0 n (i : Int) 1 a b) (0, 0, false)) := by
    intro d
    induction d with
    | zero =>
      intro i hi
      exact .inr ⟨fun k h1 h2 => by omega, ev_end fun k => by simp only [spec_l3block.l0]; rw [if_neg (by omega)]⟩
    | succ d ih =>
      intro i hi
      by_cases he : a = 18446744073709551615 - (2 ^ i - 1)
      · exact .inl ⟨i, Nat.le_refl _, by omega, he, hit i (by omega) he⟩
      · rcases ih (i + 1) (by omega) with ⟨k, h1, h2, h3, h4⟩ | ⟨h1, h2⟩
        · exact .inl ⟨k, by omega, h2, h3, step i _ (by omega) he h4⟩
        · refine .inr ⟨fun k hk1 hk2 => ?_, step i _ (by omega) he h2⟩
          by_cases e : k = i
          · subst e; exact he
          · exact h1 k (by omega) hk2
  have hf : ∀ r, Ev (fun n => spec_l3block.l0 n ((0 : Nat) : Int) 1 a b) r → Ev (fun n => spec_l3block.f n 1 a b) r := fun r hr => Ev.congr (fun k => by unfold spec_l3block.f; rw [if_neg (by decide), if_neg (by decide)]; rfl) hr
  rcases key 65 0 (by omega) with ⟨k, h1, h2, h3, h4⟩ | ⟨h1, h2⟩
  · exact .inl ⟨k, h2, h3, hf _ h4⟩
  · exact .inr ⟨fun k hk => h1 k (by omega) hk, hf _ h2⟩
theorem l3conOK_is (k : Int) (a b : Nat) (ha : a < 18446744073709551616) (hb : b < 18446744073709551616) : spec_l3conOK.f k a b = some (normRaw k a b).2 := by
  unfold spec_l3conOK.f normRaw
  by_cases h0 : k = 0
  · rw [if_pos h0, if_pos h0]
    by_cases h1 : (a : Int) = 0
    · rw [if_pos h1, h1]; rfl
    · rw [if_neg h1, beq_eq_false_iff_ne.mpr h1]; rfl
  · rw [if_neg h0, if_neg h0]
    by_cases h1 : k = 1
    · rw [if_pos h1, if_pos h1, or64 a b ha hb]
      have hs := sub_bits a b ha hb
      by_cases h2 : (a : Int) = 0 ∧ (b : Int) = 0
      · rw [if_pos h2]
        have ea : a = 0 := by omega
        have eb : b = 0 := by omega
        subst ea; subst eb; rfl
      · rw [if_neg h2, andNot64 b a hb ha]
        congr 1
        rw [Bool.eq_iff_iff, beq_iff_eq, beq_iff_eq]
        constructor
        · intro h
          have := hs.2 (by omega)
          omega
        · intro h
          have := hs.1 (by omega)
          omega
    · rw [if_neg h1, if_neg h1]
      by_cases h2 : k = 2
      · rw [if_pos h2, if_pos h2]
        by_cases h3 : (a : Int) > b
        · rw [if_pos h3, decide_eq_false (by omega)]
        · rw [if_neg h3, decide_eq_true (by omega)]
      · rw [if_neg h2, if_neg h2]
end Go.Proofs.Ytdipinclchkhjaa.P

namespace Go.Proofs.Ytdipinclchkhjaa.P
open Go.RowKit Go.Proofs.YtdipinclchkhjaaW.PrintWords Go.Proofs.YtdipinclchkhjaaW.PrintLast Go.Proofs.YtdipinclchkhjaaW.PrintMore
set_option linter.unusedVariables false
set_option linter.unusedSimpArgs false
/-- The reference's search for a block, from 64 down, comes to what the program makes of a range. -/
theorem l3norm_range (a b : Nat) (hab : a ≤ b) (hb : b < 18446744073709551616) : Ev (fun n => spec_l3norm.l0 n a b 64) (nrRaw (a : Int) (b : Int)).con := by
  have hw : IntKind.u64.wrap ((b : Int) - (a : Int)) = ((b - a : Nat) : Int) := by rw [wrap_u64_id (by omega) (by omega)]; omega
  have and_is : ∀ i : Nat, i ≤ 64 → (bits .and .u64 (a : Int) ((2 ^ i - 1 : Nat) : Int) == 0) = decide (a % 2 ^ i = 0) := by
    intro i hi
    have hp := two_pow_le i hi
    rw [and64 _ _ (by omega) (by omega), Nat.and_two_pow_sub_one_eq_mod, Bool.eq_iff_iff, beq_iff_eq, decide_eq_true_eq]
    omega
  have key : ∀ i : Nat, i ≤ 64 → (∀ k, i < k → k ≤ 64 → b - a = 2 ^ k - 1 → a % 2 ^ k ≠ 0) → Ev (fun n => spec_l3norm.l0 n a b (i : Int)) (nrRaw (a : Int) (b : Int)).con := by
    intro i
    induction i with
    | zero =>
      intro hi hno
      have hlast : (∀ k, k ≤ 64 → b - a = 2 ^ k - 1 → a % 2 ^ k ≠ 0) → Ev (fun n => spec_l3norm.l0 n a b (-1)) (nrRaw (a : Int) (b : Int)).con := by
        intro h
        rw [nrRaw_plain a b hab hb h]
        exact ev_end fun k => by simp only [spec_l3norm.l0]; rw [if_neg (by decide)]; rfl
      by_cases h1 : b - a = 2 ^ 0 - 1
      · have h2 : a % 2 ^ 0 = 0 := Nat.mod_one a
        rw [nrRaw_block a b 0 hab hb (by omega) h1 h2]
        refine ev_step (fun n => spec_l3norm.j1 n a b ((0 : Nat) : Int) ((2 ^ 0 - 1 : Nat) : Int) true) (fun k => ?_) (ev_end fun k => ?_)
        · simp only [spec_l3norm.l0]
          rw [if_pos (by omega), l3low_is 0 hi, Option.bind_some, hw, h1, if_pos rfl, and_is 0 hi, h2]
          rfl
        · simp only [spec_l3norm.j1]
          rw [if_pos trivial, if_neg (by omega), if_neg (by omega)]
          rfl
      · refine ev_step (fun n => spec_l3norm.j1 n a b ((0 : Nat) : Int) ((2 ^ 0 - 1 : Nat) : Int) false) (fun k => ?_) (ev_step _ (fun k => ?_) (hlast fun k hk e => ?_))
        · simp only [spec_l3norm.l0]
          rw [if_pos (by omega), l3low_is 0 hi, Option.bind_some, hw, if_neg (by omega)]
        · simp only [spec_l3norm.j1]
          rw [if_neg (by decide), wrap64_id (by omega) (by omega)]
          rfl
        · by_cases e0 : k = 0
          · subst e0; exact absurd e h1
          · exact hno k (by omega) hk e
    | succ i ih =>
      intro hi hno
      have hp := two_pow_le (i + 1) hi
      by_cases h : b - a = 2 ^ (i + 1) - 1 ∧ a % 2 ^ (i + 1) = 0
      · rw [nrRaw_block a b (i + 1) hab hb hi h.1 h.2]
        refine ev_step (fun n => spec_l3norm.j1 n a b ((i + 1 : Nat) : Int) ((2 ^ (i + 1) - 1 : Nat) : Int) true) (fun k => ?_) (ev_end fun k => ?_)
        · simp only [spec_l3norm.l0]
          rw [if_pos (by omega), l3low_is (i + 1) hi, Option.bind_some, hw, h.1, if_pos rfl, and_is (i + 1) hi, h.2]
          rfl
        · simp only [spec_l3norm.j1]
          rw [if_pos trivial]
          by_cases e : i + 1 = 64
          · rw [if_pos (by omega), if_pos e]
          · rw [if_neg (by omega), if_neg e, wrap_u64_id (by omega) (by omega)]
            congr 3
            omega
      · have hd : Ev (fun n => spec_l3norm.j1 n a b ((i + 1 : Nat) : Int) ((2 ^ (i + 1) - 1 : Nat) : Int) false) (nrRaw (a : Int) (b : Int)).con := by
          refine ev_step _ (fun k => ?_) (ih (by omega) fun k hk1 hk2 e => ?_)
          · simp only [spec_l3norm.j1]
            rw [if_neg (by decide), wrap64_id (by omega) (by omega), show ((i + 1 : Nat) : Int) - 1 = (i : Int) by omega]
          · by_cases e0 : k = i + 1
            · subst e0; exact fun h2 => h ⟨e, h2⟩
            · exact hno k (by omega) hk2 e
        by_cases h1 : b - a = 2 ^ (i + 1) - 1
        · have h2 : decide (a % 2 ^ (i + 1) = 0) = false := decide_eq_false fun h2 => h ⟨h1, h2⟩
          refine ev_step _ (fun k => ?_) hd
          simp only [spec_l3norm.l0]
          rw [if_pos (by omega), l3low_is (i + 1) hi, Option.bind_some, hw, h1, if_pos rfl, and_is (i + 1) hi, h2]
        · refine ev_step _ (fun k => ?_) hd
          simp only [spec_l3norm.l0]
          rw [if_pos (by omega), l3low_is (i + 1) hi, Option.bind_some, hw, if_neg (by omega)]
  exact key 64 (Nat.le_refl _) fun k h1 h2 => by omega
/-- The reference's normal condition is the program's, of a valid one. -/
theorem l3norm_ev (k : Int) (a b : Nat) (ha : a < 18446744073709551616) (hb : b < 18446744073709551616) (hok : (normRaw k a b).2 = true) : Ev (fun n => spec_l3norm.f n k a b) (normRaw k a b).1.con := by
  have hblock : ∀ (x y : Nat), x ≤ y → y < 18446744073709551616 → Ev (fun n => spec_l3block.f n k a b) ((x : Int), (y : Int), true) → Ev (fun n => spec_l3norm.f n k a b) (nrRaw (x : Int) (y : Int)).con := by
    intro x y hxy hy h
    have h2 := Ev.bind (f := fun n bt => if bt.2.2 = true then spec_l3norm.l0 n bt.1 bt.2.1 64 else some (k, (a : Int), (b : Int))) h (r := (nrRaw (x : Int) (y : Int)).con) (by
      refine Ev.congr (fun n => ?_) (l3norm_range x y hxy hy)
      rw [if_pos rfl])
    exact h2
  have hokc := hok
  unfold normRaw at hok ⊢
  by_cases h0 : k = 0
  · rw [if_pos h0]
    have h := hblock 0 18446744073709551615 (by omega) (by omega) (ev_is fun n => by unfold spec_l3block.f; rw [if_pos h0]; rfl)
    have e := nrRaw_block 0 18446744073709551615 64 (by omega) (by omega) (by omega) (by decide) (by decide)
    rw [if_pos rfl] at e
    rw [e] at h
    exact h
  · rw [if_neg h0] at hok ⊢
    by_cases h1 : k = 1
    · subst h1
      have hval := l3conOK_is 1 a b ha hb
      rw [hokc] at hval
      have hsub : a ||| b = a := by
        unfold spec_l3conOK.f at hval
        rw [if_neg (by decide), if_pos rfl, or64 a b ha hb] at hval
        have := Option.some.inj hval
        rw [beq_iff_eq] at this
        omega
      rw [if_pos rfl]
      rcases l3block_mask a b ha with ⟨j, hj, he, hev⟩ | ⟨hno, hev⟩
      · have hp := two_pow_le j hj
        have hmod : b % 2 ^ j = 0 := by
          have h3 := (sub_bits a b ha hb).2 hsub
          have e2 : 18446744073709551615 - a = 2 ^ j - 1 := by omega
          rw [e2, Nat.and_two_pow_sub_one_eq_mod] at h3
          exact h3
        have hle : b + (2 ^ j - 1) < 18446744073709551616 := by
          have hb2 : b ≤ a := by rw [← hsub]; exact Nat.right_le_or
          omega
        have hw : IntKind.u64.wrap ((b : Int) + ((2 ^ j - 1 : Nat) : Int)) = ((b + (2 ^ j - 1) : Nat) : Int) := by rw [wrap_u64_id (by omega) (by omega)]; omega
        rw [hw] at hev
        have h := hblock b (b + (2 ^ j - 1)) (by omega) hle hev
        rw [nrRaw_block b _ j (by omega) hle hj (by omega) hmod] at h
        by_cases e64 : j = 64
        · subst e64
          have ea : a = 0 := by rw [he]
          have eb : b = 0 := by
            have hb2 : b ≤ a := by rw [← hsub]; exact Nat.right_le_or
            omega
          rw [if_pos rfl] at h
          rw [if_pos ⟨by omega, by omega⟩]
          exact h
        · have hp2 := two_pow_lt j (by omega)
          rw [if_neg e64, ← he] at h
          rw [if_neg (by omega)]
          exact h
      · have hne : ¬ ((a : Int) = 0 ∧ (b : Int) = 0) := by
          rintro ⟨h2, _⟩
          refine hno 64 (by omega) ?_
          rw [show (18446744073709551615 : Nat) - (2 ^ 64 - 1) = 0 by decide]
          omega
        rw [if_neg hne]
        have h2 := Ev.bind (f := fun n bt => if bt.2.2 = true then spec_l3norm.l0 n bt.1 bt.2.1 64 else some (1, (a : Int), (b : Int))) hev (r := ((1 : Int), (a : Int), (b : Int))) (ev_is fun n => by rw [if_neg (by decide)])
        exact h2
    · rw [if_neg h1] at hok ⊢
      by_cases h2 : k = 2
      · rw [if_pos h2] at hok ⊢
        by_cases h3 : (a : Int) > b
        · rw [if_pos h3] at hok; exact absurd hok (by decide)
        · rw [if_neg h3]
          exact hblock a b (by omega) hb (ev_is fun n => by unfold spec_l3block.f; rw [if_neg h0, if_pos h2])
      · rw [if_neg h2] at hok
        exact absurd hok (by decide)
end Go.Proofs.Ytdipinclchkhjaa.P
