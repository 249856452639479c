import Derived.Test.YtdipinclchkhjaaGFnExactConWithin3
import Derived.Test.YtdipinclchkhjaaGFnExactConWithin7
import Derived.Test.YtdipinclchkhjaaGFnExactConWithin8
import Derived.Test.YtdipinclchkhjaaGFnExactConWithin1
namespace Go.Proofs.Ytdipinclchkhjaa.P
open Go.RowKit Go.Proofs.YtdipinclchkhjaaW.PrintWords Go.Proofs.YtdipinclchkhjaaW.PrintLast Go.Proofs.YtdipinclchkhjaaW.PrintMore
set_option linter.unusedVariables false
set_option linter.unusedSimpArgs false
theorem l3low_is (k : Nat) (hk : k ≤ 64) : spec_l3low.f (k : Int) = some ((2 ^ k - 1 : Nat) : Int) := by
  unfold spec_l3low.f
  by_cases e : k = 64
  · subst e
    rw [if_pos (by decide), show (2 : Nat) ^ 64 - 1 = 18446744073709551615 by decide]
    rfl
  · have hp := two_pow_lt k (by omega)
    have hw : IntKind.u64.wrap (k : Int) = (k : Int) := wrap_u64_id (by omega) (by omega)
    rw [if_neg (by omega), hw, if_pos (by omega)]
    have hs : shl .u64 1 (k : Int) = ((2 ^ k : Nat) : Int) := by
      unfold shl
      have : min (k : Int).toNat IntKind.u64.bits = k := by simp [IntKind.bits]; omega
      rw [this, Int.one_mul]
      have e : ((2 : Int) ^ k) = ((2 ^ k : Nat) : Int) := by simp
      rw [e, wrap_u64_id (by omega) (by omega)]
    rw [hs, wrap_u64_id (by omega) (by omega)]
    congr 1
    omega
/-- The one block that a mask's set is, or none. -/
theorem l3block_mask (a b : Nat) (ha : a < 18446744073709551616) :
    (∃ k, k ≤ 64 ∧ a = 18446744073709551615 - (2 ^ k - 1) ∧ Ev (fun n => spec_l3block.f n 1 a b) ((b : Int), IntKind.u64.wrap ((b : Int) + ((2 ^ k - 1 : Nat) : Int)), true)) ∨
    ((∀ k, k ≤ 64 → a ≠ 18446744073709551615 - (2 ^ k - 1)) ∧ Ev (fun n => spec_l3block.f n 1 a b) (0, 0, false)) := by
  have step : ∀ (i : Nat) (r : Int × Int × Bool), i ≤ 64 → a ≠ 18446744073709551615 - (2 ^ i - 1) → Ev (fun n => spec_l3block.l0 n ((i + 1 : Nat) : Int) 1 a b) r → Ev (fun n => spec_l3block.l0 n (i : Int) 1 a b) r := by
    intro i r hi hne hr
    have hp := two_pow_le i hi
    refine ev_step _ (fun k => ?_) hr
    simp only [spec_l3block.l0]
    rw [if_pos (by omega), l3low_is i hi, Option.bind_some, wrap_u64_id (by omega) (by omega), if_neg (by omega), wrap64_id (by omega) (by omega)]
    rfl
  have hit : ∀ (i : Nat), i ≤ 64 → a = 18446744073709551615 - (2 ^ i - 1) → Ev (fun n => spec_l3block.l0 n (i : Int) 1 a b) ((b : Int), IntKind.u64.wrap ((b : Int) + ((2 ^ i - 1 : Nat) : Int)), true) := by
    intro i hi he
    have hp := two_pow_le i hi
    refine ev_end fun k => ?_
    simp only [spec_l3block.l0]
    rw [if_pos (by omega), l3low_is i hi, Option.bind_some, wrap_u64_id (x := 18446744073709551615 - ((2 ^ i - 1 : Nat) : Int)) (by omega) (by omega), if_pos (by omega)]
  have key : ∀ d i : Nat, i + d = 65 →
      (∃ k, i ≤ k ∧ k ≤ 64 ∧ a = 18446744073709551615 - (2 ^ k - 1) ∧ Ev (fun n => spec_l3block.l0 n (i : Int) 1 a b) ((b : Int), IntKind.u64.wrap ((b : Int) + ((2 ^ k - 1 : Nat) : Int)), true)) ∨
      ((∀ k, i ≤ k → k ≤ 64 → a ≠ 18446744073709551615 - (2 ^ k - 1)) ∧ Ev (fun n => spec_l3block.l0 n (i : Int) 1 a b) (0, 0, false)) := by
    intro d
    induction d with
    | zero =>
      intro i hi
      exact .inr ⟨fun k h1 h2 => by omega, ev_end fun k => by simp only [spec_l3block.l0]; rw [if_neg (by omega)]⟩
    | succ d ih =>
      intro i hi
      by_cases he : a = 18446744073709551615 - (2 ^ i - 1)
      · exact .inl ⟨i, Nat.le_refl _, by omega, he, hit i (by omega) he⟩
      · rcases ih (i + 1) (by omega) with ⟨k, h1, h2, h3, h4⟩ | ⟨h1, h2⟩
        · exact .inl ⟨k, by omega, h2, h3, step i _ (by omega) he h4⟩
        · refine .inr ⟨fun k hk1 hk2 => ?_, step i _ (by omega) he h2⟩
          by_cases e : k = i
          · subst e; exact he
          · exact h1 k (by omega) hk2
  have hf : ∀ r, Ev (fun n => spec_l3block.l0 n ((0 : Nat) : Int) 1 a b) r → Ev (fun n => spec_l3block.f n 1 a b) r := fun r hr => Ev.congr (fun k => by unfold spec_l3block.f; rw [if_neg (by decide), if_neg (by decide)]; rfl) hr
  rcases key 65 0 (by omega) with ⟨k, h1, h2, h3, h4⟩ | ⟨h1, h2⟩
  · exact .inl ⟨k, h2, h3, hf _ h4⟩
  · exact .inr ⟨fun k hk => h1 k (by omega) hk, hf _ h2⟩
theorem l3conOK_is (k : Int) (a b : Nat) (ha : a < 18446744073709551616) (hb : b < 18446744073709551616) : spec_l3conOK.f k a b = some (normRaw k a b).2 := by
  unfold spec_l3conOK.f normRaw
  by_cases h0 : k = 0
  · rw [if_pos h0, if_pos h0]
    by_cases h1 : (a : Int) = 0
    · rw [if_pos h1, h1]; rfl
    · rw [if_neg h1, beq_eq_false_iff_ne.mpr h1]; rfl
  · rw [if_neg h0, if_neg h0]
    by_cases h1 : k = 1
    · rw [if_pos h1, if_pos h1, or64 a b ha hb]
      have hs := sub_bits a b ha hb
      by_cases h2 : (a : Int) = 0 ∧ (b : Int) = 0
      · rw [if_pos h2]
        have ea : a = 0 := by omega
        have eb : b = 0 := by omega
        subst ea; subst eb; rfl
      · rw [if_neg h2, andNot64 b a hb ha]
        congr 1
        rw [Bool.eq_iff_iff, beq_iff_eq, beq_iff_eq]
        constructor
        · intro h
          have := hs.2 (by omega)
          omega
        · intro h
          have := hs.1 (by omega)
          omega
    · rw [if_neg h1, if_neg h1]
      by_cases h2 : k = 2
      · rw [if_pos h2, if_pos h2]
        by_cases h3 : (a : Int) > b
        · rw [if_pos h3, decide_eq_false (by omega)]
        · rw [if_neg h3, decide_eq_true (by omega)]
      · rw [if_neg h2, if_neg h2]
end Go.Proofs.Ytdipinclchkhjaa.P

namespace Go.Proofs.Ytdipinclchkhjaa.P
open Go.RowKit Go.Proofs.YtdipinclchkhjaaW.PrintWords Go.Proofs.YtdipinclchkhjaaW.PrintLast Go.Proofs.YtdipinclchkhjaaW.PrintMore
attribute [local go_sem] max2_int min2_int max_two min_two max_three min_three max_four min_four   -- for this text's walks alone
set_option linter.unusedVariables false
set_option linter.unusedSimpArgs false

/-! ### spec_l3holds: function 143 -/
def spec_l3holds.f (a0_0 : Int) (a0_1 : Int) (a0_2 : Int) (a1 : Int) : Option (Bool) := if a0_0 = 1 then (some ((Go.bits .and .u64 a1 a0_1) == a0_2)) else (if a0_0 = 2 then (if a0_1 ≤ a1 then (some (decide (a1 ≤ a0_2))) else (some false)) else (some true))
set_option maxHeartbeats 8000000 in
set_option maxRecDepth 100000 in
theorem spec_l3holds.calls (a0_0 : Int) (a0_1 : Int) (a0_2 : Int) (a1 : Int) (r : Bool) (w : World) (h : spec_l3holds.f a0_0 a0_1 a0_2 a1 = some r) :
    Calls Try.prog 143 #[.agg #[.int .i64 a0_0, .int .u64 a0_1, .int .u64 a0_2], .int .u64 a1] w fun e w' => e = .returned (.bool r) ∧ Below w.heap.size w w' := by
  have hu26 := Try.underlying26
  have HB := Aside0.mk (Below.refl w.heap.size w)
  have H : (if a0_0 = 1 then (some ((Go.bits .and .u64 a1 a0_1) == a0_2)) else (if a0_0 = 2 then (if a0_1 ≤ a1 then (some (decide (a1 ≤ a0_2))) else (some false)) else (some true))) = some r := h
  clear h
  by_cases c3 : a0_0 = 1
  · rw [if_pos c3] at H
    have c3b0 : (a0_0 == 1) = true := beq_iff_eq.mpr c3
    have c3b1 : (a0_0 != 1) = false := bne_eq_false_iff_eq.mpr c3
    clear c3
    obtain rfl := Option.some.inj H
    go_enter Try.func143, Try.ntmps143
    go_wp2_with (first | ((with_reducible refine gate_dst (N := 2) rfl ?_); refine box_event ?hg (N := 2) ?hd (cs := #[.int .i64 a0_0, .int .u64 a0_1, .int .u64 a0_2]) (t := 26) ?hr ?_; (case hd => rfl); (case hg => rfl); (case hr => first | (go_simp; done) | (go_simp; rfl)); intro gb104 hg w4 hbox hb; have n0_ := Aside0.mk (below_step (by repeat (first | (with_reducible first | exact HB.out | apply below_alloc | apply pw_below_drewN | apply below_drew1) | exact HB.out)) hb); have n1_ := Aside0.mk (hbox); have n2_ := Aside0.mk ((by rw [hg]; exact (below_size (by repeat (first | (with_reducible first | exact HB.out | apply below_alloc | apply pw_below_drewN | apply below_drew1) | exact HB.out))) : w.heap.size ≤ gb104)); have n3_ := Aside0.mk ((by rw [hg]; exact (below_size (by repeat (first | (with_reducible first | exact HB.out | apply below_alloc | apply pw_below_drewN | apply below_drew1) | exact HB.out))) : w.heap.size ≤ gb104)); clear HB; have HB := n0_; have BK104 := n1_; have GW104 := n2_; have GE104 := n3_; clear n0_ n1_ n2_ n3_; clear hb hbox hg; have hcz5_0 : w4.cell? ⟨gb104, 0, none⟩ = some (.int .i64 a0_0) := (blk_cell BK104.out 0).trans rfl; have hcz5_1 : w4.cell? ⟨gb104, 1, none⟩ = some (.int .u64 a0_1) := (blk_cell BK104.out 1).trans rfl; have hcz5_2 : w4.cell? ⟨gb104, 2, none⟩ = some (.int .u64 a0_2) := (blk_cell BK104.out 2).trans rfl; have hfz5_0 := blk_frozen BK104.out 0; have hfz5_1 := blk_frozen BK104.out 1; have hfz5_2 := blk_frozen BK104.out 2))
    go_ret
    exact ⟨by first | rfl | (simp [errW_none, errW_some] <;> rfl) | (simp [*, errW_none, errW_some] <;> rfl), by repeat (first | (with_reducible first | exact HB.out | apply below_alloc | apply pw_below_drewN | apply below_drew1 | refine below_set ?_ GE104.out) | exact HB.out)⟩
  · rw [if_neg c3] at H
    have c3b0 : (a0_0 == 1) = false := beq_eq_false_iff_ne.mpr c3
    have c3b1 : (a0_0 != 1) = true := bne_iff_ne.mpr c3
    by_cases c6 : a0_0 = 2
    · rw [if_pos c6] at H
      have c6b0 : (a0_0 == 2) = true := beq_iff_eq.mpr c6
      have c6b1 : (a0_0 != 2) = false := bne_eq_false_iff_eq.mpr c6
      clear c6
      by_cases c7 : a0_1 ≤ a1
      · rw [if_pos c7] at H
        have c7b0 : decide (a0_1 ≤ a1) = true := decide_eq_true c7
        clear c7
        obtain rfl := Option.some.inj H
        go_enter Try.func143, Try.ntmps143
        go_wp2_with (first | ((with_reducible refine gate_dst (N := 2) rfl ?_); refine box_event ?hg (N := 2) ?hd (cs := #[.int .i64 a0_0, .int .u64 a0_1, .int .u64 a0_2]) (t := 26) ?hr ?_; (case hd => rfl); (case hg => rfl); (case hr => first | (go_simp; done) | (go_simp; rfl)); intro gb104 hg w8 hbox hb; have n0_ := Aside0.mk (below_step (by repeat (first | (with_reducible first | exact HB.out | apply below_alloc | apply pw_below_drewN | apply below_drew1) | exact HB.out)) hb); have n1_ := Aside0.mk (hbox); have n2_ := Aside0.mk ((by rw [hg]; exact (below_size (by repeat (first | (with_reducible first | exact HB.out | apply below_alloc | apply pw_below_drewN | apply below_drew1) | exact HB.out))) : w.heap.size ≤ gb104)); have n3_ := Aside0.mk ((by rw [hg]; exact (below_size (by repeat (first | (with_reducible first | exact HB.out | apply below_alloc | apply pw_below_drewN | apply below_drew1) | exact HB.out))) : w.heap.size ≤ gb104)); clear HB; have HB := n0_; have BK104 := n1_; have GW104 := n2_; have GE104 := n3_; clear n0_ n1_ n2_ n3_; clear hb hbox hg; have hcz9_0 : w8.cell? ⟨gb104, 0, none⟩ = some (.int .i64 a0_0) := (blk_cell BK104.out 0).trans rfl; have hcz9_1 : w8.cell? ⟨gb104, 1, none⟩ = some (.int .u64 a0_1) := (blk_cell BK104.out 1).trans rfl; have hcz9_2 : w8.cell? ⟨gb104, 2, none⟩ = some (.int .u64 a0_2) := (blk_cell BK104.out 2).trans rfl; have hfz9_0 := blk_frozen BK104.out 0; have hfz9_1 := blk_frozen BK104.out 1; have hfz9_2 := blk_frozen BK104.out 2))
        go_ret
        exact ⟨by first | rfl | (simp [errW_none, errW_some] <;> rfl) | (simp [*, errW_none, errW_some] <;> rfl), by repeat (first | (with_reducible first | exact HB.out | apply below_alloc | apply pw_below_drewN | apply below_drew1 | refine below_set ?_ GE104.out) | exact HB.out)⟩
      · rw [if_neg c7] at H
        have c7b0 : decide (a0_1 ≤ a1) = false := decide_eq_false c7
        clear c7
        obtain rfl := Option.some.inj H
        go_enter Try.func143, Try.ntmps143
        go_wp2_with (first | ((with_reducible refine gate_dst (N := 2) rfl ?_); refine box_event ?hg (N := 2) ?hd (cs := #[.int .i64 a0_0, .int .u64 a0_1, .int .u64 a0_2]) (t := 26) ?hr ?_; (case hd => rfl); (case hg => rfl); (case hr => first | (go_simp; done) | (go_simp; rfl)); intro gb104 hg w10 hbox hb; have n0_ := Aside0.mk (below_step (by repeat (first | (with_reducible first | exact HB.out | apply below_alloc | apply pw_below_drewN | apply below_drew1) | exact HB.out)) hb); have n1_ := Aside0.mk (hbox); have n2_ := Aside0.mk ((by rw [hg]; exact (below_size (by repeat (first | (with_reducible first | exact HB.out | apply below_alloc | apply pw_below_drewN | apply below_drew1) | exact HB.out))) : w.heap.size ≤ gb104)); have n3_ := Aside0.mk ((by rw [hg]; exact (below_size (by repeat (first | (with_reducible first | exact HB.out | apply below_alloc | apply pw_below_drewN | apply below_drew1) | exact HB.out))) : w.heap.size ≤ gb104)); clear HB; have HB := n0_; have BK104 := n1_; have GW104 := n2_; have GE104 := n3_; clear n0_ n1_ n2_ n3_; clear hb hbox hg; have hcz11_0 : w10.cell? ⟨gb104, 0, none⟩ = some (.int .i64 a0_0) := (blk_cell BK104.out 0).trans rfl; have hcz11_1 : w10.cell? ⟨gb104, 1, none⟩ = some (.int .u64 a0_1) := (blk_cell BK104.out 1).trans rfl; have hcz11_2 : w10.cell? ⟨gb104, 2, none⟩ = some (.int .u64 a0_2) := (blk_cell BK104.out 2).trans rfl; have hfz11_0 := blk_frozen BK104.out 0; have hfz11_1 := blk_frozen BK104.out 1; have hfz11_2 := blk_frozen BK104.out 2))
        go_ret
        exact ⟨by first | rfl | (simp [errW_none, errW_some] <;> rfl) | (simp [*, errW_none, errW_some] <;> rfl), by repeat (first | (with_reducible first | exact HB.out | apply below_alloc | apply pw_below_drewN | apply below_drew1 | refine below_set ?_ GE104.out) | exact HB.out)⟩
    · rw [if_neg c6] at H
      have c6b0 : (a0_0 == 2) = false := beq_eq_false_iff_ne.mpr c6
      have c6b1 : (a0_0 != 2) = true := bne_iff_ne.mpr c6
      obtain rfl := Option.some.inj H
      go_enter Try.func143, Try.ntmps143
      go_wp2_with (first | ((with_reducible refine gate_dst (N := 2) rfl ?_); refine box_event ?hg (N := 2) ?hd (cs := #[.int .i64 a0_0, .int .u64 a0_1, .int .u64 a0_2]) (t := 26) ?hr ?_; (case hd => rfl); (case hg => rfl); (case hr => first | (go_simp; done) | (go_simp; rfl)); intro gb104 hg w12 hbox hb; have n0_ := Aside0.mk (below_step (by repeat (first | (with_reducible first | exact HB.out | apply below_alloc | apply pw_below_drewN | apply below_drew1) | exact HB.out)) hb); have n1_ := Aside0.mk (hbox); have n2_ := Aside0.mk ((by rw [hg]; exact (below_size (by repeat (first | (with_reducible first | exact HB.out | apply below_alloc | apply pw_below_drewN | apply below_drew1) | exact HB.out))) : w.heap.size ≤ gb104)); have n3_ := Aside0.mk ((by rw [hg]; exact (below_size (by repeat (first | (with_reducible first | exact HB.out | apply below_alloc | apply pw_below_drewN | apply below_drew1) | exact HB.out))) : w.heap.size ≤ gb104)); clear HB; have HB := n0_; have BK104 := n1_; have GW104 := n2_; have GE104 := n3_; clear n0_ n1_ n2_ n3_; clear hb hbox hg; have hcz13_0 : w12.cell? ⟨gb104, 0, none⟩ = some (.int .i64 a0_0) := (blk_cell BK104.out 0).trans rfl; have hcz13_1 : w12.cell? ⟨gb104, 1, none⟩ = some (.int .u64 a0_1) := (blk_cell BK104.out 1).trans rfl; have hcz13_2 : w12.cell? ⟨gb104, 2, none⟩ = some (.int .u64 a0_2) := (blk_cell BK104.out 2).trans rfl; have hfz13_0 := blk_frozen BK104.out 0; have hfz13_1 := blk_frozen BK104.out 1; have hfz13_2 := blk_frozen BK104.out 2))
      go_ret
      exact ⟨by first | rfl | (simp [errW_none, errW_some] <;> rfl) | (simp [*, errW_none, errW_some] <;> rfl), by repeat (first | (with_reducible first | exact HB.out | apply below_alloc | apply pw_below_drewN | apply below_drew1 | refine below_set ?_ GE104.out) | exact HB.out)⟩

end Go.Proofs.Ytdipinclchkhjaa.P
