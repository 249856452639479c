import Derived.Test.YtgodbniphkfgfaaGFnExactRun5
import Derived.Test.YtgodbniphkfgfaaGFnExactRun9
namespace Go.Proofs.Ytgodbniphkfgfaa.P
open Go.RowKit Go.Proofs.YtgodbniphkfgfaaW.PrintWords Go.Proofs.YtgodbniphkfgfaaW.PrintLast Go.Proofs.YtgodbniphkfgfaaW.PrintMore
attribute [local go_sem] max2_int min2_int max_two min_two max_three min_three max_four min_four   -- for this text's walks alone
set_option linter.unusedVariables false
set_option linter.unusedSimpArgs false

/-! ### spec_l1fault: function 45 -/
mutual
def spec_l1fault.j0 : Nat → List (S54) → Int → Int → Int → Int → Bool → Option (Int)
  | 0, _, _, _, _, _, _ => none
  | k + 1, x0, x1, x5, x6, x7, x35 => if x35 = true then (some 3) else (if x6 = 96 then (spec_l1fault.j1 k x0 x1 x5 x6 x7 (decide (x7 ≥ 16))) else (if x6 = 97 then (spec_l1fault.j1 k x0 x1 x5 x6 x7 (decide (x7 ≥ 16))) else (if x6 = 2 then (spec_l1fault.j1 k x0 x1 x5 x6 x7 (decide (x7 ≥ 16))) else (if x6 = 3 then (spec_l1fault.j1 k x0 x1 x5 x6 x7 (decide (x7 ≥ 16))) else (spec_l1fault.j1 k x0 x1 x5 x6 x7 false)))))
def spec_l1fault.j1 : Nat → List (S54) → Int → Int → Int → Int → Bool → Option (Int)
  | 0, _, _, _, _, _, _ => none
  | k + 1, x0, x1, x5, x6, x7, x53 => if x53 = true then (some 4) else (if x6 = 5 then (spec_l1fault.j2 k x0 x1 x5 x6 x7 (decide ((wrap64 ((wrap64 (x1 + 1)) + x7)) ≥ x5))) else (spec_l1fault.j2 k x0 x1 x5 x6 x7 false))
def spec_l1fault.j2 : Nat → List (S54) → Int → Int → Int → Int → Bool → Option (Int)
  | 0, _, _, _, _, _, _ => none
  | k + 1, x0, x1, x5, x6, x7, x63 => if x63 = true then (some 5) else ((spec_l1isTest.f k x6).bind fun t274 => (if t274 = true then (if 0 ≤ x1 then (if x1 < (x0.length : Int) then (if (wrap64 ((wrap64 (x1 + 1)) + (wrap64 ((rd_T54 x0 x1).f1)))) ≥ x5 then (spec_l1fault.j3 k x1 x5 x6 x7 true) else (spec_l1fault.j3 k x1 x5 x6 x7 (decide ((wrap64 ((wrap64 (x1 + 1)) + (wrap64 ((rd_T54 x0 x1).f2)))) ≥ x5)))) else (none)) else (none)) else (spec_l1fault.j3 k x1 x5 x6 x7 false)))
def spec_l1fault.j3 : Nat → Int → Int → Int → Int → Bool → Option (Int)
  | 0, _, _, _, _, _ => none
  | k + 1, x1, x5, x6, x7, x91 => if x91 = true then (some 5) else (if x6 = 52 then (spec_l1fault.j4 k x1 x5 x6 x7 (x7 == 0)) else (spec_l1fault.j4 k x1 x5 x6 x7 false))
def spec_l1fault.j4 : Nat → Int → Int → Int → Int → Bool → Option (Int)
  | 0, _, _, _, _, _ => none
  | k + 1, x1, x5, x6, x7, x97 => if x97 = true then (some 6) else (if x6 = 100 then (spec_l1fault.j5 k x1 x5 x6 (decide (x7 ≥ 32))) else (if x6 = 116 then (spec_l1fault.j5 k x1 x5 x6 (decide (x7 ≥ 32))) else (spec_l1fault.j5 k x1 x5 x6 false)))
def spec_l1fault.j5 : Nat → Int → Int → Int → Bool → Option (Int)
  | 0, _, _, _, _ => none
  | k + 1, x1, x5, x6, x107 => if x107 = true then (some 6) else (if x1 = (wrap64 (x5 - 1)) then (if x6 = 6 then (some 0) else (if x6 = 22 then (some 0) else (some 7))) else (some 0))
end
def spec_l1fault.f (k : Nat) (l0 : List (S54)) (a1 : Int) : Option (Int) := if 0 ≤ a1 then (if a1 < (l0.length : Int) then ((spec_l1known.f k (wrap64 ((rd_T54 l0 a1).f0))).bind fun t273 => (if t273 = true then (if (wrap64 ((rd_T54 l0 a1).f0)) = 32 then (if (Int.tmod (wrap64 ((rd_T54 l0 a1).f3)) 4) = 0 then (spec_l1fault.j0 k l0 a1 (l0.length : Int) (wrap64 ((rd_T54 l0 a1).f0)) (wrap64 ((rd_T54 l0 a1).f3)) (decide ((wrap64 ((rd_T54 l0 a1).f3)) > 60))) else (spec_l1fault.j0 k l0 a1 (l0.length : Int) (wrap64 ((rd_T54 l0 a1).f0)) (wrap64 ((rd_T54 l0 a1).f3)) true)) else (spec_l1fault.j0 k l0 a1 (l0.length : Int) (wrap64 ((rd_T54 l0 a1).f0)) (wrap64 ((rd_T54 l0 a1).f3)) false)) else (some 2))) else (none)) else (none)
set_option maxHeartbeats 8000000 in
set_option maxRecDepth 100000 in
theorem spec_l1fault.calls (k : Nat) (A0 : Option Addr) (c0 : Nat) (l0 : List (S54)) (a1 : Int) (r : Int) (w : World) (hr0 : Kd.C k54 w A0 l0.length l0) (hc0 : l0.length ≤ c0) (h : spec_l1fault.f k l0 a1 = some r) :
    Calls Try.prog 45 #[.slice A0 l0.length c0, .int .i64 a1] w fun e w' => e = .returned (.int .i64 r) ∧ Below w.heap.size w w' := by
  have HR0 := Aside0.mk hr0
  have HC0 := Aside0.mk hc0
  clear hr0 hc0
  have HB := Aside0.mk (Below.refl w.heap.size w)
  have H : (if 0 ≤ a1 then (if a1 < (l0.length : Int) then ((spec_l1known.f k (wrap64 ((rd_T54 l0 a1).f0))).bind fun t273 => (if t273 = true then (if (wrap64 ((rd_T54 l0 a1).f0)) = 32 then (if (Int.tmod (wrap64 ((rd_T54 l0 a1).f3)) 4) = 0 then (spec_l1fault.j0 k l0 a1 (l0.length : Int) (wrap64 ((rd_T54 l0 a1).f0)) (wrap64 ((rd_T54 l0 a1).f3)) (decide ((wrap64 ((rd_T54 l0 a1).f3)) > 60))) else (spec_l1fault.j0 k l0 a1 (l0.length : Int) (wrap64 ((rd_T54 l0 a1).f0)) (wrap64 ((rd_T54 l0 a1).f3)) true)) else (spec_l1fault.j0 k l0 a1 (l0.length : Int) (wrap64 ((rd_T54 l0 a1).f0)) (wrap64 ((rd_T54 l0 a1).f3)) false)) else (some 2))) else (none)) else (none)) = some r := h
  clear h
  by_cases c3 : 0 ≤ a1
  · rw [if_pos c3] at H
    have c3b0 : decide (0 ≤ a1) = true := decide_eq_true c3
    clear c3
    by_cases c4 : a1 < (l0.length : Int)
    · rw [if_pos c4] at H
      have c4b0 : decide (a1 < (l0.length : Int)) = true := decide_eq_true c4
      clear c4
      replace H := Option.bind_eq_some_iff.mp H
      obtain ⟨t273, A50, H⟩ := H
      replace H : (if t273 = true then (if (wrap64 ((rd_T54 l0 a1).f0)) = 32 then (if (Int.tmod (wrap64 ((rd_T54 l0 a1).f3)) 4) = 0 then (spec_l1fault.j0 k l0 a1 (l0.length : Int) (wrap64 ((rd_T54 l0 a1).f0)) (wrap64 ((rd_T54 l0 a1).f3)) (decide ((wrap64 ((rd_T54 l0 a1).f3)) > 60))) else (spec_l1fault.j0 k l0 a1 (l0.length : Int) (wrap64 ((rd_T54 l0 a1).f0)) (wrap64 ((rd_T54 l0 a1).f3)) true)) else (spec_l1fault.j0 k l0 a1 (l0.length : Int) (wrap64 ((rd_T54 l0 a1).f0)) (wrap64 ((rd_T54 l0 a1).f3)) false)) else (some 2)) = some r := H
      have A5 := Aside0.mk A50
      clear A50
      by_cases c6 : t273 = true
      · subst c6
        have H1 : (if (wrap64 ((rd_T54 l0 a1).f0)) = 32 then (if (Int.tmod (wrap64 ((rd_T54 l0 a1).f3)) 4) = 0 then (spec_l1fault.j0 k l0 a1 (l0.length : Int) (wrap64 ((rd_T54 l0 a1).f0)) (wrap64 ((rd_T54 l0 a1).f3)) (decide ((wrap64 ((rd_T54 l0 a1).f3)) > 60))) else (spec_l1fault.j0 k l0 a1 (l0.length : Int) (wrap64 ((rd_T54 l0 a1).f0)) (wrap64 ((rd_T54 l0 a1).f3)) true)) else (spec_l1fault.j0 k l0 a1 (l0.length : Int) (wrap64 ((rd_T54 l0 a1).f0)) (wrap64 ((rd_T54 l0 a1).f3)) false)) = some r := by rw [if_pos rfl] at H; exact H
        clear H
        have H := H1
        clear H1
        have HC7 := Aside0.mk H
        clear H
        have p271 : 0 ≤ (a1 : Int) := of_decide_eq_true (by first | (with_reducible assumption) | assumption)
        have q271 : a1 < (l0.length : Int) := of_decide_eq_true (by first | (with_reducible assumption) | assumption)
        obtain ⟨ad271, e271, hx271_0, hx271_1, hx271_2, hx271_3⟩ := at_T54 HR0.out a1 p271 q271
        cases e271
        replace p271 := eq_true p271
        replace q271 := eq_true q271
        have p272 : 0 ≤ (a1 : Int) := of_decide_eq_true (by first | (with_reducible assumption) | assumption)
        have q272 : a1 < (l0.length : Int) := of_decide_eq_true (by first | (with_reducible assumption) | assumption)
        obtain ⟨ad272, e272, hx272_0, hx272_1, hx272_2, hx272_3⟩ := at_T54 HR0.out a1 p272 q272
        obtain rfl : ad271 = ad272 := (by injection e272)
        replace p272 := eq_true p272
        replace q272 := eq_true q272
        go_enter Try.func45, Try.ntmps45
        go_upto_region 6 with (first | ((with_reducible refine gate_callee (f := 61) rfl ?_); refine goesL_ (some 23) rfl rfl Try.func61 (by kernel_rfl) rfl #[.int .i64 (wrap64 ((rd_T54 l0 a1).f0))] rfl (by (try simp only [List.map_toArray, List.map_cons, List.map_nil]); first | done | rfl | (simp only [List.length_drop, List.length_take]; rfl)) ?_; (with_reducible refine (spec_l1known.calls k (wrap64 ((rd_T54 l0 a1).f0)) true _ A5.out).mono ?_); rintro e w8 ⟨rfl, hb⟩; refine ⟨_, rfl, ?_⟩; have n0_ := Aside0.mk (below_step (by repeat (first | (with_reducible first | exact HB.out | apply below_alloc | apply pw_below_drewN | apply below_drew1) | exact HB.out)) hb); clear HB; have HB := n0_; clear n0_; (try clear hb); (try clear hb2); (try clear hk); (try clear hi)))
        (try simp only [Act.put, List.setIfInBounds_toArray, List.set_cons_zero, List.set_cons_succ])
        go_cut [35] (fun v35 wc => ∃ (kq : Nat) (x35_6 : Bool), v35 = .bool x35_6 ∧ Aside0 (spec_l1fault.j0 kq l0 a1 (l0.length : Int) (wrap64 ((rd_T54 l0 a1).f0)) (wrap64 ((rd_T54 l0 a1).f3)) x35_6 = some r) ∧ Aside0 (kq ≤ k) ∧ Aside0 (Below w.heap.size w wc))
        case first =>
          have H := HC7.out
          clear HC7
          by_cases c9 : (wrap64 ((rd_T54 l0 a1).f0)) = 32
          · rw [if_pos c9] at H
            have c9b0 : ((wrap64 ((rd_T54 l0 a1).f0)) == 32) = true := beq_iff_eq.mpr c9
            have c9b1 : ((wrap64 ((rd_T54 l0 a1).f0)) != 32) = false := bne_eq_false_iff_eq.mpr c9
            clear c9
            (first | rw [c9b0] | (simp only [i64_w, i32_w]; rw [c9b0]) | skip)
            by_cases c10 : (Int.tmod (wrap64 ((rd_T54 l0 a1).f3)) 4) = 0
            · rw [if_pos c10] at H
              have c10b0 : ((Int.tmod (wrap64 ((rd_T54 l0 a1).f3)) 4) == 0) = true := beq_iff_eq.mpr c10
              have c10b1 : ((Int.tmod (wrap64 ((rd_T54 l0 a1).f3)) 4) != 0) = false := bne_eq_false_iff_eq.mpr c10
              clear c10
              have H' := Aside0.mk H
              clear H
              go_wp2
              go_meet
              case rel => exact ⟨_, (decide ((wrap64 ((rd_T54 l0 a1).f3)) > 60)), (by first | rfl | (simp; done) | (simp [*]; done)), H', ⟨by first | omega | exact Nat.le_refl _⟩, ⟨by repeat (first | (with_reducible first | exact HB.out | apply below_alloc | apply pw_below_drewN | apply below_drew1) | exact HB.out)⟩⟩
            · rw [if_neg c10] at H
              have c10b0 : ((Int.tmod (wrap64 ((rd_T54 l0 a1).f3)) 4) == 0) = false := beq_eq_false_iff_ne.mpr c10
              have c10b1 : ((Int.tmod (wrap64 ((rd_T54 l0 a1).f3)) 4) != 0) = true := bne_iff_ne.mpr c10
              have H' := Aside0.mk H
              clear H
              go_wp2
              go_meet
              case rel => exact ⟨_, (true), (by first | rfl | (simp; done) | (simp [*]; done)), H', ⟨by first | omega | exact Nat.le_refl _⟩, ⟨by repeat (first | (with_reducible first | exact HB.out | apply below_alloc | apply pw_below_drewN | apply below_drew1) | exact HB.out)⟩⟩
          · rw [if_neg c9] at H
            have c9b0 : ((wrap64 ((rd_T54 l0 a1).f0)) == 32) = false := beq_eq_false_iff_ne.mpr c9
            have c9b1 : ((wrap64 ((rd_T54 l0 a1).f0)) != 32) = true := bne_iff_ne.mpr c9
            (first | rw [c9b0] | (simp only [i64_w, i32_w]; rw [c9b0]) | skip)
            have H' := Aside0.mk H
            clear H
            go_wp2
            go_meet
            case rel => exact ⟨_, (false), (by first | rfl | (simp; done) | (simp [*]; done)), H', ⟨by first | omega | exact Nat.le_refl _⟩, ⟨by repeat (first | (with_reducible first | exact HB.out | apply below_alloc | apply pw_below_drewN | apply below_drew1) | exact HB.out)⟩⟩
        case rest =>
          clear HC7
          try clear c1
          try clear p2
          try clear q2
          try clear hx2
          try clear c3
          try clear c3b0
          try clear c4
          try clear c4b0
          try clear c6
          try clear p6
          try clear c9
          try clear c9b0
          try clear c9b1
          try clear c10
          try clear c10b0
          try clear c10b1
          try clear hx271_0
          try clear hx271_1
          try clear hx271_2
          try clear hx271_3
          try clear hx272_0
          try clear hx272_1
          try clear hx272_2
          try clear hx272_3
          try clear p271
          try clear p272
          try clear q271
          try clear q272
          obtain ⟨kq, x35_6, rfl, HA, HJ6, HB⟩ := hcut
          cases kq with
          | zero => exact absurd HA.out (by simp [spec_l1fault.j0])
          | succ kj6 =>
            have H := HA.out
            clear HA
            simp only [spec_l1fault.j0] at H
            by_cases c11 : x35_6 = true
            · subst c11
              have H1 : (some 3) = some r := by rw [if_pos rfl] at H; exact H
              clear H
              have H := H1
              clear H1
              obtain rfl := Option.some.inj H
              go_wp2
              go_ret
              exact ⟨by first | rfl | (simp [errW_none, errW_some] <;> rfl) | (simp [*, errW_none, errW_some] <;> rfl), by repeat (first | (with_reducible first | exact HB.out | apply below_alloc | apply pw_below_drewN | apply below_drew1) | exact HB.out)⟩
            · replace c11 := Bool.eq_false_iff.mpr c11
              subst c11
              have H1 : (if (wrap64 ((rd_T54 l0 a1).f0)) = 96 then (spec_l1fault.j1 kj6 l0 a1 (l0.length : Int) (wrap64 ((rd_T54 l0 a1).f0)) (wrap64 ((rd_T54 l0 a1).f3)) (decide ((wrap64 ((rd_T54 l0 a1).f3)) ≥ 16))) else (if (wrap64 ((rd_T54 l0 a1).f0)) = 97 then (spec_l1fault.j1 kj6 l0 a1 (l0.length : Int) (wrap64 ((rd_T54 l0 a1).f0)) (wrap64 ((rd_T54 l0 a1).f3)) (decide ((wrap64 ((rd_T54 l0 a1).f3)) ≥ 16))) else (if (wrap64 ((rd_T54 l0 a1).f0)) = 2 then (spec_l1fault.j1 kj6 l0 a1 (l0.length : Int) (wrap64 ((rd_T54 l0 a1).f0)) (wrap64 ((rd_T54 l0 a1).f3)) (decide ((wrap64 ((rd_T54 l0 a1).f3)) ≥ 16))) else (if (wrap64 ((rd_T54 l0 a1).f0)) = 3 then (spec_l1fault.j1 kj6 l0 a1 (l0.length : Int) (wrap64 ((rd_T54 l0 a1).f0)) (wrap64 ((rd_T54 l0 a1).f3)) (decide ((wrap64 ((rd_T54 l0 a1).f3)) ≥ 16))) else (spec_l1fault.j1 kj6 l0 a1 (l0.length : Int) (wrap64 ((rd_T54 l0 a1).f0)) (wrap64 ((rd_T54 l0 a1).f3)) false))))) = some r := by rw [if_neg (show ¬ (false = true) by decide)] at H; exact H
              clear H
              have H := H1
              clear H1
              have HC12 := Aside0.mk H
              clear H
              go_upto_region 8 with (fail)
              go_cut [53] (fun v53 wc => ∃ (kq : Nat) (x53_11 : Bool), v53 = .bool x53_11 ∧ Aside0 (spec_l1fault.j1 kq l0 a1 (l0.length : Int) (wrap64 ((rd_T54 l0 a1).f0)) (wrap64 ((rd_T54 l0 a1).f3)) x53_11 = some r) ∧ Aside0 (kq ≤ kj6) ∧ Aside0 (Below w.heap.size w wc))
              case first =>
                have H := HC12.out
                clear HC12
                by_cases c13 : (wrap64 ((rd_T54 l0 a1).f0)) = 96
                · rw [if_pos c13] at H
                  have c13b0 : ((wrap64 ((rd_T54 l0 a1).f0)) == 96) = true := beq_iff_eq.mpr c13
                  have c13b1 : ((wrap64 ((rd_T54 l0 a1).f0)) != 96) = false := bne_eq_false_iff_eq.mpr c13
                  clear c13
                  (first | rw [c13b0] | (simp only [i64_w, i32_w]; rw [c13b0]) | skip)
                  have H' := Aside0.mk H
                  clear H
                  go_wp2
                  go_meet
                  case rel => exact ⟨_, (decide ((wrap64 ((rd_T54 l0 a1).f3)) ≥ 16)), (by first | rfl | (simp; done) | (simp [*]; done)), H', ⟨by have := HJ6.out; first | omega | exact Nat.le_refl _⟩, ⟨by repeat (first | (with_reducible first | exact HB.out | apply below_alloc | apply pw_below_drewN | apply below_drew1) | exact HB.out)⟩⟩
                · rw [if_neg c13] at H
                  have c13b0 : ((wrap64 ((rd_T54 l0 a1).f0)) == 96) = false := beq_eq_false_iff_ne.mpr c13
                  have c13b1 : ((wrap64 ((rd_T54 l0 a1).f0)) != 96) = true := bne_iff_ne.mpr c13
                  (first | rw [c13b0] | (simp only [i64_w, i32_w]; rw [c13b0]) | skip)
                  by_cases c14 : (wrap64 ((rd_T54 l0 a1).f0)) = 97
                  · rw [if_pos c14] at H
                    have c14b0 : ((wrap64 ((rd_T54 l0 a1).f0)) == 97) = true := beq_iff_eq.mpr c14
                    have c14b1 : ((wrap64 ((rd_T54 l0 a1).f0)) != 97) = false := bne_eq_false_iff_eq.mpr c14
                    clear c14
                    have H' := Aside0.mk H
                    clear H
                    go_wp2
                    go_meet
                    case rel => exact ⟨_, (decide ((wrap64 ((rd_T54 l0 a1).f3)) ≥ 16)), (by first | rfl | (simp; done) | (simp [*]; done)), H', ⟨by have := HJ6.out; first | omega | exact Nat.le_refl _⟩, ⟨by repeat (first | (with_reducible first | exact HB.out | apply below_alloc | apply pw_below_drewN | apply below_drew1) | exact HB.out)⟩⟩
                  · rw [if_neg c14] at H
                    have c14b0 : ((wrap64 ((rd_T54 l0 a1).f0)) == 97) = false := beq_eq_false_iff_ne.mpr c14
                    have c14b1 : ((wrap64 ((rd_T54 l0 a1).f0)) != 97) = true := bne_iff_ne.mpr c14
                    by_cases c15 : (wrap64 ((rd_T54 l0 a1).f0)) = 2
                    · rw [if_pos c15] at H
                      have c15b0 : ((wrap64 ((rd_T54 l0 a1).f0)) == 2) = true := beq_iff_eq.mpr c15
                      have c15b1 : ((wrap64 ((rd_T54 l0 a1).f0)) != 2) = false := bne_eq_false_iff_eq.mpr c15
                      clear c15
                      have H' := Aside0.mk H
                      clear H
                      go_wp2
                      go_meet
                      case rel => exact ⟨_, (decide ((wrap64 ((rd_T54 l0 a1).f3)) ≥ 16)), (by first | rfl | (simp; done) | (simp [*]; done)), H', ⟨by have := HJ6.out; first | omega | exact Nat.le_refl _⟩, ⟨by repeat (first | (with_reducible first | exact HB.out | apply below_alloc | apply pw_below_drewN | apply below_drew1) | exact HB.out)⟩⟩
                    · rw [if_neg c15] at H
                      have c15b0 : ((wrap64 ((rd_T54 l0 a1).f0)) == 2) = false := beq_eq_false_iff_ne.mpr c15
                      have c15b1 : ((wrap64 ((rd_T54 l0 a1).f0)) != 2) = true := bne_iff_ne.mpr c15
                      by_cases c16 : (wrap64 ((rd_T54 l0 a1).f0)) = 3
                      · rw [if_pos c16] at H
                        have c16b0 : ((wrap64 ((rd_T54 l0 a1).f0)) == 3) = true := beq_iff_eq.mpr c16
                        have c16b1 : ((wrap64 ((rd_T54 l0 a1).f0)) != 3) = false := bne_eq_false_iff_eq.mpr c16
                        clear c16
                        have H' := Aside0.mk H
                        clear H
                        go_wp2
                        go_meet
                        case rel => exact ⟨_, (decide ((wrap64 ((rd_T54 l0 a1).f3)) ≥ 16)), (by first | rfl | (simp; done) | (simp [*]; done)), H', ⟨by have := HJ6.out; first | omega | exact Nat.le_refl _⟩, ⟨by repeat (first | (with_reducible first | exact HB.out | apply below_alloc | apply pw_below_drewN | apply below_drew1) | exact HB.out)⟩⟩
                      · rw [if_neg c16] at H
                        have c16b0 : ((wrap64 ((rd_T54 l0 a1).f0)) == 3) = false := beq_eq_false_iff_ne.mpr c16
                        have c16b1 : ((wrap64 ((rd_T54 l0 a1).f0)) != 3) = true := bne_iff_ne.mpr c16
                        have H' := Aside0.mk H
                        clear H
                        go_wp2
                        go_meet
                        case rel => exact ⟨_, (false), (by first | rfl | (simp; done) | (simp [*]; done)), H', ⟨by have := HJ6.out; first | omega | exact Nat.le_refl _⟩, ⟨by repeat (first | (with_reducible first | exact HB.out | apply below_alloc | apply pw_below_drewN | apply below_drew1) | exact HB.out)⟩⟩
              case rest =>
                clear HC12
                try clear c1
                try clear p2
                try clear q2
                try clear hx2
                try clear c3
                try clear c3b0
                try clear c4
                try clear c4b0
                try clear c6
                try clear p6
                try clear c9
                try clear c9b0
                try clear c9b1
                try clear c10
                try clear c10b0
                try clear c10b1
                try clear c11
                try clear c13
                try clear c13b0
                try clear c13b1
                try clear c14
                try clear c14b0
                try clear c14b1
                try clear c15
                try clear c15b0
                try clear c15b1
                try clear c16
                try clear c16b0
                try clear c16b1
                try clear hx271_0
                try clear hx271_1
                try clear hx271_2
                try clear hx271_3
                try clear hx272_0
                try clear hx272_1
                try clear hx272_2
                try clear hx272_3
                try clear p2
                try clear p271
                try clear p272
                try clear p6
                try clear q2
                try clear q271
                try clear q272
                obtain ⟨kq, x53_11, rfl, HA, HJ11, HB⟩ := hcut
                cases kq with
                | zero => exact absurd HA.out (by simp [spec_l1fault.j1])
                | succ kj11 =>
                  have H := HA.out
                  clear HA
                  simp only [spec_l1fault.j1] at H
                  by_cases c17 : x53_11 = true
                  · subst c17
                    have H1 : (some 4) = some r := by rw [if_pos rfl] at H; exact H
                    clear H
                    have H := H1
                    clear H1
                    obtain rfl := Option.some.inj H
                    go_wp2
                    go_ret
                    exact ⟨by first | rfl | (simp [errW_none, errW_some] <;> rfl) | (simp [*, errW_none, errW_some] <;> rfl), by repeat (first | (with_reducible first | exact HB.out | apply below_alloc | apply pw_below_drewN | apply below_drew1) | exact HB.out)⟩
                  · replace c17 := Bool.eq_false_iff.mpr c17
                    subst c17
                    have H1 : (if (wrap64 ((rd_T54 l0 a1).f0)) = 5 then (spec_l1fault.j2 kj11 l0 a1 (l0.length : Int) (wrap64 ((rd_T54 l0 a1).f0)) (wrap64 ((rd_T54 l0 a1).f3)) (decide ((wrap64 ((wrap64 (a1 + 1)) + (wrap64 ((rd_T54 l0 a1).f3)))) ≥ (l0.length : Int)))) else (spec_l1fault.j2 kj11 l0 a1 (l0.length : Int) (wrap64 ((rd_T54 l0 a1).f0)) (wrap64 ((rd_T54 l0 a1).f3)) false)) = some r := by rw [if_neg (show ¬ (false = true) by decide)] at H; exact H
                    clear H
                    have H := H1
                    clear H1
                    have HC18 := Aside0.mk H
                    clear H
                    go_upto_region 10 with (fail)
                    go_cut [63] (fun v63 wc => ∃ (kq : Nat) (x63_17 : Bool), v63 = .bool x63_17 ∧ Aside0 (spec_l1fault.j2 kq l0 a1 (l0.length : Int) (wrap64 ((rd_T54 l0 a1).f0)) (wrap64 ((rd_T54 l0 a1).f3)) x63_17 = some r) ∧ Aside0 (kq ≤ kj11) ∧ Aside0 (Below w.heap.size w wc))
                    case first =>
                      have H := HC18.out
                      clear HC18
                      by_cases c19 : (wrap64 ((rd_T54 l0 a1).f0)) = 5
                      · rw [if_pos c19] at H
                        have c19b0 : ((wrap64 ((rd_T54 l0 a1).f0)) == 5) = true := beq_iff_eq.mpr c19
                        have c19b1 : ((wrap64 ((rd_T54 l0 a1).f0)) != 5) = false := bne_eq_false_iff_eq.mpr c19
                        clear c19
                        (first | rw [c19b0] | (simp only [i64_w, i32_w]; rw [c19b0]) | skip)
                        have H' := Aside0.mk H
                        clear H
                        go_wp2
                        go_meet
                        case rel => exact ⟨_, (decide ((wrap64 ((wrap64 (a1 + 1)) + (wrap64 ((rd_T54 l0 a1).f3)))) ≥ (l0.length : Int))), (by first | rfl | (simp; done) | (simp [*]; done)), H', ⟨by have := HJ6.out; have := HJ11.out; first | omega | exact Nat.le_refl _⟩, ⟨by repeat (first | (with_reducible first | exact HB.out | apply below_alloc | apply pw_below_drewN | apply below_drew1) | exact HB.out)⟩⟩
                      · rw [if_neg c19] at H
                        have c19b0 : ((wrap64 ((rd_T54 l0 a1).f0)) == 5) = false := beq_eq_false_iff_ne.mpr c19
                        have c19b1 : ((wrap64 ((rd_T54 l0 a1).f0)) != 5) = true := bne_iff_ne.mpr c19
                        (first | rw [c19b0] | (simp only [i64_w, i32_w]; rw [c19b0]) | skip)
                        have H' := Aside0.mk H
                        clear H
                        go_wp2
                        go_meet
                        case rel => exact ⟨_, (false), (by first | rfl | (simp; done) | (simp [*]; done)), H', ⟨by have := HJ6.out; have := HJ11.out; first | omega | exact Nat.le_refl _⟩, ⟨by repeat (first | (with_reducible first | exact HB.out | apply below_alloc | apply pw_below_drewN | apply below_drew1) | exact HB.out)⟩⟩
                    case rest =>
                      clear HC18
                      try clear c1
                      try clear p2
                      try clear q2
                      try clear hx2
                      try clear c3
                      try clear c3b0
                      try clear c4
                      try clear c4b0
                      try clear c6
                      try clear p6
                      try clear c9
                      try clear c9b0
                      try clear c9b1
                      try clear c10
                      try clear c10b0
                      try clear c10b1
                      try clear c11
                      try clear c13
                      try clear c13b0
                      try clear c13b1
                      try clear c14
                      try clear c14b0
                      try clear c14b1
                      try clear c15
                      try clear c15b0
                      try clear c15b1
                      try clear c16
                      try clear c16b0
                      try clear c16b1
                      try clear c17
                      try clear c19
                      try clear c19b0
                      try clear c19b1
                      try clear hx271_0
                      try clear hx271_1
                      try clear hx271_2
                      try clear hx271_3
                      try clear hx272_0
                      try clear hx272_1
                      try clear hx272_2
                      try clear hx272_3
                      try clear p2
                      try clear p271
                      try clear p272
                      try clear p6
                      try clear q2
                      try clear q271
                      try clear q272
                      obtain ⟨kq, x63_17, rfl, HA, HJ17, HB⟩ := hcut
                      cases kq with
                      | zero => exact absurd HA.out (by simp [spec_l1fault.j2])
                      | succ kj17 =>
                        have H := HA.out
                        clear HA
                        simp only [spec_l1fault.j2] at H
                        by_cases c20 : x63_17 = true
                        · subst c20
                          have H1 : (some 5) = some r := by rw [if_pos rfl] at H; exact H
                          clear H
                          have H := H1
                          clear H1
                          obtain rfl := Option.some.inj H
                          go_wp2
                          go_ret
                          exact ⟨by first | rfl | (simp [errW_none, errW_some] <;> rfl) | (simp [*, errW_none, errW_some] <;> rfl), by repeat (first | (with_reducible first | exact HB.out | apply below_alloc | apply pw_below_drewN | apply below_drew1) | exact HB.out)⟩
                        · replace c20 := Bool.eq_false_iff.mpr c20
                          subst c20
                          have H1 : ((spec_l1isTest.f kj17 (wrap64 ((rd_T54 l0 a1).f0))).bind fun t274 => (if t274 = true then (if 0 ≤ a1 then (if a1 < (l0.length : Int) then (if (wrap64 ((wrap64 (a1 + 1)) + (wrap64 ((rd_T54 l0 a1).f1)))) ≥ (l0.length : Int) then (spec_l1fault.j3 kj17 a1 (l0.length : Int) (wrap64 ((rd_T54 l0 a1).f0)) (wrap64 ((rd_T54 l0 a1).f3)) true) else (spec_l1fault.j3 kj17 a1 (l0.length : Int) (wrap64 ((rd_T54 l0 a1).f0)) (wrap64 ((rd_T54 l0 a1).f3)) (decide ((wrap64 ((wrap64 (a1 + 1)) + (wrap64 ((rd_T54 l0 a1).f2)))) ≥ (l0.length : Int))))) else (none)) else (none)) else (spec_l1fault.j3 kj17 a1 (l0.length : Int) (wrap64 ((rd_T54 l0 a1).f0)) (wrap64 ((rd_T54 l0 a1).f3)) false))) = some r := by rw [if_neg (show ¬ (false = true) by decide)] at H; exact H
                          clear H
                          have H := H1
                          clear H1
                          have HC21 := Aside0.mk H
                          clear H
                          go_upto_region 12 with (fail)
                          go_cut [91] (fun v91 wc => ∃ (kq : Nat) (x91_20 : Bool), v91 = .bool x91_20 ∧ Aside0 (spec_l1fault.j3 kq a1 (l0.length : Int) (wrap64 ((rd_T54 l0 a1).f0)) (wrap64 ((rd_T54 l0 a1).f3)) x91_20 = some r) ∧ Aside0 (kq ≤ kj17) ∧ Aside0 (Below w.heap.size w wc))
                          case first =>
                            have H := HC21.out
                            clear HC21
                            replace H := Option.bind_eq_some_iff.mp H
                            obtain ⟨t274, A220, H⟩ := H
                            replace H : (if t274 = true then (if 0 ≤ a1 then (if a1 < (l0.length : Int) then (if (wrap64 ((wrap64 (a1 + 1)) + (wrap64 ((rd_T54 l0 a1).f1)))) ≥ (l0.length : Int) then (spec_l1fault.j3 kj17 a1 (l0.length : Int) (wrap64 ((rd_T54 l0 a1).f0)) (wrap64 ((rd_T54 l0 a1).f3)) true) else (spec_l1fault.j3 kj17 a1 (l0.length : Int) (wrap64 ((rd_T54 l0 a1).f0)) (wrap64 ((rd_T54 l0 a1).f3)) (decide ((wrap64 ((wrap64 (a1 + 1)) + (wrap64 ((rd_T54 l0 a1).f2)))) ≥ (l0.length : Int))))) else (none)) else (none)) else (spec_l1fault.j3 kj17 a1 (l0.length : Int) (wrap64 ((rd_T54 l0 a1).f0)) (wrap64 ((rd_T54 l0 a1).f3)) false)) = some r := H
                            have A22 := Aside0.mk A220
                            clear A220
                            by_cases c23 : t274 = true
                            · subst c23
                              have H1 : (if 0 ≤ a1 then (if a1 < (l0.length : Int) then (if (wrap64 ((wrap64 (a1 + 1)) + (wrap64 ((rd_T54 l0 a1).f1)))) ≥ (l0.length : Int) then (spec_l1fault.j3 kj17 a1 (l0.length : Int) (wrap64 ((rd_T54 l0 a1).f0)) (wrap64 ((rd_T54 l0 a1).f3)) true) else (spec_l1fault.j3 kj17 a1 (l0.length : Int) (wrap64 ((rd_T54 l0 a1).f0)) (wrap64 ((rd_T54 l0 a1).f3)) (decide ((wrap64 ((wrap64 (a1 + 1)) + (wrap64 ((rd_T54 l0 a1).f2)))) ≥ (l0.length : Int))))) else (none)) else (none)) = some r := by rw [if_pos rfl] at H; exact H
                              clear H
                              have H := H1
                              clear H1
                              by_cases c24 : 0 ≤ a1
                              · rw [if_pos c24] at H
                                have c24b0 : decide (0 ≤ a1) = true := decide_eq_true c24
                                clear c24
                                (first | rw [c24b0] | (simp only [i64_w, i32_w]; rw [c24b0]) | skip)
                                by_cases c25 : a1 < (l0.length : Int)
                                · rw [if_pos c25] at H
                                  have c25b0 : decide (a1 < (l0.length : Int)) = true := decide_eq_true c25
                                  clear c25
                                  by_cases c26 : (wrap64 ((wrap64 (a1 + 1)) + (wrap64 ((rd_T54 l0 a1).f1)))) ≥ (l0.length : Int)
                                  · rw [if_pos c26] at H
                                    have c26b0 : decide ((l0.length : Int) ≤ (wrap64 ((wrap64 (a1 + 1)) + (wrap64 ((rd_T54 l0 a1).f1))))) = true := decide_eq_true c26
                                    clear c26
                                    have H' := Aside0.mk H
                                    clear H
                                    go_wp2_with (first | ((with_reducible refine gate_callee (f := 62) rfl ?_); refine goesL_ (some 65) rfl rfl Try.func62 (by kernel_rfl) rfl #[.int .i64 (wrap64 ((rd_T54 l0 a1).f0))] rfl (by (try simp only [List.map_toArray, List.map_cons, List.map_nil]); first | done | rfl | (simp only [List.length_drop, List.length_take]; rfl)) ?_; (with_reducible refine (spec_l1isTest.calls kj17 (wrap64 ((rd_T54 l0 a1).f0)) true _ A22.out).mono ?_); rintro e w27 ⟨rfl, hb⟩; refine ⟨_, rfl, ?_⟩; have n0_ := Aside0.mk (below_step (by repeat (first | (with_reducible first | exact HB.out | apply below_alloc | apply pw_below_drewN | apply below_drew1) | exact HB.out)) hb); clear HB; have HB := n0_; clear n0_; (try clear hb); (try clear hb2); (try clear hk); (try clear hi); have p275 : 0 ≤ (a1 : Int) := of_decide_eq_true (by first | (with_reducible assumption) | assumption); have q275 : a1 < (l0.length : Int) := of_decide_eq_true (by first | (with_reducible assumption) | assumption); obtain ⟨ad275, e275, hx275_0, hx275_1, hx275_2, hx275_3⟩ := at_T54 HR0.out a1 p275 q275; obtain rfl : ad271 = ad275 := (by injection e275); replace hx275_0 := (HB.out.cell (World.block_lt_of_cell? w _ hx275_0)).trans hx275_0; replace hx275_1 := (HB.out.cell (World.block_lt_of_cell? w _ hx275_1)).trans hx275_1; replace hx275_2 := (HB.out.cell (World.block_lt_of_cell? w _ hx275_2)).trans hx275_2; replace hx275_3 := (HB.out.cell (World.block_lt_of_cell? w _ hx275_3)).trans hx275_3; replace p275 := eq_true p275; replace q275 := eq_true q275))
                                    go_meet
                                    case rel => exact ⟨_, (true), (by first | rfl | (simp; done) | (simp [*]; done)), H', ⟨by have := HJ6.out; have := HJ11.out; have := HJ17.out; first | omega | exact Nat.le_refl _⟩, ⟨by repeat (first | (with_reducible first | exact HB.out | apply below_alloc | apply pw_below_drewN | apply below_drew1) | exact HB.out)⟩⟩
                                  · rw [if_neg c26] at H
                                    have c26b0 : decide ((l0.length : Int) ≤ (wrap64 ((wrap64 (a1 + 1)) + (wrap64 ((rd_T54 l0 a1).f1))))) = false := decide_eq_false c26
                                    clear c26
                                    have H' := Aside0.mk H
                                    clear H
                                    go_wp2_with (first | ((with_reducible refine gate_callee (f := 62) rfl ?_); refine goesL_ (some 65) rfl rfl Try.func62 (by kernel_rfl) rfl #[.int .i64 (wrap64 ((rd_T54 l0 a1).f0))] rfl (by (try simp only [List.map_toArray, List.map_cons, List.map_nil]); first | done | rfl | (simp only [List.length_drop, List.length_take]; rfl)) ?_; (with_reducible refine (spec_l1isTest.calls kj17 (wrap64 ((rd_T54 l0 a1).f0)) true _ A22.out).mono ?_); rintro e w28 ⟨rfl, hb⟩; refine ⟨_, rfl, ?_⟩; have n0_ := Aside0.mk (below_step (by repeat (first | (with_reducible first | exact HB.out | apply below_alloc | apply pw_below_drewN | apply below_drew1) | exact HB.out)) hb); clear HB; have HB := n0_; clear n0_; (try clear hb); (try clear hb2); (try clear hk); (try clear hi); have p275 : 0 ≤ (a1 : Int) := of_decide_eq_true (by first | (with_reducible assumption) | assumption); have q275 : a1 < (l0.length : Int) := of_decide_eq_true (by first | (with_reducible assumption) | assumption); obtain ⟨ad275, e275, hx275_0, hx275_1, hx275_2, hx275_3⟩ := at_T54 HR0.out a1 p275 q275; obtain rfl : ad271 = ad275 := (by injection e275); replace hx275_0 := (HB.out.cell (World.block_lt_of_cell? w _ hx275_0)).trans hx275_0; replace hx275_1 := (HB.out.cell (World.block_lt_of_cell? w _ hx275_1)).trans hx275_1; replace hx275_2 := (HB.out.cell (World.block_lt_of_cell? w _ hx275_2)).trans hx275_2; replace hx275_3 := (HB.out.cell (World.block_lt_of_cell? w _ hx275_3)).trans hx275_3; replace p275 := eq_true p275; replace q275 := eq_true q275; have p276 : 0 ≤ (a1 : Int) := of_decide_eq_true (by first | (with_reducible assumption) | assumption); have q276 : a1 < (l0.length : Int) := of_decide_eq_true (by first | (with_reducible assumption) | assumption); obtain ⟨ad276, e276, hx276_0, hx276_1, hx276_2, hx276_3⟩ := at_T54 HR0.out a1 p276 q276; obtain rfl : ad271 = ad276 := (by injection e276); replace hx276_0 := (HB.out.cell (World.block_lt_of_cell? w _ hx276_0)).trans hx276_0; replace hx276_1 := (HB.out.cell (World.block_lt_of_cell? w _ hx276_1)).trans hx276_1; replace hx276_2 := (HB.out.cell (World.block_lt_of_cell? w _ hx276_2)).trans hx276_2; replace hx276_3 := (HB.out.cell (World.block_lt_of_cell? w _ hx276_3)).trans hx276_3; replace p276 := eq_true p276; replace q276 := eq_true q276))
                                    go_meet
                                    case rel => exact ⟨_, (decide ((wrap64 ((wrap64 (a1 + 1)) + (wrap64 ((rd_T54 l0 a1).f2)))) ≥ (l0.length : Int))), (by first | rfl | (simp; done) | (simp [*]; done)), H', ⟨by have := HJ6.out; have := HJ11.out; have := HJ17.out; first | omega | exact Nat.le_refl _⟩, ⟨by repeat (first | (with_reducible first | exact HB.out | apply below_alloc | apply pw_below_drewN | apply below_drew1) | exact HB.out)⟩⟩
                                · rw [if_neg c25] at H
                                  exact absurd H (by simp)
                              · rw [if_neg c24] at H
                                exact absurd H (by simp)
                            · replace c23 := Bool.eq_false_iff.mpr c23
                              subst c23
                              have H1 : (spec_l1fault.j3 kj17 a1 (l0.length : Int) (wrap64 ((rd_T54 l0 a1).f0)) (wrap64 ((rd_T54 l0 a1).f3)) false) = some r := by rw [if_neg (show ¬ (false = true) by decide)] at H; exact H
                              clear H
                              have H := H1
                              clear H1
                              have H' := Aside0.mk H
                              clear H
                              go_wp2_with (first | ((with_reducible refine gate_callee (f := 62) rfl ?_); refine goesL_ (some 65) rfl rfl Try.func62 (by kernel_rfl) rfl #[.int .i64 (wrap64 ((rd_T54 l0 a1).f0))] rfl (by (try simp only [List.map_toArray, List.map_cons, List.map_nil]); first | done | rfl | (simp only [List.length_drop, List.length_take]; rfl)) ?_; (with_reducible refine (spec_l1isTest.calls kj17 (wrap64 ((rd_T54 l0 a1).f0)) false _ A22.out).mono ?_); rintro e w29 ⟨rfl, hb⟩; refine ⟨_, rfl, ?_⟩; have n0_ := Aside0.mk (below_step (by repeat (first | (with_reducible first | exact HB.out | apply below_alloc | apply pw_below_drewN | apply below_drew1) | exact HB.out)) hb); clear HB; have HB := n0_; clear n0_; (try clear hb); (try clear hb2); (try clear hk); (try clear hi)))
                              go_meet
                              case rel => exact ⟨_, (false), (by first | rfl | (simp; done) | (simp [*]; done)), H', ⟨by have := HJ6.out; have := HJ11.out; have := HJ17.out; first | omega | exact Nat.le_refl _⟩, ⟨by repeat (first | (with_reducible first | exact HB.out | apply below_alloc | apply pw_below_drewN | apply below_drew1) | exact HB.out)⟩⟩
                          case rest =>
                            clear HC21
                            try clear c1
                            try clear c2
                            try clear p2
                            try clear q2
                            try clear hx2
                            try clear c3
                            try clear c3b0
                            try clear c4
                            try clear c4b0
                            try clear c6
                            try clear p6
                            try clear c9
                            try clear c9b0
                            try clear c9b1
                            try clear c10
                            try clear c10b0
                            try clear c10b1
                            try clear c11
                            try clear c13
                            try clear c13b0
                            try clear c13b1
                            try clear c14
                            try clear c14b0
                            try clear c14b1
                            try clear c15
                            try clear c15b0
                            try clear c15b1
                            try clear c16
                            try clear c16b0
                            try clear c16b1
                            try clear c17
                            try clear c19
                            try clear c19b0
                            try clear c19b1
                            try clear c20
                            try clear c23
                            try clear c24
                            try clear c24b0
                            try clear c25
                            try clear c25b0
                            try clear c26
                            try clear c26b0
                            try clear p27
                            try clear q27
                            try clear hx27
                            try clear hx271_0
                            try clear hx271_1
                            try clear hx271_2
                            try clear hx271_3
                            try clear hx272_0
                            try clear hx272_1
                            try clear hx272_2
                            try clear hx272_3
                            try clear hx275_0
                            try clear hx275_1
                            try clear hx275_2
                            try clear hx275_3
                            try clear hx276_0
                            try clear hx276_1
                            try clear hx276_2
                            try clear hx276_3
                            try clear p2
                            try clear p271
                            try clear p272
                            try clear p275
                            try clear p276
                            try clear p6
                            try clear q2
                            try clear q271
                            try clear q272
                            try clear q275
                            try clear q276
                            obtain ⟨kq, x91_20, rfl, HA, HJ20, HB⟩ := hcut
                            cases kq with
                            | zero => exact absurd HA.out (by simp [spec_l1fault.j3])
                            | succ kj20 =>
                              have H := HA.out
                              clear HA
                              simp only [spec_l1fault.j3] at H
                              by_cases c30 : x91_20 = true
                              · subst c30
                                have H1 : (some 5) = some r := by rw [if_pos rfl] at H; exact H
                                clear H
                                have H := H1
                                clear H1
                                obtain rfl := Option.some.inj H
                                go_wp2
                                go_ret
                                exact ⟨by first | rfl | (simp [errW_none, errW_some] <;> rfl) | (simp [*, errW_none, errW_some] <;> rfl), by repeat (first | (with_reducible first | exact HB.out | apply below_alloc | apply pw_below_drewN | apply below_drew1) | exact HB.out)⟩
                              · replace c30 := Bool.eq_false_iff.mpr c30
                                subst c30
                                have H1 : (if (wrap64 ((rd_T54 l0 a1).f0)) = 52 then (spec_l1fault.j4 kj20 a1 (l0.length : Int) (wrap64 ((rd_T54 l0 a1).f0)) (wrap64 ((rd_T54 l0 a1).f3)) ((wrap64 ((rd_T54 l0 a1).f3)) == 0)) else (spec_l1fault.j4 kj20 a1 (l0.length : Int) (wrap64 ((rd_T54 l0 a1).f0)) (wrap64 ((rd_T54 l0 a1).f3)) false)) = some r := by rw [if_neg (show ¬ (false = true) by decide)] at H; exact H
                                clear H
                                have H := H1
                                clear H1
                                have HC31 := Aside0.mk H
                                clear H
                                go_upto_region 14 with (fail)
                                go_cut [97] (fun v97 wc => ∃ (kq : Nat) (x97_30 : Bool), v97 = .bool x97_30 ∧ Aside0 (spec_l1fault.j4 kq a1 (l0.length : Int) (wrap64 ((rd_T54 l0 a1).f0)) (wrap64 ((rd_T54 l0 a1).f3)) x97_30 = some r) ∧ Aside0 (kq ≤ kj20) ∧ Aside0 (Below w.heap.size w wc))
                                case first =>
                                  have H := HC31.out
                                  clear HC31
                                  by_cases c32 : (wrap64 ((rd_T54 l0 a1).f0)) = 52
                                  · rw [if_pos c32] at H
                                    have c32b0 : ((wrap64 ((rd_T54 l0 a1).f0)) == 52) = true := beq_iff_eq.mpr c32
                                    have c32b1 : ((wrap64 ((rd_T54 l0 a1).f0)) != 52) = false := bne_eq_false_iff_eq.mpr c32
                                    clear c32
                                    (first | rw [c32b0] | (simp only [i64_w, i32_w]; rw [c32b0]) | skip)
                                    have H' := Aside0.mk H
                                    clear H
                                    go_wp2
                                    go_meet
                                    case rel => exact ⟨_, (((wrap64 ((rd_T54 l0 a1).f3)) == 0)), (by first | rfl | (simp; done) | (simp [*]; done)), H', ⟨by have := HJ6.out; have := HJ11.out; have := HJ17.out; have := HJ20.out; first | omega | exact Nat.le_refl _⟩, ⟨by repeat (first | (with_reducible first | exact HB.out | apply below_alloc | apply pw_below_drewN | apply below_drew1) | exact HB.out)⟩⟩
                                  · rw [if_neg c32] at H
                                    have c32b0 : ((wrap64 ((rd_T54 l0 a1).f0)) == 52) = false := beq_eq_false_iff_ne.mpr c32
                                    have c32b1 : ((wrap64 ((rd_T54 l0 a1).f0)) != 52) = true := bne_iff_ne.mpr c32
                                    (first | rw [c32b0] | (simp only [i64_w, i32_w]; rw [c32b0]) | skip)
                                    have H' := Aside0.mk H
                                    clear H
                                    go_wp2
                                    go_meet
                                    case rel => exact ⟨_, (false), (by first | rfl | (simp; done) | (simp [*]; done)), H', ⟨by have := HJ6.out; have := HJ11.out; have := HJ17.out; have := HJ20.out; first | omega | exact Nat.le_refl _⟩, ⟨by repeat (first | (with_reducible first | exact HB.out | apply below_alloc | apply pw_below_drewN | apply below_drew1) | exact HB.out)⟩⟩
                                case rest =>
                                  clear HC31
                                  try clear c1
                                  try clear c2
                                  try clear p2
                                  try clear q2
                                  try clear hx2
                                  try clear c3
                                  try clear c3b0
                                  try clear c4
                                  try clear c4b0
                                  try clear c6
                                  try clear p6
                                  try clear c9
                                  try clear c9b0
                                  try clear c9b1
                                  try clear c10
                                  try clear c10b0
                                  try clear c10b1
                                  try clear c11
                                  try clear c13
                                  try clear c13b0
                                  try clear c13b1
                                  try clear c14
                                  try clear c14b0
                                  try clear c14b1
                                  try clear c15
                                  try clear c15b0
                                  try clear c15b1
                                  try clear c16
                                  try clear c16b0
                                  try clear c16b1
                                  try clear c17
                                  try clear c19
                                  try clear c19b0
                                  try clear c19b1
                                  try clear c20
                                  try clear c23
                                  try clear c24
                                  try clear c24b0
                                  try clear c25
                                  try clear c25b0
                                  try clear c26
                                  try clear c26b0
                                  try clear p27
                                  try clear q27
                                  try clear hx27
                                  try clear c30
                                  try clear c32
                                  try clear c32b0
                                  try clear c32b1
                                  try clear hx271_0
                                  try clear hx271_1
                                  try clear hx271_2
                                  try clear hx271_3
                                  try clear hx272_0
                                  try clear hx272_1
                                  try clear hx272_2
                                  try clear hx272_3
                                  try clear hx275_0
                                  try clear hx275_1
                                  try clear hx275_2
                                  try clear hx275_3
                                  try clear hx276_0
                                  try clear hx276_1
                                  try clear hx276_2
                                  try clear hx276_3
                                  try clear p2
                                  try clear p27
                                  try clear p271
                                  try clear p272
                                  try clear p275
                                  try clear p276
                                  try clear p6
                                  try clear q2
                                  try clear q27
                                  try clear q271
                                  try clear q272
                                  try clear q275
                                  try clear q276
                                  obtain ⟨kq, x97_30, rfl, HA, HJ30, HB⟩ := hcut
                                  cases kq with
                                  | zero => exact absurd HA.out (by simp [spec_l1fault.j4])
                                  | succ kj30 =>
                                    have H := HA.out
                                    clear HA
                                    simp only [spec_l1fault.j4] at H
                                    by_cases c33 : x97_30 = true
                                    · subst c33
                                      have H1 : (some 6) = some r := by rw [if_pos rfl] at H; exact H
                                      clear H
                                      have H := H1
                                      clear H1
                                      obtain rfl := Option.some.inj H
                                      go_wp2
                                      go_ret
                                      exact ⟨by first | rfl | (simp [errW_none, errW_some] <;> rfl) | (simp [*, errW_none, errW_some] <;> rfl), by repeat (first | (with_reducible first | exact HB.out | apply below_alloc | apply pw_below_drewN | apply below_drew1) | exact HB.out)⟩
                                    · replace c33 := Bool.eq_false_iff.mpr c33
                                      subst c33
                                      have H1 : (if (wrap64 ((rd_T54 l0 a1).f0)) = 100 then (spec_l1fault.j5 kj30 a1 (l0.length : Int) (wrap64 ((rd_T54 l0 a1).f0)) (decide ((wrap64 ((rd_T54 l0 a1).f3)) ≥ 32))) else (if (wrap64 ((rd_T54 l0 a1).f0)) = 116 then (spec_l1fault.j5 kj30 a1 (l0.length : Int) (wrap64 ((rd_T54 l0 a1).f0)) (decide ((wrap64 ((rd_T54 l0 a1).f3)) ≥ 32))) else (spec_l1fault.j5 kj30 a1 (l0.length : Int) (wrap64 ((rd_T54 l0 a1).f0)) false))) = some r := by rw [if_neg (show ¬ (false = true) by decide)] at H; exact H
                                      clear H
                                      have H := H1
                                      clear H1
                                      have HC34 := Aside0.mk H
                                      clear H
                                      go_upto_region 16 with (fail)
                                      go_cut [107] (fun v107 wc => ∃ (kq : Nat) (x107_33 : Bool), v107 = .bool x107_33 ∧ Aside0 (spec_l1fault.j5 kq a1 (l0.length : Int) (wrap64 ((rd_T54 l0 a1).f0)) x107_33 = some r) ∧ Aside0 (kq ≤ kj30) ∧ Aside0 (Below w.heap.size w wc))
                                      case first =>
                                        have H := HC34.out
                                        clear HC34
                                        by_cases c35 : (wrap64 ((rd_T54 l0 a1).f0)) = 100
                                        · rw [if_pos c35] at H
                                          have c35b0 : ((wrap64 ((rd_T54 l0 a1).f0)) == 100) = true := beq_iff_eq.mpr c35
                                          have c35b1 : ((wrap64 ((rd_T54 l0 a1).f0)) != 100) = false := bne_eq_false_iff_eq.mpr c35
                                          clear c35
                                          (first | rw [c35b0] | (simp only [i64_w, i32_w]; rw [c35b0]) | skip)
                                          have H' := Aside0.mk H
                                          clear H
                                          go_wp2
                                          go_meet
                                          case rel => exact ⟨_, (decide ((wrap64 ((rd_T54 l0 a1).f3)) ≥ 32)), (by first | rfl | (simp; done) | (simp [*]; done)), H', ⟨by have := HJ6.out; have := HJ11.out; have := HJ17.out; have := HJ20.out; have := HJ30.out; first | omega | exact Nat.le_refl _⟩, ⟨by repeat (first | (with_reducible first | exact HB.out | apply below_alloc | apply pw_below_drewN | apply below_drew1) | exact HB.out)⟩⟩
                                        · rw [if_neg c35] at H
                                          have c35b0 : ((wrap64 ((rd_T54 l0 a1).f0)) == 100) = false := beq_eq_false_iff_ne.mpr c35
                                          have c35b1 : ((wrap64 ((rd_T54 l0 a1).f0)) != 100) = true := bne_iff_ne.mpr c35
                                          (first | rw [c35b0] | (simp only [i64_w, i32_w]; rw [c35b0]) | skip)
                                          by_cases c36 : (wrap64 ((rd_T54 l0 a1).f0)) = 116
                                          · rw [if_pos c36] at H
                                            have c36b0 : ((wrap64 ((rd_T54 l0 a1).f0)) == 116) = true := beq_iff_eq.mpr c36
                                            have c36b1 : ((wrap64 ((rd_T54 l0 a1).f0)) != 116) = false := bne_eq_false_iff_eq.mpr c36
                                            clear c36
                                            have H' := Aside0.mk H
                                            clear H
                                            go_wp2
                                            go_meet
                                            case rel => exact ⟨_, (decide ((wrap64 ((rd_T54 l0 a1).f3)) ≥ 32)), (by first | rfl | (simp; done) | (simp [*]; done)), H', ⟨by have := HJ6.out; have := HJ11.out; have := HJ17.out; have := HJ20.out; have := HJ30.out; first | omega | exact Nat.le_refl _⟩, ⟨by repeat (first | (with_reducible first | exact HB.out | apply below_alloc | apply pw_below_drewN | apply below_drew1) | exact HB.out)⟩⟩
                                          · rw [if_neg c36] at H
                                            have c36b0 : ((wrap64 ((rd_T54 l0 a1).f0)) == 116) = false := beq_eq_false_iff_ne.mpr c36
                                            have c36b1 : ((wrap64 ((rd_T54 l0 a1).f0)) != 116) = true := bne_iff_ne.mpr c36
                                            have H' := Aside0.mk H
                                            clear H
                                            go_wp2
                                            go_meet
                                            case rel => exact ⟨_, (false), (by first | rfl | (simp; done) | (simp [*]; done)), H', ⟨by have := HJ6.out; have := HJ11.out; have := HJ17.out; have := HJ20.out; have := HJ30.out; first | omega | exact Nat.le_refl _⟩, ⟨by repeat (first | (with_reducible first | exact HB.out | apply below_alloc | apply pw_below_drewN | apply below_drew1) | exact HB.out)⟩⟩
                                      case rest =>
                                        clear HC34
                                        try clear c1
                                        try clear c2
                                        try clear p2
                                        try clear q2
                                        try clear hx2
                                        try clear c3
                                        try clear c3b0
                                        try clear c4
                                        try clear c4b0
                                        try clear c6
                                        try clear p6
                                        try clear c9
                                        try clear c9b0
                                        try clear c9b1
                                        try clear c10
                                        try clear c10b0
                                        try clear c10b1
                                        try clear c11
                                        try clear c13
                                        try clear c13b0
                                        try clear c13b1
                                        try clear c14
                                        try clear c14b0
                                        try clear c14b1
                                        try clear c15
                                        try clear c15b0
                                        try clear c15b1
                                        try clear c16
                                        try clear c16b0
                                        try clear c16b1
                                        try clear c17
                                        try clear c19
                                        try clear c19b0
                                        try clear c19b1
                                        try clear c20
                                        try clear c23
                                        try clear c24
                                        try clear c24b0
                                        try clear c25
                                        try clear c25b0
                                        try clear c26
                                        try clear c26b0
                                        try clear p27
                                        try clear q27
                                        try clear hx27
                                        try clear c30
                                        try clear c32
                                        try clear c32b0
                                        try clear c32b1
                                        try clear c33
                                        try clear c35
                                        try clear c35b0
                                        try clear c35b1
                                        try clear c36
                                        try clear c36b0
                                        try clear c36b1
                                        try clear hx271_0
                                        try clear hx271_1
                                        try clear hx271_2
                                        try clear hx271_3
                                        try clear hx272_0
                                        try clear hx272_1
                                        try clear hx272_2
                                        try clear hx272_3
                                        try clear hx275_0
                                        try clear hx275_1
                                        try clear hx275_2
                                        try clear hx275_3
                                        try clear hx276_0
                                        try clear hx276_1
                                        try clear hx276_2
                                        try clear hx276_3
                                        try clear p2
                                        try clear p27
                                        try clear p271
                                        try clear p272
                                        try clear p275
                                        try clear p276
                                        try clear p6
                                        try clear q2
                                        try clear q27
                                        try clear q271
                                        try clear q272
                                        try clear q275
                                        try clear q276
                                        obtain ⟨kq, x107_33, rfl, HA, HJ33, HB⟩ := hcut
                                        cases kq with
                                        | zero => exact absurd HA.out (by simp [spec_l1fault.j5])
                                        | succ kj33 =>
                                          have H := HA.out
                                          clear HA
                                          simp only [spec_l1fault.j5] at H
                                          by_cases c37 : x107_33 = true
                                          · subst c37
                                            have H1 : (some 6) = some r := by rw [if_pos rfl] at H; exact H
                                            clear H
                                            have H := H1
                                            clear H1
                                            obtain rfl := Option.some.inj H
                                            go_wp2
                                            go_ret
                                            exact ⟨by first | rfl | (simp [errW_none, errW_some] <;> rfl) | (simp [*, errW_none, errW_some] <;> rfl), by repeat (first | (with_reducible first | exact HB.out | apply below_alloc | apply pw_below_drewN | apply below_drew1) | exact HB.out)⟩
                                          · replace c37 := Bool.eq_false_iff.mpr c37
                                            subst c37
                                            have H1 : (if a1 = (wrap64 ((l0.length : Int) - 1)) then (if (wrap64 ((rd_T54 l0 a1).f0)) = 6 then (some 0) else (if (wrap64 ((rd_T54 l0 a1).f0)) = 22 then (some 0) else (some 7))) else (some 0)) = some r := by rw [if_neg (show ¬ (false = true) by decide)] at H; exact H
                                            clear H
                                            have H := H1
                                            clear H1
                                            by_cases c38 : a1 = (wrap64 ((l0.length : Int) - 1))
                                            · rw [if_pos c38] at H
                                              have c38b0 : (a1 == (wrap64 ((l0.length : Int) - 1))) = true := beq_iff_eq.mpr c38
                                              have c38b1 : (a1 != (wrap64 ((l0.length : Int) - 1))) = false := bne_eq_false_iff_eq.mpr c38
                                              clear c38
                                              by_cases c39 : (wrap64 ((rd_T54 l0 a1).f0)) = 6
                                              · rw [if_pos c39] at H
                                                have c39b0 : ((wrap64 ((rd_T54 l0 a1).f0)) == 6) = true := beq_iff_eq.mpr c39
                                                have c39b1 : ((wrap64 ((rd_T54 l0 a1).f0)) != 6) = false := bne_eq_false_iff_eq.mpr c39
                                                clear c39
                                                obtain rfl := Option.some.inj H
                                                go_wp2
                                                go_ret
                                                exact ⟨by first | rfl | (simp [errW_none, errW_some] <;> rfl) | (simp [*, errW_none, errW_some] <;> rfl), by repeat (first | (with_reducible first | exact HB.out | apply below_alloc | apply pw_below_drewN | apply below_drew1) | exact HB.out)⟩
                                              · rw [if_neg c39] at H
                                                have c39b0 : ((wrap64 ((rd_T54 l0 a1).f0)) == 6) = false := beq_eq_false_iff_ne.mpr c39
                                                have c39b1 : ((wrap64 ((rd_T54 l0 a1).f0)) != 6) = true := bne_iff_ne.mpr c39
                                                by_cases c40 : (wrap64 ((rd_T54 l0 a1).f0)) = 22
                                                · rw [if_pos c40] at H
                                                  have c40b0 : ((wrap64 ((rd_T54 l0 a1).f0)) == 22) = true := beq_iff_eq.mpr c40
                                                  have c40b1 : ((wrap64 ((rd_T54 l0 a1).f0)) != 22) = false := bne_eq_false_iff_eq.mpr c40
                                                  clear c40
                                                  obtain rfl := Option.some.inj H
                                                  go_wp2
                                                  go_ret
                                                  exact ⟨by first | rfl | (simp [errW_none, errW_some] <;> rfl) | (simp [*, errW_none, errW_some] <;> rfl), by repeat (first | (with_reducible first | exact HB.out | apply below_alloc | apply pw_below_drewN | apply below_drew1) | exact HB.out)⟩
                                                · rw [if_neg c40] at H
                                                  have c40b0 : ((wrap64 ((rd_T54 l0 a1).f0)) == 22) = false := beq_eq_false_iff_ne.mpr c40
                                                  have c40b1 : ((wrap64 ((rd_T54 l0 a1).f0)) != 22) = true := bne_iff_ne.mpr c40
                                                  obtain rfl := Option.some.inj H
                                                  go_wp2
                                                  go_ret
                                                  exact ⟨by first | rfl | (simp [errW_none, errW_some] <;> rfl) | (simp [*, errW_none, errW_some] <;> rfl), by repeat (first | (with_reducible first | exact HB.out | apply below_alloc | apply pw_below_drewN | apply below_drew1) | exact HB.out)⟩
                                            · rw [if_neg c38] at H
                                              have c38b0 : (a1 == (wrap64 ((l0.length : Int) - 1))) = false := beq_eq_false_iff_ne.mpr c38
                                              have c38b1 : (a1 != (wrap64 ((l0.length : Int) - 1))) = true := bne_iff_ne.mpr c38
                                              obtain rfl := Option.some.inj H
                                              go_wp2
                                              go_ret
                                              exact ⟨by first | rfl | (simp [errW_none, errW_some] <;> rfl) | (simp [*, errW_none, errW_some] <;> rfl), by repeat (first | (with_reducible first | exact HB.out | apply below_alloc | apply pw_below_drewN | apply below_drew1) | exact HB.out)⟩
      · replace c6 := Bool.eq_false_iff.mpr c6
        subst c6
        have H1 : (some 2) = some r := by rw [if_neg (show ¬ (false = true) by decide)] at H; exact H
        clear H
        have H := H1
        clear H1
        obtain rfl := Option.some.inj H
        have p271 : 0 ≤ (a1 : Int) := of_decide_eq_true (by first | (with_reducible assumption) | assumption)
        have q271 : a1 < (l0.length : Int) := of_decide_eq_true (by first | (with_reducible assumption) | assumption)
        obtain ⟨ad271, e271, hx271_0, hx271_1, hx271_2, hx271_3⟩ := at_T54 HR0.out a1 p271 q271
        cases e271
        replace p271 := eq_true p271
        replace q271 := eq_true q271
        have p272 : 0 ≤ (a1 : Int) := of_decide_eq_true (by first | (with_reducible assumption) | assumption)
        have q272 : a1 < (l0.length : Int) := of_decide_eq_true (by first | (with_reducible assumption) | assumption)
        obtain ⟨ad272, e272, hx272_0, hx272_1, hx272_2, hx272_3⟩ := at_T54 HR0.out a1 p272 q272
        obtain rfl : ad271 = ad272 := (by injection e272)
        replace p272 := eq_true p272
        replace q272 := eq_true q272
        go_enter Try.func45, Try.ntmps45
        go_wp2_with (first | ((with_reducible refine gate_callee (f := 61) rfl ?_); refine goesL_ (some 23) rfl rfl Try.func61 (by kernel_rfl) rfl #[.int .i64 (wrap64 ((rd_T54 l0 a1).f0))] rfl (by (try simp only [List.map_toArray, List.map_cons, List.map_nil]); first | done | rfl | (simp only [List.length_drop, List.length_take]; rfl)) ?_; (with_reducible refine (spec_l1known.calls k (wrap64 ((rd_T54 l0 a1).f0)) false _ A5.out).mono ?_); rintro e w41 ⟨rfl, hb⟩; refine ⟨_, rfl, ?_⟩; have n0_ := Aside0.mk (below_step (by repeat (first | (with_reducible first | exact HB.out | apply below_alloc | apply pw_below_drewN | apply below_drew1) | exact HB.out)) hb); clear HB; have HB := n0_; clear n0_; (try clear hb); (try clear hb2); (try clear hk); (try clear hi)))
        go_ret
        exact ⟨by first | rfl | (simp [errW_none, errW_some] <;> rfl) | (simp [*, errW_none, errW_some] <;> rfl), by repeat (first | (with_reducible first | exact HB.out | apply below_alloc | apply pw_below_drewN | apply below_drew1) | exact HB.out)⟩
    · rw [if_neg c4] at H
      exact absurd H (by simp)
  · rw [if_neg c3] at H
    exact absurd H (by simp)

end Go.Proofs.Ytgodbniphkfgfaa.P
