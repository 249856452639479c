import Derived.Test.YtgodbniphkfgfaaGFnExactRun5
import Derived.Test.YtgodbniphkfgfaaGFnExactRun12
import Derived.Test.YtgodbniphkfgfaaGFnExactRun9
namespace Go.Proofs.Ytgodbniphkfgfaa.P
open Go.RowKit Go.Proofs.YtgodbniphkfgfaaW.PrintWords Go.Proofs.YtgodbniphkfgfaaW.PrintLast Go.Proofs.YtgodbniphkfgfaaW.PrintMore
attribute [local go_sem] max2_int min2_int max_two min_two max_three min_three max_four min_four   -- for this text's walks alone
set_option linter.unusedVariables false
set_option linter.unusedSimpArgs false

/-! ### spec_Validate: function 26 -/
mutual
def spec_Validate.j0 : Nat → List (S54) → Bool → Option (Int × Int)
  | 0, _, _ => none
  | k + 1, x0, x13 => if x13 = true then (some (1, 0)) else (spec_Validate.l0 k x0 0)
def spec_Validate.l0 : Nat → List (S54) → Int → Option (Int × Int)
  | 0, _, _ => none
  | k + 1, x0, x4 => if x4 < (x0.length : Int) then ((spec_l1fault.f k x0 x4).bind fun t277 => (if t277 = 0 then (spec_Validate.l0 k x0 (wrap64 (x4 + 1))) else (some (t277, x4)))) else (some (0, 0))
end
def spec_Validate.f (k : Nat) (l0 : List (S54)) : Option (Int × Int) := if (l0.length : Int) < 1 then (spec_Validate.j0 k l0 true) else (spec_Validate.j0 k l0 (decide ((l0.length : Int) > 4096)))
set_option maxHeartbeats 8000000 in
set_option maxRecDepth 100000 in
theorem spec_Validate.calls (k : Nat) (A0 : Option Addr) (c0 : Nat) (l0 : List (S54)) (r1 : Int) (r2 : Int) (w : World) (hr0 : Kd.C k54 w A0 l0.length l0) (hc0 : l0.length ≤ c0) (h : spec_Validate.f k l0 = some (r1, r2)) :
    Calls Try.prog 26 #[.slice A0 l0.length c0] w fun e w' => e = .returned (.tuple #[.int .i64 r1, .int .i64 r2]) ∧ Below w.heap.size w w' := by
  have HR0 := Aside0.mk hr0
  have HC0 := Aside0.mk hc0
  clear hr0 hc0
  have HB := Aside0.mk (Below.refl w.heap.size w)
  have H : (if (l0.length : Int) < 1 then (spec_Validate.j0 k l0 true) else (spec_Validate.j0 k l0 (decide ((l0.length : Int) > 4096)))) = some (r1, r2) := h
  clear h
  have HC2 := Aside0.mk H
  clear H
  go_enter Try.func26, Try.ntmps26
  go_upto_region 1 with (fail)
  go_cut [13] (fun v13 wc => ∃ (kq : Nat) (x13_1 : Bool), v13 = .bool x13_1 ∧ Aside0 (spec_Validate.j0 kq l0 x13_1 = some (r1, r2)) ∧ Aside0 (kq ≤ k) ∧ Aside0 (Below w.heap.size w wc))
  case first =>
    have H := HC2.out
    clear HC2
    by_cases c3 : (l0.length : Int) < 1
    · rw [if_pos c3] at H
      have c3b0 : decide ((l0.length : Int) < 1) = true := decide_eq_true c3
      have c3b1 : decide (l0.length < 1) = true := decide_eq_true (by omega)
      clear c3
      (first | rw [c3b0] | (simp only [i64_w, i32_w]; rw [c3b0]) | skip)
      have H' := Aside0.mk H
      clear H
      go_wp2
      go_meet
      case rel => exact ⟨_, (true), (by first | rfl | (simp; done) | (simp [*]; done)), H', ⟨by first | omega | exact Nat.le_refl _⟩, ⟨by repeat (first | (with_reducible first | exact HB.out | apply below_alloc | apply pw_below_drewN | apply below_drew1) | exact HB.out)⟩⟩
    · rw [if_neg c3] at H
      have c3b0 : decide ((l0.length : Int) < 1) = false := decide_eq_false c3
      have c3b1 : decide (l0.length < 1) = false := decide_eq_false (by omega)
      clear c3
      (first | rw [c3b0] | (simp only [i64_w, i32_w]; rw [c3b0]) | skip)
      have H' := Aside0.mk H
      clear H
      go_wp2
      go_meet
      case rel => exact ⟨_, (decide ((l0.length : Int) > 4096)), (by first | rfl | (simp; done) | (simp [*]; done)), H', ⟨by first | omega | exact Nat.le_refl _⟩, ⟨by repeat (first | (with_reducible first | exact HB.out | apply below_alloc | apply pw_below_drewN | apply below_drew1) | exact HB.out)⟩⟩
  case rest =>
    clear HC2
    try clear c2
    try clear p2
    try clear c3
    try clear c3b0
    try clear c3b1
    obtain ⟨kq, x13_1, rfl, HA, HJ1, HB⟩ := hcut
    cases kq with
    | zero => exact absurd HA.out (by simp [spec_Validate.j0])
    | succ kj1 =>
      have H := HA.out
      clear HA
      simp only [spec_Validate.j0] at H
      by_cases c4 : x13_1 = true
      · subst c4
        have H1 : (some (1, 0)) = some (r1, r2) := by rw [if_pos rfl] at H; exact H
        clear H
        have H := H1
        clear H1
        simp only [Option.some.injEq, Prod.mk.injEq] at H
        obtain ⟨rfl, rfl⟩ := H
        go_wp2
        go_ret2
        exact ⟨by first | rfl | (simp [errW_none, errW_some] <;> rfl) | (simp [*, errW_none, errW_some] <;> rfl), by repeat (first | (with_reducible first | exact HB.out | apply below_alloc | apply pw_below_drewN | apply below_drew1) | exact HB.out)⟩
      · replace c4 := Bool.eq_false_iff.mpr c4
        subst c4
        have H1 : (spec_Validate.l0 kj1 l0 0) = some (r1, r2) := by rw [if_neg (show ¬ (false = true) by decide)] at H; exact H
        clear H
        have H := H1
        clear H1
        have H' := Aside0.mk H
        clear H
        go_wp2
        go_loopg [4] kj1 (fun kq v4 w' => ∃ (x4_2 : Int), v4 = .int .i64 x4_2 ∧ Aside0 (spec_Validate.l0 kq l0 x4_2 = some (r1, r2)) ∧ Aside0 (kq ≤ kj1) ∧ Aside0 (Below w.heap.size w w'))
        case atStart => exact ⟨(0), (by first | rfl | (simp; done) | (simp [*]; done)), H', ⟨Nat.le_refl _⟩, ⟨by repeat (first | (with_reducible first | exact HB.out | apply below_alloc | apply pw_below_drewN | apply below_drew1) | exact HB.out)⟩⟩
        case round =>
          clear H'
          try clear c2
          try clear p2
          try clear c3
          try clear c3b0
          try clear c3b1
          try clear c4
          try clear p2
          obtain ⟨x4_2, rfl, HA, HK2, HB⟩ := hrel
          cases gk with
          | zero => exact absurd HA.out (by simp [spec_Validate.l0])
          | succ k2 =>
            have H := HA.out
            clear HA
            simp only [spec_Validate.l0] at H
            by_cases c5 : x4_2 < (l0.length : Int)
            · rw [if_pos c5] at H
              have c5b0 : decide (x4_2 < (l0.length : Int)) = true := decide_eq_true c5
              clear c5
              replace H := Option.bind_eq_some_iff.mp H
              obtain ⟨t277, A60, H⟩ := H
              replace H : (if t277 = 0 then (spec_Validate.l0 k2 l0 (wrap64 (x4_2 + 1))) else (some (t277, x4_2))) = some (r1, r2) := H
              have A6 := Aside0.mk A60
              clear A60
              by_cases c7 : t277 = 0
              · rw [if_pos c7] at H
                have c7b0 : (t277 == 0) = true := beq_iff_eq.mpr c7
                have c7b1 : (t277 != 0) = false := bne_eq_false_iff_eq.mpr c7
                clear c7
                have H' := Aside0.mk H
                clear H
                go_wp2_with (first | ((with_reducible refine gate_callee (f := 45) rfl ?_); refine goesL_ (some 22) rfl rfl Try.func45 (by kernel_rfl) rfl #[.slice A0 l0.length c0, .int .i64 x4_2] rfl (by (try simp only [List.map_toArray, List.map_cons, List.map_nil]); first | done | rfl | (simp only [List.length_drop, List.length_take]; rfl)) ?_; (with_reducible refine (spec_l1fault.calls k2 _ _ l0 x4_2 t277 _ ?side1 ?side2 A6.out).mono ?_); (case side1 => repeat (first | exact (Kd.C_below HR0.out HB.out) | (with_reducible refine Kd.C_alloc ?_ _) | (with_reducible refine Kd.C_drewN ?_ _) | (with_reducible refine Kd.C_drew ?_))); (case side2 => exact HC0.out); rintro e w8 ⟨rfl, hb⟩; refine ⟨_, rfl, ?_⟩; have n0_ := Aside0.mk (below_step (by repeat (first | (with_reducible first | exact HB.out | apply below_alloc | apply pw_below_drewN | apply below_drew1) | exact HB.out)) hb); clear HB; have HB := n0_; clear n0_; (try clear hb); (try clear hb2); (try clear hk); (try clear hi)))
                go_roundg k2
                case measure => have := HJ1.out; have := HK2.out; omega
                case rel => exact ⟨(wrap64 (x4_2 + 1)), (by first | rfl | (simp; done) | (simp [*]; done)), H', ⟨by have := HJ1.out; have := HK2.out; omega⟩, ⟨by repeat (first | (with_reducible first | exact HB.out | apply below_alloc | apply pw_below_drewN | apply below_drew1) | exact HB.out)⟩⟩
              · rw [if_neg c7] at H
                have c7b0 : (t277 == 0) = false := beq_eq_false_iff_ne.mpr c7
                have c7b1 : (t277 != 0) = true := bne_iff_ne.mpr c7
                simp only [Option.some.injEq, Prod.mk.injEq] at H
                obtain ⟨rfl, rfl⟩ := H
                go_wp2_with (first | ((with_reducible refine gate_callee (f := 45) rfl ?_); refine goesL_ (some 22) rfl rfl Try.func45 (by kernel_rfl) rfl #[.slice A0 l0.length c0, .int .i64 x4_2] rfl (by (try simp only [List.map_toArray, List.map_cons, List.map_nil]); first | done | rfl | (simp only [List.length_drop, List.length_take]; rfl)) ?_; (with_reducible refine (spec_l1fault.calls k2 _ _ l0 x4_2 t277 _ ?side1 ?side2 A6.out).mono ?_); (case side1 => repeat (first | exact (Kd.C_below HR0.out HB.out) | (with_reducible refine Kd.C_alloc ?_ _) | (with_reducible refine Kd.C_drewN ?_ _) | (with_reducible refine Kd.C_drew ?_))); (case side2 => exact HC0.out); rintro e w9 ⟨rfl, hb⟩; refine ⟨_, rfl, ?_⟩; have n0_ := Aside0.mk (below_step (by repeat (first | (with_reducible first | exact HB.out | apply below_alloc | apply pw_below_drewN | apply below_drew1) | exact HB.out)) hb); clear HB; have HB := n0_; clear n0_; (try clear hb); (try clear hb2); (try clear hk); (try clear hi)))
                go_ret2
                exact ⟨by first | rfl | (simp [errW_none, errW_some] <;> rfl) | (simp [*, errW_none, errW_some] <;> rfl), by repeat (first | (with_reducible first | exact HB.out | apply below_alloc | apply pw_below_drewN | apply below_drew1) | exact HB.out)⟩
            · rw [if_neg c5] at H
              have c5b0 : decide (x4_2 < (l0.length : Int)) = false := decide_eq_false c5
              clear c5
              simp only [Option.some.injEq, Prod.mk.injEq] at H
              obtain ⟨rfl, rfl⟩ := H
              go_wp2
              go_ret2
              exact ⟨by first | rfl | (simp [errW_none, errW_some] <;> rfl) | (simp [*, errW_none, errW_some] <;> rfl), by repeat (first | (with_reducible first | exact HB.out | apply below_alloc | apply pw_below_drewN | apply below_drew1) | exact HB.out)⟩

end Go.Proofs.Ytgodbniphkfgfaa.P

namespace Go.Proofs.Ytgodbniphkfgfaa.P
open Go.RowKit Go.Proofs.YtgodbniphkfgfaaW.PrintWords Go.Proofs.YtgodbniphkfgfaaW.PrintLast Go.Proofs.YtgodbniphkfgfaaW.PrintMore
attribute [local go_sem] max2_int min2_int max_two min_two max_three min_three max_four min_four   -- for this text's walks alone
set_option linter.unusedVariables false
set_option linter.unusedSimpArgs false

/-! ### slices_Index_uint16_uint16: function 73 -/
def slices_Index_uint16_uint16.l0 : Nat → List Int → Int → Int → Int → Option (Int)
  | 0, _, _, _, _ => none
  | k + 1, x0, x1, x7, x8 => if x8 < x7 then (if 0 ≤ x8 then (if x8 < (x0.length : Int) then (if x1 = (rd x0 x8) then (some x8) else (slices_Index_uint16_uint16.l0 k x0 x1 x7 (wrap64 (x8 + 1)))) else (none)) else (none)) else (some (-1))
def slices_Index_uint16_uint16.f (k : Nat) (l0 : List Int) (a1 : Int) : Option (Int) := slices_Index_uint16_uint16.l0 k l0 a1 (l0.length : Int) 0
set_option maxHeartbeats 8000000 in
set_option maxRecDepth 100000 in
theorem slices_Index_uint16_uint16.calls (k : Nat) (A0 : Option Addr) (c0 : Nat) (l0 : List Int) (a1 : Int) (r : Int) (w : World) (hr0 : Kd.C (Kd.int .u16) w A0 l0.length l0) (hc0 : l0.length ≤ c0) (h : slices_Index_uint16_uint16.f k l0 a1 = some r) :
    Calls Try.prog 73 #[.slice A0 l0.length c0, .int .u16 a1] w fun e w' => e = .returned (.int .i64 r) ∧ Drawn0 w w' := by
  have HR0 := Aside0.mk hr0
  have HC0 := Aside0.mk hc0
  clear hr0 hc0
  have H : (slices_Index_uint16_uint16.l0 k l0 a1 (l0.length : Int) 0) = some r := h
  clear h
  have H' := Aside0.mk H
  clear H
  go_enter Try.func73, Try.ntmps73
  go_wp2
  go_loopg [8] k (fun kq v8 w' => ∃ (x8_1 : Int), v8 = .int .i64 x8_1 ∧ Aside0 (slices_Index_uint16_uint16.l0 kq l0 a1 (l0.length : Int) x8_1 = some r) ∧ Aside0 (kq ≤ k) ∧ Drawn0 w w')
  case atStart => exact ⟨(0), (by first | rfl | (simp; done) | (simp [*]; done)), H', ⟨Nat.le_refl _⟩, by repeat (first | exact Drawn0.refl _ | apply Drawn0.step)⟩
  case round =>
    clear H'
    try clear p2
    obtain ⟨x8_1, rfl, HA, HK1, ⟨m1, rfl⟩⟩ := hrel
    cases gk with
    | zero => exact absurd HA.out (by simp [slices_Index_uint16_uint16.l0])
    | succ k1 =>
      have H := HA.out
      clear HA
      simp only [slices_Index_uint16_uint16.l0] at H
      by_cases c3 : x8_1 < (l0.length : Int)
      · rw [if_pos c3] at H
        have c3b0 : decide (x8_1 < (l0.length : Int)) = true := decide_eq_true c3
        clear c3
        by_cases c4 : 0 ≤ x8_1
        · rw [if_pos c4] at H
          have c4b0 : decide (0 ≤ x8_1) = true := decide_eq_true c4
          clear c4
          by_cases c5 : x8_1 < (l0.length : Int)
          · rw [if_pos c5] at H
            have c5b0 : decide (x8_1 < (l0.length : Int)) = true := decide_eq_true c5
            clear c5
            by_cases c6 : a1 = (rd l0 x8_1)
            · rw [if_pos c6] at H
              have c6b0 : (a1 == (rd l0 x8_1)) = true := beq_iff_eq.mpr c6
              have c6b1 : (a1 != (rd l0 x8_1)) = false := bne_eq_false_iff_eq.mpr c6
              clear c6
              obtain rfl := Option.some.inj H
              have p410 : 0 ≤ (x8_1 : Int) := of_decide_eq_true (by first | (with_reducible assumption) | assumption)
              have q410 : x8_1 < (l0.length : Int) := of_decide_eq_true (by first | (with_reducible assumption) | assumption)
              obtain ⟨ad410, e410, hx410_0⟩ := Kd.at_int HR0.out x8_1 p410 q410
              cases e410
              replace p410 := eq_true p410
              replace q410 := eq_true q410
              go_wp2
              go_ret
              exact ⟨by first | rfl | (simp; done) | (simp [*]; done), by repeat (first | exact Drawn0.refl _ | apply Drawn0.step)⟩
            · rw [if_neg c6] at H
              have c6b0 : (a1 == (rd l0 x8_1)) = false := beq_eq_false_iff_ne.mpr c6
              have c6b1 : (a1 != (rd l0 x8_1)) = true := bne_iff_ne.mpr c6
              have H' := Aside0.mk H
              clear H
              have p410 : 0 ≤ (x8_1 : Int) := of_decide_eq_true (by first | (with_reducible assumption) | assumption)
              have q410 : x8_1 < (l0.length : Int) := of_decide_eq_true (by first | (with_reducible assumption) | assumption)
              obtain ⟨ad410, e410, hx410_0⟩ := Kd.at_int HR0.out x8_1 p410 q410
              cases e410
              replace p410 := eq_true p410
              replace q410 := eq_true q410
              go_wp2
              go_roundg k1
              case measure => have := HK1.out; omega
              case rel => exact ⟨(wrap64 (x8_1 + 1)), (by first | rfl | (simp; done) | (simp [*]; done)), H', ⟨by have := HK1.out; omega⟩, by repeat (first | exact Drawn0.refl _ | apply Drawn0.step)⟩
          · rw [if_neg c5] at H
            exact absurd H (by simp)
        · rw [if_neg c4] at H
          exact absurd H (by simp)
      · rw [if_neg c3] at H
        have c3b0 : decide (x8_1 < (l0.length : Int)) = false := decide_eq_false c3
        clear c3
        obtain rfl := Option.some.inj H
        go_wp2
        go_ret
        exact ⟨by first | rfl | (simp; done) | (simp [*]; done), by repeat (first | exact Drawn0.refl _ | apply Drawn0.step)⟩

end Go.Proofs.Ytgodbniphkfgfaa.P

namespace Go.Proofs.Ytgodbniphkfgfaa.P
open Go.RowKit Go.Proofs.YtgodbniphkfgfaaW.PrintWords Go.Proofs.YtgodbniphkfgfaaW.PrintLast Go.Proofs.YtgodbniphkfgfaaW.PrintMore
attribute [local go_sem] max2_int min2_int max_two min_two max_three min_three max_four min_four   -- for this text's walks alone
set_option linter.unusedVariables false
set_option linter.unusedSimpArgs false

/-! ### slices_Contains_uint16_uint16: function 64 -/
def slices_Contains_uint16_uint16.f (k : Nat) (l0 : List Int) (a1 : Int) : Option (Bool) := (slices_Index_uint16_uint16.f k l0 a1).bind fun t411 => (some (decide (t411 ≥ 0)))
set_option maxHeartbeats 8000000 in
set_option maxRecDepth 100000 in
theorem slices_Contains_uint16_uint16.calls (k : Nat) (A0 : Option Addr) (c0 : Nat) (l0 : List Int) (a1 : Int) (r : Bool) (w : World) (hr0 : Kd.C (Kd.int .u16) w A0 l0.length l0) (hc0 : l0.length ≤ c0) (h : slices_Contains_uint16_uint16.f k l0 a1 = some r) :
    Calls Try.prog 64 #[.slice A0 l0.length c0, .int .u16 a1] w fun e w' => e = .returned (.bool r) ∧ Drawn0 w w' := by
  have HR0 := Aside0.mk hr0
  have HC0 := Aside0.mk hc0
  clear hr0 hc0
  have H : ((slices_Index_uint16_uint16.f k l0 a1).bind fun t411 => (some (decide (t411 ≥ 0)))) = some r := h
  clear h
  replace H := Option.bind_eq_some_iff.mp H
  obtain ⟨t411, A30, H⟩ := H
  replace H : (some (decide (t411 ≥ 0))) = some r := H
  have A3 := Aside0.mk A30
  clear A30
  obtain rfl := Option.some.inj H
  go_enter Try.func64, Try.ntmps64
  go_wp2_with (first | ((with_reducible refine gate_callee (f := 73) rfl ?_); refine goesL_ (some 7) rfl rfl Try.func73 (by kernel_rfl) rfl #[.slice A0 l0.length c0, .int .u16 a1] rfl (by (try simp only [List.map_toArray, List.map_cons, List.map_nil]); first | done | rfl | (simp only [List.length_drop, List.length_take]; rfl)) ?_; (with_reducible refine (slices_Index_uint16_uint16.calls k _ _ l0 a1 t411 _ ?side1 ?side2 A3.out).mono ?_); (case side1 => repeat (first | exact HR0.out | (with_reducible refine Kd.C_alloc ?_ _) | (with_reducible refine Kd.C_drewN ?_ _) | (with_reducible refine Kd.C_drew ?_))); (case side2 => exact HC0.out); rintro e w' ⟨rfl, ⟨nd, rfl⟩⟩; refine ⟨_, rfl, ?_⟩))
  go_ret
  exact ⟨by first | rfl | (simp; done) | (simp [*]; done), by repeat (first | exact Drawn0.refl _ | apply Drawn0.step)⟩

end Go.Proofs.Ytgodbniphkfgfaa.P

namespace Go.Proofs.Ytgodbniphkfgfaa.P
open Go.RowKit Go.Proofs.YtgodbniphkfgfaaW.PrintWords Go.Proofs.YtgodbniphkfgfaaW.PrintLast Go.Proofs.YtgodbniphkfgfaaW.PrintMore
attribute [local go_sem] max2_int min2_int max_two min_two max_three min_three max_four min_four   -- for this text's walks alone
set_option linter.unusedVariables false
set_option linter.unusedSimpArgs false

/-! ### impl_Ins_fault: function 46 -/
mutual
def impl_Ins_fault.j0 : Nat → Int → Int → Int → Bool → Int → Int → Int → Int → Option (Int)
  | 0, _, _, _, _, _, _, _, _ => none
  | k + 1, x1, x2, x7, x14, x413000, x413001, x413002, x413003 => if x14 = true then (some 3) else ((slices_Contains_uint16_uint16.f k (([96, 97, 2, 3] : List Int)) x413000).bind fun t417 => (if t417 = true then (impl_Ins_fault.j1 k x1 x2 x7 (decide (x413003 ≥ 16)) x413000 x413001 x413002 x413003) else (impl_Ins_fault.j1 k x1 x2 x7 false x413000 x413001 x413002 x413003)))
def impl_Ins_fault.j1 : Nat → Int → Int → Int → Bool → Int → Int → Int → Int → Option (Int)
  | 0, _, _, _, _, _, _, _, _ => none
  | k + 1, x1, x2, x7, x29, x413000, x413001, x413002, x413003 => if x29 = true then (some 4) else (if x7 = 3 then (impl_Ins_fault.j2 k x1 x2 x7 (decide ((IntKind.u64.wrap ((IntKind.u64.wrap ((IntKind.u64.wrap (x1)) + 1)) + (IntKind.u64.wrap (x413003)))) ≥ (IntKind.u64.wrap (x2)))) x413000 x413001 x413002 x413003) else (impl_Ins_fault.j2 k x1 x2 x7 false x413000 x413001 x413002 x413003))
def impl_Ins_fault.j2 : Nat → Int → Int → Int → Bool → Int → Int → Int → Int → Option (Int)
  | 0, _, _, _, _, _, _, _, _ => none
  | k + 1, x1, x2, x7, x39, x413000, x413001, x413002, x413003 => if x39 = true then (some 5) else (if x7 = 2 then (impl_Ins_fault.j3 k x1 x2 x7 (decide ((wrap64 ((wrap64 (x1 + 1)) + (wrap64 (mx x413001 x413002)))) ≥ x2)) x413000 x413001 x413002 x413003) else (impl_Ins_fault.j3 k x1 x2 x7 false x413000 x413001 x413002 x413003))
def impl_Ins_fault.j3 : Nat → Int → Int → Int → Bool → Int → Int → Int → Int → Option (Int)
  | 0, _, _, _, _, _, _, _, _ => none
  | k + 1, x1, x2, x7, x54, x413000, x413001, x413002, x413003 => if x54 = true then (some 5) else (if x413000 = 52 then (impl_Ins_fault.j4 k x1 x2 x7 (x413003 == 0) x413000 x413001 x413002 x413003) else (impl_Ins_fault.j4 k x1 x2 x7 false x413000 x413001 x413002 x413003))
def impl_Ins_fault.j4 : Nat → Int → Int → Int → Bool → Int → Int → Int → Int → Option (Int)
  | 0, _, _, _, _, _, _, _, _ => none
  | k + 1, x1, x2, x7, x70, x413000, x413001, x413002, x413003 => if x70 = true then (impl_Ins_fault.j5 k x1 x2 x7 x70) else (if x413000 = 100 then (impl_Ins_fault.j5 k x1 x2 x7 (decide (x413003 ≥ 32))) else (if x413000 = 116 then (impl_Ins_fault.j5 k x1 x2 x7 (decide (x413003 ≥ 32))) else (impl_Ins_fault.j5 k x1 x2 x7 false)))
def impl_Ins_fault.j5 : Nat → Int → Int → Int → Bool → Option (Int)
  | 0, _, _, _, _ => none
  | k + 1, x1, x2, x7, x70 => if x70 = true then (some 6) else (if x1 = (wrap64 (x2 - 1)) then (if x7 = 4 then (some 0) else (some 7)) else (some 0))
end
def impl_Ins_fault.f (k : Nat) (a0_0 : Int) (a0_1 : Int) (a0_2 : Int) (a0_3 : Int) (a1 : Int) (a2 : Int) : Option (Int) := (impl_sortOf.f k a0_0).bind fun t413 => (if t413 = 0 then (some 2) else (if a0_0 = 32 then (if (Int.tmod a0_3 4) = 0 then (impl_Ins_fault.j0 k a1 a2 t413 (decide (a0_3 > 60)) a0_0 a0_1 a0_2 a0_3) else (impl_Ins_fault.j0 k a1 a2 t413 true a0_0 a0_1 a0_2 a0_3)) else (impl_Ins_fault.j0 k a1 a2 t413 false a0_0 a0_1 a0_2 a0_3)))
set_option maxHeartbeats 8000000 in
set_option maxRecDepth 100000 in
theorem impl_Ins_fault.calls (k : Nat) (a0_0 : Int) (a0_1 : Int) (a0_2 : Int) (a0_3 : Int) (a1 : Int) (a2 : Int) (r : Int) (w : World) (h : impl_Ins_fault.f k a0_0 a0_1 a0_2 a0_3 a1 a2 = some r) :
    Calls Try.prog 46 #[.agg #[.int .u16 a0_0, .int .u8 a0_1, .int .u8 a0_2, .int .u32 a0_3], .int .i64 a1, .int .i64 a2] w fun e w' => e = .returned (.int .i64 r) ∧ Below w.heap.size w w' := by
  have hu54 := Try.underlying54
  have HB := Aside0.mk (Below.refl w.heap.size w)
  have H : ((impl_sortOf.f k a0_0).bind fun t413 => (if t413 = 0 then (some 2) else (if a0_0 = 32 then (if (Int.tmod a0_3 4) = 0 then (impl_Ins_fault.j0 k a1 a2 t413 (decide (a0_3 > 60)) a0_0 a0_1 a0_2 a0_3) else (impl_Ins_fault.j0 k a1 a2 t413 true a0_0 a0_1 a0_2 a0_3)) else (impl_Ins_fault.j0 k a1 a2 t413 false a0_0 a0_1 a0_2 a0_3)))) = some r := h
  clear h
  replace H := Option.bind_eq_some_iff.mp H
  obtain ⟨t413, A40, H⟩ := H
  replace H : (if t413 = 0 then (some 2) else (if a0_0 = 32 then (if (Int.tmod a0_3 4) = 0 then (impl_Ins_fault.j0 k a1 a2 t413 (decide (a0_3 > 60)) a0_0 a0_1 a0_2 a0_3) else (impl_Ins_fault.j0 k a1 a2 t413 true a0_0 a0_1 a0_2 a0_3)) else (impl_Ins_fault.j0 k a1 a2 t413 false a0_0 a0_1 a0_2 a0_3))) = some r := H
  have A4 := Aside0.mk A40
  clear A40
  by_cases c5 : t413 = 0
  · rw [if_pos c5] at H
    have c5b0 : (t413 == 0) = true := beq_iff_eq.mpr c5
    have c5b1 : (t413 != 0) = false := bne_eq_false_iff_eq.mpr c5
    clear c5
    obtain rfl := Option.some.inj H
    go_enter Try.func46, Try.ntmps46
    go_wp2_with (first | ((with_reducible refine gate_dst (N := 3) rfl ?_); (try (refine gate_guard (by rfl) ?_; dsimp only)); refine box_event ?hg (N := 3) ?hd (cs := #[.int .u16 a0_0, .int .u8 a0_1, .int .u8 a0_2, .int .u32 a0_3]) (t := 54) ?hr ?_; (case hd => rfl); (case hg => rfl); (case hr => first | (go_simp; done) | (go_simp; rfl)); intro gb412 hg w6 hbox hb; have n0_ := Aside0.mk (below_step (by repeat (first | (with_reducible first | exact HB.out | apply below_alloc | apply pw_below_drewN | apply below_drew1) | exact HB.out)) hb); have n1_ := Aside0.mk (hbox); have n2_ := Aside0.mk ((by rw [hg]; exact (below_size (by repeat (first | (with_reducible first | exact HB.out | apply below_alloc | apply pw_below_drewN | apply below_drew1) | exact HB.out))) : w.heap.size ≤ gb412)); have n3_ := Aside0.mk ((by rw [hg]; exact (below_size (by repeat (first | (with_reducible first | exact HB.out | apply below_alloc | apply pw_below_drewN | apply below_drew1) | exact HB.out))) : w.heap.size ≤ gb412)); clear HB; have HB := n0_; have BK412 := n1_; have GW412 := n2_; have GE412 := n3_; clear n0_ n1_ n2_ n3_; clear hb hbox hg; have hcz7_0 : w6.cell? ⟨gb412, 0, none⟩ = some (.int .u16 a0_0) := (blk_cell BK412.out 0).trans rfl; have hcz7_1 : w6.cell? ⟨gb412, 1, none⟩ = some (.int .u8 a0_1) := (blk_cell BK412.out 1).trans rfl; have hcz7_2 : w6.cell? ⟨gb412, 2, none⟩ = some (.int .u8 a0_2) := (blk_cell BK412.out 2).trans rfl; have hcz7_3 : w6.cell? ⟨gb412, 3, none⟩ = some (.int .u32 a0_3) := (blk_cell BK412.out 3).trans rfl; have hfz7_0 := blk_frozen BK412.out 0; have hfz7_1 := blk_frozen BK412.out 1; have hfz7_2 := blk_frozen BK412.out 2; have hfz7_3 := blk_frozen BK412.out 3) | ((with_reducible refine gate_callee (f := 63) rfl ?_); refine goesL_ (some 10) rfl rfl Try.func63 (by kernel_rfl) rfl #[.int .u16 a0_0] rfl (by (try simp only [List.map_toArray, List.map_cons, List.map_nil]); first | done | rfl | (simp only [List.length_drop, List.length_take]; rfl)) ?_; (with_reducible refine (impl_sortOf.calls k a0_0 t413 _ A4.out).mono ?_); rintro e w' ⟨rfl, ⟨nd, rfl⟩⟩; refine ⟨_, rfl, ?_⟩))
    go_ret
    exact ⟨by first | rfl | (simp [errW_none, errW_some] <;> rfl) | (simp [*, errW_none, errW_some] <;> rfl), by repeat (first | (with_reducible first | exact HB.out | apply below_alloc | apply pw_below_drewN | apply below_drew1 | refine below_set ?_ GE412.out) | exact HB.out)⟩
  · rw [if_neg c5] at H
    have c5b0 : (t413 == 0) = false := beq_eq_false_iff_ne.mpr c5
    have c5b1 : (t413 != 0) = true := bne_iff_ne.mpr c5
    have HC8 := Aside0.mk H
    clear H
    go_enter Try.func46, Try.ntmps46
    go_upto_region 4 with (first | ((with_reducible refine gate_dst (N := 3) rfl ?_); (try (refine gate_guard (by rfl) ?_; dsimp only)); refine box_event ?hg (N := 3) ?hd (cs := #[.int .u16 a0_0, .int .u8 a0_1, .int .u8 a0_2, .int .u32 a0_3]) (t := 54) ?hr ?_; (case hd => rfl); (case hg => rfl); (case hr => first | (go_simp; done) | (go_simp; rfl)); intro gb412 hg w9 hbox hb; have n0_ := Aside0.mk (below_step (by repeat (first | (with_reducible first | exact HB.out | apply below_alloc | apply pw_below_drewN | apply below_drew1) | exact HB.out)) hb); have n1_ := Aside0.mk (hbox); have n2_ := Aside0.mk ((by rw [hg]; exact (below_size (by repeat (first | (with_reducible first | exact HB.out | apply below_alloc | apply pw_below_drewN | apply below_drew1) | exact HB.out))) : w.heap.size ≤ gb412)); have n3_ := Aside0.mk ((by rw [hg]; exact (below_size (by repeat (first | (with_reducible first | exact HB.out | apply below_alloc | apply pw_below_drewN | apply below_drew1) | exact HB.out))) : w.heap.size ≤ gb412)); clear HB; have HB := n0_; have BK412 := n1_; have GW412 := n2_; have GE412 := n3_; clear n0_ n1_ n2_ n3_; clear hb hbox hg; have hcz10_0 : w9.cell? ⟨gb412, 0, none⟩ = some (.int .u16 a0_0) := (blk_cell BK412.out 0).trans rfl; have hcz10_1 : w9.cell? ⟨gb412, 1, none⟩ = some (.int .u8 a0_1) := (blk_cell BK412.out 1).trans rfl; have hcz10_2 : w9.cell? ⟨gb412, 2, none⟩ = some (.int .u8 a0_2) := (blk_cell BK412.out 2).trans rfl; have hcz10_3 : w9.cell? ⟨gb412, 3, none⟩ = some (.int .u32 a0_3) := (blk_cell BK412.out 3).trans rfl; have hfz10_0 := blk_frozen BK412.out 0; have hfz10_1 := blk_frozen BK412.out 1; have hfz10_2 := blk_frozen BK412.out 2; have hfz10_3 := blk_frozen BK412.out 3) | ((with_reducible refine gate_callee (f := 63) rfl ?_); refine goesL_ (some 10) rfl rfl Try.func63 (by kernel_rfl) rfl #[.int .u16 a0_0] rfl (by (try simp only [List.map_toArray, List.map_cons, List.map_nil]); first | done | rfl | (simp only [List.length_drop, List.length_take]; rfl)) ?_; (with_reducible refine (impl_sortOf.calls k a0_0 t413 _ A4.out).mono ?_); rintro e w' ⟨rfl, ⟨nd, rfl⟩⟩; refine ⟨_, rfl, ?_⟩))
    (try simp only [Act.put, List.setIfInBounds_toArray, List.set_cons_zero, List.set_cons_succ])
    go_cut [14] (fun v14 wc => ∃ (kq : Nat) (x14_7 : Bool), v14 = .bool x14_7 ∧ Aside0 (impl_Ins_fault.j0 kq a1 a2 t413 x14_7 a0_0 a0_1 a0_2 a0_3 = some r) ∧ Aside0 (kq ≤ k) ∧ Aside0 (wc.heap[gb412]? = some (.cells #[.int .u16 a0_0, .int .u8 a0_1, .int .u8 a0_2, .int .u32 a0_3] 54 (0, 0))) ∧ Aside0 (Below w.heap.size w wc))
    case first =>
      have H := HC8.out
      clear HC8
      by_cases c11 : a0_0 = 32
      · rw [if_pos c11] at H
        have c11b0 : (a0_0 == 32) = true := beq_iff_eq.mpr c11
        have c11b1 : (a0_0 != 32) = false := bne_eq_false_iff_eq.mpr c11
        clear c11
        (first | rw [c11b0] | (simp only [i64_w, i32_w]; rw [c11b0]) | skip)
        by_cases c12 : (Int.tmod a0_3 4) = 0
        · rw [if_pos c12] at H
          have c12b0 : ((Int.tmod a0_3 4) == 0) = true := beq_iff_eq.mpr c12
          have c12b1 : ((Int.tmod a0_3 4) != 0) = false := bne_eq_false_iff_eq.mpr c12
          clear c12
          have H' := Aside0.mk H
          clear H
          have hcz13_0 : w9.cell? ⟨gb412, 0, none⟩ = some (.int .u16 a0_0) := (blk_cell BK412.out 0).trans rfl
          have hcz13_1 : w9.cell? ⟨gb412, 1, none⟩ = some (.int .u8 a0_1) := (blk_cell BK412.out 1).trans rfl
          have hcz13_2 : w9.cell? ⟨gb412, 2, none⟩ = some (.int .u8 a0_2) := (blk_cell BK412.out 2).trans rfl
          have hcz13_3 : w9.cell? ⟨gb412, 3, none⟩ = some (.int .u32 a0_3) := (blk_cell BK412.out 3).trans rfl
          have hfz13_0 := blk_frozen BK412.out 0
          have hfz13_1 := blk_frozen BK412.out 1
          have hfz13_2 := blk_frozen BK412.out 2
          have hfz13_3 := blk_frozen BK412.out 3
          go_wp2
          go_meet
          case rel => exact ⟨_, (decide (a0_3 > 60)), (by first | rfl | (simp; done) | (simp [*]; done)), H', ⟨by first | omega | exact Nat.le_refl _⟩, ⟨by (with_reducible repeat (first | refine blk_drewN ?_ _ | refine blk_drew ?_ | refine blk_alloc ?_ _)); exact BK412.out⟩, ⟨by repeat (first | (with_reducible first | exact HB.out | apply below_alloc | apply pw_below_drewN | apply below_drew1 | refine below_set ?_ GE412.out) | exact HB.out)⟩⟩
        · rw [if_neg c12] at H
          have c12b0 : ((Int.tmod a0_3 4) == 0) = false := beq_eq_false_iff_ne.mpr c12
          have c12b1 : ((Int.tmod a0_3 4) != 0) = true := bne_iff_ne.mpr c12
          have H' := Aside0.mk H
          clear H
          have hcz14_0 : w9.cell? ⟨gb412, 0, none⟩ = some (.int .u16 a0_0) := (blk_cell BK412.out 0).trans rfl
          have hcz14_1 : w9.cell? ⟨gb412, 1, none⟩ = some (.int .u8 a0_1) := (blk_cell BK412.out 1).trans rfl
          have hcz14_2 : w9.cell? ⟨gb412, 2, none⟩ = some (.int .u8 a0_2) := (blk_cell BK412.out 2).trans rfl
          have hcz14_3 : w9.cell? ⟨gb412, 3, none⟩ = some (.int .u32 a0_3) := (blk_cell BK412.out 3).trans rfl
          have hfz14_0 := blk_frozen BK412.out 0
          have hfz14_1 := blk_frozen BK412.out 1
          have hfz14_2 := blk_frozen BK412.out 2
          have hfz14_3 := blk_frozen BK412.out 3
          go_wp2
          go_meet
          case rel => exact ⟨_, (true), (by first | rfl | (simp; done) | (simp [*]; done)), H', ⟨by first | omega | exact Nat.le_refl _⟩, ⟨by (with_reducible repeat (first | refine blk_drewN ?_ _ | refine blk_drew ?_ | refine blk_alloc ?_ _)); exact BK412.out⟩, ⟨by repeat (first | (with_reducible first | exact HB.out | apply below_alloc | apply pw_below_drewN | apply below_drew1 | refine below_set ?_ GE412.out) | exact HB.out)⟩⟩
      · rw [if_neg c11] at H
        have c11b0 : (a0_0 == 32) = false := beq_eq_false_iff_ne.mpr c11
        have c11b1 : (a0_0 != 32) = true := bne_iff_ne.mpr c11
        (first | rw [c11b0] | (simp only [i64_w, i32_w]; rw [c11b0]) | skip)
        have H' := Aside0.mk H
        clear H
        have hcz15_0 : w9.cell? ⟨gb412, 0, none⟩ = some (.int .u16 a0_0) := (blk_cell BK412.out 0).trans rfl
        have hcz15_1 : w9.cell? ⟨gb412, 1, none⟩ = some (.int .u8 a0_1) := (blk_cell BK412.out 1).trans rfl
        have hcz15_2 : w9.cell? ⟨gb412, 2, none⟩ = some (.int .u8 a0_2) := (blk_cell BK412.out 2).trans rfl
        have hcz15_3 : w9.cell? ⟨gb412, 3, none⟩ = some (.int .u32 a0_3) := (blk_cell BK412.out 3).trans rfl
        have hfz15_0 := blk_frozen BK412.out 0
        have hfz15_1 := blk_frozen BK412.out 1
        have hfz15_2 := blk_frozen BK412.out 2
        have hfz15_3 := blk_frozen BK412.out 3
        go_wp2
        go_meet
        case rel => exact ⟨_, (false), (by first | rfl | (simp; done) | (simp [*]; done)), H', ⟨by first | omega | exact Nat.le_refl _⟩, ⟨by (with_reducible repeat (first | refine blk_drewN ?_ _ | refine blk_drew ?_ | refine blk_alloc ?_ _)); exact BK412.out⟩, ⟨by repeat (first | (with_reducible first | exact HB.out | apply below_alloc | apply pw_below_drewN | apply below_drew1 | refine below_set ?_ GE412.out) | exact HB.out)⟩⟩
    case rest =>
      clear HC8
      try clear c1
      try clear p2
      try clear c4
      try clear c5
      try clear c5b0
      try clear c5b1
      try clear c6
      try clear c11
      try clear c11b0
      try clear c11b1
      try clear c12
      try clear c12b0
      try clear c12b1
      try clear hcz10_0
      try clear hcz10_1
      try clear hcz10_2
      try clear hcz10_3
      try clear hcz13_0
      try clear hcz13_1
      try clear hcz13_2
      try clear hcz13_3
      try clear hcz14_0
      try clear hcz14_1
      try clear hcz14_2
      try clear hcz14_3
      try clear hcz15_0
      try clear hcz15_1
      try clear hcz15_2
      try clear hcz15_3
      try clear hcz7_0
      try clear hcz7_1
      try clear hcz7_2
      try clear hcz7_3
      try clear hfz10_0
      try clear hfz10_1
      try clear hfz10_2
      try clear hfz10_3
      try clear hfz13_0
      try clear hfz13_1
      try clear hfz13_2
      try clear hfz13_3
      try clear hfz14_0
      try clear hfz14_1
      try clear hfz14_2
      try clear hfz14_3
      try clear hfz15_0
      try clear hfz15_1
      try clear hfz15_2
      try clear hfz15_3
      try clear hfz7_0
      try clear hfz7_1
      try clear hfz7_2
      try clear hfz7_3
      obtain ⟨kq, x14_7, rfl, HA, HJ7, BK412, HB⟩ := hcut
      cases kq with
      | zero => exact absurd HA.out (by simp [impl_Ins_fault.j0])
      | succ kj7 =>
        have H := HA.out
        clear HA
        simp only [impl_Ins_fault.j0] at H
        by_cases c16 : x14_7 = true
        · subst c16
          have H1 : (some 3) = some r := by rw [if_pos rfl] at H; exact H
          clear H
          have H := H1
          clear H1
          obtain rfl := Option.some.inj H
          go_wp2
          go_ret
          exact ⟨by first | rfl | (simp [errW_none, errW_some] <;> rfl) | (simp [*, errW_none, errW_some] <;> rfl), by repeat (first | (with_reducible first | exact HB.out | apply below_alloc | apply pw_below_drewN | apply below_drew1 | refine below_set ?_ GE412.out) | exact HB.out)⟩
        · replace c16 := Bool.eq_false_iff.mpr c16
          subst c16
          have H1 : ((slices_Contains_uint16_uint16.f kj7 (([96, 97, 2, 3] : List Int)) a0_0).bind fun t417 => (if t417 = true then (impl_Ins_fault.j1 kj7 a1 a2 t413 (decide (a0_3 ≥ 16)) a0_0 a0_1 a0_2 a0_3) else (impl_Ins_fault.j1 kj7 a1 a2 t413 false a0_0 a0_1 a0_2 a0_3))) = some r := by rw [if_neg (show ¬ (false = true) by decide)] at H; exact H
          clear H
          have H := H1
          clear H1
          have HC17 := Aside0.mk H
          clear H
          go_upto_region 6 with (fail)
          go_cut [29] (fun v29 wc => ∃ (kq : Nat) (x29_16 : Bool), v29 = .bool x29_16 ∧ Aside0 (impl_Ins_fault.j1 kq a1 a2 t413 x29_16 a0_0 a0_1 a0_2 a0_3 = some r) ∧ Aside0 (kq ≤ kj7) ∧ Aside0 (wc.heap[gb412]? = some (.cells #[.int .u16 a0_0, .int .u8 a0_1, .int .u8 a0_2, .int .u32 a0_3] 54 (0, 0))) ∧ Aside0 (Below w.heap.size w wc))
          case first =>
            have H := HC17.out
            clear HC17
            obtain ⟨y414, hy414⟩ : ∃ y_ : List Int, y_ = (([96, 97, 2, 3] : List Int)) := ⟨_, rfl⟩
            replace H : ((slices_Contains_uint16_uint16.f kj7 y414 a0_0).bind fun t417 => (if t417 = true then (impl_Ins_fault.j1 kj7 a1 a2 t413 (decide (a0_3 ≥ 16)) a0_0 a0_1 a0_2 a0_3) else (impl_Ins_fault.j1 kj7 a1 a2 t413 false a0_0 a0_1 a0_2 a0_3))) = some r := by first | (rw [hy414]; with_reducible exact H) | (have H2_ := (Option.bind_some _ _).symm.trans H; rw [hy414]; with_reducible exact H2_) | (have H2_ := (Option.bind_some _ _).symm.trans H; with_reducible exact H2_) | with_reducible exact H | (rw [hy414]; exact H) | exact H
            have Ny414 := Aside0.mk hy414
            clear hy414
            replace H := Option.bind_eq_some_iff.mp H
            obtain ⟨t417, A180, H⟩ := H
            replace H : (if t417 = true then (impl_Ins_fault.j1 kj7 a1 a2 t413 (decide (a0_3 ≥ 16)) a0_0 a0_1 a0_2 a0_3) else (impl_Ins_fault.j1 kj7 a1 a2 t413 false a0_0 a0_1 a0_2 a0_3)) = some r := H
            have A18 := Aside0.mk A180
            clear A180
            by_cases c19 : t417 = true
            · subst c19
              have H1 : (impl_Ins_fault.j1 kj7 a1 a2 t413 (decide (a0_3 ≥ 16)) a0_0 a0_1 a0_2 a0_3) = some r := by rw [if_pos rfl] at H; exact H
              clear H
              have H := H1
              clear H1
              have H' := Aside0.mk H
              clear H
              go_wp2_with (first | ((with_reducible refine gate_dst (N := 30) rfl ?_); (try (refine gate_guard (by rfl) ?_; dsimp only)); refine Kd.R_lit (Kd.int .u16) _ 52 ?hg (N := 30) ?hd (xs := ([96, 97, 2, 3] : List Int)) (inner := [.int .u16 96, .int .u16 97, .int .u16 2, .int .u16 3]) (ok := fun _ => True) (okp := fun _ => True) ?hr ?hp (fun _ hk => hk) trivial (Below.refl _ _) (Nat.le_refl _) (by simp) ?_; (case hd => rfl); (case hg => rfl); (case hr => first | (go_simp; done) | (go_simp; rfl)); (case hp => exact (Reps.one (show Kd.M (Kd.int .u16) _ _ _ 96 [.int .u16 96] from rfl) (Reps.one (show Kd.M (Kd.int .u16) _ _ _ 97 [.int .u16 97] from rfl) (Reps.one (show Kd.M (Kd.int .u16) _ _ _ 2 [.int .u16 2] from rfl) (Reps.one (show Kd.M (Kd.int .u16) _ _ _ 3 [.int .u16 3] from rfl) (Reps.none _ _)))))); intro v415 w20 ho21 hb hg_ hnew_; clear hg_ hnew_; (first | rw [← Ny414.out] at ho21 | (simp only [Int.reduceToNat] at ho21; rw [← Ny414.out] at ho21)); have n0_ := Aside0.mk (Kd.R_lower ho21 (below_size (by repeat (first | (with_reducible first | exact HB.out | apply below_alloc | apply pw_below_drewN | apply below_drew1 | refine below_set ?_ GE412.out) | exact HB.out)))); have n1_ := Aside0.mk (blk_below (g := gb412) (o := .cells #[.int .u16 a0_0, .int .u8 a0_1, .int .u8 a0_2, .int .u32 a0_3] 54 (0, 0)) (by (with_reducible repeat (first | refine blk_drewN ?_ _ | refine blk_drew ?_ | refine blk_alloc ?_ _)); exact BK412.out) hb); have n2_ := Aside0.mk (below_step (by repeat (first | (with_reducible first | exact HB.out | apply below_alloc | apply pw_below_drewN | apply below_drew1 | refine below_set ?_ GE412.out) | exact HB.out)) hb); clear BK412; clear HB; have HO416 := n0_; have BK412 := n1_; have HB := n2_; clear n0_ n1_ n2_; clear hb ho21; have hcz22_0 : w20.cell? ⟨gb412, 0, none⟩ = some (.int .u16 a0_0) := (blk_cell BK412.out 0).trans rfl; have hcz22_1 : w20.cell? ⟨gb412, 1, none⟩ = some (.int .u8 a0_1) := (blk_cell BK412.out 1).trans rfl; have hcz22_2 : w20.cell? ⟨gb412, 2, none⟩ = some (.int .u8 a0_2) := (blk_cell BK412.out 2).trans rfl; have hcz22_3 : w20.cell? ⟨gb412, 3, none⟩ = some (.int .u32 a0_3) := (blk_cell BK412.out 3).trans rfl; have hfz22_0 := blk_frozen BK412.out 0; have hfz22_1 := blk_frozen BK412.out 1; have hfz22_2 := blk_frozen BK412.out 2; have hfz22_3 := blk_frozen BK412.out 3; obtain ⟨Ao23, co23, eo23⟩ := Kd.R_slice HO416.out; subst eo23) | ((with_reducible refine gate_callee (f := 64) rfl ?_); refine goesL_ (some 33) rfl rfl Try.func64 (by kernel_rfl) rfl #[.slice Ao23 y414.length co23, .int .u16 a0_0] rfl (by (try simp only [List.map_toArray, List.map_cons, List.map_nil]); first | done | rfl | (simp only [List.length_drop, List.length_take]; rfl)) ?_; (with_reducible refine (slices_Contains_uint16_uint16.calls kj7 _ _ y414 a0_0 true _ ?side1 ?side2 A18.out).mono ?_); (case side1 => repeat (first | exact (Kd.R_reads' HO416.out).2.2 | (with_reducible refine Kd.C_alloc ?_ _) | (with_reducible refine Kd.C_drewN ?_ _) | (with_reducible refine Kd.C_drew ?_))); (case side2 => exact (Kd.R_reads' HO416.out).2.1); rintro e w' ⟨rfl, ⟨nd, rfl⟩⟩; refine ⟨_, rfl, ?_⟩))
              go_meet
              case rel => exact ⟨_, (decide (a0_3 ≥ 16)), (by first | rfl | (simp; done) | (simp [*]; done)), H', ⟨by have := HJ7.out; first | omega | exact Nat.le_refl _⟩, ⟨by (with_reducible repeat (first | refine blk_drewN ?_ _ | refine blk_drew ?_ | refine blk_alloc ?_ _)); exact BK412.out⟩, ⟨by repeat (first | (with_reducible first | exact HB.out | apply below_alloc | apply pw_below_drewN | apply below_drew1 | refine below_set ?_ GE412.out) | exact HB.out)⟩⟩
            · replace c19 := Bool.eq_false_iff.mpr c19
              subst c19
              have H1 : (impl_Ins_fault.j1 kj7 a1 a2 t413 false a0_0 a0_1 a0_2 a0_3) = some r := by rw [if_neg (show ¬ (false = true) by decide)] at H; exact H
              clear H
              have H := H1
              clear H1
              have H' := Aside0.mk H
              clear H
              go_wp2_with (first | ((with_reducible refine gate_dst (N := 30) rfl ?_); (try (refine gate_guard (by rfl) ?_; dsimp only)); refine Kd.R_lit (Kd.int .u16) _ 52 ?hg (N := 30) ?hd (xs := ([96, 97, 2, 3] : List Int)) (inner := [.int .u16 96, .int .u16 97, .int .u16 2, .int .u16 3]) (ok := fun _ => True) (okp := fun _ => True) ?hr ?hp (fun _ hk => hk) trivial (Below.refl _ _) (Nat.le_refl _) (by simp) ?_; (case hd => rfl); (case hg => rfl); (case hr => first | (go_simp; done) | (go_simp; rfl)); (case hp => exact (Reps.one (show Kd.M (Kd.int .u16) _ _ _ 96 [.int .u16 96] from rfl) (Reps.one (show Kd.M (Kd.int .u16) _ _ _ 97 [.int .u16 97] from rfl) (Reps.one (show Kd.M (Kd.int .u16) _ _ _ 2 [.int .u16 2] from rfl) (Reps.one (show Kd.M (Kd.int .u16) _ _ _ 3 [.int .u16 3] from rfl) (Reps.none _ _)))))); intro v415 w24 ho25 hb hg_ hnew_; clear hg_ hnew_; (first | rw [← Ny414.out] at ho25 | (simp only [Int.reduceToNat] at ho25; rw [← Ny414.out] at ho25)); have n0_ := Aside0.mk (Kd.R_lower ho25 (below_size (by repeat (first | (with_reducible first | exact HB.out | apply below_alloc | apply pw_below_drewN | apply below_drew1 | refine below_set ?_ GE412.out) | exact HB.out)))); have n1_ := Aside0.mk (blk_below (g := gb412) (o := .cells #[.int .u16 a0_0, .int .u8 a0_1, .int .u8 a0_2, .int .u32 a0_3] 54 (0, 0)) (by (with_reducible repeat (first | refine blk_drewN ?_ _ | refine blk_drew ?_ | refine blk_alloc ?_ _)); exact BK412.out) hb); have n2_ := Aside0.mk (below_step (by repeat (first | (with_reducible first | exact HB.out | apply below_alloc | apply pw_below_drewN | apply below_drew1 | refine below_set ?_ GE412.out) | exact HB.out)) hb); clear BK412; clear HB; have HO416 := n0_; have BK412 := n1_; have HB := n2_; clear n0_ n1_ n2_; clear hb ho25; have hcz26_0 : w24.cell? ⟨gb412, 0, none⟩ = some (.int .u16 a0_0) := (blk_cell BK412.out 0).trans rfl; have hcz26_1 : w24.cell? ⟨gb412, 1, none⟩ = some (.int .u8 a0_1) := (blk_cell BK412.out 1).trans rfl; have hcz26_2 : w24.cell? ⟨gb412, 2, none⟩ = some (.int .u8 a0_2) := (blk_cell BK412.out 2).trans rfl; have hcz26_3 : w24.cell? ⟨gb412, 3, none⟩ = some (.int .u32 a0_3) := (blk_cell BK412.out 3).trans rfl; have hfz26_0 := blk_frozen BK412.out 0; have hfz26_1 := blk_frozen BK412.out 1; have hfz26_2 := blk_frozen BK412.out 2; have hfz26_3 := blk_frozen BK412.out 3; obtain ⟨Ao27, co27, eo27⟩ := Kd.R_slice HO416.out; subst eo27) | ((with_reducible refine gate_callee (f := 64) rfl ?_); refine goesL_ (some 33) rfl rfl Try.func64 (by kernel_rfl) rfl #[.slice Ao27 y414.length co27, .int .u16 a0_0] rfl (by (try simp only [List.map_toArray, List.map_cons, List.map_nil]); first | done | rfl | (simp only [List.length_drop, List.length_take]; rfl)) ?_; (with_reducible refine (slices_Contains_uint16_uint16.calls kj7 _ _ y414 a0_0 false _ ?side1 ?side2 A18.out).mono ?_); (case side1 => repeat (first | exact (Kd.R_reads' HO416.out).2.2 | (with_reducible refine Kd.C_alloc ?_ _) | (with_reducible refine Kd.C_drewN ?_ _) | (with_reducible refine Kd.C_drew ?_))); (case side2 => exact (Kd.R_reads' HO416.out).2.1); rintro e w' ⟨rfl, ⟨nd, rfl⟩⟩; refine ⟨_, rfl, ?_⟩))
              go_meet
              case rel => exact ⟨_, (false), (by first | rfl | (simp; done) | (simp [*]; done)), H', ⟨by have := HJ7.out; first | omega | exact Nat.le_refl _⟩, ⟨by (with_reducible repeat (first | refine blk_drewN ?_ _ | refine blk_drew ?_ | refine blk_alloc ?_ _)); exact BK412.out⟩, ⟨by repeat (first | (with_reducible first | exact HB.out | apply below_alloc | apply pw_below_drewN | apply below_drew1 | refine below_set ?_ GE412.out) | exact HB.out)⟩⟩
          case rest =>
            clear HC17
            try clear c1
            try clear p2
            try clear c4
            try clear c5
            try clear c5b0
            try clear c5b1
            try clear c6
            try clear c11
            try clear c11b0
            try clear c11b1
            try clear c12
            try clear c12b0
            try clear c12b1
            try clear c16
            try clear c19
            try clear hcz10_0
            try clear hcz10_1
            try clear hcz10_2
            try clear hcz10_3
            try clear hcz13_0
            try clear hcz13_1
            try clear hcz13_2
            try clear hcz13_3
            try clear hcz14_0
            try clear hcz14_1
            try clear hcz14_2
            try clear hcz14_3
            try clear hcz15_0
            try clear hcz15_1
            try clear hcz15_2
            try clear hcz15_3
            try clear hcz22_0
            try clear hcz22_1
            try clear hcz22_2
            try clear hcz22_3
            try clear hcz26_0
            try clear hcz26_1
            try clear hcz26_2
            try clear hcz26_3
            try clear hcz7_0
            try clear hcz7_1
            try clear hcz7_2
            try clear hcz7_3
            try clear hfz10_0
            try clear hfz10_1
            try clear hfz10_2
            try clear hfz10_3
            try clear hfz13_0
            try clear hfz13_1
            try clear hfz13_2
            try clear hfz13_3
            try clear hfz14_0
            try clear hfz14_1
            try clear hfz14_2
            try clear hfz14_3
            try clear hfz15_0
            try clear hfz15_1
            try clear hfz15_2
            try clear hfz15_3
            try clear hfz22_0
            try clear hfz22_1
            try clear hfz22_2
            try clear hfz22_3
            try clear hfz26_0
            try clear hfz26_1
            try clear hfz26_2
            try clear hfz26_3
            try clear hfz7_0
            try clear hfz7_1
            try clear hfz7_2
            try clear hfz7_3
            try clear p2
            obtain ⟨kq, x29_16, rfl, HA, HJ16, BK412, HB⟩ := hcut
            cases kq with
            | zero => exact absurd HA.out (by simp [impl_Ins_fault.j1])
            | succ kj16 =>
              have H := HA.out
              clear HA
              simp only [impl_Ins_fault.j1] at H
              by_cases c28 : x29_16 = true
              · subst c28
                have H1 : (some 4) = some r := by rw [if_pos rfl] at H; exact H
                clear H
                have H := H1
                clear H1
                obtain rfl := Option.some.inj H
                go_wp2
                go_ret
                exact ⟨by first | rfl | (simp [errW_none, errW_some] <;> rfl) | (simp [*, errW_none, errW_some] <;> rfl), by repeat (first | (with_reducible first | exact HB.out | apply below_alloc | apply pw_below_drewN | apply below_drew1 | refine below_set ?_ GE412.out) | exact HB.out)⟩
              · replace c28 := Bool.eq_false_iff.mpr c28
                subst c28
                have H1 : (if t413 = 3 then (impl_Ins_fault.j2 kj16 a1 a2 t413 (decide ((IntKind.u64.wrap ((IntKind.u64.wrap ((IntKind.u64.wrap (a1)) + 1)) + (IntKind.u64.wrap (a0_3)))) ≥ (IntKind.u64.wrap (a2)))) a0_0 a0_1 a0_2 a0_3) else (impl_Ins_fault.j2 kj16 a1 a2 t413 false a0_0 a0_1 a0_2 a0_3)) = some r := by rw [if_neg (show ¬ (false = true) by decide)] at H; exact H
                clear H
                have H := H1
                clear H1
                have HC29 := Aside0.mk H
                clear H
                go_upto_region 8 with (fail)
                go_cut [39] (fun v39 wc => ∃ (kq : Nat) (x39_28 : Bool), v39 = .bool x39_28 ∧ Aside0 (impl_Ins_fault.j2 kq a1 a2 t413 x39_28 a0_0 a0_1 a0_2 a0_3 = some r) ∧ Aside0 (kq ≤ kj16) ∧ Aside0 (wc.heap[gb412]? = some (.cells #[.int .u16 a0_0, .int .u8 a0_1, .int .u8 a0_2, .int .u32 a0_3] 54 (0, 0))) ∧ Aside0 (Below w.heap.size w wc))
                case first =>
                  have H := HC29.out
                  clear HC29
                  by_cases c30 : t413 = 3
                  · rw [if_pos c30] at H
                    have c30b0 : (t413 == 3) = true := beq_iff_eq.mpr c30
                    have c30b1 : (t413 != 3) = false := bne_eq_false_iff_eq.mpr c30
                    clear c30
                    (first | rw [c30b0] | (simp only [i64_w, i32_w]; rw [c30b0]) | skip)
                    have H' := Aside0.mk H
                    clear H
                    have hcz31_0 : wc.cell? ⟨gb412, 0, none⟩ = some (.int .u16 a0_0) := (blk_cell BK412.out 0).trans rfl
                    have hcz31_1 : wc.cell? ⟨gb412, 1, none⟩ = some (.int .u8 a0_1) := (blk_cell BK412.out 1).trans rfl
                    have hcz31_2 : wc.cell? ⟨gb412, 2, none⟩ = some (.int .u8 a0_2) := (blk_cell BK412.out 2).trans rfl
                    have hcz31_3 : wc.cell? ⟨gb412, 3, none⟩ = some (.int .u32 a0_3) := (blk_cell BK412.out 3).trans rfl
                    have hfz31_0 := blk_frozen BK412.out 0
                    have hfz31_1 := blk_frozen BK412.out 1
                    have hfz31_2 := blk_frozen BK412.out 2
                    have hfz31_3 := blk_frozen BK412.out 3
                    go_wp2
                    go_meet
                    case rel => exact ⟨_, (decide ((IntKind.u64.wrap ((IntKind.u64.wrap ((IntKind.u64.wrap (a1)) + 1)) + (IntKind.u64.wrap (a0_3)))) ≥ (IntKind.u64.wrap (a2)))), (by first | rfl | (simp; done) | (simp [*]; done)), H', ⟨by have := HJ7.out; have := HJ16.out; first | omega | exact Nat.le_refl _⟩, ⟨by (with_reducible repeat (first | refine blk_drewN ?_ _ | refine blk_drew ?_ | refine blk_alloc ?_ _)); exact BK412.out⟩, ⟨by repeat (first | (with_reducible first | exact HB.out | apply below_alloc | apply pw_below_drewN | apply below_drew1 | refine below_set ?_ GE412.out) | exact HB.out)⟩⟩
                  · rw [if_neg c30] at H
                    have c30b0 : (t413 == 3) = false := beq_eq_false_iff_ne.mpr c30
                    have c30b1 : (t413 != 3) = true := bne_iff_ne.mpr c30
                    (first | rw [c30b0] | (simp only [i64_w, i32_w]; rw [c30b0]) | skip)
                    have H' := Aside0.mk H
                    clear H
                    go_wp2
                    go_meet
                    case rel => exact ⟨_, (false), (by first | rfl | (simp; done) | (simp [*]; done)), H', ⟨by have := HJ7.out; have := HJ16.out; first | omega | exact Nat.le_refl _⟩, ⟨by (with_reducible repeat (first | refine blk_drewN ?_ _ | refine blk_drew ?_ | refine blk_alloc ?_ _)); exact BK412.out⟩, ⟨by repeat (first | (with_reducible first | exact HB.out | apply below_alloc | apply pw_below_drewN | apply below_drew1 | refine below_set ?_ GE412.out) | exact HB.out)⟩⟩
                case rest =>
                  clear HC29
                  try clear c1
                  try clear c2
                  try clear p2
                  try clear c3
                  try clear c4
                  try clear c5
                  try clear c5b0
                  try clear c5b1
                  try clear c6
                  try clear c11
                  try clear c11b0
                  try clear c11b1
                  try clear c12
                  try clear c12b0
                  try clear c12b1
                  try clear c16
                  try clear c19
                  try clear c28
                  try clear c30
                  try clear c30b0
                  try clear c30b1
                  try clear hcz10_0
                  try clear hcz10_1
                  try clear hcz10_2
                  try clear hcz10_3
                  try clear hcz13_0
                  try clear hcz13_1
                  try clear hcz13_2
                  try clear hcz13_3
                  try clear hcz14_0
                  try clear hcz14_1
                  try clear hcz14_2
                  try clear hcz14_3
                  try clear hcz15_0
                  try clear hcz15_1
                  try clear hcz15_2
                  try clear hcz15_3
                  try clear hcz22_0
                  try clear hcz22_1
                  try clear hcz22_2
                  try clear hcz22_3
                  try clear hcz26_0
                  try clear hcz26_1
                  try clear hcz26_2
                  try clear hcz26_3
                  try clear hcz31_0
                  try clear hcz31_1
                  try clear hcz31_2
                  try clear hcz31_3
                  try clear hcz7_0
                  try clear hcz7_1
                  try clear hcz7_2
                  try clear hcz7_3
                  try clear hfz10_0
                  try clear hfz10_1
                  try clear hfz10_2
                  try clear hfz10_3
                  try clear hfz13_0
                  try clear hfz13_1
                  try clear hfz13_2
                  try clear hfz13_3
                  try clear hfz14_0
                  try clear hfz14_1
                  try clear hfz14_2
                  try clear hfz14_3
                  try clear hfz15_0
                  try clear hfz15_1
                  try clear hfz15_2
                  try clear hfz15_3
                  try clear hfz22_0
                  try clear hfz22_1
                  try clear hfz22_2
                  try clear hfz22_3
                  try clear hfz26_0
                  try clear hfz26_1
                  try clear hfz26_2
                  try clear hfz26_3
                  try clear hfz31_0
                  try clear hfz31_1
                  try clear hfz31_2
                  try clear hfz31_3
                  try clear hfz7_0
                  try clear hfz7_1
                  try clear hfz7_2
                  try clear hfz7_3
                  try clear p2
                  obtain ⟨kq, x39_28, rfl, HA, HJ28, BK412, HB⟩ := hcut
                  cases kq with
                  | zero => exact absurd HA.out (by simp [impl_Ins_fault.j2])
                  | succ kj28 =>
                    have H := HA.out
                    clear HA
                    simp only [impl_Ins_fault.j2] at H
                    by_cases c32 : x39_28 = true
                    · subst c32
                      have H1 : (some 5) = some r := by rw [if_pos rfl] at H; exact H
                      clear H
                      have H := H1
                      clear H1
                      obtain rfl := Option.some.inj H
                      go_wp2
                      go_ret
                      exact ⟨by first | rfl | (simp [errW_none, errW_some] <;> rfl) | (simp [*, errW_none, errW_some] <;> rfl), by repeat (first | (with_reducible first | exact HB.out | apply below_alloc | apply pw_below_drewN | apply below_drew1 | refine below_set ?_ GE412.out) | exact HB.out)⟩
                    · replace c32 := Bool.eq_false_iff.mpr c32
                      subst c32
                      have H1 : (if t413 = 2 then (impl_Ins_fault.j3 kj28 a1 a2 t413 (decide ((wrap64 ((wrap64 (a1 + 1)) + (wrap64 (mx a0_1 a0_2)))) ≥ a2)) a0_0 a0_1 a0_2 a0_3) else (impl_Ins_fault.j3 kj28 a1 a2 t413 false a0_0 a0_1 a0_2 a0_3)) = some r := by rw [if_neg (show ¬ (false = true) by decide)] at H; exact H
                      clear H
                      have H := H1
                      clear H1
                      have HC33 := Aside0.mk H
                      clear H
                      go_upto_region 10 with (fail)
                      go_cut [54] (fun v54 wc => ∃ (kq : Nat) (x54_32 : Bool), v54 = .bool x54_32 ∧ Aside0 (impl_Ins_fault.j3 kq a1 a2 t413 x54_32 a0_0 a0_1 a0_2 a0_3 = some r) ∧ Aside0 (kq ≤ kj28) ∧ Aside0 (wc.heap[gb412]? = some (.cells #[.int .u16 a0_0, .int .u8 a0_1, .int .u8 a0_2, .int .u32 a0_3] 54 (0, 0))) ∧ Aside0 (Below w.heap.size w wc))
                      case first =>
                        have H := HC33.out
                        clear HC33
                        by_cases c34 : t413 = 2
                        · rw [if_pos c34] at H
                          have c34b0 : (t413 == 2) = true := beq_iff_eq.mpr c34
                          have c34b1 : (t413 != 2) = false := bne_eq_false_iff_eq.mpr c34
                          clear c34
                          (first | rw [c34b0] | (simp only [i64_w, i32_w]; rw [c34b0]) | skip)
                          obtain ⟨ji35, hji35⟩ : ∃ j_ : Int, (mx a0_1 a0_2) = j_ := ⟨_, rfl⟩
                          replace H : (impl_Ins_fault.j3 kj28 a1 a2 t413 (decide ((wrap64 ((wrap64 (a1 + 1)) + (wrap64 (ji35)))) ≥ a2)) a0_0 a0_1 a0_2 a0_3) = some r := by first | (rw [hji35] at H; exact H) | (simp only [hji35] at H ⊢; exact H)
                          have hji35_ : (if a0_1 < a0_2 then a0_2 else a0_1) = ji35 := hji35
                          have H' := Aside0.mk H
                          clear H
                          have hcz36_0 : wc.cell? ⟨gb412, 0, none⟩ = some (.int .u16 a0_0) := (blk_cell BK412.out 0).trans rfl
                          have hcz36_1 : wc.cell? ⟨gb412, 1, none⟩ = some (.int .u8 a0_1) := (blk_cell BK412.out 1).trans rfl
                          have hcz36_2 : wc.cell? ⟨gb412, 2, none⟩ = some (.int .u8 a0_2) := (blk_cell BK412.out 2).trans rfl
                          have hcz36_3 : wc.cell? ⟨gb412, 3, none⟩ = some (.int .u32 a0_3) := (blk_cell BK412.out 3).trans rfl
                          have hfz36_0 := blk_frozen BK412.out 0
                          have hfz36_1 := blk_frozen BK412.out 1
                          have hfz36_2 := blk_frozen BK412.out 2
                          have hfz36_3 := blk_frozen BK412.out 3
                          go_wp2
                          go_meet
                          case rel => exact ⟨_, (decide ((wrap64 ((wrap64 (a1 + 1)) + (wrap64 (ji35)))) ≥ a2)), (by first | rfl | (simp; done) | (simp only [hji35v (by first | omega | (simp only [decide_eq_true_eq] at *; omega))]; done) | (simp only [← hji35] <;> (first | rfl | simp)) | (simp [*]; done)), H', ⟨by have := HJ7.out; have := HJ16.out; have := HJ28.out; first | omega | exact Nat.le_refl _⟩, ⟨by (with_reducible repeat (first | refine blk_drewN ?_ _ | refine blk_drew ?_ | refine blk_alloc ?_ _)); exact BK412.out⟩, ⟨by repeat (first | (with_reducible first | exact HB.out | apply below_alloc | apply pw_below_drewN | apply below_drew1 | refine below_set ?_ GE412.out) | exact HB.out)⟩⟩
                        · rw [if_neg c34] at H
                          have c34b0 : (t413 == 2) = false := beq_eq_false_iff_ne.mpr c34
                          have c34b1 : (t413 != 2) = true := bne_iff_ne.mpr c34
                          (first | rw [c34b0] | (simp only [i64_w, i32_w]; rw [c34b0]) | skip)
                          have H' := Aside0.mk H
                          clear H
                          go_wp2
                          go_meet
                          case rel => exact ⟨_, (false), (by first | rfl | (simp; done) | (simp [*]; done)), H', ⟨by have := HJ7.out; have := HJ16.out; have := HJ28.out; first | omega | exact Nat.le_refl _⟩, ⟨by (with_reducible repeat (first | refine blk_drewN ?_ _ | refine blk_drew ?_ | refine blk_alloc ?_ _)); exact BK412.out⟩, ⟨by repeat (first | (with_reducible first | exact HB.out | apply below_alloc | apply pw_below_drewN | apply below_drew1 | refine below_set ?_ GE412.out) | exact HB.out)⟩⟩
                      case rest =>
                        clear HC33
                        try clear c1
                        try clear c2
                        try clear p2
                        try clear c3
                        try clear c4
                        try clear c5
                        try clear c5b0
                        try clear c5b1
                        try clear c6
                        try clear p6
                        try clear c11
                        try clear c11b0
                        try clear c11b1
                        try clear c12
                        try clear c12b0
                        try clear c12b1
                        try clear c16
                        try clear c19
                        try clear c28
                        try clear c30
                        try clear c30b0
                        try clear c30b1
                        try clear c32
                        try clear c34
                        try clear c34b0
                        try clear c34b1
                        try clear hcz10_0
                        try clear hcz10_1
                        try clear hcz10_2
                        try clear hcz10_3
                        try clear hcz13_0
                        try clear hcz13_1
                        try clear hcz13_2
                        try clear hcz13_3
                        try clear hcz14_0
                        try clear hcz14_1
                        try clear hcz14_2
                        try clear hcz14_3
                        try clear hcz15_0
                        try clear hcz15_1
                        try clear hcz15_2
                        try clear hcz15_3
                        try clear hcz22_0
                        try clear hcz22_1
                        try clear hcz22_2
                        try clear hcz22_3
                        try clear hcz26_0
                        try clear hcz26_1
                        try clear hcz26_2
                        try clear hcz26_3
                        try clear hcz31_0
                        try clear hcz31_1
                        try clear hcz31_2
                        try clear hcz31_3
                        try clear hcz36_0
                        try clear hcz36_1
                        try clear hcz36_2
                        try clear hcz36_3
                        try clear hcz7_0
                        try clear hcz7_1
                        try clear hcz7_2
                        try clear hcz7_3
                        try clear hfz10_0
                        try clear hfz10_1
                        try clear hfz10_2
                        try clear hfz10_3
                        try clear hfz13_0
                        try clear hfz13_1
                        try clear hfz13_2
                        try clear hfz13_3
                        try clear hfz14_0
                        try clear hfz14_1
                        try clear hfz14_2
                        try clear hfz14_3
                        try clear hfz15_0
                        try clear hfz15_1
                        try clear hfz15_2
                        try clear hfz15_3
                        try clear hfz22_0
                        try clear hfz22_1
                        try clear hfz22_2
                        try clear hfz22_3
                        try clear hfz26_0
                        try clear hfz26_1
                        try clear hfz26_2
                        try clear hfz26_3
                        try clear hfz31_0
                        try clear hfz31_1
                        try clear hfz31_2
                        try clear hfz31_3
                        try clear hfz36_0
                        try clear hfz36_1
                        try clear hfz36_2
                        try clear hfz36_3
                        try clear hfz7_0
                        try clear hfz7_1
                        try clear hfz7_2
                        try clear hfz7_3
                        try clear p2
                        obtain ⟨kq, x54_32, rfl, HA, HJ32, BK412, HB⟩ := hcut
                        cases kq with
                        | zero => exact absurd HA.out (by simp [impl_Ins_fault.j3])
                        | succ kj32 =>
                          have H := HA.out
                          clear HA
                          simp only [impl_Ins_fault.j3] at H
                          by_cases c37 : x54_32 = true
                          · subst c37
                            have H1 : (some 5) = some r := by rw [if_pos rfl] at H; exact H
                            clear H
                            have H := H1
                            clear H1
                            obtain rfl := Option.some.inj H
                            go_wp2
                            go_ret
                            exact ⟨by first | rfl | (simp [errW_none, errW_some] <;> rfl) | (simp [*, errW_none, errW_some] <;> rfl), by repeat (first | (with_reducible first | exact HB.out | apply below_alloc | apply pw_below_drewN | apply below_drew1 | refine below_set ?_ GE412.out) | exact HB.out)⟩
                          · replace c37 := Bool.eq_false_iff.mpr c37
                            subst c37
                            have H1 : (if a0_0 = 52 then (impl_Ins_fault.j4 kj32 a1 a2 t413 (a0_3 == 0) a0_0 a0_1 a0_2 a0_3) else (impl_Ins_fault.j4 kj32 a1 a2 t413 false a0_0 a0_1 a0_2 a0_3)) = some r := by rw [if_neg (show ¬ (false = true) by decide)] at H; exact H
                            clear H
                            have H := H1
                            clear H1
                            have HC38 := Aside0.mk H
                            clear H
                            go_upto_region 12 with (fail)
                            go_cut [70] (fun v70 wc => ∃ (kq : Nat) (x70_37 : Bool), v70 = .bool x70_37 ∧ Aside0 (impl_Ins_fault.j4 kq a1 a2 t413 x70_37 a0_0 a0_1 a0_2 a0_3 = some r) ∧ Aside0 (kq ≤ kj32) ∧ Aside0 (wc.heap[gb412]? = some (.cells #[.int .u16 a0_0, .int .u8 a0_1, .int .u8 a0_2, .int .u32 a0_3] 54 (0, 0))) ∧ Aside0 (Below w.heap.size w wc))
                            case first =>
                              have H := HC38.out
                              clear HC38
                              by_cases c39 : a0_0 = 52
                              · rw [if_pos c39] at H
                                have c39b0 : (a0_0 == 52) = true := beq_iff_eq.mpr c39
                                have c39b1 : (a0_0 != 52) = false := bne_eq_false_iff_eq.mpr c39
                                clear c39
                                (first | rw [c39b0] | (simp only [i64_w, i32_w]; rw [c39b0]) | skip)
                                have H' := Aside0.mk H
                                clear H
                                have hcz40_0 : wc.cell? ⟨gb412, 0, none⟩ = some (.int .u16 a0_0) := (blk_cell BK412.out 0).trans rfl
                                have hcz40_1 : wc.cell? ⟨gb412, 1, none⟩ = some (.int .u8 a0_1) := (blk_cell BK412.out 1).trans rfl
                                have hcz40_2 : wc.cell? ⟨gb412, 2, none⟩ = some (.int .u8 a0_2) := (blk_cell BK412.out 2).trans rfl
                                have hcz40_3 : wc.cell? ⟨gb412, 3, none⟩ = some (.int .u32 a0_3) := (blk_cell BK412.out 3).trans rfl
                                have hfz40_0 := blk_frozen BK412.out 0
                                have hfz40_1 := blk_frozen BK412.out 1
                                have hfz40_2 := blk_frozen BK412.out 2
                                have hfz40_3 := blk_frozen BK412.out 3
                                go_wp2
                                go_meet
                                case rel => exact ⟨_, ((a0_3 == 0)), (by first | rfl | (simp; done) | (simp [*]; done)), H', ⟨by have := HJ7.out; have := HJ16.out; have := HJ28.out; have := HJ32.out; first | omega | exact Nat.le_refl _⟩, ⟨by (with_reducible repeat (first | refine blk_drewN ?_ _ | refine blk_drew ?_ | refine blk_alloc ?_ _)); exact BK412.out⟩, ⟨by repeat (first | (with_reducible first | exact HB.out | apply below_alloc | apply pw_below_drewN | apply below_drew1 | refine below_set ?_ GE412.out) | exact HB.out)⟩⟩
                              · rw [if_neg c39] at H
                                have c39b0 : (a0_0 == 52) = false := beq_eq_false_iff_ne.mpr c39
                                have c39b1 : (a0_0 != 52) = true := bne_iff_ne.mpr c39
                                (first | rw [c39b0] | (simp only [i64_w, i32_w]; rw [c39b0]) | skip)
                                have H' := Aside0.mk H
                                clear H
                                have hcz41_0 : wc.cell? ⟨gb412, 0, none⟩ = some (.int .u16 a0_0) := (blk_cell BK412.out 0).trans rfl
                                have hcz41_1 : wc.cell? ⟨gb412, 1, none⟩ = some (.int .u8 a0_1) := (blk_cell BK412.out 1).trans rfl
                                have hcz41_2 : wc.cell? ⟨gb412, 2, none⟩ = some (.int .u8 a0_2) := (blk_cell BK412.out 2).trans rfl
                                have hcz41_3 : wc.cell? ⟨gb412, 3, none⟩ = some (.int .u32 a0_3) := (blk_cell BK412.out 3).trans rfl
                                have hfz41_0 := blk_frozen BK412.out 0
                                have hfz41_1 := blk_frozen BK412.out 1
                                have hfz41_2 := blk_frozen BK412.out 2
                                have hfz41_3 := blk_frozen BK412.out 3
                                go_wp2
                                go_meet
                                case rel => exact ⟨_, (false), (by first | rfl | (simp; done) | (simp [*]; done)), H', ⟨by have := HJ7.out; have := HJ16.out; have := HJ28.out; have := HJ32.out; first | omega | exact Nat.le_refl _⟩, ⟨by (with_reducible repeat (first | refine blk_drewN ?_ _ | refine blk_drew ?_ | refine blk_alloc ?_ _)); exact BK412.out⟩, ⟨by repeat (first | (with_reducible first | exact HB.out | apply below_alloc | apply pw_below_drewN | apply below_drew1 | refine below_set ?_ GE412.out) | exact HB.out)⟩⟩
                            case rest =>
                              clear HC38
                              try clear c1
                              try clear c2
                              try clear p2
                              try clear c3
                              try clear c4
                              try clear c5
                              try clear c5b0
                              try clear c5b1
                              try clear c6
                              try clear p6
                              try clear c11
                              try clear c11b0
                              try clear c11b1
                              try clear c12
                              try clear c12b0
                              try clear c12b1
                              try clear c16
                              try clear c19
                              try clear c28
                              try clear c30
                              try clear c30b0
                              try clear c30b1
                              try clear c32
                              try clear c34
                              try clear c34b0
                              try clear c34b1
                              try clear c37
                              try clear c39
                              try clear c39b0
                              try clear c39b1
                              try clear hcz10_0
                              try clear hcz10_1
                              try clear hcz10_2
                              try clear hcz10_3
                              try clear hcz13_0
                              try clear hcz13_1
                              try clear hcz13_2
                              try clear hcz13_3
                              try clear hcz14_0
                              try clear hcz14_1
                              try clear hcz14_2
                              try clear hcz14_3
                              try clear hcz15_0
                              try clear hcz15_1
                              try clear hcz15_2
                              try clear hcz15_3
                              try clear hcz22_0
                              try clear hcz22_1
                              try clear hcz22_2
                              try clear hcz22_3
                              try clear hcz26_0
                              try clear hcz26_1
                              try clear hcz26_2
                              try clear hcz26_3
                              try clear hcz31_0
                              try clear hcz31_1
                              try clear hcz31_2
                              try clear hcz31_3
                              try clear hcz36_0
                              try clear hcz36_1
                              try clear hcz36_2
                              try clear hcz36_3
                              try clear hcz40_0
                              try clear hcz40_1
                              try clear hcz40_2
                              try clear hcz40_3
                              try clear hcz41_0
                              try clear hcz41_1
                              try clear hcz41_2
                              try clear hcz41_3
                              try clear hcz7_0
                              try clear hcz7_1
                              try clear hcz7_2
                              try clear hcz7_3
                              try clear hfz10_0
                              try clear hfz10_1
                              try clear hfz10_2
                              try clear hfz10_3
                              try clear hfz13_0
                              try clear hfz13_1
                              try clear hfz13_2
                              try clear hfz13_3
                              try clear hfz14_0
                              try clear hfz14_1
                              try clear hfz14_2
                              try clear hfz14_3
                              try clear hfz15_0
                              try clear hfz15_1
                              try clear hfz15_2
                              try clear hfz15_3
                              try clear hfz22_0
                              try clear hfz22_1
                              try clear hfz22_2
                              try clear hfz22_3
                              try clear hfz26_0
                              try clear hfz26_1
                              try clear hfz26_2
                              try clear hfz26_3
                              try clear hfz31_0
                              try clear hfz31_1
                              try clear hfz31_2
                              try clear hfz31_3
                              try clear hfz36_0
                              try clear hfz36_1
                              try clear hfz36_2
                              try clear hfz36_3
                              try clear hfz40_0
                              try clear hfz40_1
                              try clear hfz40_2
                              try clear hfz40_3
                              try clear hfz41_0
                              try clear hfz41_1
                              try clear hfz41_2
                              try clear hfz41_3
                              try clear hfz7_0
                              try clear hfz7_1
                              try clear hfz7_2
                              try clear hfz7_3
                              try clear p2
                              try clear p6
                              obtain ⟨kq, x70_37, rfl, HA, HJ37, BK412, HB⟩ := hcut
                              cases kq with
                              | zero => exact absurd HA.out (by simp [impl_Ins_fault.j4])
                              | succ kj37 =>
                                have H := HA.out
                                clear HA
                                simp only [impl_Ins_fault.j4] at H
                                have HC42 := Aside0.mk H
                                clear H
                                go_upto_if 70 with (fail)
                                go_cut [70] (fun v70 wc => ∃ (kq : Nat) (x70_41 : Bool), v70 = .bool x70_41 ∧ Aside0 (impl_Ins_fault.j5 kq a1 a2 t413 x70_41 = some r) ∧ Aside0 (kq ≤ kj37) ∧ Aside0 (wc.heap[gb412]? = some (.cells #[.int .u16 a0_0, .int .u8 a0_1, .int .u8 a0_2, .int .u32 a0_3] 54 (0, 0))) ∧ Aside0 (Below w.heap.size w wc))
                                case first =>
                                  have H := HC42.out
                                  clear HC42
                                  by_cases c43 : x70_37 = true
                                  · subst c43
                                    have H1 : (impl_Ins_fault.j5 kj37 a1 a2 t413 true) = some r := by rw [if_pos rfl] at H; exact H
                                    clear H
                                    have H := H1
                                    clear H1
                                    have H' := Aside0.mk H
                                    clear H
                                    go_wp2
                                    go_meet
                                    case rel => exact ⟨_, (true), (by first | rfl | (simp; done) | (simp [*]; done)), H', ⟨by have := HJ7.out; have := HJ16.out; have := HJ28.out; have := HJ32.out; have := HJ37.out; first | omega | exact Nat.le_refl _⟩, ⟨by (with_reducible repeat (first | refine blk_drewN ?_ _ | refine blk_drew ?_ | refine blk_alloc ?_ _)); exact BK412.out⟩, ⟨by repeat (first | (with_reducible first | exact HB.out | apply below_alloc | apply pw_below_drewN | apply below_drew1 | refine below_set ?_ GE412.out) | exact HB.out)⟩⟩
                                  · replace c43 := Bool.eq_false_iff.mpr c43
                                    subst c43
                                    have H1 : (if a0_0 = 100 then (impl_Ins_fault.j5 kj37 a1 a2 t413 (decide (a0_3 ≥ 32))) else (if a0_0 = 116 then (impl_Ins_fault.j5 kj37 a1 a2 t413 (decide (a0_3 ≥ 32))) else (impl_Ins_fault.j5 kj37 a1 a2 t413 false))) = some r := by rw [if_neg (show ¬ (false = true) by decide)] at H; exact H
                                    clear H
                                    have H := H1
                                    clear H1
                                    by_cases c44 : a0_0 = 100
                                    · rw [if_pos c44] at H
                                      have c44b0 : (a0_0 == 100) = true := beq_iff_eq.mpr c44
                                      have c44b1 : (a0_0 != 100) = false := bne_eq_false_iff_eq.mpr c44
                                      clear c44
                                      (first | rw [c44b0] | (simp only [i64_w, i32_w]; rw [c44b0]) | skip)
                                      have H' := Aside0.mk H
                                      clear H
                                      have hcz45_0 : wc.cell? ⟨gb412, 0, none⟩ = some (.int .u16 a0_0) := (blk_cell BK412.out 0).trans rfl
                                      have hcz45_1 : wc.cell? ⟨gb412, 1, none⟩ = some (.int .u8 a0_1) := (blk_cell BK412.out 1).trans rfl
                                      have hcz45_2 : wc.cell? ⟨gb412, 2, none⟩ = some (.int .u8 a0_2) := (blk_cell BK412.out 2).trans rfl
                                      have hcz45_3 : wc.cell? ⟨gb412, 3, none⟩ = some (.int .u32 a0_3) := (blk_cell BK412.out 3).trans rfl
                                      have hfz45_0 := blk_frozen BK412.out 0
                                      have hfz45_1 := blk_frozen BK412.out 1
                                      have hfz45_2 := blk_frozen BK412.out 2
                                      have hfz45_3 := blk_frozen BK412.out 3
                                      go_wp2
                                      go_meet
                                      case rel => exact ⟨_, (decide (a0_3 ≥ 32)), (by first | rfl | (simp; done) | (simp [*]; done)), H', ⟨by have := HJ7.out; have := HJ16.out; have := HJ28.out; have := HJ32.out; have := HJ37.out; first | omega | exact Nat.le_refl _⟩, ⟨by (with_reducible repeat (first | refine blk_drewN ?_ _ | refine blk_drew ?_ | refine blk_alloc ?_ _)); exact BK412.out⟩, ⟨by repeat (first | (with_reducible first | exact HB.out | apply below_alloc | apply pw_below_drewN | apply below_drew1 | refine below_set ?_ GE412.out) | exact HB.out)⟩⟩
                                    · rw [if_neg c44] at H
                                      have c44b0 : (a0_0 == 100) = false := beq_eq_false_iff_ne.mpr c44
                                      have c44b1 : (a0_0 != 100) = true := bne_iff_ne.mpr c44
                                      (first | rw [c44b0] | (simp only [i64_w, i32_w]; rw [c44b0]) | skip)
                                      by_cases c46 : a0_0 = 116
                                      · rw [if_pos c46] at H
                                        have c46b0 : (a0_0 == 116) = true := beq_iff_eq.mpr c46
                                        have c46b1 : (a0_0 != 116) = false := bne_eq_false_iff_eq.mpr c46
                                        clear c46
                                        have H' := Aside0.mk H
                                        clear H
                                        have hcz47_0 : wc.cell? ⟨gb412, 0, none⟩ = some (.int .u16 a0_0) := (blk_cell BK412.out 0).trans rfl
                                        have hcz47_1 : wc.cell? ⟨gb412, 1, none⟩ = some (.int .u8 a0_1) := (blk_cell BK412.out 1).trans rfl
                                        have hcz47_2 : wc.cell? ⟨gb412, 2, none⟩ = some (.int .u8 a0_2) := (blk_cell BK412.out 2).trans rfl
                                        have hcz47_3 : wc.cell? ⟨gb412, 3, none⟩ = some (.int .u32 a0_3) := (blk_cell BK412.out 3).trans rfl
                                        have hfz47_0 := blk_frozen BK412.out 0
                                        have hfz47_1 := blk_frozen BK412.out 1
                                        have hfz47_2 := blk_frozen BK412.out 2
                                        have hfz47_3 := blk_frozen BK412.out 3
                                        go_wp2
                                        go_meet
                                        case rel => exact ⟨_, (decide (a0_3 ≥ 32)), (by first | rfl | (simp; done) | (simp [*]; done)), H', ⟨by have := HJ7.out; have := HJ16.out; have := HJ28.out; have := HJ32.out; have := HJ37.out; first | omega | exact Nat.le_refl _⟩, ⟨by (with_reducible repeat (first | refine blk_drewN ?_ _ | refine blk_drew ?_ | refine blk_alloc ?_ _)); exact BK412.out⟩, ⟨by repeat (first | (with_reducible first | exact HB.out | apply below_alloc | apply pw_below_drewN | apply below_drew1 | refine below_set ?_ GE412.out) | exact HB.out)⟩⟩
                                      · rw [if_neg c46] at H
                                        have c46b0 : (a0_0 == 116) = false := beq_eq_false_iff_ne.mpr c46
                                        have c46b1 : (a0_0 != 116) = true := bne_iff_ne.mpr c46
                                        have H' := Aside0.mk H
                                        clear H
                                        have hcz48_0 : wc.cell? ⟨gb412, 0, none⟩ = some (.int .u16 a0_0) := (blk_cell BK412.out 0).trans rfl
                                        have hcz48_1 : wc.cell? ⟨gb412, 1, none⟩ = some (.int .u8 a0_1) := (blk_cell BK412.out 1).trans rfl
                                        have hcz48_2 : wc.cell? ⟨gb412, 2, none⟩ = some (.int .u8 a0_2) := (blk_cell BK412.out 2).trans rfl
                                        have hcz48_3 : wc.cell? ⟨gb412, 3, none⟩ = some (.int .u32 a0_3) := (blk_cell BK412.out 3).trans rfl
                                        have hfz48_0 := blk_frozen BK412.out 0
                                        have hfz48_1 := blk_frozen BK412.out 1
                                        have hfz48_2 := blk_frozen BK412.out 2
                                        have hfz48_3 := blk_frozen BK412.out 3
                                        go_wp2
                                        go_meet
                                        case rel => exact ⟨_, (false), (by first | rfl | (simp; done) | (simp [*]; done)), H', ⟨by have := HJ7.out; have := HJ16.out; have := HJ28.out; have := HJ32.out; have := HJ37.out; first | omega | exact Nat.le_refl _⟩, ⟨by (with_reducible repeat (first | refine blk_drewN ?_ _ | refine blk_drew ?_ | refine blk_alloc ?_ _)); exact BK412.out⟩, ⟨by repeat (first | (with_reducible first | exact HB.out | apply below_alloc | apply pw_below_drewN | apply below_drew1 | refine below_set ?_ GE412.out) | exact HB.out)⟩⟩
                                case rest =>
                                  clear HC42
                                  try clear c1
                                  try clear c2
                                  try clear p2
                                  try clear c3
                                  try clear c4
                                  try clear c5
                                  try clear c5b0
                                  try clear c5b1
                                  try clear c6
                                  try clear p6
                                  try clear c11
                                  try clear c11b0
                                  try clear c11b1
                                  try clear c12
                                  try clear c12b0
                                  try clear c12b1
                                  try clear c16
                                  try clear c19
                                  try clear c28
                                  try clear c30
                                  try clear c30b0
                                  try clear c30b1
                                  try clear c32
                                  try clear c34
                                  try clear c34b0
                                  try clear c34b1
                                  try clear c37
                                  try clear c39
                                  try clear c39b0
                                  try clear c39b1
                                  try clear c43
                                  try clear c44
                                  try clear c44b0
                                  try clear c44b1
                                  try clear c46
                                  try clear c46b0
                                  try clear c46b1
                                  try clear hcz10_0
                                  try clear hcz10_1
                                  try clear hcz10_2
                                  try clear hcz10_3
                                  try clear hcz13_0
                                  try clear hcz13_1
                                  try clear hcz13_2
                                  try clear hcz13_3
                                  try clear hcz14_0
                                  try clear hcz14_1
                                  try clear hcz14_2
                                  try clear hcz14_3
                                  try clear hcz15_0
                                  try clear hcz15_1
                                  try clear hcz15_2
                                  try clear hcz15_3
                                  try clear hcz22_0
                                  try clear hcz22_1
                                  try clear hcz22_2
                                  try clear hcz22_3
                                  try clear hcz26_0
                                  try clear hcz26_1
                                  try clear hcz26_2
                                  try clear hcz26_3
                                  try clear hcz31_0
                                  try clear hcz31_1
                                  try clear hcz31_2
                                  try clear hcz31_3
                                  try clear hcz36_0
                                  try clear hcz36_1
                                  try clear hcz36_2
                                  try clear hcz36_3
                                  try clear hcz40_0
                                  try clear hcz40_1
                                  try clear hcz40_2
                                  try clear hcz40_3
                                  try clear hcz41_0
                                  try clear hcz41_1
                                  try clear hcz41_2
                                  try clear hcz41_3
                                  try clear hcz45_0
                                  try clear hcz45_1
                                  try clear hcz45_2
                                  try clear hcz45_3
                                  try clear hcz47_0
                                  try clear hcz47_1
                                  try clear hcz47_2
                                  try clear hcz47_3
                                  try clear hcz48_0
                                  try clear hcz48_1
                                  try clear hcz48_2
                                  try clear hcz48_3
                                  try clear hcz7_0
                                  try clear hcz7_1
                                  try clear hcz7_2
                                  try clear hcz7_3
                                  try clear hfz10_0
                                  try clear hfz10_1
                                  try clear hfz10_2
                                  try clear hfz10_3
                                  try clear hfz13_0
                                  try clear hfz13_1
                                  try clear hfz13_2
                                  try clear hfz13_3
                                  try clear hfz14_0
                                  try clear hfz14_1
                                  try clear hfz14_2
                                  try clear hfz14_3
                                  try clear hfz15_0
                                  try clear hfz15_1
                                  try clear hfz15_2
                                  try clear hfz15_3
                                  try clear hfz22_0
                                  try clear hfz22_1
                                  try clear hfz22_2
                                  try clear hfz22_3
                                  try clear hfz26_0
                                  try clear hfz26_1
                                  try clear hfz26_2
                                  try clear hfz26_3
                                  try clear hfz31_0
                                  try clear hfz31_1
                                  try clear hfz31_2
                                  try clear hfz31_3
                                  try clear hfz36_0
                                  try clear hfz36_1
                                  try clear hfz36_2
                                  try clear hfz36_3
                                  try clear hfz40_0
                                  try clear hfz40_1
                                  try clear hfz40_2
                                  try clear hfz40_3
                                  try clear hfz41_0
                                  try clear hfz41_1
                                  try clear hfz41_2
                                  try clear hfz41_3
                                  try clear hfz45_0
                                  try clear hfz45_1
                                  try clear hfz45_2
                                  try clear hfz45_3
                                  try clear hfz47_0
                                  try clear hfz47_1
                                  try clear hfz47_2
                                  try clear hfz47_3
                                  try clear hfz48_0
                                  try clear hfz48_1
                                  try clear hfz48_2
                                  try clear hfz48_3
                                  try clear hfz7_0
                                  try clear hfz7_1
                                  try clear hfz7_2
                                  try clear hfz7_3
                                  try clear p2
                                  try clear p6
                                  obtain ⟨kq, x70_41, rfl, HA, HJ41, BK412, HB⟩ := hcut
                                  cases kq with
                                  | zero => exact absurd HA.out (by simp [impl_Ins_fault.j5])
                                  | succ kj41 =>
                                    have H := HA.out
                                    clear HA
                                    simp only [impl_Ins_fault.j5] at H
                                    by_cases c49 : x70_41 = true
                                    · subst c49
                                      have H1 : (some 6) = some r := by rw [if_pos rfl] at H; exact H
                                      clear H
                                      have H := H1
                                      clear H1
                                      obtain rfl := Option.some.inj H
                                      go_wp2
                                      go_ret
                                      exact ⟨by first | rfl | (simp [errW_none, errW_some] <;> rfl) | (simp [*, errW_none, errW_some] <;> rfl), by repeat (first | (with_reducible first | exact HB.out | apply below_alloc | apply pw_below_drewN | apply below_drew1 | refine below_set ?_ GE412.out) | exact HB.out)⟩
                                    · replace c49 := Bool.eq_false_iff.mpr c49
                                      subst c49
                                      have H1 : (if a1 = (wrap64 (a2 - 1)) then (if t413 = 4 then (some 0) else (some 7)) else (some 0)) = some r := by rw [if_neg (show ¬ (false = true) by decide)] at H; exact H
                                      clear H
                                      have H := H1
                                      clear H1
                                      by_cases c50 : a1 = (wrap64 (a2 - 1))
                                      · rw [if_pos c50] at H
                                        have c50b0 : (a1 == (wrap64 (a2 - 1))) = true := beq_iff_eq.mpr c50
                                        have c50b1 : (a1 != (wrap64 (a2 - 1))) = false := bne_eq_false_iff_eq.mpr c50
                                        clear c50
                                        by_cases c51 : t413 = 4
                                        · rw [if_pos c51] at H
                                          have c51b0 : (t413 == 4) = true := beq_iff_eq.mpr c51
                                          have c51b1 : (t413 != 4) = false := bne_eq_false_iff_eq.mpr c51
                                          clear c51
                                          obtain rfl := Option.some.inj H
                                          go_wp2
                                          go_ret
                                          exact ⟨by first | rfl | (simp [errW_none, errW_some] <;> rfl) | (simp [*, errW_none, errW_some] <;> rfl), by repeat (first | (with_reducible first | exact HB.out | apply below_alloc | apply pw_below_drewN | apply below_drew1 | refine below_set ?_ GE412.out) | exact HB.out)⟩
                                        · rw [if_neg c51] at H
                                          have c51b0 : (t413 == 4) = false := beq_eq_false_iff_ne.mpr c51
                                          have c51b1 : (t413 != 4) = true := bne_iff_ne.mpr c51
                                          obtain rfl := Option.some.inj H
                                          go_wp2
                                          go_ret
                                          exact ⟨by first | rfl | (simp [errW_none, errW_some] <;> rfl) | (simp [*, errW_none, errW_some] <;> rfl), by repeat (first | (with_reducible first | exact HB.out | apply below_alloc | apply pw_below_drewN | apply below_drew1 | refine below_set ?_ GE412.out) | exact HB.out)⟩
                                      · rw [if_neg c50] at H
                                        have c50b0 : (a1 == (wrap64 (a2 - 1))) = false := beq_eq_false_iff_ne.mpr c50
                                        have c50b1 : (a1 != (wrap64 (a2 - 1))) = true := bne_iff_ne.mpr c50
                                        obtain rfl := Option.some.inj H
                                        go_wp2
                                        go_ret
                                        exact ⟨by first | rfl | (simp [errW_none, errW_some] <;> rfl) | (simp [*, errW_none, errW_some] <;> rfl), by repeat (first | (with_reducible first | exact HB.out | apply below_alloc | apply pw_below_drewN | apply below_drew1 | refine below_set ?_ GE412.out) | exact HB.out)⟩

end Go.Proofs.Ytgodbniphkfgfaa.P
