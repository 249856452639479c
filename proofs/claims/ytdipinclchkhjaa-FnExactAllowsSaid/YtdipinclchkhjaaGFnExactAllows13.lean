import Derived.Test.YtdipinclchkhjaaGFnExactAllows4
import Derived.Test.YtdipinclchkhjaaGFnExactAllows11
namespace Go.Proofs.Ytdipinclchkhjaa.P
open Go.RowKit Go.Proofs.YtdipinclchkhjaaW.PrintWords Go.Proofs.YtdipinclchkhjaaW.PrintLast Go.Proofs.YtdipinclchkhjaaW.PrintMore
attribute [local go_sem] max2_int min2_int max_two min_two max_three min_three max_four min_four   -- for this text's walks alone
set_option linter.unusedVariables false
set_option linter.unusedSimpArgs false

/-! ### cmp_Or_int: function 92 -/
def cmp_Or_int.l0 : Nat → Int → List Int → Int → Int → Option (Int)
  | 0, _, _, _, _ => none
  | k + 1, x3, x6, x7, x8 => if x8 < x7 then (if 0 ≤ x8 then (if x8 < (x6.length : Int) then (if (rd x6 x8) = x3 then (cmp_Or_int.l0 k x3 x6 x7 (wrap64 (x8 + 1))) else (some (rd x6 x8))) else (none)) else (none)) else (some x3)
def cmp_Or_int.f (k : Nat) (l0 : List Int) : Option (Int) := cmp_Or_int.l0 k 0 l0 (l0.length : Int) 0
set_option maxHeartbeats 8000000 in
set_option maxRecDepth 100000 in
theorem cmp_Or_int.calls (k : Nat) (A0 : Option Addr) (c0 : Nat) (l0 : List Int) (r : Int) (w : World) (hr0 : Kd.C (Kd.int .i64) w A0 l0.length l0) (hc0 : l0.length ≤ c0) (h : cmp_Or_int.f k l0 = some r) :
    Calls Try.prog 92 #[.slice A0 l0.length c0] w fun e w' => e = .returned (.int .i64 r) ∧ Drawn0 w w' := by
  have HR0 := Aside0.mk hr0
  have HC0 := Aside0.mk hc0
  clear hr0 hc0
  have H : (cmp_Or_int.l0 k 0 l0 (l0.length : Int) 0) = some r := h
  clear h
  have H' := Aside0.mk H
  clear H
  go_enter Try.func92, Try.ntmps92
  go_wp2
  go_loopg [8] k (fun kq v8 w' => ∃ (x8_1 : Int), v8 = .int .i64 x8_1 ∧ Aside0 (cmp_Or_int.l0 kq 0 l0 (l0.length : Int) x8_1 = some r) ∧ Aside0 (kq ≤ k) ∧ Drawn0 w w')
  case atStart => exact ⟨(0), (by first | rfl | (simp; done) | (simp [*]; done)), H', ⟨Nat.le_refl _⟩, by repeat (first | exact Drawn0.refl _ | apply Drawn0.step)⟩
  case round =>
    clear H'
    obtain ⟨x8_1, rfl, HA, HK1, ⟨m1, rfl⟩⟩ := hrel
    cases gk with
    | zero => exact absurd HA.out (by simp [cmp_Or_int.l0])
    | succ k1 =>
      have H := HA.out
      clear HA
      simp only [cmp_Or_int.l0] at H
      by_cases c2 : x8_1 < (l0.length : Int)
      · rw [if_pos c2] at H
        have c2b0 : decide (x8_1 < (l0.length : Int)) = true := decide_eq_true c2
        clear c2
        by_cases c3 : 0 ≤ x8_1
        · rw [if_pos c3] at H
          have c3b0 : decide (0 ≤ x8_1) = true := decide_eq_true c3
          clear c3
          by_cases c4 : x8_1 < (l0.length : Int)
          · rw [if_pos c4] at H
            have c4b0 : decide (x8_1 < (l0.length : Int)) = true := decide_eq_true c4
            clear c4
            by_cases c5 : (rd l0 x8_1) = 0
            · rw [if_pos c5] at H
              have c5b0 : ((rd l0 x8_1) == 0) = true := beq_iff_eq.mpr c5
              have c5b1 : ((rd l0 x8_1) != 0) = false := bne_eq_false_iff_eq.mpr c5
              clear c5
              have H' := Aside0.mk H
              clear H
              have p595 : 0 ≤ (x8_1 : Int) := of_decide_eq_true (by first | (with_reducible assumption) | assumption)
              have q595 : x8_1 < (l0.length : Int) := of_decide_eq_true (by first | (with_reducible assumption) | assumption)
              obtain ⟨ad595, e595, hx595_0⟩ := Kd.at_int HR0.out x8_1 p595 q595
              cases e595
              replace p595 := eq_true p595
              replace q595 := eq_true q595
              go_wp2
              go_roundg k1
              case measure => have := HK1.out; omega
              case rel => exact ⟨(wrap64 (x8_1 + 1)), (by first | rfl | (simp; done) | (simp [*]; done)), H', ⟨by have := HK1.out; omega⟩, by repeat (first | exact Drawn0.refl _ | apply Drawn0.step)⟩
            · rw [if_neg c5] at H
              have c5b0 : ((rd l0 x8_1) == 0) = false := beq_eq_false_iff_ne.mpr c5
              have c5b1 : ((rd l0 x8_1) != 0) = true := bne_iff_ne.mpr c5
              obtain rfl := Option.some.inj H
              have p595 : 0 ≤ (x8_1 : Int) := of_decide_eq_true (by first | (with_reducible assumption) | assumption)
              have q595 : x8_1 < (l0.length : Int) := of_decide_eq_true (by first | (with_reducible assumption) | assumption)
              obtain ⟨ad595, e595, hx595_0⟩ := Kd.at_int HR0.out x8_1 p595 q595
              cases e595
              replace p595 := eq_true p595
              replace q595 := eq_true q595
              go_wp2
              go_ret
              exact ⟨by first | rfl | (simp; done) | (simp [*]; done), by repeat (first | exact Drawn0.refl _ | apply Drawn0.step)⟩
          · rw [if_neg c4] at H
            exact absurd H (by simp)
        · rw [if_neg c3] at H
          exact absurd H (by simp)
      · rw [if_neg c2] at H
        have c2b0 : decide (x8_1 < (l0.length : Int)) = false := decide_eq_false c2
        clear c2
        obtain rfl := Option.some.inj H
        go_wp2
        go_ret
        exact ⟨by first | rfl | (simp; done) | (simp [*]; done), by repeat (first | exact Drawn0.refl _ | apply Drawn0.step)⟩

end Go.Proofs.Ytdipinclchkhjaa.P

namespace Go.Proofs.Ytdipinclchkhjaa.P
open Go.RowKit Go.Proofs.YtdipinclchkhjaaW.PrintWords Go.Proofs.YtdipinclchkhjaaW.PrintLast Go.Proofs.YtdipinclchkhjaaW.PrintMore
attribute [local go_sem] max2_int min2_int max_two min_two max_three min_three max_four min_four   -- for this text's walks alone
set_option linter.unusedVariables false
set_option linter.unusedSimpArgs false

/-! ### cmp_isNaN_uint32: function 128 -/
def cmp_isNaN_uint32.f (a0 : Int) : Option (Bool) := some (a0 != a0)
set_option maxHeartbeats 8000000 in
set_option maxRecDepth 100000 in
theorem cmp_isNaN_uint32.calls (a0 : Int) (r : Bool) (w : World) (h : cmp_isNaN_uint32.f a0 = some r) :
    Calls Try.prog 128 #[.int .u32 a0] w fun e w' => e = .returned (.bool r) ∧ Drawn0 w w' := by
  have H : (some (a0 != a0)) = some r := h
  clear h
  obtain rfl := Option.some.inj H
  go_enter Try.func128, Try.ntmps128
  go_wp2
  go_ret
  exact ⟨by first | rfl | (simp; done) | (simp [*]; done), by repeat (first | exact Drawn0.refl _ | apply Drawn0.step)⟩

end Go.Proofs.Ytdipinclchkhjaa.P

namespace Go.Proofs.Ytdipinclchkhjaa.P
open Go.RowKit Go.Proofs.YtdipinclchkhjaaW.PrintWords Go.Proofs.YtdipinclchkhjaaW.PrintLast Go.Proofs.YtdipinclchkhjaaW.PrintMore
attribute [local go_sem] max2_int min2_int max_two min_two max_three min_three max_four min_four   -- for this text's walks alone
set_option linter.unusedVariables false
set_option linter.unusedSimpArgs false

/-! ### cmp_Compare_uint32: function 93 -/
def cmp_Compare_uint32.f (a0 : Int) (a1 : Int) : Option (Int) := (cmp_isNaN_uint32.f a0).bind fun t596 => ((cmp_isNaN_uint32.f a1).bind fun t597 => (if t596 = true then (if t597 = true then (some 0) else (some (-1))) else (if t597 = true then (some 1) else (if a0 < a1 then (some (-1)) else (if a0 > a1 then (some 1) else (some 0))))))
set_option maxHeartbeats 8000000 in
set_option maxRecDepth 100000 in
theorem cmp_Compare_uint32.calls (a0 : Int) (a1 : Int) (r : Int) (w : World) (h : cmp_Compare_uint32.f a0 a1 = some r) :
    Calls Try.prog 93 #[.int .u32 a0, .int .u32 a1] w fun e w' => e = .returned (.int .i64 r) ∧ Drawn0 w w' := by
  have H : ((cmp_isNaN_uint32.f a0).bind fun t596 => ((cmp_isNaN_uint32.f a1).bind fun t597 => (if t596 = true then (if t597 = true then (some 0) else (some (-1))) else (if t597 = true then (some 1) else (if a0 < a1 then (some (-1)) else (if a0 > a1 then (some 1) else (some 0))))))) = some r := h
  clear h
  replace H := Option.bind_eq_some_iff.mp H
  obtain ⟨t596, A30, H⟩ := H
  replace H : ((cmp_isNaN_uint32.f a1).bind fun t597 => (if t596 = true then (if t597 = true then (some 0) else (some (-1))) else (if t597 = true then (some 1) else (if a0 < a1 then (some (-1)) else (if a0 > a1 then (some 1) else (some 0)))))) = some r := H
  have A3 := Aside0.mk A30
  clear A30
  replace H := Option.bind_eq_some_iff.mp H
  obtain ⟨t597, A40, H⟩ := H
  replace H : (if t596 = true then (if t597 = true then (some 0) else (some (-1))) else (if t597 = true then (some 1) else (if a0 < a1 then (some (-1)) else (if a0 > a1 then (some 1) else (some 0))))) = some r := H
  have A4 := Aside0.mk A40
  clear A40
  by_cases c5 : t596 = true
  · subst c5
    have H1 : (if t597 = true then (some 0) else (some (-1))) = some r := by rw [if_pos rfl] at H; exact H
    clear H
    have H := H1
    clear H1
    by_cases c6 : t597 = true
    · subst c6
      have H1 : (some 0) = some r := by rw [if_pos rfl] at H; exact H
      clear H
      have H := H1
      clear H1
      obtain rfl := Option.some.inj H
      go_enter Try.func93, Try.ntmps93
      go_wp2_with (first | ((with_reducible refine gate_callee (f := 128) rfl ?_); refine goesL_ (some 8) rfl rfl Try.func128 (by kernel_rfl) rfl #[.int .u32 a0] rfl (by (try simp only [List.map_toArray, List.map_cons, List.map_nil]); first | done | rfl | (simp only [List.length_drop, List.length_take]; rfl)) ?_; (with_reducible refine (cmp_isNaN_uint32.calls a0 true _ A3.out).mono ?_); rintro e w' ⟨rfl, ⟨nd, rfl⟩⟩; refine ⟨_, rfl, ?_⟩) | ((with_reducible refine gate_callee (f := 128) rfl ?_); refine goesL_ (some 10) rfl rfl Try.func128 (by kernel_rfl) rfl #[.int .u32 a1] rfl (by (try simp only [List.map_toArray, List.map_cons, List.map_nil]); first | done | rfl | (simp only [List.length_drop, List.length_take]; rfl)) ?_; (with_reducible refine (cmp_isNaN_uint32.calls a1 true _ A4.out).mono ?_); rintro e w' ⟨rfl, ⟨nd, rfl⟩⟩; refine ⟨_, rfl, ?_⟩))
      go_ret
      exact ⟨by first | rfl | (simp; done) | (simp [*]; done), by repeat (first | exact Drawn0.refl _ | apply Drawn0.step)⟩
    · replace c6 := Bool.eq_false_iff.mpr c6
      subst c6
      have H1 : (some (-1)) = some r := by rw [if_neg (show ¬ (false = true) by decide)] at H; exact H
      clear H
      have H := H1
      clear H1
      obtain rfl := Option.some.inj H
      go_enter Try.func93, Try.ntmps93
      go_wp2_with (first | ((with_reducible refine gate_callee (f := 128) rfl ?_); refine goesL_ (some 8) rfl rfl Try.func128 (by kernel_rfl) rfl #[.int .u32 a0] rfl (by (try simp only [List.map_toArray, List.map_cons, List.map_nil]); first | done | rfl | (simp only [List.length_drop, List.length_take]; rfl)) ?_; (with_reducible refine (cmp_isNaN_uint32.calls a0 true _ A3.out).mono ?_); rintro e w' ⟨rfl, ⟨nd, rfl⟩⟩; refine ⟨_, rfl, ?_⟩) | ((with_reducible refine gate_callee (f := 128) rfl ?_); refine goesL_ (some 10) rfl rfl Try.func128 (by kernel_rfl) rfl #[.int .u32 a1] rfl (by (try simp only [List.map_toArray, List.map_cons, List.map_nil]); first | done | rfl | (simp only [List.length_drop, List.length_take]; rfl)) ?_; (with_reducible refine (cmp_isNaN_uint32.calls a1 false _ A4.out).mono ?_); rintro e w' ⟨rfl, ⟨nd, rfl⟩⟩; refine ⟨_, rfl, ?_⟩))
      go_ret
      exact ⟨by first | rfl | (simp; done) | (simp [*]; done), by repeat (first | exact Drawn0.refl _ | apply Drawn0.step)⟩
  · replace c5 := Bool.eq_false_iff.mpr c5
    subst c5
    have H1 : (if t597 = true then (some 1) else (if a0 < a1 then (some (-1)) else (if a0 > a1 then (some 1) else (some 0)))) = some r := by rw [if_neg (show ¬ (false = true) by decide)] at H; exact H
    clear H
    have H := H1
    clear H1
    by_cases c7 : t597 = true
    · subst c7
      have H1 : (some 1) = some r := by rw [if_pos rfl] at H; exact H
      clear H
      have H := H1
      clear H1
      obtain rfl := Option.some.inj H
      go_enter Try.func93, Try.ntmps93
      go_wp2_with (first | ((with_reducible refine gate_callee (f := 128) rfl ?_); refine goesL_ (some 8) rfl rfl Try.func128 (by kernel_rfl) rfl #[.int .u32 a0] rfl (by (try simp only [List.map_toArray, List.map_cons, List.map_nil]); first | done | rfl | (simp only [List.length_drop, List.length_take]; rfl)) ?_; (with_reducible refine (cmp_isNaN_uint32.calls a0 false _ A3.out).mono ?_); rintro e w' ⟨rfl, ⟨nd, rfl⟩⟩; refine ⟨_, rfl, ?_⟩) | ((with_reducible refine gate_callee (f := 128) rfl ?_); refine goesL_ (some 10) rfl rfl Try.func128 (by kernel_rfl) rfl #[.int .u32 a1] rfl (by (try simp only [List.map_toArray, List.map_cons, List.map_nil]); first | done | rfl | (simp only [List.length_drop, List.length_take]; rfl)) ?_; (with_reducible refine (cmp_isNaN_uint32.calls a1 true _ A4.out).mono ?_); rintro e w' ⟨rfl, ⟨nd, rfl⟩⟩; refine ⟨_, rfl, ?_⟩))
      go_ret
      exact ⟨by first | rfl | (simp; done) | (simp [*]; done), by repeat (first | exact Drawn0.refl _ | apply Drawn0.step)⟩
    · replace c7 := Bool.eq_false_iff.mpr c7
      subst c7
      have H1 : (if a0 < a1 then (some (-1)) else (if a0 > a1 then (some 1) else (some 0))) = some r := by rw [if_neg (show ¬ (false = true) by decide)] at H; exact H
      clear H
      have H := H1
      clear H1
      by_cases c8 : a0 < a1
      · rw [if_pos c8] at H
        have c8b0 : decide (a0 < a1) = true := decide_eq_true c8
        clear c8
        obtain rfl := Option.some.inj H
        go_enter Try.func93, Try.ntmps93
        go_wp2_with (first | ((with_reducible refine gate_callee (f := 128) rfl ?_); refine goesL_ (some 8) rfl rfl Try.func128 (by kernel_rfl) rfl #[.int .u32 a0] rfl (by (try simp only [List.map_toArray, List.map_cons, List.map_nil]); first | done | rfl | (simp only [List.length_drop, List.length_take]; rfl)) ?_; (with_reducible refine (cmp_isNaN_uint32.calls a0 false _ A3.out).mono ?_); rintro e w' ⟨rfl, ⟨nd, rfl⟩⟩; refine ⟨_, rfl, ?_⟩) | ((with_reducible refine gate_callee (f := 128) rfl ?_); refine goesL_ (some 10) rfl rfl Try.func128 (by kernel_rfl) rfl #[.int .u32 a1] rfl (by (try simp only [List.map_toArray, List.map_cons, List.map_nil]); first | done | rfl | (simp only [List.length_drop, List.length_take]; rfl)) ?_; (with_reducible refine (cmp_isNaN_uint32.calls a1 false _ A4.out).mono ?_); rintro e w' ⟨rfl, ⟨nd, rfl⟩⟩; refine ⟨_, rfl, ?_⟩))
        go_ret
        exact ⟨by first | rfl | (simp; done) | (simp [*]; done), by repeat (first | exact Drawn0.refl _ | apply Drawn0.step)⟩
      · rw [if_neg c8] at H
        have c8b0 : decide (a0 < a1) = false := decide_eq_false c8
        clear c8
        by_cases c9 : a0 > a1
        · rw [if_pos c9] at H
          have c9b0 : decide (a1 < a0) = true := decide_eq_true c9
          clear c9
          obtain rfl := Option.some.inj H
          go_enter Try.func93, Try.ntmps93
          go_wp2_with (first | ((with_reducible refine gate_callee (f := 128) rfl ?_); refine goesL_ (some 8) rfl rfl Try.func128 (by kernel_rfl) rfl #[.int .u32 a0] rfl (by (try simp only [List.map_toArray, List.map_cons, List.map_nil]); first | done | rfl | (simp only [List.length_drop, List.length_take]; rfl)) ?_; (with_reducible refine (cmp_isNaN_uint32.calls a0 false _ A3.out).mono ?_); rintro e w' ⟨rfl, ⟨nd, rfl⟩⟩; refine ⟨_, rfl, ?_⟩) | ((with_reducible refine gate_callee (f := 128) rfl ?_); refine goesL_ (some 10) rfl rfl Try.func128 (by kernel_rfl) rfl #[.int .u32 a1] rfl (by (try simp only [List.map_toArray, List.map_cons, List.map_nil]); first | done | rfl | (simp only [List.length_drop, List.length_take]; rfl)) ?_; (with_reducible refine (cmp_isNaN_uint32.calls a1 false _ A4.out).mono ?_); rintro e w' ⟨rfl, ⟨nd, rfl⟩⟩; refine ⟨_, rfl, ?_⟩))
          go_ret
          exact ⟨by first | rfl | (simp; done) | (simp [*]; done), by repeat (first | exact Drawn0.refl _ | apply Drawn0.step)⟩
        · rw [if_neg c9] at H
          have c9b0 : decide (a1 < a0) = false := decide_eq_false c9
          clear c9
          obtain rfl := Option.some.inj H
          go_enter Try.func93, Try.ntmps93
          go_wp2_with (first | ((with_reducible refine gate_callee (f := 128) rfl ?_); refine goesL_ (some 8) rfl rfl Try.func128 (by kernel_rfl) rfl #[.int .u32 a0] rfl (by (try simp only [List.map_toArray, List.map_cons, List.map_nil]); first | done | rfl | (simp only [List.length_drop, List.length_take]; rfl)) ?_; (with_reducible refine (cmp_isNaN_uint32.calls a0 false _ A3.out).mono ?_); rintro e w' ⟨rfl, ⟨nd, rfl⟩⟩; refine ⟨_, rfl, ?_⟩) | ((with_reducible refine gate_callee (f := 128) rfl ?_); refine goesL_ (some 10) rfl rfl Try.func128 (by kernel_rfl) rfl #[.int .u32 a1] rfl (by (try simp only [List.map_toArray, List.map_cons, List.map_nil]); first | done | rfl | (simp only [List.length_drop, List.length_take]; rfl)) ?_; (with_reducible refine (cmp_isNaN_uint32.calls a1 false _ A4.out).mono ?_); rintro e w' ⟨rfl, ⟨nd, rfl⟩⟩; refine ⟨_, rfl, ?_⟩))
          go_ret
          exact ⟨by first | rfl | (simp; done) | (simp [*]; done), by repeat (first | exact Drawn0.refl _ | apply Drawn0.step)⟩

end Go.Proofs.Ytdipinclchkhjaa.P

namespace Go.Proofs.Ytdipinclchkhjaa.P
open Go.RowKit Go.Proofs.YtdipinclchkhjaaW.PrintWords Go.Proofs.YtdipinclchkhjaaW.PrintLast Go.Proofs.YtdipinclchkhjaaW.PrintMore
attribute [local go_sem] max2_int min2_int max_two min_two max_three min_three max_four min_four   -- for this text's walks alone
set_option linter.unusedVariables false
set_option linter.unusedSimpArgs false

def slices_ContainsFunc_Rule.f (l0 : List (S131)) : Option Bool := if l0.length ≤ 140737488355328 ∧ ∀ x ∈ l0, x.f0.length ≤ 140737488355328 then some (l0.any fun c => !ruleOKr c) else none
theorem slices_ContainsFunc_Rule.calls (A0 : Option Addr) (c0 : Nat) (l0 : List (S131)) (r : Bool) (w : World) (hr0 : Kd.C k131 w A0 l0.length l0) (hc0 : l0.length ≤ c0) (h : slices_ContainsFunc_Rule.f l0 = some r) :
    Calls Try.prog 94 #[.slice A0 l0.length c0, .func (.func 95) #[] #[]] w fun e w' => e = .returned (.bool r) ∧ Below w.heap.size w w' := by
  unfold slices_ContainsFunc_Rule.f at h
  split at h
  · rename_i hh
    obtain rfl := Option.some.inj h
    exact containsRule_does A0 c0 l0 w hr0 hh.1 hh.2
  · exact absurd h (by simp)

end Go.Proofs.Ytdipinclchkhjaa.P

namespace Go.Proofs.Ytdipinclchkhjaa.P
open Go.RowKit Go.Proofs.YtdipinclchkhjaaW.PrintWords Go.Proofs.YtdipinclchkhjaaW.PrintLast Go.Proofs.YtdipinclchkhjaaW.PrintMore
attribute [local go_sem] max2_int min2_int max_two min_two max_three min_three max_four min_four   -- for this text's walks alone
set_option linter.unusedVariables false
set_option linter.unusedSimpArgs false

/-! ### impl_ValidPolicy: function 41 -/
mutual
def impl_ValidPolicy.l0 : Nat → Int → List (S127) → Int → Int → List (S127) → Option (Bool)
  | 0, _, _, _, _, _ => none
  | k + 1, x3, x8, x9, x10, x599000 => if x10 < x9 then (if 0 ≤ x10 then (if x10 < (x8.length : Int) then (if x10 > 0 then (if 0 ≤ (wrap64 (x10 - 1)) then (if (wrap64 (x10 - 1)) < (x599000.length : Int) then ((cmp_Compare_uint32.f ((rd_T127 x599000 (wrap64 (x10 - 1))).f0) ((rd_T127 x8 x10).f0)).bind fun t603 => ((cmp_Compare_uint32.f ((rd_T127 x599000 (wrap64 (x10 - 1))).f1) ((rd_T127 x8 x10).f1)).bind fun t604 => ((cmp_Or_int.f k (([t603, t604] : List Int))).bind fun t608 => (if t608 ≥ 0 then (some false) else (impl_ValidPolicy.j1 k x3 x8 x9 x10 x599000 ((rd_T127 x8 x10).f0) ((rd_T127 x8 x10).f1) ((rd_T127 x8 x10).f2)))))) else (none)) else (none)) else (impl_ValidPolicy.j1 k x3 x8 x9 x10 x599000 ((rd_T127 x8 x10).f0) ((rd_T127 x8 x10).f1) ((rd_T127 x8 x10).f2))) else (none)) else (none)) else (some true)
def impl_ValidPolicy.j1 : Nat → Int → List (S127) → Int → Int → List (S127) → Int → Int → List (S131) → Option (Bool)
  | 0, _, _, _, _, _, _, _, _ => none
  | k + 1, x3, x8, x9, x10, x599000, x601000, x601001, x601002 => if (x601002.length : Int) < 1 then (impl_ValidPolicy.j2 k (wrap64 (x3 + (x601002.length : Int))) x8 x9 x10 true x599000 x601000 x601001 x601002) else (if (x601002.length : Int) > 200 then (impl_ValidPolicy.j2 k (wrap64 (x3 + (x601002.length : Int))) x8 x9 x10 true x599000 x601000 x601001 x601002) else (impl_ValidPolicy.j2 k (wrap64 (x3 + (x601002.length : Int))) x8 x9 x10 (decide ((wrap64 (x3 + (x601002.length : Int))) > 1000)) x599000 x601000 x601001 x601002))
def impl_ValidPolicy.j2 : Nat → Int → List (S127) → Int → Int → Bool → List (S127) → Int → Int → List (S131) → Option (Bool)
  | 0, _, _, _, _, _, _, _, _, _ => none
  | k + 1, x3, x8, x9, x10, x54, x599000, x601000, x601001, x601002 => if x54 = true then (some false) else ((slices_ContainsFunc_Rule.f x601002).bind fun t609 => (if t609 = true then (some false) else (impl_ValidPolicy.l0 k x3 x8 x9 (wrap64 (x10 + 1)) x599000)))
end
def impl_ValidPolicy.f (k : Nat) (l0_0 : List (S127)) : Option (Bool) := impl_ValidPolicy.l0 k 0 l0_0 (l0_0.length : Int) 0 l0_0
def impl_ValidPolicy.T7 : Bool × List (List Nat × List Nat) := (true, [([], []), ([0], [0]), ([], []), ([2], [2]), ([1, 3], [1, 3]), ([], []), ([5], [5]), ([], []), ([7], [7]), ([6, 8, 4], [6, 8]), ([4, 9], [4, 9]), ([10, 9], [10]), ([11], [11])])
def impl_ValidPolicy.B7 : List Nat := [0, 1, 0, 4, 15, 0, 32, 0, 128, 511, 1023, 2047, 4095]
theorem impl_ValidPolicy.tab7 : rtab .any (opsOf Try.f41 7) = impl_ValidPolicy.T7 := by kernel_rfl
theorem impl_ValidPolicy.bits7 : waitsOk impl_ValidPolicy.T7.2 impl_ValidPolicy.B7 = true := by kernel_rfl
set_option maxHeartbeats 8000000 in
set_option maxRecDepth 100000 in
theorem impl_ValidPolicy.calls (k : Nat) (A0_0 : Option Addr) (c0_0 : Nat) (l0_0 : List (S127)) (r : Bool) (w : World) (hr0_0 : Kd.C k127 w A0_0 l0_0.length l0_0) (hc0_0 : l0_0.length ≤ c0_0) (h : impl_ValidPolicy.f k l0_0 = some r) :
    Calls Try.prog 41 #[.agg #[.slice A0_0 l0_0.length c0_0]] w fun e w' => e = .returned (.bool r) ∧ Below w.heap.size w w' := by
  have hu64 := Try.underlying64
  have hu127 := Try.underlying127
  have HR0_0 := Aside0.mk hr0_0
  have HC0_0 := Aside0.mk hc0_0
  clear hr0_0 hc0_0
  have HB := Aside0.mk (Below.refl w.heap.size w)
  have H : (impl_ValidPolicy.l0 k 0 l0_0 (l0_0.length : Int) 0 l0_0) = some r := h
  clear h
  have H' := Aside0.mk H
  clear H
  go_enter Try.func41, Try.ntmps41
  go_wp2_with (first | ((with_reducible refine gate_dst (N := 1) rfl ?_); (try (refine gate_guard (by rfl) ?_; dsimp only)); refine box_event ?hg (N := 1) ?hd (cs := #[.slice A0_0 l0_0.length c0_0]) (t := 64) ?hr ?_; (case hd => rfl); (case hg => rfl); (case hr => first | (go_simp; done) | (go_simp; rfl)); intro gb598 hg w2 hbox hb; have n0_ := Aside0.mk (below_step (by repeat (first | (with_reducible first | exact HB.out | apply below_alloc | apply pw_below_drewN | apply below_drew1) | exact HB.out)) hb); have n1_ := Aside0.mk (hbox); have n2_ := Aside0.mk ((by rw [hg]; exact (below_size (by repeat (first | (with_reducible first | exact HB.out | apply below_alloc | apply pw_below_drewN | apply below_drew1) | exact HB.out))) : w.heap.size ≤ gb598)); have n3_ := Aside0.mk ((by rw [hg]; exact (below_size (by repeat (first | (with_reducible first | exact HB.out | apply below_alloc | apply pw_below_drewN | apply below_drew1) | exact HB.out))) : w.heap.size ≤ gb598)); clear HB; have HB := n0_; have BK598 := n1_; have GW598 := n2_; have GE598 := n3_; clear n0_ n1_ n2_ n3_; clear hb hbox hg; have hcz3_0 : w2.cell? ⟨gb598, 0, none⟩ = some (.slice A0_0 l0_0.length c0_0) := (blk_cell BK598.out 0).trans rfl; have hfz3_0 := blk_frozen BK598.out 0))
  go_loopg [3, 10] k (fun kq v3 v10 w' => ∃ (x3_1 : Int) (x10_1 : Int), v3 = .int .i64 x3_1 ∧ v10 = .int .i64 x10_1 ∧ Aside0 (impl_ValidPolicy.l0 kq x3_1 l0_0 (l0_0.length : Int) x10_1 l0_0 = some r) ∧ Aside0 (kq ≤ k) ∧ Aside0 (w'.heap[gb598]? = some (.cells #[(.slice A0_0 l0_0.length c0_0)] 64 (0, 0))) ∧ Aside0 (Below w.heap.size w w'))
  case atStart => exact ⟨(0), (0), (by first | rfl | (simp; done) | (simp [*]; done)), (by first | rfl | (simp; done) | (simp [*]; done)), H', ⟨Nat.le_refl _⟩, ⟨by (with_reducible repeat (first | refine blk_drewN ?_ _ | refine blk_drew ?_ | refine blk_alloc ?_ _)); exact BK598.out⟩, ⟨by repeat (first | (with_reducible first | exact HB.out | apply below_alloc | apply pw_below_drewN | apply below_drew1 | refine below_set ?_ GE598.out) | exact HB.out)⟩⟩
  case round =>
    clear H'
    try clear p2
    try clear hcz3_0
    try clear hfz3_0
    obtain ⟨x3_1, x10_1, rfl, rfl, HA, HK1, BK598, HB⟩ := hrel
    cases gk with
    | zero => exact absurd HA.out (by simp [impl_ValidPolicy.l0])
    | succ k1 =>
      have H := HA.out
      clear HA
      simp only [impl_ValidPolicy.l0] at H
      by_cases c4 : x10_1 < (l0_0.length : Int)
      · rw [if_pos c4] at H
        have c4b0 : decide (x10_1 < (l0_0.length : Int)) = true := decide_eq_true c4
        clear c4
        by_cases c5 : 0 ≤ x10_1
        · rw [if_pos c5] at H
          have c5b0 : decide (0 ≤ x10_1) = true := decide_eq_true c5
          clear c5
          by_cases c6 : x10_1 < (l0_0.length : Int)
          · rw [if_pos c6] at H
            have c6b0 : decide (x10_1 < (l0_0.length : Int)) = true := decide_eq_true c6
            clear c6
            have HC7 := Aside0.mk H
            clear H
            have p599 : 0 ≤ (x10_1 : Int) := of_decide_eq_true (by first | (with_reducible assumption) | assumption)
            have q599 : x10_1 < (l0_0.length : Int) := of_decide_eq_true (by first | (with_reducible assumption) | assumption)
            obtain ⟨ad599, A599_2, c599_2, e599, hx599_0, hx599_1, hx599_2, hl599_2, hi599_2⟩ := at_T127 HR0_0.out x10_1 p599 q599
            cases e599
            replace hx599_0 := (HB.out.cell (World.block_lt_of_cell? w _ hx599_0)).trans hx599_0
            replace hx599_1 := (HB.out.cell (World.block_lt_of_cell? w _ hx599_1)).trans hx599_1
            replace hx599_2 := (HB.out.cell (World.block_lt_of_cell? w _ hx599_2)).trans hx599_2
            have HR599_2 := Aside0.mk hi599_2
            have HC599_2 := Aside0.mk hl599_2
            clear hi599_2 hl599_2
            replace p599 := eq_true p599
            replace q599 := eq_true q599
            go_upto_if 16 with (first | ((with_reducible refine gate_dst (N := 5) rfl ?_); (try (refine gate_guard (by rfl) ?_; dsimp only)); refine box_event ?hg (N := 5) ?hd (cs := #[.int .u32 0, .int .u32 0, .slice none 0 0]) (t := 127) ?hr ?_; (case hd => rfl); (case hg => rfl); (case hr => first | (go_simp; done) | (go_simp; rfl)); intro gb600 hg w8 hbox hb; have n0_ := Aside0.mk (blk_below (g := gb598) (o := .cells #[.slice (some ad599) l0_0.length c0_0] 64 (0, 0)) (by (with_reducible repeat (first | refine blk_drewN ?_ _ | refine blk_drew ?_ | refine blk_alloc ?_ _)); exact BK598.out) hb); have n1_ := Aside0.mk (below_step (by repeat (first | (with_reducible first | exact HB.out | apply below_alloc | apply pw_below_drewN | apply below_drew1 | refine below_set ?_ GE598.out) | exact HB.out)) hb); have n2_ := Aside0.mk (hbox); have n3_ := Aside0.mk ((by rw [hg]; exact (below_size (by repeat (first | (with_reducible first | exact HB.out | apply below_alloc | apply pw_below_drewN | apply below_drew1 | refine below_set ?_ GE598.out) | exact HB.out))) : w.heap.size ≤ gb600)); have n4_ := Aside0.mk ((by rw [hg]; exact (below_size (by repeat (first | (with_reducible first | exact HB.out | apply below_alloc | apply pw_below_drewN | apply below_drew1 | refine below_set ?_ GE598.out) | exact HB.out))) : w.heap.size ≤ gb600)); have n5_ := Aside0.mk ((by rw [hg]; exact Nat.ne_of_lt (blk_lt (g := gb598) (o := .cells #[.slice (some ad599) l0_0.length c0_0] 64 (0, 0)) (by (with_reducible repeat (first | refine blk_drewN ?_ _ | refine blk_drew ?_ | refine blk_alloc ?_ _)); exact BK598.out)) : gb598 ≠ gb600)); have n6_ := Aside0.mk ((by rw [hg]; exact Nat.ne_of_gt (blk_lt (g := gb598) (o := .cells #[.slice (some ad599) l0_0.length c0_0] 64 (0, 0)) (by (with_reducible repeat (first | refine blk_drewN ?_ _ | refine blk_drew ?_ | refine blk_alloc ?_ _)); exact BK598.out)) : gb600 ≠ gb598)); clear BK598; clear HB; have BK598 := n0_; have HB := n1_; have BK600 := n2_; have GW600 := n3_; have GE600 := n4_; have NB598_600 := n5_; have NB600_598 := n6_; clear n0_ n1_ n2_ n3_ n4_ n5_ n6_; clear hb hbox hg; have hnb9 := NB600_598.out; have hnc9 := NB598_600.out; have hcz10_0 : w8.cell? ⟨gb600, 0, none⟩ = some (.int .u32 0) := (blk_cell BK600.out 0).trans rfl; have hcz10_1 : w8.cell? ⟨gb600, 1, none⟩ = some (.int .u32 0) := (blk_cell BK600.out 1).trans rfl; have hcz10_2 : w8.cell? ⟨gb600, 2, none⟩ = some (.slice none 0 0) := (blk_cell BK600.out 2).trans rfl; have hfz10_0 := blk_frozen BK600.out 0; have hfz10_1 := blk_frozen BK600.out 1; have hfz10_2 := blk_frozen BK600.out 2))
            (try simp only [Act.put, List.setIfInBounds_toArray, List.set_cons_zero, List.set_cons_succ])
            go_cut [] (fun wc => ∃ (kq : Nat), Aside0 (impl_ValidPolicy.j1 kq x3_1 l0_0 (l0_0.length : Int) x10_1 l0_0 ((rd_T127 l0_0 x10_1).f0) ((rd_T127 l0_0 x10_1).f1) ((rd_T127 l0_0 x10_1).f2) = some r) ∧ Aside0 (kq ≤ k1) ∧ Aside0 (wc.heap[gb598]? = some (.cells #[(.slice (some ad599) l0_0.length c0_0)] 64 (0, 0))) ∧ Aside0 (wc.heap[gb600]? = some (.cells #[.int .u32 ((rd_T127 l0_0 x10_1).f0), .int .u32 ((rd_T127 l0_0 x10_1).f1), (.slice A599_2 ((rd_T127 l0_0 x10_1).f2).length c599_2)] 127 (0, 0))) ∧ Aside0 (Below w.heap.size w wc))
            case first =>
              have H := HC7.out
              clear HC7
              by_cases c11 : x10_1 > 0
              · rw [if_pos c11] at H
                have c11b0 : decide (0 < x10_1) = true := decide_eq_true c11
                clear c11
                (first | rw [c11b0] | (simp only [i64_w, i32_w]; rw [c11b0]) | skip)
                obtain ⟨ji12, hji12⟩ : ∃ j_ : Int, (wrap64 (x10_1 - 1)) = j_ := ⟨_, rfl⟩
                replace H : (if 0 ≤ (ji12) then (if (ji12) < (l0_0.length : Int) then ((cmp_Compare_uint32.f ((rd_T127 l0_0 (ji12)).f0) ((rd_T127 l0_0 x10_1).f0)).bind fun t603 => ((cmp_Compare_uint32.f ((rd_T127 l0_0 (ji12)).f1) ((rd_T127 l0_0 x10_1).f1)).bind fun t604 => ((cmp_Or_int.f k1 (([t603, t604] : List Int))).bind fun t608 => (if t608 ≥ 0 then (some false) else (impl_ValidPolicy.j1 k1 x3_1 l0_0 (l0_0.length : Int) x10_1 l0_0 ((rd_T127 l0_0 x10_1).f0) ((rd_T127 l0_0 x10_1).f1) ((rd_T127 l0_0 x10_1).f2)))))) else (none)) else (none)) = some r := by first | (rw [hji12] at H; exact H) | (simp only [hji12] at H ⊢; exact H)
                have hji12w : (IntKind.i64.wrap (x10_1 - 1)) = ji12 := (i64_w _).trans hji12
                by_cases c13 : 0 ≤ (ji12)
                · rw [if_pos c13] at H
                  have c13b0 : decide (0 ≤ (ji12)) = true := decide_eq_true c13
                  clear c13
                  by_cases c14 : (ji12) < (l0_0.length : Int)
                  · rw [if_pos c14] at H
                    have c14b0 : decide ((ji12) < (l0_0.length : Int)) = true := decide_eq_true c14
                    clear c14
                    replace H := Option.bind_eq_some_iff.mp H
                    obtain ⟨t603, A150, H⟩ := H
                    replace H : ((cmp_Compare_uint32.f ((rd_T127 l0_0 (ji12)).f1) ((rd_T127 l0_0 x10_1).f1)).bind fun t604 => ((cmp_Or_int.f k1 (([t603, t604] : List Int))).bind fun t608 => (if t608 ≥ 0 then (some false) else (impl_ValidPolicy.j1 k1 x3_1 l0_0 (l0_0.length : Int) x10_1 l0_0 ((rd_T127 l0_0 x10_1).f0) ((rd_T127 l0_0 x10_1).f1) ((rd_T127 l0_0 x10_1).f2))))) = some r := H
                    have A15 := Aside0.mk A150
                    clear A150
                    replace H := Option.bind_eq_some_iff.mp H
                    obtain ⟨t604, A160, H⟩ := H
                    replace H : ((cmp_Or_int.f k1 (([t603, t604] : List Int))).bind fun t608 => (if t608 ≥ 0 then (some false) else (impl_ValidPolicy.j1 k1 x3_1 l0_0 (l0_0.length : Int) x10_1 l0_0 ((rd_T127 l0_0 x10_1).f0) ((rd_T127 l0_0 x10_1).f1) ((rd_T127 l0_0 x10_1).f2)))) = some r := H
                    have A16 := Aside0.mk A160
                    clear A160
                    obtain ⟨y605, hy605⟩ : ∃ y_ : List Int, y_ = (([t603, t604] : List Int)) := ⟨_, rfl⟩
                    replace H : ((cmp_Or_int.f k1 y605).bind fun t608 => (if t608 ≥ 0 then (some false) else (impl_ValidPolicy.j1 k1 x3_1 l0_0 (l0_0.length : Int) x10_1 l0_0 ((rd_T127 l0_0 x10_1).f0) ((rd_T127 l0_0 x10_1).f1) ((rd_T127 l0_0 x10_1).f2)))) = some r := by first | (rw [hy605]; with_reducible exact H) | (have H2_ := (Option.bind_some _ _).symm.trans H; rw [hy605]; with_reducible exact H2_) | (have H2_ := (Option.bind_some _ _).symm.trans H; with_reducible exact H2_) | with_reducible exact H | (rw [hy605]; exact H) | exact H
                    have Ny605 := Aside0.mk hy605
                    clear hy605
                    replace H := Option.bind_eq_some_iff.mp H
                    obtain ⟨t608, A170, H⟩ := H
                    replace H : (if t608 ≥ 0 then (some false) else (impl_ValidPolicy.j1 k1 x3_1 l0_0 (l0_0.length : Int) x10_1 l0_0 ((rd_T127 l0_0 x10_1).f0) ((rd_T127 l0_0 x10_1).f1) ((rd_T127 l0_0 x10_1).f2))) = some r := H
                    have A17 := Aside0.mk A170
                    clear A170
                    by_cases c18 : t608 ≥ 0
                    · rw [if_pos c18] at H
                      have c18b0 : decide (0 ≤ t608) = true := decide_eq_true c18
                      clear c18
                      obtain rfl := Option.some.inj H
                      have hnb19 := NB598_600.out
                      have hnc19 := NB600_598.out
                      have hcz20_0 : w8.cell? ⟨gb598, 0, none⟩ = some (.slice (some ad599) l0_0.length c0_0) := (blk_cell BK598.out 0).trans rfl
                      have hfz20_0 := blk_frozen BK598.out 0
                      have p601 : 0 ≤ ((ji12) : Int) := of_decide_eq_true (by first | (with_reducible assumption) | assumption)
                      have q601 : (ji12) < (l0_0.length : Int) := of_decide_eq_true (by first | (with_reducible assumption) | assumption)
                      obtain ⟨ad601, A601_2, c601_2, e601, hx601_0, hx601_1, hx601_2, hl601_2, hi601_2⟩ := at_T127 HR0_0.out (ji12) p601 q601
                      obtain rfl : ad599 = ad601 := (by injection e601)
                      have hn601_0 : ad599.block ≠ gb600 := Nat.ne_of_lt (Nat.lt_of_lt_of_le (by have := World.block_lt_of_cell? _ _ hx601_0; first | rwa [add_block] at this | exact this) GW600.out)
                      have hn601_1 : ad599.block ≠ gb600 := Nat.ne_of_lt (Nat.lt_of_lt_of_le (by have := World.block_lt_of_cell? _ _ hx601_0; first | rwa [add_block] at this | exact this) GW600.out)
                      have hn601_2 : ad599.block ≠ gb600 := Nat.ne_of_lt (Nat.lt_of_lt_of_le (by have := World.block_lt_of_cell? _ _ hx601_0; first | rwa [add_block] at this | exact this) GW600.out)
                      replace hx601_0 := (HB.out.cell (World.block_lt_of_cell? w _ hx601_0)).trans hx601_0
                      replace hx601_1 := (HB.out.cell (World.block_lt_of_cell? w _ hx601_1)).trans hx601_1
                      replace hx601_2 := (HB.out.cell (World.block_lt_of_cell? w _ hx601_2)).trans hx601_2
                      have HR601_2 := Aside0.mk hi601_2
                      have HC601_2 := Aside0.mk hl601_2
                      clear hi601_2 hl601_2
                      replace hx601_0 := (cell_far (p := ⟨gb600, 0, none⟩) (by first | (rw [add_block]; exact hn601_0) | (show (Addr.add _ _).block ≠ _; rw [add_block]; exact hn601_0) | exact hn601_0) (.int .u32 ((rd_T127 l0_0 x10_1).f0))).trans hx601_0
                      replace hx601_1 := (cell_far (p := ⟨gb600, 0, none⟩) (by first | (rw [add_block]; exact hn601_0) | (show (Addr.add _ _).block ≠ _; rw [add_block]; exact hn601_0) | exact hn601_0) (.int .u32 ((rd_T127 l0_0 x10_1).f0))).trans hx601_1
                      replace hx601_2 := (cell_far (p := ⟨gb600, 0, none⟩) (by first | (rw [add_block]; exact hn601_0) | (show (Addr.add _ _).block ≠ _; rw [add_block]; exact hn601_0) | exact hn601_0) (.int .u32 ((rd_T127 l0_0 x10_1).f0))).trans hx601_2
                      replace hx601_0 := (cell_far (p := ⟨gb600, 1, none⟩) (by first | (rw [add_block]; exact hn601_1) | (show (Addr.add _ _).block ≠ _; rw [add_block]; exact hn601_1) | exact hn601_1) (.int .u32 ((rd_T127 l0_0 x10_1).f1))).trans hx601_0
                      replace hx601_1 := (cell_far (p := ⟨gb600, 1, none⟩) (by first | (rw [add_block]; exact hn601_1) | (show (Addr.add _ _).block ≠ _; rw [add_block]; exact hn601_1) | exact hn601_1) (.int .u32 ((rd_T127 l0_0 x10_1).f1))).trans hx601_1
                      replace hx601_2 := (cell_far (p := ⟨gb600, 1, none⟩) (by first | (rw [add_block]; exact hn601_1) | (show (Addr.add _ _).block ≠ _; rw [add_block]; exact hn601_1) | exact hn601_1) (.int .u32 ((rd_T127 l0_0 x10_1).f1))).trans hx601_2
                      replace hx601_0 := (cell_far (p := ⟨gb600, 2, none⟩) (by first | (rw [add_block]; exact hn601_2) | (show (Addr.add _ _).block ≠ _; rw [add_block]; exact hn601_2) | exact hn601_2) (.slice A599_2 ((rd_T127 l0_0 x10_1).f2).length c599_2)).trans hx601_0
                      replace hx601_1 := (cell_far (p := ⟨gb600, 2, none⟩) (by first | (rw [add_block]; exact hn601_2) | (show (Addr.add _ _).block ≠ _; rw [add_block]; exact hn601_2) | exact hn601_2) (.slice A599_2 ((rd_T127 l0_0 x10_1).f2).length c599_2)).trans hx601_1
                      replace hx601_2 := (cell_far (p := ⟨gb600, 2, none⟩) (by first | (rw [add_block]; exact hn601_2) | (show (Addr.add _ _).block ≠ _; rw [add_block]; exact hn601_2) | exact hn601_2) (.slice A599_2 ((rd_T127 l0_0 x10_1).f2).length c599_2)).trans hx601_2
                      clear hn601_0
                      clear hn601_1
                      clear hn601_2
                      replace p601 := eq_true p601
                      replace q601 := eq_true q601
                      try go_wp2_with (first | ((with_reducible refine gate_dst (N := 6) rfl ?_); (try (refine gate_guard (by rfl) ?_; dsimp only)); refine box_event ?hg (N := 6) ?hd (cs := #[.int .u32 0, .int .u32 0, .slice none 0 0]) (t := 127) ?hr ?_; (case hd => rfl); (case hg => rfl); (case hr => first | (go_simp; done) | (go_simp; rfl)); intro gb602 hg w21 hbox hb; have n0_ := Aside0.mk (blk_below (g := gb598) (o := .cells #[.slice (some ad599) l0_0.length c0_0] 64 (0, 0)) (by (with_reducible repeat (first | refine blk_drewN ?_ _ | refine blk_drew ?_ | refine blk_alloc ?_ _)); refine blk_far ?_ NB598_600.out _; (with_reducible repeat (first | refine blk_drewN ?_ _ | refine blk_drew ?_ | refine blk_alloc ?_ _)); refine blk_far ?_ NB598_600.out _; (with_reducible repeat (first | refine blk_drewN ?_ _ | refine blk_drew ?_ | refine blk_alloc ?_ _)); refine blk_far ?_ NB598_600.out _; (with_reducible repeat (first | refine blk_drewN ?_ _ | refine blk_drew ?_ | refine blk_alloc ?_ _)); exact BK598.out) hb); have n1_ := Aside0.mk (blk_below (g := gb600) (o := .cells #[.int .u32 ((rd_T127 l0_0 x10_1).f0), .int .u32 ((rd_T127 l0_0 x10_1).f1), .slice A599_2 ((rd_T127 l0_0 x10_1).f2).length c599_2] 127 (0, 0)) (by (with_reducible repeat (first | refine blk_drewN ?_ _ | refine blk_drew ?_ | refine blk_alloc ?_ _)); refine blk_put (cs := #[.int .u32 ((rd_T127 l0_0 x10_1).f0), .int .u32 ((rd_T127 l0_0 x10_1).f1), .slice none 0 0]) ?_ 2 _ rfl; (with_reducible repeat (first | refine blk_drewN ?_ _ | refine blk_drew ?_ | refine blk_alloc ?_ _)); refine blk_put (cs := #[.int .u32 ((rd_T127 l0_0 x10_1).f0), .int .u32 0, .slice none 0 0]) ?_ 1 _ rfl; (with_reducible repeat (first | refine blk_drewN ?_ _ | refine blk_drew ?_ | refine blk_alloc ?_ _)); refine blk_put (cs := #[.int .u32 0, .int .u32 0, .slice none 0 0]) ?_ 0 _ rfl; (with_reducible repeat (first | refine blk_drewN ?_ _ | refine blk_drew ?_ | refine blk_alloc ?_ _)); exact BK600.out) hb); have n2_ := Aside0.mk (below_step (by repeat (first | (with_reducible first | exact HB.out | apply below_alloc | apply pw_below_drewN | apply below_drew1 | refine below_set ?_ GE598.out | refine below_set ?_ GE600.out) | exact HB.out)) hb); have n3_ := Aside0.mk (hbox); have n4_ := Aside0.mk ((by rw [hg]; exact (below_size (by repeat (first | (with_reducible first | exact HB.out | apply below_alloc | apply pw_below_drewN | apply below_drew1 | refine below_set ?_ GE598.out | refine below_set ?_ GE600.out) | exact HB.out))) : w.heap.size ≤ gb602)); have n5_ := Aside0.mk ((by rw [hg]; exact (below_size (by repeat (first | (with_reducible first | exact HB.out | apply below_alloc | apply pw_below_drewN | apply below_drew1 | refine below_set ?_ GE598.out | refine below_set ?_ GE600.out) | exact HB.out))) : w.heap.size ≤ gb602)); have n6_ := Aside0.mk ((by rw [hg]; exact Nat.ne_of_lt (blk_lt (g := gb598) (o := .cells #[.slice (some ad599) l0_0.length c0_0] 64 (0, 0)) (by (with_reducible repeat (first | refine blk_drewN ?_ _ | refine blk_drew ?_ | refine blk_alloc ?_ _)); refine blk_far ?_ NB598_600.out _; (with_reducible repeat (first | refine blk_drewN ?_ _ | refine blk_drew ?_ | refine blk_alloc ?_ _)); refine blk_far ?_ NB598_600.out _; (with_reducible repeat (first | refine blk_drewN ?_ _ | refine blk_drew ?_ | refine blk_alloc ?_ _)); refine blk_far ?_ NB598_600.out _; (with_reducible repeat (first | refine blk_drewN ?_ _ | refine blk_drew ?_ | refine blk_alloc ?_ _)); exact BK598.out)) : gb598 ≠ gb602)); have n7_ := Aside0.mk ((by rw [hg]; exact Nat.ne_of_gt (blk_lt (g := gb598) (o := .cells #[.slice (some ad599) l0_0.length c0_0] 64 (0, 0)) (by (with_reducible repeat (first | refine blk_drewN ?_ _ | refine blk_drew ?_ | refine blk_alloc ?_ _)); refine blk_far ?_ NB598_600.out _; (with_reducible repeat (first | refine blk_drewN ?_ _ | refine blk_drew ?_ | refine blk_alloc ?_ _)); refine blk_far ?_ NB598_600.out _; (with_reducible repeat (first | refine blk_drewN ?_ _ | refine blk_drew ?_ | refine blk_alloc ?_ _)); refine blk_far ?_ NB598_600.out _; (with_reducible repeat (first | refine blk_drewN ?_ _ | refine blk_drew ?_ | refine blk_alloc ?_ _)); exact BK598.out)) : gb602 ≠ gb598)); have n8_ := Aside0.mk ((by rw [hg]; exact Nat.ne_of_lt (blk_lt (g := gb600) (o := .cells #[.int .u32 ((rd_T127 l0_0 x10_1).f0), .int .u32 ((rd_T127 l0_0 x10_1).f1), .slice A599_2 ((rd_T127 l0_0 x10_1).f2).length c599_2] 127 (0, 0)) (by (with_reducible repeat (first | refine blk_drewN ?_ _ | refine blk_drew ?_ | refine blk_alloc ?_ _)); refine blk_put (cs := #[.int .u32 ((rd_T127 l0_0 x10_1).f0), .int .u32 ((rd_T127 l0_0 x10_1).f1), .slice none 0 0]) ?_ 2 _ rfl; (with_reducible repeat (first | refine blk_drewN ?_ _ | refine blk_drew ?_ | refine blk_alloc ?_ _)); refine blk_put (cs := #[.int .u32 ((rd_T127 l0_0 x10_1).f0), .int .u32 0, .slice none 0 0]) ?_ 1 _ rfl; (with_reducible repeat (first | refine blk_drewN ?_ _ | refine blk_drew ?_ | refine blk_alloc ?_ _)); refine blk_put (cs := #[.int .u32 0, .int .u32 0, .slice none 0 0]) ?_ 0 _ rfl; (with_reducible repeat (first | refine blk_drewN ?_ _ | refine blk_drew ?_ | refine blk_alloc ?_ _)); exact BK600.out)) : gb600 ≠ gb602)); have n9_ := Aside0.mk ((by rw [hg]; exact Nat.ne_of_gt (blk_lt (g := gb600) (o := .cells #[.int .u32 ((rd_T127 l0_0 x10_1).f0), .int .u32 ((rd_T127 l0_0 x10_1).f1), .slice A599_2 ((rd_T127 l0_0 x10_1).f2).length c599_2] 127 (0, 0)) (by (with_reducible repeat (first | refine blk_drewN ?_ _ | refine blk_drew ?_ | refine blk_alloc ?_ _)); refine blk_put (cs := #[.int .u32 ((rd_T127 l0_0 x10_1).f0), .int .u32 ((rd_T127 l0_0 x10_1).f1), .slice none 0 0]) ?_ 2 _ rfl; (with_reducible repeat (first | refine blk_drewN ?_ _ | refine blk_drew ?_ | refine blk_alloc ?_ _)); refine blk_put (cs := #[.int .u32 ((rd_T127 l0_0 x10_1).f0), .int .u32 0, .slice none 0 0]) ?_ 1 _ rfl; (with_reducible repeat (first | refine blk_drewN ?_ _ | refine blk_drew ?_ | refine blk_alloc ?_ _)); refine blk_put (cs := #[.int .u32 0, .int .u32 0, .slice none 0 0]) ?_ 0 _ rfl; (with_reducible repeat (first | refine blk_drewN ?_ _ | refine blk_drew ?_ | refine blk_alloc ?_ _)); exact BK600.out)) : gb602 ≠ gb600)); clear BK598; clear BK600; clear HB; have BK598 := n0_; have BK600 := n1_; have HB := n2_; have BK602 := n3_; have GW602 := n4_; have GE602 := n5_; have NB598_602 := n6_; have NB602_598 := n7_; have NB600_602 := n8_; have NB602_600 := n9_; clear n0_ n1_ n2_ n3_ n4_ n5_ n6_ n7_ n8_ n9_; clear hb hbox hg; have hnb22 := NB602_598.out; have hnc22 := NB598_602.out; have hnb23 := NB602_600.out; have hnc23 := NB600_602.out; have hcz24_0 : w21.cell? ⟨gb602, 0, none⟩ = some (.int .u32 0) := (blk_cell BK602.out 0).trans rfl; have hcz24_1 : w21.cell? ⟨gb602, 1, none⟩ = some (.int .u32 0) := (blk_cell BK602.out 1).trans rfl; have hcz24_2 : w21.cell? ⟨gb602, 2, none⟩ = some (.slice none 0 0) := (blk_cell BK602.out 2).trans rfl; have hfz24_0 := blk_frozen BK602.out 0; have hfz24_1 := blk_frozen BK602.out 1; have hfz24_2 := blk_frozen BK602.out 2))
                      have n0_ : Aside0 ((((w21.setCell ⟨gb602, 0, none⟩ (.int .u32 ((rd_T127 l0_0 (ji12)).f0))).setCell ⟨gb602, 1, none⟩ (.int .u32 ((rd_T127 l0_0 (ji12)).f1))).setCell ⟨gb602, 2, none⟩ (.slice A601_2 ((rd_T127 l0_0 (ji12)).f2).length c601_2)).heap[gb598]? = some (.cells #[.slice (some ad599) l0_0.length c0_0] 64 (0, 0))) := ⟨by (with_reducible repeat (first | refine blk_drewN ?_ _ | refine blk_drew ?_ | refine blk_alloc ?_ _)); refine blk_far ?_ NB598_602.out _; (with_reducible repeat (first | refine blk_drewN ?_ _ | refine blk_drew ?_ | refine blk_alloc ?_ _)); refine blk_far ?_ NB598_602.out _; (with_reducible repeat (first | refine blk_drewN ?_ _ | refine blk_drew ?_ | refine blk_alloc ?_ _)); refine blk_far ?_ NB598_602.out _; (with_reducible repeat (first | refine blk_drewN ?_ _ | refine blk_drew ?_ | refine blk_alloc ?_ _)); exact BK598.out⟩
                      have n1_ : Aside0 ((((w21.setCell ⟨gb602, 0, none⟩ (.int .u32 ((rd_T127 l0_0 (ji12)).f0))).setCell ⟨gb602, 1, none⟩ (.int .u32 ((rd_T127 l0_0 (ji12)).f1))).setCell ⟨gb602, 2, none⟩ (.slice A601_2 ((rd_T127 l0_0 (ji12)).f2).length c601_2)).heap[gb600]? = some (.cells #[.int .u32 ((rd_T127 l0_0 x10_1).f0), .int .u32 ((rd_T127 l0_0 x10_1).f1), .slice A599_2 ((rd_T127 l0_0 x10_1).f2).length c599_2] 127 (0, 0))) := ⟨by (with_reducible repeat (first | refine blk_drewN ?_ _ | refine blk_drew ?_ | refine blk_alloc ?_ _)); refine blk_far ?_ NB600_602.out _; (with_reducible repeat (first | refine blk_drewN ?_ _ | refine blk_drew ?_ | refine blk_alloc ?_ _)); refine blk_far ?_ NB600_602.out _; (with_reducible repeat (first | refine blk_drewN ?_ _ | refine blk_drew ?_ | refine blk_alloc ?_ _)); refine blk_far ?_ NB600_602.out _; (with_reducible repeat (first | refine blk_drewN ?_ _ | refine blk_drew ?_ | refine blk_alloc ?_ _)); exact BK600.out⟩
                      have n2_ : Aside0 ((((w21.setCell ⟨gb602, 0, none⟩ (.int .u32 ((rd_T127 l0_0 (ji12)).f0))).setCell ⟨gb602, 1, none⟩ (.int .u32 ((rd_T127 l0_0 (ji12)).f1))).setCell ⟨gb602, 2, none⟩ (.slice A601_2 ((rd_T127 l0_0 (ji12)).f2).length c601_2)).heap[gb602]? = some (.cells #[.int .u32 ((rd_T127 l0_0 (ji12)).f0), .int .u32 ((rd_T127 l0_0 (ji12)).f1), .slice A601_2 ((rd_T127 l0_0 (ji12)).f2).length c601_2] 127 (0, 0))) := ⟨by (with_reducible repeat (first | refine blk_drewN ?_ _ | refine blk_drew ?_ | refine blk_alloc ?_ _)); refine blk_put (cs := #[.int .u32 ((rd_T127 l0_0 (ji12)).f0), .int .u32 ((rd_T127 l0_0 (ji12)).f1), .slice none 0 0]) ?_ 2 _ rfl; (with_reducible repeat (first | refine blk_drewN ?_ _ | refine blk_drew ?_ | refine blk_alloc ?_ _)); refine blk_put (cs := #[.int .u32 ((rd_T127 l0_0 (ji12)).f0), .int .u32 0, .slice none 0 0]) ?_ 1 _ rfl; (with_reducible repeat (first | refine blk_drewN ?_ _ | refine blk_drew ?_ | refine blk_alloc ?_ _)); refine blk_put (cs := #[.int .u32 0, .int .u32 0, .slice none 0 0]) ?_ 0 _ rfl; (with_reducible repeat (first | refine blk_drewN ?_ _ | refine blk_drew ?_ | refine blk_alloc ?_ _)); exact BK602.out⟩
                      have n3_ : Aside0 (Below w.heap.size w (((w21.setCell ⟨gb602, 0, none⟩ (.int .u32 ((rd_T127 l0_0 (ji12)).f0))).setCell ⟨gb602, 1, none⟩ (.int .u32 ((rd_T127 l0_0 (ji12)).f1))).setCell ⟨gb602, 2, none⟩ (.slice A601_2 ((rd_T127 l0_0 (ji12)).f2).length c601_2))) := ⟨by repeat (first | (with_reducible first | exact HB.out | apply below_alloc | apply pw_below_drewN | apply below_drew1 | refine below_set ?_ GE598.out | refine below_set ?_ GE600.out | refine below_set ?_ GE602.out) | exact HB.out)⟩
                      (try clear BK598)
                      (try clear BK600)
                      (try clear BK602)
                      (try clear HB)
                      generalize (((w21.setCell ⟨gb602, 0, none⟩ (.int .u32 ((rd_T127 l0_0 (ji12)).f0))).setCell ⟨gb602, 1, none⟩ (.int .u32 ((rd_T127 l0_0 (ji12)).f1))).setCell ⟨gb602, 2, none⟩ (.slice A601_2 ((rd_T127 l0_0 (ji12)).f2).length c601_2)) = w25 at n0_ n1_ n2_ n3_ ⊢
                      have BK598 := n0_
                      have BK600 := n1_
                      have BK602 := n2_
                      have HB := n3_
                      clear n0_ n1_ n2_ n3_
                      have n0_ := Aside0.mk (blk_drew BK598.out)
                      have n1_ := Aside0.mk (blk_drew BK600.out)
                      have n2_ := Aside0.mk (blk_drew BK602.out)
                      have n3_ := Aside0.mk (below_drew1 HB.out)
                      clear BK598
                      clear BK600
                      clear BK602
                      clear HB
                      have BK598 := n0_
                      have BK600 := n1_
                      have BK602 := n2_
                      have HB := n3_
                      clear n0_ n1_ n2_ n3_
                      refine start_ (n := 13) (S := fun w' => w'.cell? ⟨gb602, 0, none⟩ = some (.int .u32 ((rd_T127 l0_0 (ji12)).f0)) ∧ w'.cell? ⟨gb602, 1, none⟩ = some (.int .u32 ((rd_T127 l0_0 (ji12)).f1)) ∧ w'.cell? ⟨gb602, 2, none⟩ = some (.slice A601_2 ((rd_T127 l0_0 (ji12)).f2).length c601_2) ∧ w'.cell? ⟨gb600, 0, none⟩ = some (.int .u32 ((rd_T127 l0_0 x10_1).f0)) ∧ w'.cell? ⟨gb600, 1, none⟩ = some (.int .u32 ((rd_T127 l0_0 x10_1).f1)) ∧ w'.cell? ⟨gb600, 2, none⟩ = some (.slice A599_2 ((rd_T127 l0_0 x10_1).f2).length c599_2)) (ds := []) #[false, false, false, false, false, false, false, false, false, false, false, false, false] (by kernel_rfl) rfl rfl ⟨(blk_cell BK602.out 0).trans rfl, (blk_cell BK602.out 1).trans rfl, (blk_cell BK602.out 2).trans rfl, (blk_cell BK600.out 0).trans rfl, (blk_cell BK600.out 1).trans rfl, (blk_cell BK600.out 2).trans rfl⟩ (fun hHeld => ?_); refine with_tabW impl_ValidPolicy.tab7 impl_ValidPolicy.bits7 (fun HT_ HW_ => ?_)
                      generalize w25.drew = w26 at BK598 BK600 BK602 HB hHeld ⊢
                      refine pure_ (i := 0) (N := some 23) (v := ?_) (a' := ?_) #[true, false, false, false, false, false, false, false, false, false, false, false, false] rfl rfl (any_of HT_.out (by kernel_rfl)) (fun _ _ _ h => h) (Or.inl ⟨by rfl, ?_⟩) ?_ ?_
                      rotate_left
                      · intro w'
                        go_simp
                        with_reducible rfl
                      rotate_left
                      · simp only [Act.put, List.setIfInBounds_toArray, List.set_cons_zero, List.set_cons_succ, i64_w, i32_w]
                        rfl
                      refine pure_ (i := 2) (N := some 25) (v := ?_) (a' := ?_) #[true, false, true, false, false, false, false, false, false, false, false, false, false] rfl rfl (any_of HT_.out (by kernel_rfl)) (fun _ _ _ h => h) (Or.inl ⟨by rfl, ?_⟩) ?_ ?_
                      rotate_left
                      · intro w'
                        go_simp
                        with_reducible rfl
                      rotate_left
                      · simp only [Act.put, List.setIfInBounds_toArray, List.set_cons_zero, List.set_cons_succ, i64_w, i32_w]
                        rfl
                      refine pure_ (i := 5) (N := some 28) (v := ?_) (a' := ?_) #[true, false, true, false, false, true, false, false, false, false, false, false, false] rfl rfl (any_of HT_.out (by kernel_rfl)) (fun _ _ _ h => h) (Or.inl ⟨by rfl, ?_⟩) ?_ ?_
                      rotate_left
                      · intro w'
                        go_simp
                        with_reducible rfl
                      rotate_left
                      · simp only [Act.put, List.setIfInBounds_toArray, List.set_cons_zero, List.set_cons_succ, i64_w, i32_w]
                        rfl
                      refine pure_ (i := 7) (N := some 30) (v := ?_) (a' := ?_) #[true, false, true, false, false, true, false, true, false, false, false, false, false] rfl rfl (any_of HT_.out (by kernel_rfl)) (fun _ _ _ h => h) (Or.inl ⟨by rfl, ?_⟩) ?_ ?_
                      rotate_left
                      · intro w'
                        go_simp
                        with_reducible rfl
                      rotate_left
                      · simp only [Act.put, List.setIfInBounds_toArray, List.set_cons_zero, List.set_cons_succ, i64_w, i32_w]
                        rfl
                      refine take_ (i := 1) (N := some 24) (v := ?_) (a' := ?_) #[true, true, true, false, false, true, false, true, false, false, false, false, false] rfl rfl (take_ofW HT_.out HW_.out (by kernel_rfl)) (fun _ _ _ h => h) (Or.inl ⟨by rfl, ?_⟩) hHeld ?_ ?_
                      rotate_left
                      · rintro w' ⟨s0, s1, s2, s3, s4, s5⟩
                        go_simp
                        with_reducible rfl
                      rotate_left
                      · simp only [Act.put, List.setIfInBounds_toArray, List.set_cons_zero, List.set_cons_succ, i64_w, i32_w]
                        rfl
                      refine take_ (i := 3) (N := some 26) (v := ?_) (a' := ?_) #[true, true, true, true, false, true, false, true, false, false, false, false, false] rfl rfl (take_ofW HT_.out HW_.out (by kernel_rfl)) (fun _ _ _ h => h) (Or.inl ⟨by rfl, ?_⟩) hHeld ?_ ?_
                      rotate_left
                      · rintro w' ⟨s0, s1, s2, s3, s4, s5⟩
                        go_simp
                        with_reducible rfl
                      rotate_left
                      · simp only [Act.put, List.setIfInBounds_toArray, List.set_cons_zero, List.set_cons_succ, i64_w, i32_w]
                        rfl
                      refine take_ (i := 6) (N := some 29) (v := ?_) (a' := ?_) #[true, true, true, true, false, true, true, true, false, false, false, false, false] rfl rfl (take_ofW HT_.out HW_.out (by kernel_rfl)) (fun _ _ _ h => h) (Or.inl ⟨by rfl, ?_⟩) hHeld ?_ ?_
                      rotate_left
                      · rintro w' ⟨s0, s1, s2, s3, s4, s5⟩
                        go_simp
                        with_reducible rfl
                      rotate_left
                      · simp only [Act.put, List.setIfInBounds_toArray, List.set_cons_zero, List.set_cons_succ, i64_w, i32_w]
                        rfl
                      refine take_ (i := 8) (N := some 31) (v := ?_) (a' := ?_) #[true, true, true, true, false, true, true, true, true, false, false, false, false] rfl rfl (take_ofW HT_.out HW_.out (by kernel_rfl)) (fun _ _ _ h => h) (Or.inl ⟨by rfl, ?_⟩) hHeld ?_ ?_
                      rotate_left
                      · rintro w' ⟨s0, s1, s2, s3, s4, s5⟩
                        go_simp
                        with_reducible rfl
                      rotate_left
                      · simp only [Act.put, List.setIfInBounds_toArray, List.set_cons_zero, List.set_cons_succ, i64_w, i32_w]
                        rfl
                      refine one_ (i := 4) (N := some 27) #[true, true, true, true, true, true, true, true, true, false, false, false, false] rfl rfl (one_of HT_.out (by kernel_rfl)) (by decide) (fun K hK => ?_)
                      refine goes_ Try.func93 (by kernel_rfl) rfl #[.int .u32 ((rd_T127 l0_0 (ji12)).f0), .int .u32 ((rd_T127 l0_0 x10_1).f0)] (by rfl) rfl rfl (by (try simp only [List.map_toArray, List.map_cons, List.map_nil]); first | done | (simp only [hji12]; rfl) | rfl | (simp only [List.length_drop, List.length_take]; rfl)) ?_
                      with_reducible refine (cmp_Compare_uint32.calls ((rd_T127 l0_0 (ji12)).f0) ((rd_T127 l0_0 x10_1).f0) t603 _ A15.out).mono ?_
                      rintro e w' ⟨rfl, ⟨nd, rfl⟩⟩
                      refine ⟨_, rfl, ?_⟩
                      refine hK.out _ _ ⟨(blk_cell BK602.out 0).trans rfl, (blk_cell BK602.out 1).trans rfl, (blk_cell BK602.out 2).trans rfl, (blk_cell BK600.out 0).trans rfl, (blk_cell BK600.out 1).trans rfl, (blk_cell BK600.out 2).trans rfl⟩ (fun hHeld => ?_)
                      clear hK K
                      refine norm_ (a' := ?_) ?_ ?_
                      rotate_left
                      · show Act.put _ (some 27) _ = _
                        simp only [Act.put, List.setIfInBounds_toArray, List.set_cons_zero, List.set_cons_succ, i64_w, i32_w]
                        rfl
                      refine one_ (i := 9) (N := some 32) #[true, true, true, true, true, true, true, true, true, true, false, false, false] rfl rfl (one_of HT_.out (by kernel_rfl)) (by decide) (fun K hK => ?_)
                      refine goes_ Try.func93 (by kernel_rfl) rfl #[.int .u32 ((rd_T127 l0_0 (ji12)).f1), .int .u32 ((rd_T127 l0_0 x10_1).f1)] (by rfl) rfl rfl (by (try simp only [List.map_toArray, List.map_cons, List.map_nil]); first | done | (simp only [hji12]; rfl) | rfl | (simp only [List.length_drop, List.length_take]; rfl)) ?_
                      with_reducible refine (cmp_Compare_uint32.calls ((rd_T127 l0_0 (ji12)).f1) ((rd_T127 l0_0 x10_1).f1) t604 _ A16.out).mono ?_
                      rintro e w' ⟨rfl, ⟨nd, rfl⟩⟩
                      refine ⟨_, rfl, ?_⟩
                      refine hK.out _ _ ⟨(blk_cell BK602.out 0).trans rfl, (blk_cell BK602.out 1).trans rfl, (blk_cell BK602.out 2).trans rfl, (blk_cell BK600.out 0).trans rfl, (blk_cell BK600.out 1).trans rfl, (blk_cell BK600.out 2).trans rfl⟩ (fun hHeld => ?_)
                      clear hK K
                      refine norm_ (a' := ?_) ?_ ?_
                      rotate_left
                      · show Act.put _ (some 32) _ = _
                        simp only [Act.put, List.setIfInBounds_toArray, List.set_cons_zero, List.set_cons_succ, i64_w, i32_w]
                        rfl
                      refine one_ (i := 10) (N := some 33) #[true, true, true, true, true, true, true, true, true, true, true, false, false] rfl rfl (one_of HT_.out (by kernel_rfl)) (by decide) (fun K hK => ?_)
                      refine Kd.R_lit_step (Kd.int .i64) _ 3 ?hg (N := 33) ?hd (xs := ([t603, t604] : List Int)) (inner := [.int .i64 t603, .int .i64 t604]) (ok := fun _ => True) (okp := fun _ => True) ?hr ?hp (fun _ hk => hk) trivial (Below.refl _ _) (Nat.le_refl _) (by simp) ?_; (case hd => rfl); (case hg => rfl); (case hr => first | (go_simp; done) | (go_simp; rfl)); (case hp => exact (Reps.one (show Kd.M (Kd.int .i64) _ _ _ t603 [.int .i64 t603] from rfl) (Reps.one (show Kd.M (Kd.int .i64) _ _ _ t604 [.int .i64 t604] from rfl) (Reps.none _ _))))
                      intro v606 w27 ho28 hb hg_ hnew_
                      clear hg_ hnew_
                      (first | rw [← Ny605.out] at ho28 | (simp only [Int.reduceToNat] at ho28; rw [← Ny605.out] at ho28))
                      have n0_ := Aside0.mk (Kd.R_lower ho28 (below_size (by repeat (first | (with_reducible first | exact HB.out | apply below_alloc | apply pw_below_drewN | apply below_drew1 | refine below_set ?_ GE598.out | refine below_set ?_ GE600.out | refine below_set ?_ GE602.out) | exact HB.out))))
                      have n1_ := Aside0.mk (blk_below (g := gb598) (o := .cells #[.slice (some ad599) l0_0.length c0_0] 64 (0, 0)) (by (with_reducible repeat (first | refine blk_drewN ?_ _ | refine blk_drew ?_ | refine blk_alloc ?_ _)); exact BK598.out) hb)
                      have n2_ := Aside0.mk (blk_below (g := gb600) (o := .cells #[.int .u32 ((rd_T127 l0_0 x10_1).f0), .int .u32 ((rd_T127 l0_0 x10_1).f1), .slice A599_2 ((rd_T127 l0_0 x10_1).f2).length c599_2] 127 (0, 0)) (by (with_reducible repeat (first | refine blk_drewN ?_ _ | refine blk_drew ?_ | refine blk_alloc ?_ _)); exact BK600.out) hb)
                      have n3_ := Aside0.mk (blk_below (g := gb602) (o := .cells #[.int .u32 ((rd_T127 l0_0 (ji12)).f0), .int .u32 ((rd_T127 l0_0 (ji12)).f1), .slice A601_2 ((rd_T127 l0_0 (ji12)).f2).length c601_2] 127 (0, 0)) (by (with_reducible repeat (first | refine blk_drewN ?_ _ | refine blk_drew ?_ | refine blk_alloc ?_ _)); exact BK602.out) hb)
                      have n4_ := Aside0.mk (below_step (by repeat (first | (with_reducible first | exact HB.out | apply below_alloc | apply pw_below_drewN | apply below_drew1 | refine below_set ?_ GE598.out | refine below_set ?_ GE600.out | refine below_set ?_ GE602.out) | exact HB.out)) hb)
                      clear BK598
                      clear BK600
                      clear BK602
                      clear HB
                      have HO607 := n0_
                      have BK598 := n1_
                      have BK600 := n2_
                      have BK602 := n3_
                      have HB := n4_
                      clear n0_ n1_ n2_ n3_ n4_
                      clear hb ho28
                      obtain ⟨Ao29, co29, eo29⟩ := Kd.R_slice HO607.out
                      (first | subst eo29 | (injection eo29 with f1_ f2_ f3_; have f4_ := f1_.symm; have f5_ := f3_.symm; clear f1_ f2_ f3_; subst f4_; subst f5_))
                      refine hK.out _ _ ⟨(blk_cell BK602.out 0).trans rfl, (blk_cell BK602.out 1).trans rfl, (blk_cell BK602.out 2).trans rfl, (blk_cell BK600.out 0).trans rfl, (blk_cell BK600.out 1).trans rfl, (blk_cell BK600.out 2).trans rfl⟩ (fun hHeld => ?_)
                      clear hK K
                      refine norm_ (a' := ?_) ?_ ?_
                      rotate_left
                      · show Act.put _ (some 33) _ = _
                        simp only [Act.put, List.setIfInBounds_toArray, List.set_cons_zero, List.set_cons_succ, i64_w, i32_w]
                        rfl
                      refine one_ (i := 11) (N := some 34) #[true, true, true, true, true, true, true, true, true, true, true, true, false] rfl rfl (one_of HT_.out (by kernel_rfl)) (by decide) (fun K hK => ?_)
                      refine goes_ Try.func92 (by kernel_rfl) rfl #[.slice Ao29 y605.length co29] (by rfl) rfl rfl (by (try simp only [List.map_toArray, List.map_cons, List.map_nil]); first | done | rfl | (simp only [List.length_drop, List.length_take]; rfl)) ?_
                      with_reducible refine (cmp_Or_int.calls k1 _ _ y605 t608 _ ?side1 ?side2 A17.out).mono ?_
                      (case side1 => repeat (first | exact (Kd.R_reads' HO607.out).2.2 | (with_reducible refine Kd.C_alloc ?_ _) | (with_reducible refine Kd.C_drewN ?_ _) | (with_reducible refine Kd.C_drew ?_)))
                      (case side2 => exact (Kd.R_reads' HO607.out).2.1)
                      rintro e w' ⟨rfl, ⟨nd, rfl⟩⟩
                      refine ⟨_, rfl, ?_⟩
                      refine hK.out _ _ ⟨(blk_cell BK602.out 0).trans rfl, (blk_cell BK602.out 1).trans rfl, (blk_cell BK602.out 2).trans rfl, (blk_cell BK600.out 0).trans rfl, (blk_cell BK600.out 1).trans rfl, (blk_cell BK600.out 2).trans rfl⟩ (fun hHeld => ?_)
                      clear hK K
                      refine norm_ (a' := ?_) ?_ ?_
                      rotate_left
                      · show Act.put _ (some 34) _ = _
                        simp only [Act.put, List.setIfInBounds_toArray, List.set_cons_zero, List.set_cons_succ, i64_w, i32_w]
                        rfl
                      refine pure_ (i := 12) (N := some 35) (v := ?_) (a' := ?_) #[true, true, true, true, true, true, true, true, true, true, true, true, true] rfl rfl (any_of HT_.out (by kernel_rfl)) (fun _ _ _ h => h) (Or.inl ⟨by rfl, ?_⟩) ?_ ?_
                      rotate_left
                      · intro w'
                        go_simp
                        with_reducible rfl
                      rotate_left
                      · simp only [Act.put, List.setIfInBounds_toArray, List.set_cons_zero, List.set_cons_succ, i64_w, i32_w]
                        rfl
                      refine done_ (done_of HT_.out (by kernel_rfl)) ?_
                      try go_wp2
                      go_ret
                      exact ⟨by first | rfl | (simp [errW_none, errW_some] <;> rfl) | (simp only [← hji12]; first | rfl | (simp [errW_none, errW_some] <;> rfl)) | (simp [*, errW_none, errW_some] <;> rfl), by repeat (first | (with_reducible first | exact HB.out | apply below_alloc | apply pw_below_drewN | apply below_drew1 | refine below_set ?_ GE598.out | refine below_set ?_ GE600.out | refine below_set ?_ GE602.out) | exact HB.out)⟩
                    · rw [if_neg c18] at H
                      have c18b0 : decide (0 ≤ t608) = false := decide_eq_false c18
                      clear c18
                      have H' := Aside0.mk H
                      clear H
                      have hnb30 := NB598_600.out
                      have hnc30 := NB600_598.out
                      have hcz31_0 : w8.cell? ⟨gb598, 0, none⟩ = some (.slice (some ad599) l0_0.length c0_0) := (blk_cell BK598.out 0).trans rfl
                      have hfz31_0 := blk_frozen BK598.out 0
                      have p601 : 0 ≤ ((ji12) : Int) := of_decide_eq_true (by first | (with_reducible assumption) | assumption)
                      have q601 : (ji12) < (l0_0.length : Int) := of_decide_eq_true (by first | (with_reducible assumption) | assumption)
                      obtain ⟨ad601, A601_2, c601_2, e601, hx601_0, hx601_1, hx601_2, hl601_2, hi601_2⟩ := at_T127 HR0_0.out (ji12) p601 q601
                      obtain rfl : ad599 = ad601 := (by injection e601)
                      have hn601_0 : ad599.block ≠ gb600 := Nat.ne_of_lt (Nat.lt_of_lt_of_le (by have := World.block_lt_of_cell? _ _ hx601_0; first | rwa [add_block] at this | exact this) GW600.out)
                      have hn601_1 : ad599.block ≠ gb600 := Nat.ne_of_lt (Nat.lt_of_lt_of_le (by have := World.block_lt_of_cell? _ _ hx601_0; first | rwa [add_block] at this | exact this) GW600.out)
                      have hn601_2 : ad599.block ≠ gb600 := Nat.ne_of_lt (Nat.lt_of_lt_of_le (by have := World.block_lt_of_cell? _ _ hx601_0; first | rwa [add_block] at this | exact this) GW600.out)
                      replace hx601_0 := (HB.out.cell (World.block_lt_of_cell? w _ hx601_0)).trans hx601_0
                      replace hx601_1 := (HB.out.cell (World.block_lt_of_cell? w _ hx601_1)).trans hx601_1
                      replace hx601_2 := (HB.out.cell (World.block_lt_of_cell? w _ hx601_2)).trans hx601_2
                      have HR601_2 := Aside0.mk hi601_2
                      have HC601_2 := Aside0.mk hl601_2
                      clear hi601_2 hl601_2
                      replace hx601_0 := (cell_far (p := ⟨gb600, 0, none⟩) (by first | (rw [add_block]; exact hn601_0) | (show (Addr.add _ _).block ≠ _; rw [add_block]; exact hn601_0) | exact hn601_0) (.int .u32 ((rd_T127 l0_0 x10_1).f0))).trans hx601_0
                      replace hx601_1 := (cell_far (p := ⟨gb600, 0, none⟩) (by first | (rw [add_block]; exact hn601_0) | (show (Addr.add _ _).block ≠ _; rw [add_block]; exact hn601_0) | exact hn601_0) (.int .u32 ((rd_T127 l0_0 x10_1).f0))).trans hx601_1
                      replace hx601_2 := (cell_far (p := ⟨gb600, 0, none⟩) (by first | (rw [add_block]; exact hn601_0) | (show (Addr.add _ _).block ≠ _; rw [add_block]; exact hn601_0) | exact hn601_0) (.int .u32 ((rd_T127 l0_0 x10_1).f0))).trans hx601_2
                      replace hx601_0 := (cell_far (p := ⟨gb600, 1, none⟩) (by first | (rw [add_block]; exact hn601_1) | (show (Addr.add _ _).block ≠ _; rw [add_block]; exact hn601_1) | exact hn601_1) (.int .u32 ((rd_T127 l0_0 x10_1).f1))).trans hx601_0
                      replace hx601_1 := (cell_far (p := ⟨gb600, 1, none⟩) (by first | (rw [add_block]; exact hn601_1) | (show (Addr.add _ _).block ≠ _; rw [add_block]; exact hn601_1) | exact hn601_1) (.int .u32 ((rd_T127 l0_0 x10_1).f1))).trans hx601_1
                      replace hx601_2 := (cell_far (p := ⟨gb600, 1, none⟩) (by first | (rw [add_block]; exact hn601_1) | (show (Addr.add _ _).block ≠ _; rw [add_block]; exact hn601_1) | exact hn601_1) (.int .u32 ((rd_T127 l0_0 x10_1).f1))).trans hx601_2
                      replace hx601_0 := (cell_far (p := ⟨gb600, 2, none⟩) (by first | (rw [add_block]; exact hn601_2) | (show (Addr.add _ _).block ≠ _; rw [add_block]; exact hn601_2) | exact hn601_2) (.slice A599_2 ((rd_T127 l0_0 x10_1).f2).length c599_2)).trans hx601_0
                      replace hx601_1 := (cell_far (p := ⟨gb600, 2, none⟩) (by first | (rw [add_block]; exact hn601_2) | (show (Addr.add _ _).block ≠ _; rw [add_block]; exact hn601_2) | exact hn601_2) (.slice A599_2 ((rd_T127 l0_0 x10_1).f2).length c599_2)).trans hx601_1
                      replace hx601_2 := (cell_far (p := ⟨gb600, 2, none⟩) (by first | (rw [add_block]; exact hn601_2) | (show (Addr.add _ _).block ≠ _; rw [add_block]; exact hn601_2) | exact hn601_2) (.slice A599_2 ((rd_T127 l0_0 x10_1).f2).length c599_2)).trans hx601_2
                      clear hn601_0
                      clear hn601_1
                      clear hn601_2
                      replace p601 := eq_true p601
                      replace q601 := eq_true q601
                      try go_wp2_with (first | ((with_reducible refine gate_dst (N := 6) rfl ?_); (try (refine gate_guard (by rfl) ?_; dsimp only)); refine box_event ?hg (N := 6) ?hd (cs := #[.int .u32 0, .int .u32 0, .slice none 0 0]) (t := 127) ?hr ?_; (case hd => rfl); (case hg => rfl); (case hr => first | (go_simp; done) | (go_simp; rfl)); intro gb602 hg w32 hbox hb; have n0_ := Aside0.mk (blk_below (g := gb598) (o := .cells #[.slice (some ad599) l0_0.length c0_0] 64 (0, 0)) (by (with_reducible repeat (first | refine blk_drewN ?_ _ | refine blk_drew ?_ | refine blk_alloc ?_ _)); refine blk_far ?_ NB598_600.out _; (with_reducible repeat (first | refine blk_drewN ?_ _ | refine blk_drew ?_ | refine blk_alloc ?_ _)); refine blk_far ?_ NB598_600.out _; (with_reducible repeat (first | refine blk_drewN ?_ _ | refine blk_drew ?_ | refine blk_alloc ?_ _)); refine blk_far ?_ NB598_600.out _; (with_reducible repeat (first | refine blk_drewN ?_ _ | refine blk_drew ?_ | refine blk_alloc ?_ _)); exact BK598.out) hb); have n1_ := Aside0.mk (blk_below (g := gb600) (o := .cells #[.int .u32 ((rd_T127 l0_0 x10_1).f0), .int .u32 ((rd_T127 l0_0 x10_1).f1), .slice A599_2 ((rd_T127 l0_0 x10_1).f2).length c599_2] 127 (0, 0)) (by (with_reducible repeat (first | refine blk_drewN ?_ _ | refine blk_drew ?_ | refine blk_alloc ?_ _)); refine blk_put (cs := #[.int .u32 ((rd_T127 l0_0 x10_1).f0), .int .u32 ((rd_T127 l0_0 x10_1).f1), .slice none 0 0]) ?_ 2 _ rfl; (with_reducible repeat (first | refine blk_drewN ?_ _ | refine blk_drew ?_ | refine blk_alloc ?_ _)); refine blk_put (cs := #[.int .u32 ((rd_T127 l0_0 x10_1).f0), .int .u32 0, .slice none 0 0]) ?_ 1 _ rfl; (with_reducible repeat (first | refine blk_drewN ?_ _ | refine blk_drew ?_ | refine blk_alloc ?_ _)); refine blk_put (cs := #[.int .u32 0, .int .u32 0, .slice none 0 0]) ?_ 0 _ rfl; (with_reducible repeat (first | refine blk_drewN ?_ _ | refine blk_drew ?_ | refine blk_alloc ?_ _)); exact BK600.out) hb); have n2_ := Aside0.mk (below_step (by repeat (first | (with_reducible first | exact HB.out | apply below_alloc | apply pw_below_drewN | apply below_drew1 | refine below_set ?_ GE598.out | refine below_set ?_ GE600.out) | exact HB.out)) hb); have n3_ := Aside0.mk (hbox); have n4_ := Aside0.mk ((by rw [hg]; exact (below_size (by repeat (first | (with_reducible first | exact HB.out | apply below_alloc | apply pw_below_drewN | apply below_drew1 | refine below_set ?_ GE598.out | refine below_set ?_ GE600.out) | exact HB.out))) : w.heap.size ≤ gb602)); have n5_ := Aside0.mk ((by rw [hg]; exact (below_size (by repeat (first | (with_reducible first | exact HB.out | apply below_alloc | apply pw_below_drewN | apply below_drew1 | refine below_set ?_ GE598.out | refine below_set ?_ GE600.out) | exact HB.out))) : w.heap.size ≤ gb602)); have n6_ := Aside0.mk ((by rw [hg]; exact Nat.ne_of_lt (blk_lt (g := gb598) (o := .cells #[.slice (some ad599) l0_0.length c0_0] 64 (0, 0)) (by (with_reducible repeat (first | refine blk_drewN ?_ _ | refine blk_drew ?_ | refine blk_alloc ?_ _)); refine blk_far ?_ NB598_600.out _; (with_reducible repeat (first | refine blk_drewN ?_ _ | refine blk_drew ?_ | refine blk_alloc ?_ _)); refine blk_far ?_ NB598_600.out _; (with_reducible repeat (first | refine blk_drewN ?_ _ | refine blk_drew ?_ | refine blk_alloc ?_ _)); refine blk_far ?_ NB598_600.out _; (with_reducible repeat (first | refine blk_drewN ?_ _ | refine blk_drew ?_ | refine blk_alloc ?_ _)); exact BK598.out)) : gb598 ≠ gb602)); have n7_ := Aside0.mk ((by rw [hg]; exact Nat.ne_of_gt (blk_lt (g := gb598) (o := .cells #[.slice (some ad599) l0_0.length c0_0] 64 (0, 0)) (by (with_reducible repeat (first | refine blk_drewN ?_ _ | refine blk_drew ?_ | refine blk_alloc ?_ _)); refine blk_far ?_ NB598_600.out _; (with_reducible repeat (first | refine blk_drewN ?_ _ | refine blk_drew ?_ | refine blk_alloc ?_ _)); refine blk_far ?_ NB598_600.out _; (with_reducible repeat (first | refine blk_drewN ?_ _ | refine blk_drew ?_ | refine blk_alloc ?_ _)); refine blk_far ?_ NB598_600.out _; (with_reducible repeat (first | refine blk_drewN ?_ _ | refine blk_drew ?_ | refine blk_alloc ?_ _)); exact BK598.out)) : gb602 ≠ gb598)); have n8_ := Aside0.mk ((by rw [hg]; exact Nat.ne_of_lt (blk_lt (g := gb600) (o := .cells #[.int .u32 ((rd_T127 l0_0 x10_1).f0), .int .u32 ((rd_T127 l0_0 x10_1).f1), .slice A599_2 ((rd_T127 l0_0 x10_1).f2).length c599_2] 127 (0, 0)) (by (with_reducible repeat (first | refine blk_drewN ?_ _ | refine blk_drew ?_ | refine blk_alloc ?_ _)); refine blk_put (cs := #[.int .u32 ((rd_T127 l0_0 x10_1).f0), .int .u32 ((rd_T127 l0_0 x10_1).f1), .slice none 0 0]) ?_ 2 _ rfl; (with_reducible repeat (first | refine blk_drewN ?_ _ | refine blk_drew ?_ | refine blk_alloc ?_ _)); refine blk_put (cs := #[.int .u32 ((rd_T127 l0_0 x10_1).f0), .int .u32 0, .slice none 0 0]) ?_ 1 _ rfl; (with_reducible repeat (first | refine blk_drewN ?_ _ | refine blk_drew ?_ | refine blk_alloc ?_ _)); refine blk_put (cs := #[.int .u32 0, .int .u32 0, .slice none 0 0]) ?_ 0 _ rfl; (with_reducible repeat (first | refine blk_drewN ?_ _ | refine blk_drew ?_ | refine blk_alloc ?_ _)); exact BK600.out)) : gb600 ≠ gb602)); have n9_ := Aside0.mk ((by rw [hg]; exact Nat.ne_of_gt (blk_lt (g := gb600) (o := .cells #[.int .u32 ((rd_T127 l0_0 x10_1).f0), .int .u32 ((rd_T127 l0_0 x10_1).f1), .slice A599_2 ((rd_T127 l0_0 x10_1).f2).length c599_2] 127 (0, 0)) (by (with_reducible repeat (first | refine blk_drewN ?_ _ | refine blk_drew ?_ | refine blk_alloc ?_ _)); refine blk_put (cs := #[.int .u32 ((rd_T127 l0_0 x10_1).f0), .int .u32 ((rd_T127 l0_0 x10_1).f1), .slice none 0 0]) ?_ 2 _ rfl; (with_reducible repeat (first | refine blk_drewN ?_ _ | refine blk_drew ?_ | refine blk_alloc ?_ _)); refine blk_put (cs := #[.int .u32 ((rd_T127 l0_0 x10_1).f0), .int .u32 0, .slice none 0 0]) ?_ 1 _ rfl; (with_reducible repeat (first | refine blk_drewN ?_ _ | refine blk_drew ?_ | refine blk_alloc ?_ _)); refine blk_put (cs := #[.int .u32 0, .int .u32 0, .slice none 0 0]) ?_ 0 _ rfl; (with_reducible repeat (first | refine blk_drewN ?_ _ | refine blk_drew ?_ | refine blk_alloc ?_ _)); exact BK600.out)) : gb602 ≠ gb600)); clear BK598; clear BK600; clear HB; have BK598 := n0_; have BK600 := n1_; have HB := n2_; have BK602 := n3_; have GW602 := n4_; have GE602 := n5_; have NB598_602 := n6_; have NB602_598 := n7_; have NB600_602 := n8_; have NB602_600 := n9_; clear n0_ n1_ n2_ n3_ n4_ n5_ n6_ n7_ n8_ n9_; clear hb hbox hg; have hnb33 := NB602_598.out; have hnc33 := NB598_602.out; have hnb34 := NB602_600.out; have hnc34 := NB600_602.out; have hcz35_0 : w32.cell? ⟨gb602, 0, none⟩ = some (.int .u32 0) := (blk_cell BK602.out 0).trans rfl; have hcz35_1 : w32.cell? ⟨gb602, 1, none⟩ = some (.int .u32 0) := (blk_cell BK602.out 1).trans rfl; have hcz35_2 : w32.cell? ⟨gb602, 2, none⟩ = some (.slice none 0 0) := (blk_cell BK602.out 2).trans rfl; have hfz35_0 := blk_frozen BK602.out 0; have hfz35_1 := blk_frozen BK602.out 1; have hfz35_2 := blk_frozen BK602.out 2))
                      have n0_ : Aside0 ((((w32.setCell ⟨gb602, 0, none⟩ (.int .u32 ((rd_T127 l0_0 (ji12)).f0))).setCell ⟨gb602, 1, none⟩ (.int .u32 ((rd_T127 l0_0 (ji12)).f1))).setCell ⟨gb602, 2, none⟩ (.slice A601_2 ((rd_T127 l0_0 (ji12)).f2).length c601_2)).heap[gb598]? = some (.cells #[.slice (some ad599) l0_0.length c0_0] 64 (0, 0))) := ⟨by (with_reducible repeat (first | refine blk_drewN ?_ _ | refine blk_drew ?_ | refine blk_alloc ?_ _)); refine blk_far ?_ NB598_602.out _; (with_reducible repeat (first | refine blk_drewN ?_ _ | refine blk_drew ?_ | refine blk_alloc ?_ _)); refine blk_far ?_ NB598_602.out _; (with_reducible repeat (first | refine blk_drewN ?_ _ | refine blk_drew ?_ | refine blk_alloc ?_ _)); refine blk_far ?_ NB598_602.out _; (with_reducible repeat (first | refine blk_drewN ?_ _ | refine blk_drew ?_ | refine blk_alloc ?_ _)); exact BK598.out⟩
                      have n1_ : Aside0 ((((w32.setCell ⟨gb602, 0, none⟩ (.int .u32 ((rd_T127 l0_0 (ji12)).f0))).setCell ⟨gb602, 1, none⟩ (.int .u32 ((rd_T127 l0_0 (ji12)).f1))).setCell ⟨gb602, 2, none⟩ (.slice A601_2 ((rd_T127 l0_0 (ji12)).f2).length c601_2)).heap[gb600]? = some (.cells #[.int .u32 ((rd_T127 l0_0 x10_1).f0), .int .u32 ((rd_T127 l0_0 x10_1).f1), .slice A599_2 ((rd_T127 l0_0 x10_1).f2).length c599_2] 127 (0, 0))) := ⟨by (with_reducible repeat (first | refine blk_drewN ?_ _ | refine blk_drew ?_ | refine blk_alloc ?_ _)); refine blk_far ?_ NB600_602.out _; (with_reducible repeat (first | refine blk_drewN ?_ _ | refine blk_drew ?_ | refine blk_alloc ?_ _)); refine blk_far ?_ NB600_602.out _; (with_reducible repeat (first | refine blk_drewN ?_ _ | refine blk_drew ?_ | refine blk_alloc ?_ _)); refine blk_far ?_ NB600_602.out _; (with_reducible repeat (first | refine blk_drewN ?_ _ | refine blk_drew ?_ | refine blk_alloc ?_ _)); exact BK600.out⟩
                      have n2_ : Aside0 ((((w32.setCell ⟨gb602, 0, none⟩ (.int .u32 ((rd_T127 l0_0 (ji12)).f0))).setCell ⟨gb602, 1, none⟩ (.int .u32 ((rd_T127 l0_0 (ji12)).f1))).setCell ⟨gb602, 2, none⟩ (.slice A601_2 ((rd_T127 l0_0 (ji12)).f2).length c601_2)).heap[gb602]? = some (.cells #[.int .u32 ((rd_T127 l0_0 (ji12)).f0), .int .u32 ((rd_T127 l0_0 (ji12)).f1), .slice A601_2 ((rd_T127 l0_0 (ji12)).f2).length c601_2] 127 (0, 0))) := ⟨by (with_reducible repeat (first | refine blk_drewN ?_ _ | refine blk_drew ?_ | refine blk_alloc ?_ _)); refine blk_put (cs := #[.int .u32 ((rd_T127 l0_0 (ji12)).f0), .int .u32 ((rd_T127 l0_0 (ji12)).f1), .slice none 0 0]) ?_ 2 _ rfl; (with_reducible repeat (first | refine blk_drewN ?_ _ | refine blk_drew ?_ | refine blk_alloc ?_ _)); refine blk_put (cs := #[.int .u32 ((rd_T127 l0_0 (ji12)).f0), .int .u32 0, .slice none 0 0]) ?_ 1 _ rfl; (with_reducible repeat (first | refine blk_drewN ?_ _ | refine blk_drew ?_ | refine blk_alloc ?_ _)); refine blk_put (cs := #[.int .u32 0, .int .u32 0, .slice none 0 0]) ?_ 0 _ rfl; (with_reducible repeat (first | refine blk_drewN ?_ _ | refine blk_drew ?_ | refine blk_alloc ?_ _)); exact BK602.out⟩
                      have n3_ : Aside0 (Below w.heap.size w (((w32.setCell ⟨gb602, 0, none⟩ (.int .u32 ((rd_T127 l0_0 (ji12)).f0))).setCell ⟨gb602, 1, none⟩ (.int .u32 ((rd_T127 l0_0 (ji12)).f1))).setCell ⟨gb602, 2, none⟩ (.slice A601_2 ((rd_T127 l0_0 (ji12)).f2).length c601_2))) := ⟨by repeat (first | (with_reducible first | exact HB.out | apply below_alloc | apply pw_below_drewN | apply below_drew1 | refine below_set ?_ GE598.out | refine below_set ?_ GE600.out | refine below_set ?_ GE602.out) | exact HB.out)⟩
                      (try clear BK598)
                      (try clear BK600)
                      (try clear BK602)
                      (try clear HB)
                      generalize (((w32.setCell ⟨gb602, 0, none⟩ (.int .u32 ((rd_T127 l0_0 (ji12)).f0))).setCell ⟨gb602, 1, none⟩ (.int .u32 ((rd_T127 l0_0 (ji12)).f1))).setCell ⟨gb602, 2, none⟩ (.slice A601_2 ((rd_T127 l0_0 (ji12)).f2).length c601_2)) = w36 at n0_ n1_ n2_ n3_ ⊢
                      have BK598 := n0_
                      have BK600 := n1_
                      have BK602 := n2_
                      have HB := n3_
                      clear n0_ n1_ n2_ n3_
                      have n0_ := Aside0.mk (blk_drew BK598.out)
                      have n1_ := Aside0.mk (blk_drew BK600.out)
                      have n2_ := Aside0.mk (blk_drew BK602.out)
                      have n3_ := Aside0.mk (below_drew1 HB.out)
                      clear BK598
                      clear BK600
                      clear BK602
                      clear HB
                      have BK598 := n0_
                      have BK600 := n1_
                      have BK602 := n2_
                      have HB := n3_
                      clear n0_ n1_ n2_ n3_
                      refine start_ (n := 13) (S := fun w' => w'.cell? ⟨gb602, 0, none⟩ = some (.int .u32 ((rd_T127 l0_0 (ji12)).f0)) ∧ w'.cell? ⟨gb602, 1, none⟩ = some (.int .u32 ((rd_T127 l0_0 (ji12)).f1)) ∧ w'.cell? ⟨gb602, 2, none⟩ = some (.slice A601_2 ((rd_T127 l0_0 (ji12)).f2).length c601_2) ∧ w'.cell? ⟨gb600, 0, none⟩ = some (.int .u32 ((rd_T127 l0_0 x10_1).f0)) ∧ w'.cell? ⟨gb600, 1, none⟩ = some (.int .u32 ((rd_T127 l0_0 x10_1).f1)) ∧ w'.cell? ⟨gb600, 2, none⟩ = some (.slice A599_2 ((rd_T127 l0_0 x10_1).f2).length c599_2)) (ds := []) #[false, false, false, false, false, false, false, false, false, false, false, false, false] (by kernel_rfl) rfl rfl ⟨(blk_cell BK602.out 0).trans rfl, (blk_cell BK602.out 1).trans rfl, (blk_cell BK602.out 2).trans rfl, (blk_cell BK600.out 0).trans rfl, (blk_cell BK600.out 1).trans rfl, (blk_cell BK600.out 2).trans rfl⟩ (fun hHeld => ?_); refine with_tabW impl_ValidPolicy.tab7 impl_ValidPolicy.bits7 (fun HT_ HW_ => ?_)
                      generalize w36.drew = w37 at BK598 BK600 BK602 HB hHeld ⊢
                      refine pure_ (i := 0) (N := some 23) (v := ?_) (a' := ?_) #[true, false, false, false, false, false, false, false, false, false, false, false, false] rfl rfl (any_of HT_.out (by kernel_rfl)) (fun _ _ _ h => h) (Or.inl ⟨by rfl, ?_⟩) ?_ ?_
                      rotate_left
                      · intro w'
                        go_simp
                        with_reducible rfl
                      rotate_left
                      · simp only [Act.put, List.setIfInBounds_toArray, List.set_cons_zero, List.set_cons_succ, i64_w, i32_w]
                        rfl
                      refine pure_ (i := 2) (N := some 25) (v := ?_) (a' := ?_) #[true, false, true, false, false, false, false, false, false, false, false, false, false] rfl rfl (any_of HT_.out (by kernel_rfl)) (fun _ _ _ h => h) (Or.inl ⟨by rfl, ?_⟩) ?_ ?_
                      rotate_left
                      · intro w'
                        go_simp
                        with_reducible rfl
                      rotate_left
                      · simp only [Act.put, List.setIfInBounds_toArray, List.set_cons_zero, List.set_cons_succ, i64_w, i32_w]
                        rfl
                      refine pure_ (i := 5) (N := some 28) (v := ?_) (a' := ?_) #[true, false, true, false, false, true, false, false, false, false, false, false, false] rfl rfl (any_of HT_.out (by kernel_rfl)) (fun _ _ _ h => h) (Or.inl ⟨by rfl, ?_⟩) ?_ ?_
                      rotate_left
                      · intro w'
                        go_simp
                        with_reducible rfl
                      rotate_left
                      · simp only [Act.put, List.setIfInBounds_toArray, List.set_cons_zero, List.set_cons_succ, i64_w, i32_w]
                        rfl
                      refine pure_ (i := 7) (N := some 30) (v := ?_) (a' := ?_) #[true, false, true, false, false, true, false, true, false, false, false, false, false] rfl rfl (any_of HT_.out (by kernel_rfl)) (fun _ _ _ h => h) (Or.inl ⟨by rfl, ?_⟩) ?_ ?_
                      rotate_left
                      · intro w'
                        go_simp
                        with_reducible rfl
                      rotate_left
                      · simp only [Act.put, List.setIfInBounds_toArray, List.set_cons_zero, List.set_cons_succ, i64_w, i32_w]
                        rfl
                      refine take_ (i := 1) (N := some 24) (v := ?_) (a' := ?_) #[true, true, true, false, false, true, false, true, false, false, false, false, false] rfl rfl (take_ofW HT_.out HW_.out (by kernel_rfl)) (fun _ _ _ h => h) (Or.inl ⟨by rfl, ?_⟩) hHeld ?_ ?_
                      rotate_left
                      · rintro w' ⟨s0, s1, s2, s3, s4, s5⟩
                        go_simp
                        with_reducible rfl
                      rotate_left
                      · simp only [Act.put, List.setIfInBounds_toArray, List.set_cons_zero, List.set_cons_succ, i64_w, i32_w]
                        rfl
                      refine take_ (i := 3) (N := some 26) (v := ?_) (a' := ?_) #[true, true, true, true, false, true, false, true, false, false, false, false, false] rfl rfl (take_ofW HT_.out HW_.out (by kernel_rfl)) (fun _ _ _ h => h) (Or.inl ⟨by rfl, ?_⟩) hHeld ?_ ?_
                      rotate_left
                      · rintro w' ⟨s0, s1, s2, s3, s4, s5⟩
                        go_simp
                        with_reducible rfl
                      rotate_left
                      · simp only [Act.put, List.setIfInBounds_toArray, List.set_cons_zero, List.set_cons_succ, i64_w, i32_w]
                        rfl
                      refine take_ (i := 6) (N := some 29) (v := ?_) (a' := ?_) #[true, true, true, true, false, true, true, true, false, false, false, false, false] rfl rfl (take_ofW HT_.out HW_.out (by kernel_rfl)) (fun _ _ _ h => h) (Or.inl ⟨by rfl, ?_⟩) hHeld ?_ ?_
                      rotate_left
                      · rintro w' ⟨s0, s1, s2, s3, s4, s5⟩
                        go_simp
                        with_reducible rfl
                      rotate_left
                      · simp only [Act.put, List.setIfInBounds_toArray, List.set_cons_zero, List.set_cons_succ, i64_w, i32_w]
                        rfl
                      refine take_ (i := 8) (N := some 31) (v := ?_) (a' := ?_) #[true, true, true, true, false, true, true, true, true, false, false, false, false] rfl rfl (take_ofW HT_.out HW_.out (by kernel_rfl)) (fun _ _ _ h => h) (Or.inl ⟨by rfl, ?_⟩) hHeld ?_ ?_
                      rotate_left
                      · rintro w' ⟨s0, s1, s2, s3, s4, s5⟩
                        go_simp
                        with_reducible rfl
                      rotate_left
                      · simp only [Act.put, List.setIfInBounds_toArray, List.set_cons_zero, List.set_cons_succ, i64_w, i32_w]
                        rfl
                      refine one_ (i := 4) (N := some 27) #[true, true, true, true, true, true, true, true, true, false, false, false, false] rfl rfl (one_of HT_.out (by kernel_rfl)) (by decide) (fun K hK => ?_)
                      refine goes_ Try.func93 (by kernel_rfl) rfl #[.int .u32 ((rd_T127 l0_0 (ji12)).f0), .int .u32 ((rd_T127 l0_0 x10_1).f0)] (by rfl) rfl rfl (by (try simp only [List.map_toArray, List.map_cons, List.map_nil]); first | done | (simp only [hji12]; rfl) | rfl | (simp only [List.length_drop, List.length_take]; rfl)) ?_
                      with_reducible refine (cmp_Compare_uint32.calls ((rd_T127 l0_0 (ji12)).f0) ((rd_T127 l0_0 x10_1).f0) t603 _ A15.out).mono ?_
                      rintro e w' ⟨rfl, ⟨nd, rfl⟩⟩
                      refine ⟨_, rfl, ?_⟩
                      refine hK.out _ _ ⟨(blk_cell BK602.out 0).trans rfl, (blk_cell BK602.out 1).trans rfl, (blk_cell BK602.out 2).trans rfl, (blk_cell BK600.out 0).trans rfl, (blk_cell BK600.out 1).trans rfl, (blk_cell BK600.out 2).trans rfl⟩ (fun hHeld => ?_)
                      clear hK K
                      refine norm_ (a' := ?_) ?_ ?_
                      rotate_left
                      · show Act.put _ (some 27) _ = _
                        simp only [Act.put, List.setIfInBounds_toArray, List.set_cons_zero, List.set_cons_succ, i64_w, i32_w]
                        rfl
                      refine one_ (i := 9) (N := some 32) #[true, true, true, true, true, true, true, true, true, true, false, false, false] rfl rfl (one_of HT_.out (by kernel_rfl)) (by decide) (fun K hK => ?_)
                      refine goes_ Try.func93 (by kernel_rfl) rfl #[.int .u32 ((rd_T127 l0_0 (ji12)).f1), .int .u32 ((rd_T127 l0_0 x10_1).f1)] (by rfl) rfl rfl (by (try simp only [List.map_toArray, List.map_cons, List.map_nil]); first | done | (simp only [hji12]; rfl) | rfl | (simp only [List.length_drop, List.length_take]; rfl)) ?_
                      with_reducible refine (cmp_Compare_uint32.calls ((rd_T127 l0_0 (ji12)).f1) ((rd_T127 l0_0 x10_1).f1) t604 _ A16.out).mono ?_
                      rintro e w' ⟨rfl, ⟨nd, rfl⟩⟩
                      refine ⟨_, rfl, ?_⟩
                      refine hK.out _ _ ⟨(blk_cell BK602.out 0).trans rfl, (blk_cell BK602.out 1).trans rfl, (blk_cell BK602.out 2).trans rfl, (blk_cell BK600.out 0).trans rfl, (blk_cell BK600.out 1).trans rfl, (blk_cell BK600.out 2).trans rfl⟩ (fun hHeld => ?_)
                      clear hK K
                      refine norm_ (a' := ?_) ?_ ?_
                      rotate_left
                      · show Act.put _ (some 32) _ = _
                        simp only [Act.put, List.setIfInBounds_toArray, List.set_cons_zero, List.set_cons_succ, i64_w, i32_w]
                        rfl
                      refine one_ (i := 10) (N := some 33) #[true, true, true, true, true, true, true, true, true, true, true, false, false] rfl rfl (one_of HT_.out (by kernel_rfl)) (by decide) (fun K hK => ?_)
                      refine Kd.R_lit_step (Kd.int .i64) _ 3 ?hg (N := 33) ?hd (xs := ([t603, t604] : List Int)) (inner := [.int .i64 t603, .int .i64 t604]) (ok := fun _ => True) (okp := fun _ => True) ?hr ?hp (fun _ hk => hk) trivial (Below.refl _ _) (Nat.le_refl _) (by simp) ?_; (case hd => rfl); (case hg => rfl); (case hr => first | (go_simp; done) | (go_simp; rfl)); (case hp => exact (Reps.one (show Kd.M (Kd.int .i64) _ _ _ t603 [.int .i64 t603] from rfl) (Reps.one (show Kd.M (Kd.int .i64) _ _ _ t604 [.int .i64 t604] from rfl) (Reps.none _ _))))
                      intro v606 w38 ho39 hb hg_ hnew_
                      clear hg_ hnew_
                      (first | rw [← Ny605.out] at ho39 | (simp only [Int.reduceToNat] at ho39; rw [← Ny605.out] at ho39))
                      have n0_ := Aside0.mk (Kd.R_lower ho39 (below_size (by repeat (first | (with_reducible first | exact HB.out | apply below_alloc | apply pw_below_drewN | apply below_drew1 | refine below_set ?_ GE598.out | refine below_set ?_ GE600.out | refine below_set ?_ GE602.out) | exact HB.out))))
                      have n1_ := Aside0.mk (blk_below (g := gb598) (o := .cells #[.slice (some ad599) l0_0.length c0_0] 64 (0, 0)) (by (with_reducible repeat (first | refine blk_drewN ?_ _ | refine blk_drew ?_ | refine blk_alloc ?_ _)); exact BK598.out) hb)
                      have n2_ := Aside0.mk (blk_below (g := gb600) (o := .cells #[.int .u32 ((rd_T127 l0_0 x10_1).f0), .int .u32 ((rd_T127 l0_0 x10_1).f1), .slice A599_2 ((rd_T127 l0_0 x10_1).f2).length c599_2] 127 (0, 0)) (by (with_reducible repeat (first | refine blk_drewN ?_ _ | refine blk_drew ?_ | refine blk_alloc ?_ _)); exact BK600.out) hb)
                      have n3_ := Aside0.mk (blk_below (g := gb602) (o := .cells #[.int .u32 ((rd_T127 l0_0 (ji12)).f0), .int .u32 ((rd_T127 l0_0 (ji12)).f1), .slice A601_2 ((rd_T127 l0_0 (ji12)).f2).length c601_2] 127 (0, 0)) (by (with_reducible repeat (first | refine blk_drewN ?_ _ | refine blk_drew ?_ | refine blk_alloc ?_ _)); exact BK602.out) hb)
                      have n4_ := Aside0.mk (below_step (by repeat (first | (with_reducible first | exact HB.out | apply below_alloc | apply pw_below_drewN | apply below_drew1 | refine below_set ?_ GE598.out | refine below_set ?_ GE600.out | refine below_set ?_ GE602.out) | exact HB.out)) hb)
                      clear BK598
                      clear BK600
                      clear BK602
                      clear HB
                      have HO607 := n0_
                      have BK598 := n1_
                      have BK600 := n2_
                      have BK602 := n3_
                      have HB := n4_
                      clear n0_ n1_ n2_ n3_ n4_
                      clear hb ho39
                      obtain ⟨Ao40, co40, eo40⟩ := Kd.R_slice HO607.out
                      (first | subst eo40 | (injection eo40 with f1_ f2_ f3_; have f4_ := f1_.symm; have f5_ := f3_.symm; clear f1_ f2_ f3_; subst f4_; subst f5_))
                      refine hK.out _ _ ⟨(blk_cell BK602.out 0).trans rfl, (blk_cell BK602.out 1).trans rfl, (blk_cell BK602.out 2).trans rfl, (blk_cell BK600.out 0).trans rfl, (blk_cell BK600.out 1).trans rfl, (blk_cell BK600.out 2).trans rfl⟩ (fun hHeld => ?_)
                      clear hK K
                      refine norm_ (a' := ?_) ?_ ?_
                      rotate_left
                      · show Act.put _ (some 33) _ = _
                        simp only [Act.put, List.setIfInBounds_toArray, List.set_cons_zero, List.set_cons_succ, i64_w, i32_w]
                        rfl
                      refine one_ (i := 11) (N := some 34) #[true, true, true, true, true, true, true, true, true, true, true, true, false] rfl rfl (one_of HT_.out (by kernel_rfl)) (by decide) (fun K hK => ?_)
                      refine goes_ Try.func92 (by kernel_rfl) rfl #[.slice Ao40 y605.length co40] (by rfl) rfl rfl (by (try simp only [List.map_toArray, List.map_cons, List.map_nil]); first | done | rfl | (simp only [List.length_drop, List.length_take]; rfl)) ?_
                      with_reducible refine (cmp_Or_int.calls k1 _ _ y605 t608 _ ?side1 ?side2 A17.out).mono ?_
                      (case side1 => repeat (first | exact (Kd.R_reads' HO607.out).2.2 | (with_reducible refine Kd.C_alloc ?_ _) | (with_reducible refine Kd.C_drewN ?_ _) | (with_reducible refine Kd.C_drew ?_)))
                      (case side2 => exact (Kd.R_reads' HO607.out).2.1)
                      rintro e w' ⟨rfl, ⟨nd, rfl⟩⟩
                      refine ⟨_, rfl, ?_⟩
                      refine hK.out _ _ ⟨(blk_cell BK602.out 0).trans rfl, (blk_cell BK602.out 1).trans rfl, (blk_cell BK602.out 2).trans rfl, (blk_cell BK600.out 0).trans rfl, (blk_cell BK600.out 1).trans rfl, (blk_cell BK600.out 2).trans rfl⟩ (fun hHeld => ?_)
                      clear hK K
                      refine norm_ (a' := ?_) ?_ ?_
                      rotate_left
                      · show Act.put _ (some 34) _ = _
                        simp only [Act.put, List.setIfInBounds_toArray, List.set_cons_zero, List.set_cons_succ, i64_w, i32_w]
                        rfl
                      refine pure_ (i := 12) (N := some 35) (v := ?_) (a' := ?_) #[true, true, true, true, true, true, true, true, true, true, true, true, true] rfl rfl (any_of HT_.out (by kernel_rfl)) (fun _ _ _ h => h) (Or.inl ⟨by rfl, ?_⟩) ?_ ?_
                      rotate_left
                      · intro w'
                        go_simp
                        with_reducible rfl
                      rotate_left
                      · simp only [Act.put, List.setIfInBounds_toArray, List.set_cons_zero, List.set_cons_succ, i64_w, i32_w]
                        rfl
                      refine done_ (done_of HT_.out (by kernel_rfl)) ?_
                      try go_wp2
                      go_meet
                      case rel => exact ⟨_, H', ⟨by have := HK1.out; first | omega | exact Nat.le_refl _⟩, ⟨by (with_reducible repeat (first | refine blk_drewN ?_ _ | refine blk_drew ?_ | refine blk_alloc ?_ _)); exact BK598.out⟩, ⟨by (with_reducible repeat (first | refine blk_drewN ?_ _ | refine blk_drew ?_ | refine blk_alloc ?_ _)); exact BK600.out⟩, ⟨by repeat (first | (with_reducible first | exact HB.out | apply below_alloc | apply pw_below_drewN | apply below_drew1 | refine below_set ?_ GE598.out | refine below_set ?_ GE600.out | refine below_set ?_ GE602.out) | exact HB.out)⟩⟩
                  · rw [if_neg c14] at H
                    exact absurd H (by simp)
                · rw [if_neg c13] at H
                  exact absurd H (by simp)
              · rw [if_neg c11] at H
                have c11b0 : decide (0 < x10_1) = false := decide_eq_false c11
                clear c11
                (first | rw [c11b0] | (simp only [i64_w, i32_w]; rw [c11b0]) | skip)
                have H' := Aside0.mk H
                clear H
                go_wp2
                go_meet
                case rel => exact ⟨_, H', ⟨by have := HK1.out; first | omega | exact Nat.le_refl _⟩, ⟨by (with_reducible repeat (first | refine blk_drewN ?_ _ | refine blk_drew ?_ | refine blk_alloc ?_ _)); refine blk_far ?_ NB598_600.out _; (with_reducible repeat (first | refine blk_drewN ?_ _ | refine blk_drew ?_ | refine blk_alloc ?_ _)); refine blk_far ?_ NB598_600.out _; (with_reducible repeat (first | refine blk_drewN ?_ _ | refine blk_drew ?_ | refine blk_alloc ?_ _)); refine blk_far ?_ NB598_600.out _; (with_reducible repeat (first | refine blk_drewN ?_ _ | refine blk_drew ?_ | refine blk_alloc ?_ _)); exact BK598.out⟩, ⟨by (with_reducible repeat (first | refine blk_drewN ?_ _ | refine blk_drew ?_ | refine blk_alloc ?_ _)); refine blk_put (cs := #[.int .u32 ((rd_T127 l0_0 x10_1).f0), .int .u32 ((rd_T127 l0_0 x10_1).f1), .slice none 0 0]) ?_ 2 _ rfl; (with_reducible repeat (first | refine blk_drewN ?_ _ | refine blk_drew ?_ | refine blk_alloc ?_ _)); refine blk_put (cs := #[.int .u32 ((rd_T127 l0_0 x10_1).f0), .int .u32 0, .slice none 0 0]) ?_ 1 _ rfl; (with_reducible repeat (first | refine blk_drewN ?_ _ | refine blk_drew ?_ | refine blk_alloc ?_ _)); refine blk_put (cs := #[.int .u32 0, .int .u32 0, .slice none 0 0]) ?_ 0 _ rfl; (with_reducible repeat (first | refine blk_drewN ?_ _ | refine blk_drew ?_ | refine blk_alloc ?_ _)); exact BK600.out⟩, ⟨by repeat (first | (with_reducible first | exact HB.out | apply below_alloc | apply pw_below_drewN | apply below_drew1 | refine below_set ?_ GE598.out | refine below_set ?_ GE600.out) | exact HB.out)⟩⟩
            case rest =>
              clear HC7
              try clear c1
              try clear c2
              try clear p2
              try clear c3
              try clear c4
              try clear c4b0
              try clear c5
              try clear c5b0
              try clear p5
              try clear q5
              try clear hx5
              try clear c6
              try clear c6b0
              try clear p6
              try clear q6
              try clear hx6
              try clear c9
              try clear c11
              try clear c11b0
              try clear c13
              try clear c13b0
              try clear c14
              try clear c14b0
              try clear c18
              try clear c18b0
              try clear c19
              try clear c22
              try clear c23
              try clear c30
              try clear c33
              try clear c34
              try clear hcz10_0
              try clear hcz10_1
              try clear hcz10_2
              try clear hcz20_0
              try clear hcz24_0
              try clear hcz24_1
              try clear hcz24_2
              try clear hcz31_0
              try clear hcz35_0
              try clear hcz35_1
              try clear hcz35_2
              try clear hcz3_0
              try clear hfz10_0
              try clear hfz10_1
              try clear hfz10_2
              try clear hfz20_0
              try clear hfz24_0
              try clear hfz24_1
              try clear hfz24_2
              try clear hfz31_0
              try clear hfz35_0
              try clear hfz35_1
              try clear hfz35_2
              try clear hfz3_0
              try clear hx599_0
              try clear hx599_1
              try clear hx599_2
              try clear hx601_0
              try clear hx601_1
              try clear hx601_2
              try clear p2
              try clear p599
              try clear p601
              try clear q599
              try clear q601
              obtain ⟨kq, HA, HJ6, BK598, BK600, HB⟩ := hcut
              cases kq with
              | zero => exact absurd HA.out (by simp [impl_ValidPolicy.j1])
              | succ kj6 =>
                have H := HA.out
                clear HA
                simp only [impl_ValidPolicy.j1] at H
                have HC41 := Aside0.mk H
                clear H
                have hnb42 := NB600_598.out
                have hnc42 := NB598_600.out
                have hcz43_0 : wc.cell? ⟨gb600, 0, none⟩ = some (.int .u32 ((rd_T127 l0_0 x10_1).f0)) := (blk_cell BK600.out 0).trans rfl
                have hcz43_1 : wc.cell? ⟨gb600, 1, none⟩ = some (.int .u32 ((rd_T127 l0_0 x10_1).f1)) := (blk_cell BK600.out 1).trans rfl
                have hcz43_2 : wc.cell? ⟨gb600, 2, none⟩ = some (.slice A599_2 ((rd_T127 l0_0 x10_1).f2).length c599_2) := (blk_cell BK600.out 2).trans rfl
                have hfz43_0 := blk_frozen BK600.out 0
                have hfz43_1 := blk_frozen BK600.out 1
                have hfz43_2 := blk_frozen BK600.out 2
                go_upto_region 10 with (fail)
                go_cut [54] (fun v54 wc => ∃ (kq : Nat) (x54_40 : Bool), v54 = .bool x54_40 ∧ Aside0 (impl_ValidPolicy.j2 kq (wrap64 (x3_1 + (((rd_T127 l0_0 x10_1).f2).length : Int))) l0_0 (l0_0.length : Int) x10_1 x54_40 l0_0 ((rd_T127 l0_0 x10_1).f0) ((rd_T127 l0_0 x10_1).f1) ((rd_T127 l0_0 x10_1).f2) = some r) ∧ Aside0 (kq ≤ kj6) ∧ Aside0 (wc.heap[gb598]? = some (.cells #[(.slice (some ad599) l0_0.length c0_0)] 64 (0, 0))) ∧ Aside0 (wc.heap[gb600]? = some (.cells #[.int .u32 ((rd_T127 l0_0 x10_1).f0), .int .u32 ((rd_T127 l0_0 x10_1).f1), (.slice A599_2 ((rd_T127 l0_0 x10_1).f2).length c599_2)] 127 (0, 0))) ∧ Aside0 (Below w.heap.size w wc))
                case first =>
                  have H := HC41.out
                  clear HC41
                  by_cases c44 : (((rd_T127 l0_0 x10_1).f2).length : Int) < 1
                  · rw [if_pos c44] at H
                    have c44b0 : decide ((((rd_T127 l0_0 x10_1).f2).length : Int) < 1) = true := decide_eq_true c44
                    have c44b1 : decide (((rd_T127 l0_0 x10_1).f2).length < 1) = true := decide_eq_true (by omega)
                    clear c44
                    (first | rw [c44b0] | (simp only [i64_w, i32_w]; rw [c44b0]) | skip)
                    have H' := Aside0.mk H
                    clear H
                    have hnb45 := NB600_598.out
                    have hnc45 := NB598_600.out
                    have hcz46_0 : wc.cell? ⟨gb600, 0, none⟩ = some (.int .u32 ((rd_T127 l0_0 x10_1).f0)) := (blk_cell BK600.out 0).trans rfl
                    have hcz46_1 : wc.cell? ⟨gb600, 1, none⟩ = some (.int .u32 ((rd_T127 l0_0 x10_1).f1)) := (blk_cell BK600.out 1).trans rfl
                    have hcz46_2 : wc.cell? ⟨gb600, 2, none⟩ = some (.slice A599_2 ((rd_T127 l0_0 x10_1).f2).length c599_2) := (blk_cell BK600.out 2).trans rfl
                    have hfz46_0 := blk_frozen BK600.out 0
                    have hfz46_1 := blk_frozen BK600.out 1
                    have hfz46_2 := blk_frozen BK600.out 2
                    go_wp2
                    go_meet
                    case rel => exact ⟨_, (true), (by first | rfl | (simp; done) | (simp [*]; done)), H', ⟨by have := HK1.out; have := HJ6.out; first | omega | exact Nat.le_refl _⟩, ⟨by (with_reducible repeat (first | refine blk_drewN ?_ _ | refine blk_drew ?_ | refine blk_alloc ?_ _)); exact BK598.out⟩, ⟨by (with_reducible repeat (first | refine blk_drewN ?_ _ | refine blk_drew ?_ | refine blk_alloc ?_ _)); exact BK600.out⟩, ⟨by repeat (first | (with_reducible first | exact HB.out | apply below_alloc | apply pw_below_drewN | apply below_drew1 | refine below_set ?_ GE598.out | refine below_set ?_ GE600.out) | exact HB.out)⟩⟩
                  · rw [if_neg c44] at H
                    have c44b0 : decide ((((rd_T127 l0_0 x10_1).f2).length : Int) < 1) = false := decide_eq_false c44
                    have c44b1 : decide (((rd_T127 l0_0 x10_1).f2).length < 1) = false := decide_eq_false (by omega)
                    clear c44
                    (first | rw [c44b0] | (simp only [i64_w, i32_w]; rw [c44b0]) | skip)
                    by_cases c47 : (((rd_T127 l0_0 x10_1).f2).length : Int) > 200
                    · rw [if_pos c47] at H
                      have c47b0 : decide (200 < (((rd_T127 l0_0 x10_1).f2).length : Int)) = true := decide_eq_true c47
                      have c47b1 : decide (200 < ((rd_T127 l0_0 x10_1).f2).length) = true := decide_eq_true (by omega)
                      clear c47
                      have H' := Aside0.mk H
                      clear H
                      have hnb48 := NB600_598.out
                      have hnc48 := NB598_600.out
                      have hcz49_0 : wc.cell? ⟨gb600, 0, none⟩ = some (.int .u32 ((rd_T127 l0_0 x10_1).f0)) := (blk_cell BK600.out 0).trans rfl
                      have hcz49_1 : wc.cell? ⟨gb600, 1, none⟩ = some (.int .u32 ((rd_T127 l0_0 x10_1).f1)) := (blk_cell BK600.out 1).trans rfl
                      have hcz49_2 : wc.cell? ⟨gb600, 2, none⟩ = some (.slice A599_2 ((rd_T127 l0_0 x10_1).f2).length c599_2) := (blk_cell BK600.out 2).trans rfl
                      have hfz49_0 := blk_frozen BK600.out 0
                      have hfz49_1 := blk_frozen BK600.out 1
                      have hfz49_2 := blk_frozen BK600.out 2
                      go_wp2
                      go_meet
                      case rel => exact ⟨_, (true), (by first | rfl | (simp; done) | (simp [*]; done)), H', ⟨by have := HK1.out; have := HJ6.out; first | omega | exact Nat.le_refl _⟩, ⟨by (with_reducible repeat (first | refine blk_drewN ?_ _ | refine blk_drew ?_ | refine blk_alloc ?_ _)); exact BK598.out⟩, ⟨by (with_reducible repeat (first | refine blk_drewN ?_ _ | refine blk_drew ?_ | refine blk_alloc ?_ _)); exact BK600.out⟩, ⟨by repeat (first | (with_reducible first | exact HB.out | apply below_alloc | apply pw_below_drewN | apply below_drew1 | refine below_set ?_ GE598.out | refine below_set ?_ GE600.out) | exact HB.out)⟩⟩
                    · rw [if_neg c47] at H
                      have c47b0 : decide (200 < (((rd_T127 l0_0 x10_1).f2).length : Int)) = false := decide_eq_false c47
                      have c47b1 : decide (200 < ((rd_T127 l0_0 x10_1).f2).length) = false := decide_eq_false (by omega)
                      clear c47
                      have H' := Aside0.mk H
                      clear H
                      have hnb50 := NB600_598.out
                      have hnc50 := NB598_600.out
                      have hcz51_0 : wc.cell? ⟨gb600, 0, none⟩ = some (.int .u32 ((rd_T127 l0_0 x10_1).f0)) := (blk_cell BK600.out 0).trans rfl
                      have hcz51_1 : wc.cell? ⟨gb600, 1, none⟩ = some (.int .u32 ((rd_T127 l0_0 x10_1).f1)) := (blk_cell BK600.out 1).trans rfl
                      have hcz51_2 : wc.cell? ⟨gb600, 2, none⟩ = some (.slice A599_2 ((rd_T127 l0_0 x10_1).f2).length c599_2) := (blk_cell BK600.out 2).trans rfl
                      have hfz51_0 := blk_frozen BK600.out 0
                      have hfz51_1 := blk_frozen BK600.out 1
                      have hfz51_2 := blk_frozen BK600.out 2
                      go_wp2
                      go_meet
                      case rel => exact ⟨_, (decide ((wrap64 (x3_1 + (((rd_T127 l0_0 x10_1).f2).length : Int))) > 1000)), (by first | rfl | (simp; done) | (simp [*]; done)), H', ⟨by have := HK1.out; have := HJ6.out; first | omega | exact Nat.le_refl _⟩, ⟨by (with_reducible repeat (first | refine blk_drewN ?_ _ | refine blk_drew ?_ | refine blk_alloc ?_ _)); exact BK598.out⟩, ⟨by (with_reducible repeat (first | refine blk_drewN ?_ _ | refine blk_drew ?_ | refine blk_alloc ?_ _)); exact BK600.out⟩, ⟨by repeat (first | (with_reducible first | exact HB.out | apply below_alloc | apply pw_below_drewN | apply below_drew1 | refine below_set ?_ GE598.out | refine below_set ?_ GE600.out) | exact HB.out)⟩⟩
                case rest =>
                  clear HC41
                  try clear c1
                  try clear c2
                  try clear p2
                  try clear c3
                  try clear c4
                  try clear c4b0
                  try clear c5
                  try clear c5b0
                  try clear p5
                  try clear q5
                  try clear hx5
                  try clear c6
                  try clear c6b0
                  try clear p6
                  try clear q6
                  try clear hx6
                  try clear c9
                  try clear c11
                  try clear c11b0
                  try clear c13
                  try clear c13b0
                  try clear c14
                  try clear c14b0
                  try clear c18
                  try clear c18b0
                  try clear c19
                  try clear c22
                  try clear c23
                  try clear c30
                  try clear c33
                  try clear c34
                  try clear c42
                  try clear c44
                  try clear c44b0
                  try clear c44b1
                  try clear c45
                  try clear c47
                  try clear c47b0
                  try clear c47b1
                  try clear c48
                  try clear c50
                  try clear hcz10_0
                  try clear hcz10_1
                  try clear hcz10_2
                  try clear hcz20_0
                  try clear hcz24_0
                  try clear hcz24_1
                  try clear hcz24_2
                  try clear hcz31_0
                  try clear hcz35_0
                  try clear hcz35_1
                  try clear hcz35_2
                  try clear hcz3_0
                  try clear hcz43_0
                  try clear hcz43_1
                  try clear hcz43_2
                  try clear hcz46_0
                  try clear hcz46_1
                  try clear hcz46_2
                  try clear hcz49_0
                  try clear hcz49_1
                  try clear hcz49_2
                  try clear hcz51_0
                  try clear hcz51_1
                  try clear hcz51_2
                  try clear hfz10_0
                  try clear hfz10_1
                  try clear hfz10_2
                  try clear hfz20_0
                  try clear hfz24_0
                  try clear hfz24_1
                  try clear hfz24_2
                  try clear hfz31_0
                  try clear hfz35_0
                  try clear hfz35_1
                  try clear hfz35_2
                  try clear hfz3_0
                  try clear hfz43_0
                  try clear hfz43_1
                  try clear hfz43_2
                  try clear hfz46_0
                  try clear hfz46_1
                  try clear hfz46_2
                  try clear hfz49_0
                  try clear hfz49_1
                  try clear hfz49_2
                  try clear hfz51_0
                  try clear hfz51_1
                  try clear hfz51_2
                  try clear hx599_0
                  try clear hx599_1
                  try clear hx599_2
                  try clear hx601_0
                  try clear hx601_1
                  try clear hx601_2
                  try clear p2
                  try clear p5
                  try clear p599
                  try clear p6
                  try clear p601
                  try clear q5
                  try clear q599
                  try clear q6
                  try clear q601
                  obtain ⟨kq, x54_40, rfl, HA, HJ40, BK598, BK600, HB⟩ := hcut
                  cases kq with
                  | zero => exact absurd HA.out (by simp [impl_ValidPolicy.j2])
                  | succ kj40 =>
                    have H := HA.out
                    clear HA
                    simp only [impl_ValidPolicy.j2] at H
                    by_cases c52 : x54_40 = true
                    · subst c52
                      have H1 : (some false) = some r := by rw [if_pos rfl] at H; exact H
                      clear H
                      have H := H1
                      clear H1
                      obtain rfl := Option.some.inj H
                      go_wp2
                      go_ret
                      exact ⟨by first | rfl | (simp [errW_none, errW_some] <;> rfl) | (simp [*, errW_none, errW_some] <;> rfl), by repeat (first | (with_reducible first | exact HB.out | apply below_alloc | apply pw_below_drewN | apply below_drew1 | refine below_set ?_ GE598.out | refine below_set ?_ GE600.out) | exact HB.out)⟩
                    · replace c52 := Bool.eq_false_iff.mpr c52
                      subst c52
                      have H1 : ((slices_ContainsFunc_Rule.f ((rd_T127 l0_0 x10_1).f2)).bind fun t609 => (if t609 = true then (some false) else (impl_ValidPolicy.l0 kj40 (wrap64 (x3_1 + (((rd_T127 l0_0 x10_1).f2).length : Int))) l0_0 (l0_0.length : Int) (wrap64 (x10_1 + 1)) l0_0))) = some r := by rw [if_neg (show ¬ (false = true) by decide)] at H; exact H
                      clear H
                      have H := H1
                      clear H1
                      replace H := Option.bind_eq_some_iff.mp H
                      obtain ⟨t609, A530, H⟩ := H
                      replace H : (if t609 = true then (some false) else (impl_ValidPolicy.l0 kj40 (wrap64 (x3_1 + (((rd_T127 l0_0 x10_1).f2).length : Int))) l0_0 (l0_0.length : Int) (wrap64 (x10_1 + 1)) l0_0)) = some r := H
                      have A53 := Aside0.mk A530
                      clear A530
                      by_cases c54 : t609 = true
                      · subst c54
                        have H1 : (some false) = some r := by rw [if_pos rfl] at H; exact H
                        clear H
                        have H := H1
                        clear H1
                        obtain rfl := Option.some.inj H
                        have hnb55 := NB600_598.out
                        have hnc55 := NB598_600.out
                        have hcz56_0 : wc.cell? ⟨gb600, 0, none⟩ = some (.int .u32 ((rd_T127 l0_0 x10_1).f0)) := (blk_cell BK600.out 0).trans rfl
                        have hcz56_1 : wc.cell? ⟨gb600, 1, none⟩ = some (.int .u32 ((rd_T127 l0_0 x10_1).f1)) := (blk_cell BK600.out 1).trans rfl
                        have hcz56_2 : wc.cell? ⟨gb600, 2, none⟩ = some (.slice A599_2 ((rd_T127 l0_0 x10_1).f2).length c599_2) := (blk_cell BK600.out 2).trans rfl
                        have hfz56_0 := blk_frozen BK600.out 0
                        have hfz56_1 := blk_frozen BK600.out 1
                        have hfz56_2 := blk_frozen BK600.out 2
                        go_wp2_with (first | ((with_reducible refine gate_callee (f := 94) rfl ?_); refine goesL_ (some 57) rfl rfl Try.func94 (by kernel_rfl) rfl #[.slice A599_2 ((rd_T127 l0_0 x10_1).f2).length c599_2, .func (.func 95) #[] #[]] rfl (by (try simp only [List.map_toArray, List.map_cons, List.map_nil]); first | done | rfl | (simp only [List.length_drop, List.length_take]; rfl)) ?_; (with_reducible refine (slices_ContainsFunc_Rule.calls _ _ ((rd_T127 l0_0 x10_1).f2) true _ ?side1 ?side2 A53.out).mono ?_); (case side1 => repeat (first | exact (Kd.C_below HR599_2.out HB.out) | (with_reducible refine Kd.C_alloc ?_ _) | (with_reducible refine Kd.C_drewN ?_ _) | (with_reducible refine Kd.C_drew ?_))); (case side2 => exact HC599_2.out); rintro e w57 ⟨rfl, hb⟩; refine ⟨_, rfl, ?_⟩; have n0_ := Aside0.mk (blk_below (g := gb598) (o := .cells #[.slice (some ad599) l0_0.length c0_0] 64 (0, 0)) (by (with_reducible repeat (first | refine blk_drewN ?_ _ | refine blk_drew ?_ | refine blk_alloc ?_ _)); exact BK598.out) hb); have n1_ := Aside0.mk (blk_below (g := gb600) (o := .cells #[.int .u32 ((rd_T127 l0_0 x10_1).f0), .int .u32 ((rd_T127 l0_0 x10_1).f1), .slice A599_2 ((rd_T127 l0_0 x10_1).f2).length c599_2] 127 (0, 0)) (by (with_reducible repeat (first | refine blk_drewN ?_ _ | refine blk_drew ?_ | refine blk_alloc ?_ _)); exact BK600.out) hb); have n2_ := Aside0.mk (below_step (by repeat (first | (with_reducible first | exact HB.out | apply below_alloc | apply pw_below_drewN | apply below_drew1 | refine below_set ?_ GE598.out | refine below_set ?_ GE600.out) | exact HB.out)) hb); clear BK598; clear BK600; clear HB; have BK598 := n0_; have BK600 := n1_; have HB := n2_; clear n0_ n1_ n2_; (try clear hb); (try clear hb2); (try clear hk); (try clear hi)))
                        go_ret
                        exact ⟨by first | rfl | (simp [errW_none, errW_some] <;> rfl) | (simp [*, errW_none, errW_some] <;> rfl), by repeat (first | (with_reducible first | exact HB.out | apply below_alloc | apply pw_below_drewN | apply below_drew1 | refine below_set ?_ GE598.out | refine below_set ?_ GE600.out) | exact HB.out)⟩
                      · replace c54 := Bool.eq_false_iff.mpr c54
                        subst c54
                        have H1 : (impl_ValidPolicy.l0 kj40 (wrap64 (x3_1 + (((rd_T127 l0_0 x10_1).f2).length : Int))) l0_0 (l0_0.length : Int) (wrap64 (x10_1 + 1)) l0_0) = some r := by rw [if_neg (show ¬ (false = true) by decide)] at H; exact H
                        clear H
                        have H := H1
                        clear H1
                        have H' := Aside0.mk H
                        clear H
                        have hnb58 := NB600_598.out
                        have hnc58 := NB598_600.out
                        have hcz59_0 : wc.cell? ⟨gb600, 0, none⟩ = some (.int .u32 ((rd_T127 l0_0 x10_1).f0)) := (blk_cell BK600.out 0).trans rfl
                        have hcz59_1 : wc.cell? ⟨gb600, 1, none⟩ = some (.int .u32 ((rd_T127 l0_0 x10_1).f1)) := (blk_cell BK600.out 1).trans rfl
                        have hcz59_2 : wc.cell? ⟨gb600, 2, none⟩ = some (.slice A599_2 ((rd_T127 l0_0 x10_1).f2).length c599_2) := (blk_cell BK600.out 2).trans rfl
                        have hfz59_0 := blk_frozen BK600.out 0
                        have hfz59_1 := blk_frozen BK600.out 1
                        have hfz59_2 := blk_frozen BK600.out 2
                        go_wp2_with (first | ((with_reducible refine gate_callee (f := 94) rfl ?_); refine goesL_ (some 57) rfl rfl Try.func94 (by kernel_rfl) rfl #[.slice A599_2 ((rd_T127 l0_0 x10_1).f2).length c599_2, .func (.func 95) #[] #[]] rfl (by (try simp only [List.map_toArray, List.map_cons, List.map_nil]); first | done | rfl | (simp only [List.length_drop, List.length_take]; rfl)) ?_; (with_reducible refine (slices_ContainsFunc_Rule.calls _ _ ((rd_T127 l0_0 x10_1).f2) false _ ?side1 ?side2 A53.out).mono ?_); (case side1 => repeat (first | exact (Kd.C_below HR599_2.out HB.out) | (with_reducible refine Kd.C_alloc ?_ _) | (with_reducible refine Kd.C_drewN ?_ _) | (with_reducible refine Kd.C_drew ?_))); (case side2 => exact HC599_2.out); rintro e w60 ⟨rfl, hb⟩; refine ⟨_, rfl, ?_⟩; have n0_ := Aside0.mk (blk_below (g := gb598) (o := .cells #[.slice (some ad599) l0_0.length c0_0] 64 (0, 0)) (by (with_reducible repeat (first | refine blk_drewN ?_ _ | refine blk_drew ?_ | refine blk_alloc ?_ _)); exact BK598.out) hb); have n1_ := Aside0.mk (blk_below (g := gb600) (o := .cells #[.int .u32 ((rd_T127 l0_0 x10_1).f0), .int .u32 ((rd_T127 l0_0 x10_1).f1), .slice A599_2 ((rd_T127 l0_0 x10_1).f2).length c599_2] 127 (0, 0)) (by (with_reducible repeat (first | refine blk_drewN ?_ _ | refine blk_drew ?_ | refine blk_alloc ?_ _)); exact BK600.out) hb); have n2_ := Aside0.mk (below_step (by repeat (first | (with_reducible first | exact HB.out | apply below_alloc | apply pw_below_drewN | apply below_drew1 | refine below_set ?_ GE598.out | refine below_set ?_ GE600.out) | exact HB.out)) hb); clear BK598; clear BK600; clear HB; have BK598 := n0_; have BK600 := n1_; have HB := n2_; clear n0_ n1_ n2_; (try clear hb); (try clear hb2); (try clear hk); (try clear hi)))
                        go_roundg kj40
                        case measure => have := HK1.out; have := HJ6.out; have := HJ40.out; omega
                        case rel => exact ⟨((wrap64 (x3_1 + (((rd_T127 l0_0 x10_1).f2).length : Int)))), (wrap64 (x10_1 + 1)), (by first | rfl | (simp; done) | (simp [*]; done)), (by first | rfl | (simp; done) | (simp [*]; done)), H', ⟨by have := HK1.out; have := HJ6.out; have := HJ40.out; omega⟩, ⟨by (with_reducible repeat (first | refine blk_drewN ?_ _ | refine blk_drew ?_ | refine blk_alloc ?_ _)); exact BK598.out⟩, ⟨by repeat (first | (with_reducible first | exact HB.out | apply below_alloc | apply pw_below_drewN | apply below_drew1 | refine below_set ?_ GE598.out | refine below_set ?_ GE600.out) | exact HB.out)⟩⟩
          · rw [if_neg c6] at H
            exact absurd H (by simp)
        · rw [if_neg c5] at H
          exact absurd H (by simp)
      · rw [if_neg c4] at H
        have c4b0 : decide (x10_1 < (l0_0.length : Int)) = false := decide_eq_false c4
        clear c4
        obtain rfl := Option.some.inj H
        go_wp2
        go_ret
        exact ⟨by first | rfl | (simp [errW_none, errW_some] <;> rfl) | (simp [*, errW_none, errW_some] <;> rfl), by repeat (first | (with_reducible first | exact HB.out | apply below_alloc | apply pw_below_drewN | apply below_drew1 | refine below_set ?_ GE598.out) | exact HB.out)⟩

end Go.Proofs.Ytdipinclchkhjaa.P
