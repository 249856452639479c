import Derived.Test.YtdipinclchkhjaaGFnExactConWithin1
import Derived.Test.YtdipinclchkhjaaGFnExactConWithin3
import Derived.Handy
import Derived.Test.YtdipinclchkhjaaWLen64
namespace Go.Proofs.Ytdipinclchkhjaa.P
open Go.RowKit Go.Proofs.YtdipinclchkhjaaW.PrintWords Go.Proofs.YtdipinclchkhjaaW.PrintLast Go.Proofs.YtdipinclchkhjaaW.PrintMore
attribute [local go_sem] max2_int min2_int max_two min_two max_three min_three max_four min_four   -- for this text's walks alone
set_option linter.unusedVariables false
set_option linter.unusedSimpArgs false

-- HAND 113
-- IMPORT Derived.Test.YtdipinclchkhjaaHCond
set_option maxHeartbeats 400000 in
theorem impl_normalRange.does (a b : Int) (w : World) : Calls Try.prog 113 #[.int .u64 a, .int .u64 b] w fun e w' => e = .returned (nrRaw a b).v ∧ w' = w := by
  have hmax : IntKind.u64.max = 18446744073709551615 := rfl
  go_enter Try.func113, Try.ntmps113
  go_wp2
  all_goals (go_ret)
  all_goals (refine ⟨?_, rfl⟩; simp_all [nrRaw, nrN, Cd.v])

end Go.Proofs.Ytdipinclchkhjaa.P

namespace Go.Proofs.Ytdipinclchkhjaa.P
open Go.RowKit Go.Proofs.YtdipinclchkhjaaW.PrintWords Go.Proofs.YtdipinclchkhjaaW.PrintLast Go.Proofs.YtdipinclchkhjaaW.PrintMore
attribute [local go_sem] max2_int min2_int max_two min_two max_three min_three max_four min_four   -- for this text's walks alone
set_option linter.unusedVariables false
set_option linter.unusedSimpArgs false

-- HAND 62
-- IMPORT Derived.Test.YtdipinclchkhjaaHCond
set_option maxHeartbeats 1000000 in
theorem impl_normal.does (k a b : Int) (w : World) : Calls Try.prog 62 #[.agg #[.int .i64 k, .int .u64 a, .int .u64 b]] w fun e w' => e = .returned (.tuple #[(normRaw k a b).1.v, .bool (normRaw k a b).2]) ∧ Below w.heap.size w w' := by
  by_cases c0 : k = 0
  · subst c0
    by_cases c1 : a = 0
    · subst c1
      go_enter Try.func62, Try.ntmps62
      go_wp2
      repeat (go_quiet (fail); try go_wp2)
      go_ret2
      exact ⟨by simp [normRaw, Cd.v], pw_below_drewN (below_alloc (Below.refl _ _) _) _⟩
    · have c1b : (a == 0) = false := beq_eq_false_iff_ne.mpr c1
      go_enter Try.func62, Try.ntmps62
      go_wp2
      repeat (go_quiet (fail); try go_wp2)
      go_ret2
      exact ⟨by simp [normRaw, Cd.v, c1b], pw_below_drewN (below_alloc (Below.refl _ _) _) _⟩
  · have c0b : (k == 0) = false := beq_eq_false_iff_ne.mpr c0
    by_cases c1 : k = 1
    · subst c1
      by_cases c2 : a = 0
      · subst c2
        by_cases c3 : b = 0
        · subst c3
          go_enter Try.func62, Try.ntmps62
          go_wp2
          go_ret2
          exact ⟨by simp [normRaw, Cd.v], below_alloc (Below.refl _ _) _⟩
        · have c3b : (b == 0) = false := beq_eq_false_iff_ne.mpr c3
          go_enter Try.func62, Try.ntmps62
          go_wp2
          repeat (go_quiet (fail); try go_wp2)
          go_ret2
          exact ⟨by simp [normRaw, Cd.v, c3], pw_below_drewN (below_alloc (Below.refl _ _) _) _⟩
      · have c2b : (a == 0) = false := beq_eq_false_iff_ne.mpr c2
        go_enter Try.func62, Try.ntmps62
        go_wp2
        repeat (go_quiet (fail); try go_wp2)
        go_ret2
        exact ⟨by simp [normRaw, Cd.v, c2], pw_below_drewN (below_alloc (Below.refl _ _) _) _⟩
    · have c1b : (k == 1) = false := beq_eq_false_iff_ne.mpr c1
      by_cases c2 : k = 2
      · subst c2
        by_cases c3 : b < a
        · go_enter Try.func62, Try.ntmps62
          go_wp2
          go_ret2
          exact ⟨by simp [normRaw, Cd.v, c3], below_alloc (Below.refl _ _) _⟩
        · have c3b : decide (b < a) = false := decide_eq_false c3
          go_enter Try.func62, Try.ntmps62
          go_wp2_with (go_at_call 113; refine (impl_normalRange.does _ _ _).mono ?_; rintro e w' ⟨rfl, rfl⟩)
          go_ret2
          have c3n : ¬ b < a := by simpa using c3b
          exact ⟨by simp [normRaw, c3n], below_alloc (Below.refl _ _) _⟩
      · have c2b : (k == 2) = false := beq_eq_false_iff_ne.mpr c2
        go_enter Try.func62, Try.ntmps62
        go_wp2
        go_ret2
        exact ⟨by simp [normRaw, Cd.v, c0, c1, c2], below_alloc (Below.refl _ _) _⟩

end Go.Proofs.Ytdipinclchkhjaa.P

namespace Go.Proofs.Ytdipinclchkhjaa.P
open Go.RowKit Go.Proofs.YtdipinclchkhjaaW.PrintWords Go.Proofs.YtdipinclchkhjaaW.PrintLast Go.Proofs.YtdipinclchkhjaaW.PrintMore
attribute [local go_sem] max2_int min2_int max_two min_two max_three min_three max_four min_four   -- for this text's walks alone
set_option linter.unusedVariables false
set_option linter.unusedSimpArgs false

-- HAND 63
-- IMPORT Derived.Test.YtdipinclchkhjaaHCond
-- IMPORT Derived.Handy
-- IMPORT Derived.Test.YtdipinclchkhjaaWLen64
def Cd.ends : Cd → Int × Int
  | .nil => (0, 0)
  | .any => (0, 18446744073709551615)
  | .mask m v => (v, bits .or .u64 v (bits .xor .u64 18446744073709551615 m))
  | .rng l h => (l, h)
def Cd.holds (c : Cd) (x : Int) : Bool := match c with
  | .nil => true
  | .any => true
  | .mask m v => bits .and .u64 x m == v
  | .rng l h => decide (l ≤ x) && decide (x ≤ h)
def insRaw (a b : Cd) : Bool := match b with
  | .rng l h => (Cd.rng l h).holds a.ends.1 && (Cd.rng l h).holds a.ends.2
  | .mask m v => (match a with
    | .mask m2 v2 => bits .andNot .u64 m m2 == 0 && bits .and .u64 v2 m == v
    | .rng l2 h2 => bits .and .u64 m (IntKind.u64.wrap (IntKind.u64.wrap (2 ^ min (Lib.bitLen (bits .xor .u64 l2 h2).toNat) 64) - 1)) == 0 && bits .and .u64 l2 m == v
    | _ => false)
  | _ => true
theorem u64lt_xor (a b : Int) : 0 ≤ bits .xor .u64 a b ∧ bits .xor .u64 a b ≤ 18446744073709551615 := by
  unfold bits
  simp only [IntKind.bits, IntKind.signed, IntKind.wrap]
  simp
  omega
set_option maxHeartbeats 1000000 in
theorem impl_inside.does1 (a : Cd) (h1 : a ≠ .nil) (l h : Int) (w : World) : Calls Try.prog 63 #[a.v, (Cd.rng l h).v] w fun e w' => e = .returned (.bool (insRaw a (.rng l h))) ∧ Below w.heap.size w w' := by
  have h1 := taR_rng
  cases a with
  | nil => contradiction
  | any =>
    simp only [Cd.v]
    go_enter Try.func63, Try.ntmps63
    go_wp2
    repeat (go_quiet (fail); try go_wp2)
    all_goals go_ret
    all_goals refine ⟨congrArg Ending.returned (congrArg Value.bool ?_), by repeat (first | exact Below.refl _ _ | refine below_alloc ?_ _ | refine pw_below_drewN ?_ _)⟩
    all_goals have hmax_ : IntKind.u64.max = 18446744073709551615 := rfl
    all_goals simp only [insRaw, Cd.holds, Cd.ends]
    all_goals first
      | rfl
      | (rw [Bool.eq_iff_iff]; simp only [Bool.and_eq_true, decide_eq_true_eq, Bool.false_eq_true, false_iff, true_iff, beq_iff_eq, iff_self, and_false, and_true, not_and, not_false_eq_true] <;> omega)
      | (rw [Bool.eq_iff_iff]; simp only [Bool.and_eq_true, decide_eq_true_eq, Bool.false_eq_true, false_iff, true_iff, beq_iff_eq, not_and]; grind)
  | mask m v =>
    simp only [Cd.v]
    go_enter Try.func63, Try.ntmps63
    go_wp2
    repeat (go_quiet (fail); try go_wp2)
    all_goals go_ret
    all_goals refine ⟨congrArg Ending.returned (congrArg Value.bool ?_), by repeat (first | exact Below.refl _ _ | refine below_alloc ?_ _ | refine pw_below_drewN ?_ _)⟩
    all_goals have hmax_ : IntKind.u64.max = 18446744073709551615 := rfl
    all_goals simp only [insRaw, Cd.holds, Cd.ends]
    all_goals first
      | rfl
      | (rw [Bool.eq_iff_iff]; simp only [Bool.and_eq_true, decide_eq_true_eq, Bool.false_eq_true, false_iff, true_iff, beq_iff_eq, iff_self, and_false, and_true, not_and, not_false_eq_true] <;> omega)
      | (rw [Bool.eq_iff_iff]; simp only [Bool.and_eq_true, decide_eq_true_eq, Bool.false_eq_true, false_iff, true_iff, beq_iff_eq, not_and]; grind)
  | rng l2 h2 =>
    simp only [Cd.v]
    go_enter Try.func63, Try.ntmps63
    go_wp2
    repeat (go_quiet (fail); try go_wp2)
    all_goals go_ret
    all_goals refine ⟨congrArg Ending.returned (congrArg Value.bool ?_), by repeat (first | exact Below.refl _ _ | refine below_alloc ?_ _ | refine pw_below_drewN ?_ _)⟩
    all_goals have hmax_ : IntKind.u64.max = 18446744073709551615 := rfl
    all_goals simp only [insRaw, Cd.holds, Cd.ends]
    all_goals first
      | rfl
      | (rw [Bool.eq_iff_iff]; simp only [Bool.and_eq_true, decide_eq_true_eq, Bool.false_eq_true, false_iff, true_iff, beq_iff_eq, iff_self, and_false, and_true, not_and, not_false_eq_true] <;> omega)
      | (rw [Bool.eq_iff_iff]; simp only [Bool.and_eq_true, decide_eq_true_eq, Bool.false_eq_true, false_iff, true_iff, beq_iff_eq, not_and]; grind)
set_option maxHeartbeats 1000000 in
theorem impl_inside.does2 (a : Cd) (h1 : a ≠ .nil) (m v : Int) (w : World) : Calls Try.prog 63 #[a.v, (Cd.mask m v).v] w fun e w' => e = .returned (.bool (insRaw a (.mask m v))) ∧ Below w.heap.size w w' := by
  have h1 := taR_mask
  have h2 := taM_mask
  cases a with
  | nil => contradiction
  | any =>
    have h3 := taM_any
    have h4 := taR_any
    simp only [Cd.v]
    go_enter Try.func63, Try.ntmps63
    go_wp2
    repeat (go_quiet (fail); try go_wp2)
    all_goals go_ret
    all_goals refine ⟨congrArg Ending.returned (congrArg Value.bool ?_), by repeat (first | exact Below.refl _ _ | refine below_alloc ?_ _ | refine pw_below_drewN ?_ _)⟩
    all_goals have hmax_ : IntKind.u64.max = 18446744073709551615 := rfl
    all_goals simp only [insRaw, Cd.holds, Cd.ends]
    all_goals first
      | rfl
      | (rw [Bool.eq_iff_iff]; simp only [Bool.and_eq_true, decide_eq_true_eq, Bool.false_eq_true, false_iff, true_iff, beq_iff_eq, iff_self, and_false, and_true, not_and, not_false_eq_true] <;> omega)
      | (rw [Bool.eq_iff_iff]; simp only [Bool.and_eq_true, decide_eq_true_eq, Bool.false_eq_true, false_iff, true_iff, beq_iff_eq, not_and]; grind)
  | mask m v =>
    simp only [Cd.v]
    go_enter Try.func63, Try.ntmps63
    go_wp2
    repeat (go_quiet (fail); try go_wp2)
    all_goals go_ret
    all_goals refine ⟨congrArg Ending.returned (congrArg Value.bool ?_), by repeat (first | exact Below.refl _ _ | refine below_alloc ?_ _ | refine pw_below_drewN ?_ _)⟩
    all_goals have hmax_ : IntKind.u64.max = 18446744073709551615 := rfl
    all_goals simp only [insRaw, Cd.holds, Cd.ends]
    all_goals first
      | rfl
      | (rw [Bool.eq_iff_iff]; simp only [Bool.and_eq_true, decide_eq_true_eq, Bool.false_eq_true, false_iff, true_iff, beq_iff_eq, iff_self, and_false, and_true, not_and, not_false_eq_true] <;> omega)
      | (rw [Bool.eq_iff_iff]; simp only [Bool.and_eq_true, decide_eq_true_eq, Bool.false_eq_true, false_iff, true_iff, beq_iff_eq, not_and]; grind)
  | rng l2 h2 =>
    have h3 := taM_rng
    have h4 := taR_rng
    obtain ⟨x0, x1⟩ := u64lt_xor l2 h2
    simp only [Cd.v]
    go_enter Try.func63, Try.ntmps63
    go_wp2_with (first | (go_at_call 115; refine (Try.bits_Len64 _ _ x0 x1).mono ?_; rintro e w1 ⟨rfl, rfl⟩) | go_in)
    repeat (go_quiet (fail); try go_wp2_with (first | (go_at_call 115; refine (Try.bits_Len64 _ _ x0 x1).mono ?_; rintro e w1 ⟨rfl, rfl⟩) | go_in))
    all_goals go_ret
    all_goals refine ⟨congrArg Ending.returned (congrArg Value.bool ?_), by repeat (first | exact Below.refl _ _ | refine below_alloc ?_ _ | refine pw_below_drewN ?_ _)⟩
    all_goals have hmax_ : IntKind.u64.max = 18446744073709551615 := rfl
    all_goals simp only [insRaw, Cd.holds, Cd.ends]
    all_goals first
      | rfl
      | (rw [Bool.eq_iff_iff]; simp only [Bool.and_eq_true, decide_eq_true_eq, Bool.false_eq_true, false_iff, true_iff, beq_iff_eq, iff_self, and_false, and_true, not_and, not_false_eq_true] <;> omega)
      | (rw [Bool.eq_iff_iff]; simp only [Bool.and_eq_true, decide_eq_true_eq, Bool.false_eq_true, false_iff, true_iff, beq_iff_eq, not_and]; grind)
set_option maxHeartbeats 1000000 in
theorem impl_inside.does (a b : Cd) (h1 : a ≠ .nil) (w : World) : Calls Try.prog 63 #[a.v, b.v] w fun e w' => e = .returned (.bool (insRaw a b)) ∧ Below w.heap.size w w' := by
  cases b with
  | rng l h => exact impl_inside.does1 a h1 l h w
  | mask m v => exact impl_inside.does2 a h1 m v w
  | nil =>
    have h2 := taR_nil
    have h3 := taM_nil
    cases a with
    | nil => contradiction
    | any =>
      simp only [Cd.v]
      go_enter Try.func63, Try.ntmps63
      go_wp2
      repeat (go_quiet (fail); try go_wp2)
      all_goals go_ret
      all_goals refine ⟨congrArg Ending.returned (congrArg Value.bool ?_), by repeat (first | exact Below.refl _ _ | refine below_alloc ?_ _ | refine pw_below_drewN ?_ _)⟩
      all_goals have hmax_ : IntKind.u64.max = 18446744073709551615 := rfl
      all_goals simp only [insRaw, Cd.holds, Cd.ends]
      all_goals first
        | rfl
        | (rw [Bool.eq_iff_iff]; simp only [Bool.and_eq_true, decide_eq_true_eq, Bool.false_eq_true, false_iff, true_iff, beq_iff_eq, iff_self, and_false, and_true, not_and, not_false_eq_true] <;> omega)
        | (rw [Bool.eq_iff_iff]; simp only [Bool.and_eq_true, decide_eq_true_eq, Bool.false_eq_true, false_iff, true_iff, beq_iff_eq, not_and]; grind)
    | mask m v =>
      simp only [Cd.v]
      go_enter Try.func63, Try.ntmps63
      go_wp2
      repeat (go_quiet (fail); try go_wp2)
      all_goals go_ret
      all_goals refine ⟨congrArg Ending.returned (congrArg Value.bool ?_), by repeat (first | exact Below.refl _ _ | refine below_alloc ?_ _ | refine pw_below_drewN ?_ _)⟩
      all_goals have hmax_ : IntKind.u64.max = 18446744073709551615 := rfl
      all_goals simp only [insRaw, Cd.holds, Cd.ends]
      all_goals first
        | rfl
        | (rw [Bool.eq_iff_iff]; simp only [Bool.and_eq_true, decide_eq_true_eq, Bool.false_eq_true, false_iff, true_iff, beq_iff_eq, iff_self, and_false, and_true, not_and, not_false_eq_true] <;> omega)
        | (rw [Bool.eq_iff_iff]; simp only [Bool.and_eq_true, decide_eq_true_eq, Bool.false_eq_true, false_iff, true_iff, beq_iff_eq, not_and]; grind)
    | rng l2 h2 =>
      simp only [Cd.v]
      go_enter Try.func63, Try.ntmps63
      go_wp2
      repeat (go_quiet (fail); try go_wp2)
      all_goals go_ret
      all_goals refine ⟨congrArg Ending.returned (congrArg Value.bool ?_), by repeat (first | exact Below.refl _ _ | refine below_alloc ?_ _ | refine pw_below_drewN ?_ _)⟩
      all_goals have hmax_ : IntKind.u64.max = 18446744073709551615 := rfl
      all_goals simp only [insRaw, Cd.holds, Cd.ends]
      all_goals first
        | rfl
        | (rw [Bool.eq_iff_iff]; simp only [Bool.and_eq_true, decide_eq_true_eq, Bool.false_eq_true, false_iff, true_iff, beq_iff_eq, iff_self, and_false, and_true, not_and, not_false_eq_true] <;> omega)
        | (rw [Bool.eq_iff_iff]; simp only [Bool.and_eq_true, decide_eq_true_eq, Bool.false_eq_true, false_iff, true_iff, beq_iff_eq, not_and]; grind)
  | any =>
    have h2 := taR_any
    have h3 := taM_any
    cases a with
    | nil => contradiction
    | any =>
      simp only [Cd.v]
      go_enter Try.func63, Try.ntmps63
      go_wp2
      repeat (go_quiet (fail); try go_wp2)
      all_goals go_ret
      all_goals refine ⟨congrArg Ending.returned (congrArg Value.bool ?_), by repeat (first | exact Below.refl _ _ | refine below_alloc ?_ _ | refine pw_below_drewN ?_ _)⟩
      all_goals have hmax_ : IntKind.u64.max = 18446744073709551615 := rfl
      all_goals simp only [insRaw, Cd.holds, Cd.ends]
      all_goals first
        | rfl
        | (rw [Bool.eq_iff_iff]; simp only [Bool.and_eq_true, decide_eq_true_eq, Bool.false_eq_true, false_iff, true_iff, beq_iff_eq, iff_self, and_false, and_true, not_and, not_false_eq_true] <;> omega)
        | (rw [Bool.eq_iff_iff]; simp only [Bool.and_eq_true, decide_eq_true_eq, Bool.false_eq_true, false_iff, true_iff, beq_iff_eq, not_and]; grind)
    | mask m v =>
      simp only [Cd.v]
      go_enter Try.func63, Try.ntmps63
      go_wp2
      repeat (go_quiet (fail); try go_wp2)
      all_goals go_ret
      all_goals refine ⟨congrArg Ending.returned (congrArg Value.bool ?_), by repeat (first | exact Below.refl _ _ | refine below_alloc ?_ _ | refine pw_below_drewN ?_ _)⟩
      all_goals have hmax_ : IntKind.u64.max = 18446744073709551615 := rfl
      all_goals simp only [insRaw, Cd.holds, Cd.ends]
      all_goals first
        | rfl
        | (rw [Bool.eq_iff_iff]; simp only [Bool.and_eq_true, decide_eq_true_eq, Bool.false_eq_true, false_iff, true_iff, beq_iff_eq, iff_self, and_false, and_true, not_and, not_false_eq_true] <;> omega)
        | (rw [Bool.eq_iff_iff]; simp only [Bool.and_eq_true, decide_eq_true_eq, Bool.false_eq_true, false_iff, true_iff, beq_iff_eq, not_and]; grind)
    | rng l2 h2 =>
      simp only [Cd.v]
      go_enter Try.func63, Try.ntmps63
      go_wp2
      repeat (go_quiet (fail); try go_wp2)
      all_goals go_ret
      all_goals refine ⟨congrArg Ending.returned (congrArg Value.bool ?_), by repeat (first | exact Below.refl _ _ | refine below_alloc ?_ _ | refine pw_below_drewN ?_ _)⟩
      all_goals have hmax_ : IntKind.u64.max = 18446744073709551615 := rfl
      all_goals simp only [insRaw, Cd.holds, Cd.ends]
      all_goals first
        | rfl
        | (rw [Bool.eq_iff_iff]; simp only [Bool.and_eq_true, decide_eq_true_eq, Bool.false_eq_true, false_iff, true_iff, beq_iff_eq, iff_self, and_false, and_true, not_and, not_false_eq_true] <;> omega)
        | (rw [Bool.eq_iff_iff]; simp only [Bool.and_eq_true, decide_eq_true_eq, Bool.false_eq_true, false_iff, true_iff, beq_iff_eq, not_and]; grind)

end Go.Proofs.Ytdipinclchkhjaa.P
