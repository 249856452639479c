import Derived.Test.YtdipinclchkhjaaGFnCover1
import Derived.Handy
import Derived.Test.YtdipinclchkhjaaWLen64
import Derived.Sort.AtCall
namespace Go.Proofs.Ytdipinclchkhjaa.P
open Go.RowKit Go.Proofs.YtdipinclchkhjaaW.PrintWords Go.Proofs.YtdipinclchkhjaaW.PrintLast Go.Proofs.YtdipinclchkhjaaW.PrintMore
set_option linter.unusedVariables false
set_option linter.unusedSimpArgs false

/-- What an elder world holds is held behind a call, too. -/
theorem bcell {W w1 : World} (hb : Below W.heap.size W w1) : (∀ b o, b < W.heap.size → w1.cell? ⟨b, o, none⟩ = W.cell? ⟨b, o, none⟩) ∧ (∀ b o, b < W.heap.size → w1.frozen? ⟨b, o, none⟩ = W.frozen? ⟨b, o, none⟩) :=
  ⟨fun b o h => hb.cell (p := ⟨b, o, none⟩) h, fun b o h => hb.frozen (p := ⟨b, o, none⟩) h⟩
/-- Behind a call that began at a later world. -/
theorem below_call {B : Nat} {w W w1 : World} (h : Below B w W) (hb : Below W.heap.size W w1) (hB : B ≤ W.heap.size) : Below B w w1 := h.trans (hb.mono hB)
theorem below_set1 {B : Nat} {w W : World} (h : Below B w W) {p : Addr} (hp : B ≤ p.block) (v : Value) : Below B w (W.setCell p v) := h.setCell hp v
/-- A struct of three fields, stored field by field. -/
theorem blk_put3 {w : World} {g : Nat} {t : TypeId} {x0 x1 x2 : Value} (h : w.heap[g]? = some (.cells #[x0, x1, x2] t (0, 0))) (y0 y1 y2 : Value) :
    (((w.setCell ⟨g, 0, none⟩ y0).setCell ⟨g, 1, none⟩ y1).setCell ⟨g, 2, none⟩ y2).heap[g]? = some (.cells #[y0, y1, y2] t (0, 0)) :=
  blk_put (cs := #[y0, y1, x2]) (blk_put (cs := #[y0, x1, x2]) (blk_put h 0 y0 rfl) 1 y1 rfl) 2 y2 rfl
theorem alloc_size (w : World) (o : Obj) : (w.alloc o).heap.size = w.heap.size + 1 := by simp

end Go.Proofs.Ytdipinclchkhjaa.P

namespace Go.Proofs.Ytdipinclchkhjaa.P
open Go.RowKit Go.Proofs.YtdipinclchkhjaaW.PrintWords Go.Proofs.YtdipinclchkhjaaW.PrintLast Go.Proofs.YtdipinclchkhjaaW.PrintMore
set_option linter.unusedVariables false
set_option linter.unusedSimpArgs false

/-! A condition inside: one of three types behind an interface (or nil), and its value. -/
inductive Cd where
  | nil
  | any
  | mask (m v : Int)
  | rng (l h : Int)
  deriving DecidableEq
def Cd.v : Cd → Value
  | .nil => .nilIface
  | .any => .iface 160 (.agg #[])
  | .mask m v => .iface 162 (.agg #[.int .u64 m, .int .u64 v])
  | .rng l h => .iface 167 (.agg #[.int .u64 l, .int .u64 h])
def Cd.con : Cd → Int × Int × Int
  | .nil => (0, 0, 0)
  | .any => (0, 0, 0)
  | .mask m v => (1, m, v)
  | .rng l h => (2, l, h)
def nrN (a b : Int) : Int := IntKind.u64.wrap (IntKind.u64.wrap (b - a) + 1)
def nrRaw (a b : Int) : Cd :=
  if nrN a b = 0 then .any
  else if bits .and .u64 (nrN a b) (IntKind.u64.wrap (nrN a b - 1)) = 0 ∧ bits .and .u64 a (IntKind.u64.wrap (nrN a b - 1)) = 0 then .mask (bits .xor .u64 18446744073709551615 (IntKind.u64.wrap (nrN a b - 1))) a
  else .rng a b
def normRaw (k a b : Int) : Cd × Bool :=
  if k = 0 then (.any, a == 0 && b == 0)
  else if k = 1 then (if a = 0 ∧ b = 0 then (.any, true) else (.mask a b, bits .andNot .u64 b a == 0))
  else if k = 2 then (if a > b then (.nil, false) else (nrRaw a b, true))
  else (.nil, false)
def conV (c : Int × Int × Int) : Value := .agg #[.int .i64 c.1, .int .u64 c.2.1, .int .u64 c.2.2]
/-! Questions for a condition's type. -/
theorem taM_nil (W : World) : (Instr.typeAssert .nilIface 95 162 true).run Try.prog W = .ok (.tuple #[.agg #[.int .u64 0, .int .u64 0], .bool false]) W := by kernel_rfl
theorem taM_any (v : Value) (W : World) : (Instr.typeAssert (.iface 160 v) 95 162 true).run Try.prog W = .ok (.tuple #[.agg #[.int .u64 0, .int .u64 0], .bool false]) W := by kernel_rfl
theorem taM_mask (v : Value) (W : World) : (Instr.typeAssert (.iface 162 v) 95 162 true).run Try.prog W = .ok (.tuple #[v, .bool true]) W := by kernel_rfl
theorem taM_rng (v : Value) (W : World) : (Instr.typeAssert (.iface 167 v) 95 162 true).run Try.prog W = .ok (.tuple #[.agg #[.int .u64 0, .int .u64 0], .bool false]) W := by kernel_rfl
theorem taR_nil (W : World) : (Instr.typeAssert .nilIface 95 167 true).run Try.prog W = .ok (.tuple #[.agg #[.int .u64 0, .int .u64 0], .bool false]) W := by kernel_rfl
theorem taR_any (v : Value) (W : World) : (Instr.typeAssert (.iface 160 v) 95 167 true).run Try.prog W = .ok (.tuple #[.agg #[.int .u64 0, .int .u64 0], .bool false]) W := by kernel_rfl
theorem taR_mask (v : Value) (W : World) : (Instr.typeAssert (.iface 162 v) 95 167 true).run Try.prog W = .ok (.tuple #[.agg #[.int .u64 0, .int .u64 0], .bool false]) W := by kernel_rfl
theorem taR_rng (v : Value) (W : World) : (Instr.typeAssert (.iface 167 v) 95 167 true).run Try.prog W = .ok (.tuple #[v, .bool true]) W := by kernel_rfl

end Go.Proofs.Ytdipinclchkhjaa.P

namespace Go.Proofs.Ytdipinclchkhjaa.P
open Go.RowKit Go.Proofs.YtdipinclchkhjaaW.PrintWords Go.Proofs.YtdipinclchkhjaaW.PrintLast Go.Proofs.YtdipinclchkhjaaW.PrintMore
attribute [local go_sem] max2_int min2_int max_two min_two max_three min_three max_four min_four   -- for this text's walks alone
set_option linter.unusedVariables false
set_option linter.unusedSimpArgs false

-- HAND 113
-- IMPORT Derived.Test.YtdipinclchkhjaaHCond
set_option maxHeartbeats 400000 in
theorem impl_normalRange.does (a b : Int) (w : World) : Calls Try.prog 113 #[.int .u64 a, .int .u64 b] w fun e w' => e = .returned (nrRaw a b).v ∧ w' = w := by
  have hmax : IntKind.u64.max = 18446744073709551615 := rfl
  go_enter Try.func113, Try.ntmps113
  go_wp2
  all_goals (go_ret)
  all_goals (refine ⟨?_, rfl⟩; simp_all [nrRaw, nrN, Cd.v])

end Go.Proofs.Ytdipinclchkhjaa.P

namespace Go.Proofs.Ytdipinclchkhjaa.P
open Go.RowKit Go.Proofs.YtdipinclchkhjaaW.PrintWords Go.Proofs.YtdipinclchkhjaaW.PrintLast Go.Proofs.YtdipinclchkhjaaW.PrintMore
attribute [local go_sem] max2_int min2_int max_two min_two max_three min_three max_four min_four   -- for this text's walks alone
set_option linter.unusedVariables false
set_option linter.unusedSimpArgs false

-- HAND 62
-- IMPORT Derived.Test.YtdipinclchkhjaaHCond
set_option maxHeartbeats 1000000 in
theorem impl_normal.does (k a b : Int) (w : World) : Calls Try.prog 62 #[.agg #[.int .i64 k, .int .u64 a, .int .u64 b]] w fun e w' => e = .returned (.tuple #[(normRaw k a b).1.v, .bool (normRaw k a b).2]) ∧ Below w.heap.size w w' := by
  by_cases c0 : k = 0
  · subst c0
    by_cases c1 : a = 0
    · subst c1
      go_enter Try.func62, Try.ntmps62
      go_wp2
      repeat (go_quiet (fail); try go_wp2)
      go_ret2
      exact ⟨by simp [normRaw, Cd.v], pw_below_drewN (below_alloc (Below.refl _ _) _) _⟩
    · have c1b : (a == 0) = false := beq_eq_false_iff_ne.mpr c1
      go_enter Try.func62, Try.ntmps62
      go_wp2
      repeat (go_quiet (fail); try go_wp2)
      go_ret2
      exact ⟨by simp [normRaw, Cd.v, c1b], pw_below_drewN (below_alloc (Below.refl _ _) _) _⟩
  · have c0b : (k == 0) = false := beq_eq_false_iff_ne.mpr c0
    by_cases c1 : k = 1
    · subst c1
      by_cases c2 : a = 0
      · subst c2
        by_cases c3 : b = 0
        · subst c3
          go_enter Try.func62, Try.ntmps62
          go_wp2
          go_ret2
          exact ⟨by simp [normRaw, Cd.v], below_alloc (Below.refl _ _) _⟩
        · have c3b : (b == 0) = false := beq_eq_false_iff_ne.mpr c3
          go_enter Try.func62, Try.ntmps62
          go_wp2
          repeat (go_quiet (fail); try go_wp2)
          go_ret2
          exact ⟨by simp [normRaw, Cd.v, c3], pw_below_drewN (below_alloc (Below.refl _ _) _) _⟩
      · have c2b : (a == 0) = false := beq_eq_false_iff_ne.mpr c2
        go_enter Try.func62, Try.ntmps62
        go_wp2
        repeat (go_quiet (fail); try go_wp2)
        go_ret2
        exact ⟨by simp [normRaw, Cd.v, c2], pw_below_drewN (below_alloc (Below.refl _ _) _) _⟩
    · have c1b : (k == 1) = false := beq_eq_false_iff_ne.mpr c1
      by_cases c2 : k = 2
      · subst c2
        by_cases c3 : b < a
        · go_enter Try.func62, Try.ntmps62
          go_wp2
          go_ret2
          exact ⟨by simp [normRaw, Cd.v, c3], below_alloc (Below.refl _ _) _⟩
        · have c3b : decide (b < a) = false := decide_eq_false c3
          go_enter Try.func62, Try.ntmps62
          go_wp2_with (go_at_call 113; refine (impl_normalRange.does _ _ _).mono ?_; rintro e w' ⟨rfl, rfl⟩)
          go_ret2
          have c3n : ¬ b < a := by simpa using c3b
          exact ⟨by simp [normRaw, c3n], below_alloc (Below.refl _ _) _⟩
      · have c2b : (k == 2) = false := beq_eq_false_iff_ne.mpr c2
        go_enter Try.func62, Try.ntmps62
        go_wp2
        go_ret2
        exact ⟨by simp [normRaw, Cd.v, c0, c1, c2], below_alloc (Below.refl _ _) _⟩

end Go.Proofs.Ytdipinclchkhjaa.P

namespace Go.Proofs.Ytdipinclchkhjaa.P
open Go.RowKit Go.Proofs.YtdipinclchkhjaaW.PrintWords Go.Proofs.YtdipinclchkhjaaW.PrintLast Go.Proofs.YtdipinclchkhjaaW.PrintMore
attribute [local go_sem] max2_int min2_int max_two min_two max_three min_three max_four min_four   -- for this text's walks alone
set_option linter.unusedVariables false
set_option linter.unusedSimpArgs false

-- HAND 63
-- IMPORT Derived.Test.YtdipinclchkhjaaHCond
-- IMPORT Derived.Handy
-- IMPORT Derived.Test.YtdipinclchkhjaaWLen64
def Cd.ends : Cd → Int × Int
  | .nil => (0, 0)
  | .any => (0, 18446744073709551615)
  | .mask m v => (v, bits .or .u64 v (bits .xor .u64 18446744073709551615 m))
  | .rng l h => (l, h)
def Cd.holds (c : Cd) (x : Int) : Bool := match c with
  | .nil => true
  | .any => true
  | .mask m v => bits .and .u64 x m == v
  | .rng l h => decide (l ≤ x) && decide (x ≤ h)
def insRaw (a b : Cd) : Bool := match b with
  | .rng l h => (Cd.rng l h).holds a.ends.1 && (Cd.rng l h).holds a.ends.2
  | .mask m v => (match a with
    | .mask m2 v2 => bits .andNot .u64 m m2 == 0 && bits .and .u64 v2 m == v
    | .rng l2 h2 => bits .and .u64 m (IntKind.u64.wrap (IntKind.u64.wrap (2 ^ min (Lib.bitLen (bits .xor .u64 l2 h2).toNat) 64) - 1)) == 0 && bits .and .u64 l2 m == v
    | _ => false)
  | _ => true
theorem u64lt_xor (a b : Int) : 0 ≤ bits .xor .u64 a b ∧ bits .xor .u64 a b ≤ 18446744073709551615 := by
  unfold bits
  simp only [IntKind.bits, IntKind.signed, IntKind.wrap]
  simp
  omega
set_option maxHeartbeats 1000000 in
theorem impl_inside.does1 (a : Cd) (h1 : a ≠ .nil) (l h : Int) (w : World) : Calls Try.prog 63 #[a.v, (Cd.rng l h).v] w fun e w' => e = .returned (.bool (insRaw a (.rng l h))) ∧ Below w.heap.size w w' := by
  have h1 := taR_rng
  cases a with
  | nil => contradiction
  | any =>
    simp only [Cd.v]
    go_enter Try.func63, Try.ntmps63
    go_wp2
    repeat (go_quiet (fail); try go_wp2)
    all_goals go_ret
    all_goals refine ⟨congrArg Ending.returned (congrArg Value.bool ?_), by repeat (first | exact Below.refl _ _ | refine below_alloc ?_ _ | refine pw_below_drewN ?_ _)⟩
    all_goals have hmax_ : IntKind.u64.max = 18446744073709551615 := rfl
    all_goals simp only [insRaw, Cd.holds, Cd.ends]
    all_goals first
      | rfl
      | (rw [Bool.eq_iff_iff]; simp only [Bool.and_eq_true, decide_eq_true_eq, Bool.false_eq_true, false_iff, true_iff, beq_iff_eq, iff_self, and_false, and_true, not_and, not_false_eq_true] <;> omega)
      | (rw [Bool.eq_iff_iff]; simp only [Bool.and_eq_true, decide_eq_true_eq, Bool.false_eq_true, false_iff, true_iff, beq_iff_eq, not_and]; grind)
  | mask m v =>
    simp only [Cd.v]
    go_enter Try.func63, Try.ntmps63
    go_wp2
    repeat (go_quiet (fail); try go_wp2)
    all_goals go_ret
    all_goals refine ⟨congrArg Ending.returned (congrArg Value.bool ?_), by repeat (first | exact Below.refl _ _ | refine below_alloc ?_ _ | refine pw_below_drewN ?_ _)⟩
    all_goals have hmax_ : IntKind.u64.max = 18446744073709551615 := rfl
    all_goals simp only [insRaw, Cd.holds, Cd.ends]
    all_goals first
      | rfl
      | (rw [Bool.eq_iff_iff]; simp only [Bool.and_eq_true, decide_eq_true_eq, Bool.false_eq_true, false_iff, true_iff, beq_iff_eq, iff_self, and_false, and_true, not_and, not_false_eq_true] <;> omega)
      | (rw [Bool.eq_iff_iff]; simp only [Bool.and_eq_true, decide_eq_true_eq, Bool.false_eq_true, false_iff, true_iff, beq_iff_eq, not_and]; grind)
  | rng l2 h2 =>
    simp only [Cd.v]
    go_enter Try.func63, Try.ntmps63
    go_wp2
    repeat (go_quiet (fail); try go_wp2)
    all_goals go_ret
    all_goals refine ⟨congrArg Ending.returned (congrArg Value.bool ?_), by repeat (first | exact Below.refl _ _ | refine below_alloc ?_ _ | refine pw_below_drewN ?_ _)⟩
    all_goals have hmax_ : IntKind.u64.max = 18446744073709551615 := rfl
    all_goals simp only [insRaw, Cd.holds, Cd.ends]
    all_goals first
      | rfl
      | (rw [Bool.eq_iff_iff]; simp only [Bool.and_eq_true, decide_eq_true_eq, Bool.false_eq_true, false_iff, true_iff, beq_iff_eq, iff_self, and_false, and_true, not_and, not_false_eq_true] <;> omega)
      | (rw [Bool.eq_iff_iff]; simp only [Bool.and_eq_true, decide_eq_true_eq, Bool.false_eq_true, false_iff, true_iff, beq_iff_eq, not_and]; grind)
set_option maxHeartbeats 1000000 in
theorem impl_inside.does2 (a : Cd) (h1 : a ≠ .nil) (m v : Int) (w : World) : Calls Try.prog 63 #[a.v, (Cd.mask m v).v] w fun e w' => e = .returned (.bool (insRaw a (.mask m v))) ∧ Below w.heap.size w w' := by
  have h1 := taR_mask
  have h2 := taM_mask
  cases a with
  | nil => contradiction
  | any =>
    have h3 := taM_any
    have h4 := taR_any
    simp only [Cd.v]
    go_enter Try.func63, Try.ntmps63
    go_wp2
    repeat (go_quiet (fail); try go_wp2)
    all_goals go_ret
    all_goals refine ⟨congrArg Ending.returned (congrArg Value.bool ?_), by repeat (first | exact Below.refl _ _ | refine below_alloc ?_ _ | refine pw_below_drewN ?_ _)⟩
    all_goals have hmax_ : IntKind.u64.max = 18446744073709551615 := rfl
    all_goals simp only [insRaw, Cd.holds, Cd.ends]
    all_goals first
      | rfl
      | (rw [Bool.eq_iff_iff]; simp only [Bool.and_eq_true, decide_eq_true_eq, Bool.false_eq_true, false_iff, true_iff, beq_iff_eq, iff_self, and_false, and_true, not_and, not_false_eq_true] <;> omega)
      | (rw [Bool.eq_iff_iff]; simp only [Bool.and_eq_true, decide_eq_true_eq, Bool.false_eq_true, false_iff, true_iff, beq_iff_eq, not_and]; grind)
  | mask m v =>
    simp only [Cd.v]
    go_enter Try.func63, Try.ntmps63
    go_wp2
    repeat (go_quiet (fail); try go_wp2)
    all_goals go_ret
    all_goals refine ⟨congrArg Ending.returned (congrArg Value.bool ?_), by repeat (first | exact Below.refl _ _ | refine below_alloc ?_ _ | refine pw_below_drewN ?_ _)⟩
    all_goals have hmax_ : IntKind.u64.max = 18446744073709551615 := rfl
    all_goals simp only [insRaw, Cd.holds, Cd.ends]
    all_goals first
      | rfl
      | (rw [Bool.eq_iff_iff]; simp only [Bool.and_eq_true, decide_eq_true_eq, Bool.false_eq_true, false_iff, true_iff, beq_iff_eq, iff_self, and_false, and_true, not_and, not_false_eq_true] <;> omega)
      | (rw [Bool.eq_iff_iff]; simp only [Bool.and_eq_true, decide_eq_true_eq, Bool.false_eq_true, false_iff, true_iff, beq_iff_eq, not_and]; grind)
  | rng l2 h2 =>
    have h3 := taM_rng
    have h4 := taR_rng
    obtain ⟨x0, x1⟩ := u64lt_xor l2 h2
    simp only [Cd.v]
    go_enter Try.func63, Try.ntmps63
    go_wp2_with (first | (go_at_call 115; refine (Try.bits_Len64 _ _ x0 x1).mono ?_; rintro e w1 ⟨rfl, rfl⟩) | go_in)
    repeat (go_quiet (fail); try go_wp2_with (first | (go_at_call 115; refine (Try.bits_Len64 _ _ x0 x1).mono ?_; rintro e w1 ⟨rfl, rfl⟩) | go_in))
    all_goals go_ret
    all_goals refine ⟨congrArg Ending.returned (congrArg Value.bool ?_), by repeat (first | exact Below.refl _ _ | refine below_alloc ?_ _ | refine pw_below_drewN ?_ _)⟩
    all_goals have hmax_ : IntKind.u64.max = 18446744073709551615 := rfl
    all_goals simp only [insRaw, Cd.holds, Cd.ends]
    all_goals first
      | rfl
      | (rw [Bool.eq_iff_iff]; simp only [Bool.and_eq_true, decide_eq_true_eq, Bool.false_eq_true, false_iff, true_iff, beq_iff_eq, iff_self, and_false, and_true, not_and, not_false_eq_true] <;> omega)
      | (rw [Bool.eq_iff_iff]; simp only [Bool.and_eq_true, decide_eq_true_eq, Bool.false_eq_true, false_iff, true_iff, beq_iff_eq, not_and]; grind)
set_option maxHeartbeats 1000000 in
theorem impl_inside.does (a b : Cd) (h1 : a ≠ .nil) (w : World) : Calls Try.prog 63 #[a.v, b.v] w fun e w' => e = .returned (.bool (insRaw a b)) ∧ Below w.heap.size w w' := by
  cases b with
  | rng l h => exact impl_inside.does1 a h1 l h w
  | mask m v => exact impl_inside.does2 a h1 m v w
  | nil =>
    have h2 := taR_nil
    have h3 := taM_nil
    cases a with
    | nil => contradiction
    | any =>
      simp only [Cd.v]
      go_enter Try.func63, Try.ntmps63
      go_wp2
      repeat (go_quiet (fail); try go_wp2)
      all_goals go_ret
      all_goals refine ⟨congrArg Ending.returned (congrArg Value.bool ?_), by repeat (first | exact Below.refl _ _ | refine below_alloc ?_ _ | refine pw_below_drewN ?_ _)⟩
      all_goals have hmax_ : IntKind.u64.max = 18446744073709551615 := rfl
      all_goals simp only [insRaw, Cd.holds, Cd.ends]
      all_goals first
        | rfl
        | (rw [Bool.eq_iff_iff]; simp only [Bool.and_eq_true, decide_eq_true_eq, Bool.false_eq_true, false_iff, true_iff, beq_iff_eq, iff_self, and_false, and_true, not_and, not_false_eq_true] <;> omega)
        | (rw [Bool.eq_iff_iff]; simp only [Bool.and_eq_true, decide_eq_true_eq, Bool.false_eq_true, false_iff, true_iff, beq_iff_eq, not_and]; grind)
    | mask m v =>
      simp only [Cd.v]
      go_enter Try.func63, Try.ntmps63
      go_wp2
      repeat (go_quiet (fail); try go_wp2)
      all_goals go_ret
      all_goals refine ⟨congrArg Ending.returned (congrArg Value.bool ?_), by repeat (first | exact Below.refl _ _ | refine below_alloc ?_ _ | refine pw_below_drewN ?_ _)⟩
      all_goals have hmax_ : IntKind.u64.max = 18446744073709551615 := rfl
      all_goals simp only [insRaw, Cd.holds, Cd.ends]
      all_goals first
        | rfl
        | (rw [Bool.eq_iff_iff]; simp only [Bool.and_eq_true, decide_eq_true_eq, Bool.false_eq_true, false_iff, true_iff, beq_iff_eq, iff_self, and_false, and_true, not_and, not_false_eq_true] <;> omega)
        | (rw [Bool.eq_iff_iff]; simp only [Bool.and_eq_true, decide_eq_true_eq, Bool.false_eq_true, false_iff, true_iff, beq_iff_eq, not_and]; grind)
    | rng l2 h2 =>
      simp only [Cd.v]
      go_enter Try.func63, Try.ntmps63
      go_wp2
      repeat (go_quiet (fail); try go_wp2)
      all_goals go_ret
      all_goals refine ⟨congrArg Ending.returned (congrArg Value.bool ?_), by repeat (first | exact Below.refl _ _ | refine below_alloc ?_ _ | refine pw_below_drewN ?_ _)⟩
      all_goals have hmax_ : IntKind.u64.max = 18446744073709551615 := rfl
      all_goals simp only [insRaw, Cd.holds, Cd.ends]
      all_goals first
        | rfl
        | (rw [Bool.eq_iff_iff]; simp only [Bool.and_eq_true, decide_eq_true_eq, Bool.false_eq_true, false_iff, true_iff, beq_iff_eq, iff_self, and_false, and_true, not_and, not_false_eq_true] <;> omega)
        | (rw [Bool.eq_iff_iff]; simp only [Bool.and_eq_true, decide_eq_true_eq, Bool.false_eq_true, false_iff, true_iff, beq_iff_eq, not_and]; grind)
  | any =>
    have h2 := taR_any
    have h3 := taM_any
    cases a with
    | nil => contradiction
    | any =>
      simp only [Cd.v]
      go_enter Try.func63, Try.ntmps63
      go_wp2
      repeat (go_quiet (fail); try go_wp2)
      all_goals go_ret
      all_goals refine ⟨congrArg Ending.returned (congrArg Value.bool ?_), by repeat (first | exact Below.refl _ _ | refine below_alloc ?_ _ | refine pw_below_drewN ?_ _)⟩
      all_goals have hmax_ : IntKind.u64.max = 18446744073709551615 := rfl
      all_goals simp only [insRaw, Cd.holds, Cd.ends]
      all_goals first
        | rfl
        | (rw [Bool.eq_iff_iff]; simp only [Bool.and_eq_true, decide_eq_true_eq, Bool.false_eq_true, false_iff, true_iff, beq_iff_eq, iff_self, and_false, and_true, not_and, not_false_eq_true] <;> omega)
        | (rw [Bool.eq_iff_iff]; simp only [Bool.and_eq_true, decide_eq_true_eq, Bool.false_eq_true, false_iff, true_iff, beq_iff_eq, not_and]; grind)
    | mask m v =>
      simp only [Cd.v]
      go_enter Try.func63, Try.ntmps63
      go_wp2
      repeat (go_quiet (fail); try go_wp2)
      all_goals go_ret
      all_goals refine ⟨congrArg Ending.returned (congrArg Value.bool ?_), by repeat (first | exact Below.refl _ _ | refine below_alloc ?_ _ | refine pw_below_drewN ?_ _)⟩
      all_goals have hmax_ : IntKind.u64.max = 18446744073709551615 := rfl
      all_goals simp only [insRaw, Cd.holds, Cd.ends]
      all_goals first
        | rfl
        | (rw [Bool.eq_iff_iff]; simp only [Bool.and_eq_true, decide_eq_true_eq, Bool.false_eq_true, false_iff, true_iff, beq_iff_eq, iff_self, and_false, and_true, not_and, not_false_eq_true] <;> omega)
        | (rw [Bool.eq_iff_iff]; simp only [Bool.and_eq_true, decide_eq_true_eq, Bool.false_eq_true, false_iff, true_iff, beq_iff_eq, not_and]; grind)
    | rng l2 h2 =>
      simp only [Cd.v]
      go_enter Try.func63, Try.ntmps63
      go_wp2
      repeat (go_quiet (fail); try go_wp2)
      all_goals go_ret
      all_goals refine ⟨congrArg Ending.returned (congrArg Value.bool ?_), by repeat (first | exact Below.refl _ _ | refine below_alloc ?_ _ | refine pw_below_drewN ?_ _)⟩
      all_goals have hmax_ : IntKind.u64.max = 18446744073709551615 := rfl
      all_goals simp only [insRaw, Cd.holds, Cd.ends]
      all_goals first
        | rfl
        | (rw [Bool.eq_iff_iff]; simp only [Bool.and_eq_true, decide_eq_true_eq, Bool.false_eq_true, false_iff, true_iff, beq_iff_eq, iff_self, and_false, and_true, not_and, not_false_eq_true] <;> omega)
        | (rw [Bool.eq_iff_iff]; simp only [Bool.and_eq_true, decide_eq_true_eq, Bool.false_eq_true, false_iff, true_iff, beq_iff_eq, not_and]; grind)

end Go.Proofs.Ytdipinclchkhjaa.P

namespace Go.Proofs.Ytdipinclchkhjaa.P
open Go.RowKit Go.Proofs.YtdipinclchkhjaaW.PrintWords Go.Proofs.YtdipinclchkhjaaW.PrintLast Go.Proofs.YtdipinclchkhjaaW.PrintMore
attribute [local go_sem] max2_int min2_int max_two min_two max_three min_three max_four min_four   -- for this text's walks alone
set_option linter.unusedVariables false
set_option linter.unusedSimpArgs false

-- HAND 15
-- IMPORT Derived.Test.YtdipinclchkhjaaHCond
-- IMPORT Derived.Sort.AtCall
def impl_ConWithin.f (a0_0 : Int) (a0_1 : Int) (a0_2 : Int) (a1_0 : Int) (a1_1 : Int) (a1_2 : Int) : Option Bool := some ((normRaw a0_0 a0_1 a0_2).2 && ((normRaw a1_0 a1_1 a1_2).2 && insRaw (normRaw a0_0 a0_1 a0_2).1 (normRaw a1_0 a1_1 a1_2).1))
theorem normRaw_ne {k a b : Int} (h : (normRaw k a b).2 = true) : (normRaw k a b).1 ≠ .nil := by
  unfold normRaw nrRaw at h ⊢
  by_cases h0 : k = 0
  · rw [if_pos h0]; simp
  · rw [if_neg h0] at h ⊢
    by_cases h1 : k = 1
    · rw [if_pos h1]; split <;> simp
    · rw [if_neg h1] at h ⊢
      by_cases h2 : k = 2
      · rw [if_pos h2] at h ⊢
        by_cases h3 : a > b
        · rw [if_pos h3] at h; simp at h
        · rw [if_neg h3]
          dsimp only
          split
          · simp
          · split <;> simp
      · rw [if_neg h2] at h; simp at h
set_option maxHeartbeats 1000000 in
theorem impl_ConWithin.calls (a0_0 : Int) (a0_1 : Int) (a0_2 : Int) (a1_0 : Int) (a1_1 : Int) (a1_2 : Int) (r : Bool) (w : World) (h : impl_ConWithin.f a0_0 a0_1 a0_2 a1_0 a1_1 a1_2 = some r) :
    Calls Try.prog 15 #[.agg #[.int .i64 a0_0, .int .u64 a0_1, .int .u64 a0_2], .agg #[.int .i64 a1_0, .int .u64 a1_1, .int .u64 a1_2]] w fun e w' => e = .returned (.bool r) ∧ Below w.heap.size w w' := by
  have hn1 := normRaw_ne (k := a0_0) (a := a0_1) (b := a0_2)
  unfold impl_ConWithin.f at h
  have H1 := impl_normal.does a0_0 a0_1 a0_2
  have H2 := impl_normal.does a1_0 a1_1 a1_2
  generalize normRaw a0_0 a0_1 a0_2 = p at h H1 hn1
  generalize normRaw a1_0 a1_1 a1_2 = q at h H2
  obtain ⟨c1, b1⟩ := p
  obtain ⟨c2, b2⟩ := q
  simp only at h H1 H2 hn1
  have HN1 := Aside0.mk H1
  have HN2 := Aside0.mk H2
  clear H1 H2
  cases b1 with
  | false =>
    simp only [Bool.false_and, Option.some.injEq] at h
    subst h
    cases b2 <;> (
      go_enter Try.func15, Try.ntmps15
      go_wp2_with (first | (go_at_call_has 62 a0_0; refine (HN1.out _).mono ?_; rintro e w1 ⟨rfl, hb1⟩; obtain ⟨hc, hf⟩ := bcell hb1; have HB1 := Aside0.mk hb1; clear hb1) | (go_at_call_has 62 a1_0; refine (HN2.out _).mono ?_; rintro e w2 ⟨rfl, hb2⟩; have HB2 := Aside0.mk hb2; clear hb2))
      go_ret
      exact ⟨rfl, by
        refine below_call (below_call ?_ HB1.out ?_) HB2.out ?_
        · exact below_alloc (below_alloc (Below.refl _ _) _) _
        · simp; omega
        · exact Nat.le_trans (by simp; omega) HB1.out.size⟩)
  | true =>
    cases b2 with
    | false =>
      simp only [Bool.false_and, Bool.and_false, Option.some.injEq] at h
      subst h
      go_enter Try.func15, Try.ntmps15
      go_wp2_with (first | (go_at_call_has 62 a0_0; refine (HN1.out _).mono ?_; rintro e w1 ⟨rfl, hb1⟩; obtain ⟨hc, hf⟩ := bcell hb1; have HB1 := Aside0.mk hb1; clear hb1) | (go_at_call_has 62 a1_0; refine (HN2.out _).mono ?_; rintro e w2 ⟨rfl, hb2⟩; have HB2 := Aside0.mk hb2; clear hb2))
      go_ret
      exact ⟨rfl, by
        refine below_call (below_call ?_ HB1.out ?_) HB2.out ?_
        · exact below_alloc (below_alloc (Below.refl _ _) _) _
        · simp; omega
        · exact Nat.le_trans (by simp; omega) HB1.out.size⟩
    | true =>
      simp only [Bool.true_and, Option.some.injEq] at h
      have HI := Aside0.mk (impl_inside.does c1 c2 (hn1 rfl))
      rw [h] at HI
      go_enter Try.func15, Try.ntmps15
      go_wp2_with (first | (first | (go_at_call_has 62 a0_0; refine (HN1.out _).mono ?_; rintro e w1 ⟨rfl, hb1⟩; obtain ⟨hc, hf⟩ := bcell hb1; have HB1 := Aside0.mk hb1; clear hb1) | (go_at_call_has 62 a1_0; refine (HN2.out _).mono ?_; rintro e w2 ⟨rfl, hb2⟩; have HB2 := Aside0.mk hb2; clear hb2)) | (go_at_call 63; refine (HI.out _).mono ?_; rintro e w3 ⟨rfl, hb3⟩; have HB3 := Aside0.mk hb3; clear hb3))
      go_ret
      exact ⟨rfl, by
        refine below_call (below_call (below_call ?_ HB1.out ?_) HB2.out ?_) HB3.out ?_
        · exact below_alloc (below_alloc (Below.refl _ _) _) _
        · simp; omega
        · exact Nat.le_trans (by simp; omega) HB1.out.size
        · exact Nat.le_trans (Nat.le_trans (by simp; omega) HB1.out.size) HB2.out.size⟩

end Go.Proofs.Ytdipinclchkhjaa.P

namespace Go.Proofs.Ytdipinclchkhjaa.P
open Go.RowKit Go.Proofs.YtdipinclchkhjaaW.PrintWords Go.Proofs.YtdipinclchkhjaaW.PrintLast Go.Proofs.YtdipinclchkhjaaW.PrintMore
attribute [local go_sem] max2_int min2_int max_two min_two max_three min_three max_four min_four   -- for this text's walks alone
set_option linter.unusedVariables false
set_option linter.unusedSimpArgs false

-- HAND 87
-- IMPORT Derived.Test.YtdipinclchkhjaaHCond
set_option maxHeartbeats 1000000 in
theorem impl_conOf.does (c : Cd) (w : World) : Calls Try.prog 87 #[c.v] w fun e w' => e = .returned (conV c.con) ∧ Below w.heap.size w w' := by
  cases c with
  | nil =>
    have h1 := taM_nil
    have h2 := taR_nil
    simp only [Cd.v]
    go_enter Try.func87, Try.ntmps87
    go_wp2
    exact bodyPost_ret (v := conV Cd.nil.con) (by simp [results, Try.results87, go_sem, conV, Cd.con]) rfl ⟨rfl, by repeat (first | exact Below.refl _ _ | apply below_alloc)⟩
  | any =>
    have h1 := taM_any
    have h2 := taR_any
    simp only [Cd.v]
    go_enter Try.func87, Try.ntmps87
    go_wp2
    exact bodyPost_ret (v := conV Cd.any.con) (by simp [results, Try.results87, go_sem, conV, Cd.con]) rfl ⟨rfl, by repeat (first | exact Below.refl _ _ | apply below_alloc)⟩
  | mask m v =>
    have h1 := taM_mask
    simp only [Cd.v]
    go_enter Try.func87, Try.ntmps87
    go_wp2
    exact bodyPost_ret (v := conV (Cd.mask m v).con) (by simp [results, Try.results87, go_sem, conV, Cd.con]) rfl ⟨rfl, by repeat (first | exact Below.refl _ _ | apply below_alloc)⟩
  | rng l h =>
    have h1 := taM_rng
    have h2 := taR_rng
    simp only [Cd.v]
    go_enter Try.func87, Try.ntmps87
    go_wp2
    exact bodyPost_ret (v := conV (Cd.rng l h).con) (by simp [results, Try.results87, go_sem, conV, Cd.con]) rfl ⟨rfl, by repeat (first | exact Below.refl _ _ | apply below_alloc)⟩

end Go.Proofs.Ytdipinclchkhjaa.P
