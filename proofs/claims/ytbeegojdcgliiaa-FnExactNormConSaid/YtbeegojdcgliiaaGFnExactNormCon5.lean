import Derived.Test.YtbeegojdcgliiaaGFnExactNormCon1
namespace Go.Proofs.Ytbeegojdcgliiaa.P
open Go.RowKit Go.Proofs.YtbeegojdcgliiaaW.PrintWords Go.Proofs.YtbeegojdcgliiaaW.PrintLast Go.Proofs.YtbeegojdcgliiaaW.PrintMore
set_option linter.unusedVariables false
set_option linter.unusedSimpArgs false

/-- What an elder world holds is held behind a call, too. -/
theorem bcell {W w1 : World} (hb : Below W.heap.size W w1) : (∀ b o, b < W.heap.size → w1.cell? ⟨b, o, none⟩ = W.cell? ⟨b, o, none⟩) ∧ (∀ b o, b < W.heap.size → w1.frozen? ⟨b, o, none⟩ = W.frozen? ⟨b, o, none⟩) :=
  ⟨fun b o h => hb.cell (p := ⟨b, o, none⟩) h, fun b o h => hb.frozen (p := ⟨b, o, none⟩) h⟩
/-- Behind a call that began at a later world. -/
theorem below_call {B : Nat} {w W w1 : World} (h : Below B w W) (hb : Below W.heap.size W w1) (hB : B ≤ W.heap.size) : Below B w w1 := h.trans (hb.mono hB)
theorem below_set1 {B : Nat} {w W : World} (h : Below B w W) {p : Addr} (hp : B ≤ p.block) (v : Value) : Below B w (W.setCell p v) := h.setCell hp v
/-- A struct of three fields, stored field by field. -/
theorem blk_put3 {w : World} {g : Nat} {t : TypeId} {x0 x1 x2 : Value} (h : w.heap[g]? = some (.cells #[x0, x1, x2] t (0, 0))) (y0 y1 y2 : Value) :
    (((w.setCell ⟨g, 0, none⟩ y0).setCell ⟨g, 1, none⟩ y1).setCell ⟨g, 2, none⟩ y2).heap[g]? = some (.cells #[y0, y1, y2] t (0, 0)) :=
  blk_put (cs := #[y0, y1, x2]) (blk_put (cs := #[y0, x1, x2]) (blk_put h 0 y0 rfl) 1 y1 rfl) 2 y2 rfl
theorem alloc_size (w : World) (o : Obj) : (w.alloc o).heap.size = w.heap.size + 1 := by simp

end Go.Proofs.Ytbeegojdcgliiaa.P

namespace Go.Proofs.Ytbeegojdcgliiaa.P
open Go.RowKit Go.Proofs.YtbeegojdcgliiaaW.PrintWords Go.Proofs.YtbeegojdcgliiaaW.PrintLast Go.Proofs.YtbeegojdcgliiaaW.PrintMore
set_option linter.unusedVariables false
set_option linter.unusedSimpArgs false

/-! A condition inside: one of three types behind an interface (or nil), and its value. -/
inductive Cd where
  | nil
  | any
  | mask (m v : Int)
  | rng (l h : Int)
  deriving DecidableEq
def Cd.v : Cd → Value
  | .nil => .nilIface
  | .any => .iface 86 (.agg #[])
  | .mask m v => .iface 88 (.agg #[.int .u64 m, .int .u64 v])
  | .rng l h => .iface 91 (.agg #[.int .u64 l, .int .u64 h])
def Cd.con : Cd → Int × Int × Int
  | .nil => (0, 0, 0)
  | .any => (0, 0, 0)
  | .mask m v => (1, m, v)
  | .rng l h => (2, l, h)
def nrN (a b : Int) : Int := IntKind.u64.wrap (IntKind.u64.wrap (b - a) + 1)
def nrRaw (a b : Int) : Cd :=
  if nrN a b = 0 then .any
  else if bits .and .u64 (nrN a b) (IntKind.u64.wrap (nrN a b - 1)) = 0 ∧ bits .and .u64 a (IntKind.u64.wrap (nrN a b - 1)) = 0 then .mask (bits .xor .u64 18446744073709551615 (IntKind.u64.wrap (nrN a b - 1))) a
  else .rng a b
def normRaw (k a b : Int) : Cd × Bool :=
  if k = 0 then (.any, a == 0 && b == 0)
  else if k = 1 then (if a = 0 ∧ b = 0 then (.any, true) else (.mask a b, bits .andNot .u64 b a == 0))
  else if k = 2 then (if a > b then (.nil, false) else (nrRaw a b, true))
  else (.nil, false)
def conV (c : Int × Int × Int) : Value := .agg #[.int .i64 c.1, .int .u64 c.2.1, .int .u64 c.2.2]
/-! Questions for a condition's type. -/
theorem taM_nil (W : World) : (Instr.typeAssert .nilIface 62 88 true).run Try.prog W = .ok (.tuple #[.agg #[.int .u64 0, .int .u64 0], .bool false]) W := by rfl
theorem taM_any (v : Value) (W : World) : (Instr.typeAssert (.iface 86 v) 62 88 true).run Try.prog W = .ok (.tuple #[.agg #[.int .u64 0, .int .u64 0], .bool false]) W := by rfl
theorem taM_mask (v : Value) (W : World) : (Instr.typeAssert (.iface 88 v) 62 88 true).run Try.prog W = .ok (.tuple #[v, .bool true]) W := by rfl
theorem taM_rng (v : Value) (W : World) : (Instr.typeAssert (.iface 91 v) 62 88 true).run Try.prog W = .ok (.tuple #[.agg #[.int .u64 0, .int .u64 0], .bool false]) W := by rfl
theorem taR_nil (W : World) : (Instr.typeAssert .nilIface 62 91 true).run Try.prog W = .ok (.tuple #[.agg #[.int .u64 0, .int .u64 0], .bool false]) W := by rfl
theorem taR_any (v : Value) (W : World) : (Instr.typeAssert (.iface 86 v) 62 91 true).run Try.prog W = .ok (.tuple #[.agg #[.int .u64 0, .int .u64 0], .bool false]) W := by rfl
theorem taR_mask (v : Value) (W : World) : (Instr.typeAssert (.iface 88 v) 62 91 true).run Try.prog W = .ok (.tuple #[.agg #[.int .u64 0, .int .u64 0], .bool false]) W := by rfl
theorem taR_rng (v : Value) (W : World) : (Instr.typeAssert (.iface 91 v) 62 91 true).run Try.prog W = .ok (.tuple #[v, .bool true]) W := by rfl

end Go.Proofs.Ytbeegojdcgliiaa.P

namespace Go.Proofs.Ytbeegojdcgliiaa.P
open Go.RowKit Go.Proofs.YtbeegojdcgliiaaW.PrintWords Go.Proofs.YtbeegojdcgliiaaW.PrintLast Go.Proofs.YtbeegojdcgliiaaW.PrintMore
attribute [local go_sem] max2_int min2_int max_two min_two max_three min_three max_four min_four   -- for this text's walks alone
set_option linter.unusedVariables false
set_option linter.unusedSimpArgs false

-- HAND 52
-- IMPORT Derived.Test.YtbeegojdcgliiaaHCond
set_option maxHeartbeats 400000 in
theorem impl_normalRange.does (a b : Int) (w : World) : Calls Try.prog 52 #[.int .u64 a, .int .u64 b] w fun e w' => e = .returned (nrRaw a b).v ∧ w' = w := by
  have hmax : IntKind.u64.max = 18446744073709551615 := rfl
  go_enter Try.func52, Try.ntmps52
  go_wp2
  all_goals (go_ret)
  all_goals (refine ⟨?_, rfl⟩; simp_all [nrRaw, nrN, Cd.v])

end Go.Proofs.Ytbeegojdcgliiaa.P

namespace Go.Proofs.Ytbeegojdcgliiaa.P
open Go.RowKit Go.Proofs.YtbeegojdcgliiaaW.PrintWords Go.Proofs.YtbeegojdcgliiaaW.PrintLast Go.Proofs.YtbeegojdcgliiaaW.PrintMore
attribute [local go_sem] max2_int min2_int max_two min_two max_three min_three max_four min_four   -- for this text's walks alone
set_option linter.unusedVariables false
set_option linter.unusedSimpArgs false

-- HAND 37
-- IMPORT Derived.Test.YtbeegojdcgliiaaHCond
set_option maxHeartbeats 1000000 in
theorem impl_normal.does (k a b : Int) (w : World) : Calls Try.prog 37 #[.agg #[.int .i64 k, .int .u64 a, .int .u64 b]] w fun e w' => e = .returned (.tuple #[(normRaw k a b).1.v, .bool (normRaw k a b).2]) ∧ Below w.heap.size w w' := by
  by_cases c0 : k = 0
  · subst c0
    by_cases c1 : a = 0
    · subst c1
      go_enter Try.func37, Try.ntmps37
      go_wp2
      repeat (go_quiet (fail); try go_wp2)
      go_ret2
      exact ⟨by simp [normRaw, Cd.v], pw_below_drewN (below_alloc (Below.refl _ _) _) _⟩
    · have c1b : (a == 0) = false := beq_eq_false_iff_ne.mpr c1
      go_enter Try.func37, Try.ntmps37
      go_wp2
      repeat (go_quiet (fail); try go_wp2)
      go_ret2
      exact ⟨by simp [normRaw, Cd.v, c1b], pw_below_drewN (below_alloc (Below.refl _ _) _) _⟩
  · have c0b : (k == 0) = false := beq_eq_false_iff_ne.mpr c0
    by_cases c1 : k = 1
    · subst c1
      by_cases c2 : a = 0
      · subst c2
        by_cases c3 : b = 0
        · subst c3
          go_enter Try.func37, Try.ntmps37
          go_wp2
          go_ret2
          exact ⟨by simp [normRaw, Cd.v], below_alloc (Below.refl _ _) _⟩
        · have c3b : (b == 0) = false := beq_eq_false_iff_ne.mpr c3
          go_enter Try.func37, Try.ntmps37
          go_wp2
          repeat (go_quiet (fail); try go_wp2)
          go_ret2
          exact ⟨by simp [normRaw, Cd.v, c3], pw_below_drewN (below_alloc (Below.refl _ _) _) _⟩
      · have c2b : (a == 0) = false := beq_eq_false_iff_ne.mpr c2
        go_enter Try.func37, Try.ntmps37
        go_wp2
        repeat (go_quiet (fail); try go_wp2)
        go_ret2
        exact ⟨by simp [normRaw, Cd.v, c2], pw_below_drewN (below_alloc (Below.refl _ _) _) _⟩
    · have c1b : (k == 1) = false := beq_eq_false_iff_ne.mpr c1
      by_cases c2 : k = 2
      · subst c2
        by_cases c3 : b < a
        · go_enter Try.func37, Try.ntmps37
          go_wp2
          go_ret2
          exact ⟨by simp [normRaw, Cd.v, c3], below_alloc (Below.refl _ _) _⟩
        · have c3b : decide (b < a) = false := decide_eq_false c3
          go_enter Try.func37, Try.ntmps37
          go_wp2_with (go_at_call 52; refine (impl_normalRange.does _ _ _).mono ?_; rintro e w' ⟨rfl, rfl⟩)
          go_ret2
          have c3n : ¬ b < a := by simpa using c3b
          exact ⟨by simp [normRaw, c3n], below_alloc (Below.refl _ _) _⟩
      · have c2b : (k == 2) = false := beq_eq_false_iff_ne.mpr c2
        go_enter Try.func37, Try.ntmps37
        go_wp2
        go_ret2
        exact ⟨by simp [normRaw, Cd.v, c0, c1, c2], below_alloc (Below.refl _ _) _⟩

end Go.Proofs.Ytbeegojdcgliiaa.P

namespace Go.Proofs.Ytbeegojdcgliiaa.P
open Go.RowKit Go.Proofs.YtbeegojdcgliiaaW.PrintWords Go.Proofs.YtbeegojdcgliiaaW.PrintLast Go.Proofs.YtbeegojdcgliiaaW.PrintMore
attribute [local go_sem] max2_int min2_int max_two min_two max_three min_three max_four min_four   -- for this text's walks alone
set_option linter.unusedVariables false
set_option linter.unusedSimpArgs false

-- HAND 38
-- IMPORT Derived.Test.YtbeegojdcgliiaaHCond
set_option maxHeartbeats 1000000 in
theorem impl_conOf.does (c : Cd) (w : World) : Calls Try.prog 38 #[c.v] w fun e w' => e = .returned (conV c.con) ∧ Below w.heap.size w w' := by
  cases c with
  | nil =>
    have h1 := taM_nil
    have h2 := taR_nil
    simp only [Cd.v]
    go_enter Try.func38, Try.ntmps38
    go_wp2
    exact bodyPost_ret (v := conV Cd.nil.con) (by simp [results, Try.results38, go_sem, conV, Cd.con]) rfl ⟨rfl, by repeat (first | exact Below.refl _ _ | apply below_alloc)⟩
  | any =>
    have h1 := taM_any
    have h2 := taR_any
    simp only [Cd.v]
    go_enter Try.func38, Try.ntmps38
    go_wp2
    exact bodyPost_ret (v := conV Cd.any.con) (by simp [results, Try.results38, go_sem, conV, Cd.con]) rfl ⟨rfl, by repeat (first | exact Below.refl _ _ | apply below_alloc)⟩
  | mask m v =>
    have h1 := taM_mask
    simp only [Cd.v]
    go_enter Try.func38, Try.ntmps38
    go_wp2
    exact bodyPost_ret (v := conV (Cd.mask m v).con) (by simp [results, Try.results38, go_sem, conV, Cd.con]) rfl ⟨rfl, by repeat (first | exact Below.refl _ _ | apply below_alloc)⟩
  | rng l h =>
    have h1 := taM_rng
    have h2 := taR_rng
    simp only [Cd.v]
    go_enter Try.func38, Try.ntmps38
    go_wp2
    exact bodyPost_ret (v := conV (Cd.rng l h).con) (by simp [results, Try.results38, go_sem, conV, Cd.con]) rfl ⟨rfl, by repeat (first | exact Below.refl _ _ | apply below_alloc)⟩

end Go.Proofs.Ytbeegojdcgliiaa.P

namespace Go.Proofs.Ytbeegojdcgliiaa.P
open Go.RowKit Go.Proofs.YtbeegojdcgliiaaW.PrintWords Go.Proofs.YtbeegojdcgliiaaW.PrintLast Go.Proofs.YtbeegojdcgliiaaW.PrintMore
attribute [local go_sem] max2_int min2_int max_two min_two max_three min_three max_four min_four   -- for this text's walks alone
set_option linter.unusedVariables false
set_option linter.unusedSimpArgs false

-- HAND 15
-- IMPORT Derived.Test.YtbeegojdcgliiaaHCond
def impl_NormCon.f (a0_0 : Int) (a0_1 : Int) (a0_2 : Int) : Option (Int × Int × Int) := if (normRaw a0_0 a0_1 a0_2).2 = true then some (normRaw a0_0 a0_1 a0_2).1.con else some (a0_0, a0_1, a0_2)
set_option maxHeartbeats 1000000 in
theorem impl_NormCon.calls (a0_0 : Int) (a0_1 : Int) (a0_2 : Int) (r1 : Int) (r2 : Int) (r3 : Int) (w : World) (h : impl_NormCon.f a0_0 a0_1 a0_2 = some (r1, r2, r3)) :
    Calls Try.prog 15 #[.agg #[.int .i64 a0_0, .int .u64 a0_1, .int .u64 a0_2]] w fun e w' => e = .returned (.agg #[.int .i64 r1, .int .u64 r2, .int .u64 r3]) ∧ Below w.heap.size w w' := by
  obtain ⟨c, hc⟩ : ∃ c, c = (normRaw a0_0 a0_1 a0_2).1 := ⟨_, rfl⟩
  obtain ⟨b, hb⟩ : ∃ b, b = (normRaw a0_0 a0_1 a0_2).2 := ⟨_, rfl⟩
  unfold impl_NormCon.f at h
  rw [← hc, ← hb] at h
  have hn := impl_normal.does a0_0 a0_1 a0_2
  rw [← hc, ← hb] at hn
  clear hc hb
  have HN := Aside0.mk hn
  clear hn
  cases b with
  | false =>
    simp only [Bool.false_eq_true, if_false, Option.some.injEq, Prod.mk.injEq] at h
    obtain ⟨rfl, rfl, rfl⟩ := h
    go_enter Try.func15, Try.ntmps15
    go_wp2_with (go_at_call 37; refine (HN.out _).mono ?_; rintro e w1 ⟨rfl, hb⟩; obtain ⟨hc, hf⟩ := bcell hb; have bk := blk_below (blk_new _ _) hb; rw [alloc_size] at bk; have BK := Aside0.mk bk; have HB := Aside0.mk hb; clear hb bk)
    refine bodyPost_ret (results_cell_row rfl _ _ (w.heap.size + 1) 32 #[.int .i64 a0_0, .int .u64 a0_1, .int .u64 a0_2] (0, 0) _ rfl (by exact blk_put3 BK.out _ _ _) Try.underlying32 rfl (by kernel_rfl)) rfl ⟨rfl, ?_⟩
    refine below_set1 (below_set1 (below_set1 (below_call (below_alloc (below_alloc (Below.refl _ _) _) _) HB.out (by simp; omega)) ?_ _) ?_ _) ?_ _ <;> simp
  | true =>
    simp only [if_true, Option.some.injEq] at h
    have HC := Aside0.mk (impl_conOf.does c)
    unfold conV at HC
    rw [h] at HC
    go_enter Try.func15, Try.ntmps15
    go_wp2_with (first | (go_at_call 37; refine (HN.out _).mono ?_; rintro e w1 ⟨rfl, hb⟩; obtain ⟨hc, hf⟩ := bcell hb; have bk := blk_below (blk_new _ _) hb; rw [alloc_size] at bk; have BK := Aside0.mk bk; have HB := Aside0.mk hb; clear hb bk) | (go_at_call 38; refine (HC.out _).mono ?_; rintro e w2 ⟨rfl, hb2⟩; obtain ⟨hc2, hf2⟩ := bcell hb2; have hz := blk_lt BK.out; have BK2 := Aside0.mk (blk_below BK.out hb2); have HB2 := Aside0.mk hb2; clear hb2))
    refine bodyPost_ret (results_cell_row rfl _ _ (w.heap.size + 1) 32 #[.int .i64 r1, .int .u64 r2, .int .u64 r3] (0, 0) _ rfl (by exact blk_put3 BK2.out _ _ _) Try.underlying32 rfl (by kernel_rfl)) rfl ⟨rfl, ?_⟩
    refine below_set1 (below_set1 (below_set1 (below_call (below_call (below_alloc (below_alloc (Below.refl _ _) _) _) HB.out (by simp; omega)) HB2.out (Nat.le_trans (by simp; omega) HB.out.size)) ?_ _) ?_ _) ?_ _ <;> simp

end Go.Proofs.Ytbeegojdcgliiaa.P

namespace Go.Proofs.Ytbeegojdcgliiaa.P
open Go.RowKit Go.Proofs.YtbeegojdcgliiaaW.PrintWords Go.Proofs.YtbeegojdcgliiaaW.PrintLast Go.Proofs.YtbeegojdcgliiaaW.PrintMore
attribute [local go_sem] max2_int min2_int max_two min_two max_three min_three max_four min_four   -- for this text's walks alone
set_option linter.unusedVariables false
set_option linter.unusedSimpArgs false

/-! ### laws_eqCon: function 16 -/
def laws_eqCon.f (a0_0 : Int) (a0_1 : Int) (a0_2 : Int) (a1_0 : Int) (a1_1 : Int) (a1_2 : Int) : Option (Bool) := if a0_0 = a1_0 then (if a0_1 = a1_1 then (if a0_2 = a1_2 then (some true) else (some false)) else (some false)) else (some false)
set_option maxHeartbeats 8000000 in
set_option maxRecDepth 100000 in
theorem laws_eqCon.calls (a0_0 : Int) (a0_1 : Int) (a0_2 : Int) (a1_0 : Int) (a1_1 : Int) (a1_2 : Int) (r : Bool) (w : World) (h : laws_eqCon.f a0_0 a0_1 a0_2 a1_0 a1_1 a1_2 = some r) :
    Calls Try.prog 16 #[.agg #[.int .i64 a0_0, .int .u64 a0_1, .int .u64 a0_2], .agg #[.int .i64 a1_0, .int .u64 a1_1, .int .u64 a1_2]] w fun e w' => e = .returned (.bool r) ∧ Below w.heap.size w w' := by
  have hu32 := Try.underlying32
  have HB := Aside0.mk (Below.refl w.heap.size w)
  have H : (if a0_0 = a1_0 then (if a0_1 = a1_1 then (if a0_2 = a1_2 then (some true) else (some false)) else (some false)) else (some false)) = some r := h
  clear h
  by_cases c3 : a0_0 = a1_0
  · rw [if_pos c3] at H
    have c3b0 : (a0_0 == a1_0) = true := beq_iff_eq.mpr c3
    have c3b1 : (a0_0 != a1_0) = false := bne_eq_false_iff_eq.mpr c3
    clear c3
    by_cases c4 : a0_1 = a1_1
    · rw [if_pos c4] at H
      have c4b0 : (a0_1 == a1_1) = true := beq_iff_eq.mpr c4
      have c4b1 : (a0_1 != a1_1) = false := bne_eq_false_iff_eq.mpr c4
      clear c4
      by_cases c5 : a0_2 = a1_2
      · rw [if_pos c5] at H
        have c5b0 : (a0_2 == a1_2) = true := beq_iff_eq.mpr c5
        have c5b1 : (a0_2 != a1_2) = false := bne_eq_false_iff_eq.mpr c5
        clear c5
        obtain rfl := Option.some.inj H
        go_enter Try.func16, Try.ntmps16
        go_wp2_with (first | ((with_reducible refine gate_dst (N := 2) rfl ?_); refine box_event ?hg (N := 2) ?hd (cs := #[.int .i64 a0_0, .int .u64 a0_1, .int .u64 a0_2]) (t := 32) ?hr ?_; (case hd => rfl); (case hg => rfl); (case hr => first | (go_simp; done) | (go_simp; rfl)); intro gb141 hg w6 hbox hb; have n0_ := Aside0.mk (below_step (by repeat (first | (with_reducible first | exact HB.out | apply below_alloc | apply pw_below_drewN | apply below_drew1) | exact HB.out)) hb); have n1_ := Aside0.mk (hbox); have n2_ := Aside0.mk ((by rw [hg]; exact (below_size (by repeat (first | (with_reducible first | exact HB.out | apply below_alloc | apply pw_below_drewN | apply below_drew1) | exact HB.out))) : w.heap.size ≤ gb141)); have n3_ := Aside0.mk ((by rw [hg]; exact (below_size (by repeat (first | (with_reducible first | exact HB.out | apply below_alloc | apply pw_below_drewN | apply below_drew1) | exact HB.out))) : w.heap.size ≤ gb141)); clear HB; have HB := n0_; have BK141 := n1_; have GW141 := n2_; have GE141 := n3_; clear n0_ n1_ n2_ n3_; clear hb hbox hg) | ((with_reducible refine gate_dst (N := 3) rfl ?_); refine box_event ?hg (N := 3) ?hd (cs := #[.int .i64 a1_0, .int .u64 a1_1, .int .u64 a1_2]) (t := 32) ?hr ?_; (case hd => rfl); (case hg => rfl); (case hr => first | (go_simp; done) | (go_simp; rfl)); intro gb142 hg w7 hbox hb; have n0_ := Aside0.mk (blk_below (g := gb141) (o := .cells #[.int .i64 a0_0, .int .u64 a0_1, .int .u64 a0_2] 32 (0, 0)) (by (with_reducible repeat (first | refine blk_drewN ?_ _ | refine blk_drew ?_ | refine blk_alloc ?_ _)); exact BK141.out) hb); have n1_ := Aside0.mk (below_step (by repeat (first | (with_reducible first | exact HB.out | apply below_alloc | apply pw_below_drewN | apply below_drew1 | refine below_set ?_ GE141.out) | exact HB.out)) hb); have n2_ := Aside0.mk (hbox); have n3_ := Aside0.mk ((by rw [hg]; exact (below_size (by repeat (first | (with_reducible first | exact HB.out | apply below_alloc | apply pw_below_drewN | apply below_drew1 | refine below_set ?_ GE141.out) | exact HB.out))) : w.heap.size ≤ gb142)); have n4_ := Aside0.mk ((by rw [hg]; exact (below_size (by repeat (first | (with_reducible first | exact HB.out | apply below_alloc | apply pw_below_drewN | apply below_drew1 | refine below_set ?_ GE141.out) | exact HB.out))) : w.heap.size ≤ gb142)); have n5_ := Aside0.mk ((by rw [hg]; exact Nat.ne_of_lt (blk_lt (g := gb141) (o := .cells #[.int .i64 a0_0, .int .u64 a0_1, .int .u64 a0_2] 32 (0, 0)) (by (with_reducible repeat (first | refine blk_drewN ?_ _ | refine blk_drew ?_ | refine blk_alloc ?_ _)); exact BK141.out)) : gb141 ≠ gb142)); have n6_ := Aside0.mk ((by rw [hg]; exact Nat.ne_of_gt (blk_lt (g := gb141) (o := .cells #[.int .i64 a0_0, .int .u64 a0_1, .int .u64 a0_2] 32 (0, 0)) (by (with_reducible repeat (first | refine blk_drewN ?_ _ | refine blk_drew ?_ | refine blk_alloc ?_ _)); exact BK141.out)) : gb142 ≠ gb141)); clear BK141; clear HB; have BK141 := n0_; have HB := n1_; have BK142 := n2_; have GW142 := n3_; have GE142 := n4_; have NB141_142 := n5_; have NB142_141 := n6_; clear n0_ n1_ n2_ n3_ n4_ n5_ n6_; clear hb hbox hg; have hnb8 := NB141_142.out; have hnc8 := NB142_141.out; have hcz9_0 : w7.cell? ⟨gb141, 0, none⟩ = some (.int .i64 a0_0) := (blk_cell BK141.out 0).trans rfl; have hcz9_1 : w7.cell? ⟨gb141, 1, none⟩ = some (.int .u64 a0_1) := (blk_cell BK141.out 1).trans rfl; have hcz9_2 : w7.cell? ⟨gb141, 2, none⟩ = some (.int .u64 a0_2) := (blk_cell BK141.out 2).trans rfl; have hfz9_0 := blk_frozen BK141.out 0; have hfz9_1 := blk_frozen BK141.out 1; have hfz9_2 := blk_frozen BK141.out 2; have hcz10_0 : w7.cell? ⟨gb142, 0, none⟩ = some (.int .i64 a1_0) := (blk_cell BK142.out 0).trans rfl; have hcz10_1 : w7.cell? ⟨gb142, 1, none⟩ = some (.int .u64 a1_1) := (blk_cell BK142.out 1).trans rfl; have hcz10_2 : w7.cell? ⟨gb142, 2, none⟩ = some (.int .u64 a1_2) := (blk_cell BK142.out 2).trans rfl; have hfz10_0 := blk_frozen BK142.out 0; have hfz10_1 := blk_frozen BK142.out 1; have hfz10_2 := blk_frozen BK142.out 2))
        go_ret
        exact ⟨by first | rfl | (simp [errW_none, errW_some] <;> rfl) | (simp [*, errW_none, errW_some] <;> rfl), by repeat (first | (with_reducible first | exact HB.out | apply below_alloc | apply pw_below_drewN | apply below_drew1 | refine below_set ?_ GE141.out | refine below_set ?_ GE142.out) | exact HB.out)⟩
      · rw [if_neg c5] at H
        have c5b0 : (a0_2 == a1_2) = false := beq_eq_false_iff_ne.mpr c5
        have c5b1 : (a0_2 != a1_2) = true := bne_iff_ne.mpr c5
        obtain rfl := Option.some.inj H
        go_enter Try.func16, Try.ntmps16
        go_wp2_with (first | ((with_reducible refine gate_dst (N := 2) rfl ?_); refine box_event ?hg (N := 2) ?hd (cs := #[.int .i64 a0_0, .int .u64 a0_1, .int .u64 a0_2]) (t := 32) ?hr ?_; (case hd => rfl); (case hg => rfl); (case hr => first | (go_simp; done) | (go_simp; rfl)); intro gb141 hg w11 hbox hb; have n0_ := Aside0.mk (below_step (by repeat (first | (with_reducible first | exact HB.out | apply below_alloc | apply pw_below_drewN | apply below_drew1) | exact HB.out)) hb); have n1_ := Aside0.mk (hbox); have n2_ := Aside0.mk ((by rw [hg]; exact (below_size (by repeat (first | (with_reducible first | exact HB.out | apply below_alloc | apply pw_below_drewN | apply below_drew1) | exact HB.out))) : w.heap.size ≤ gb141)); have n3_ := Aside0.mk ((by rw [hg]; exact (below_size (by repeat (first | (with_reducible first | exact HB.out | apply below_alloc | apply pw_below_drewN | apply below_drew1) | exact HB.out))) : w.heap.size ≤ gb141)); clear HB; have HB := n0_; have BK141 := n1_; have GW141 := n2_; have GE141 := n3_; clear n0_ n1_ n2_ n3_; clear hb hbox hg) | ((with_reducible refine gate_dst (N := 3) rfl ?_); refine box_event ?hg (N := 3) ?hd (cs := #[.int .i64 a1_0, .int .u64 a1_1, .int .u64 a1_2]) (t := 32) ?hr ?_; (case hd => rfl); (case hg => rfl); (case hr => first | (go_simp; done) | (go_simp; rfl)); intro gb142 hg w12 hbox hb; have n0_ := Aside0.mk (blk_below (g := gb141) (o := .cells #[.int .i64 a0_0, .int .u64 a0_1, .int .u64 a0_2] 32 (0, 0)) (by (with_reducible repeat (first | refine blk_drewN ?_ _ | refine blk_drew ?_ | refine blk_alloc ?_ _)); exact BK141.out) hb); have n1_ := Aside0.mk (below_step (by repeat (first | (with_reducible first | exact HB.out | apply below_alloc | apply pw_below_drewN | apply below_drew1 | refine below_set ?_ GE141.out) | exact HB.out)) hb); have n2_ := Aside0.mk (hbox); have n3_ := Aside0.mk ((by rw [hg]; exact (below_size (by repeat (first | (with_reducible first | exact HB.out | apply below_alloc | apply pw_below_drewN | apply below_drew1 | refine below_set ?_ GE141.out) | exact HB.out))) : w.heap.size ≤ gb142)); have n4_ := Aside0.mk ((by rw [hg]; exact (below_size (by repeat (first | (with_reducible first | exact HB.out | apply below_alloc | apply pw_below_drewN | apply below_drew1 | refine below_set ?_ GE141.out) | exact HB.out))) : w.heap.size ≤ gb142)); have n5_ := Aside0.mk ((by rw [hg]; exact Nat.ne_of_lt (blk_lt (g := gb141) (o := .cells #[.int .i64 a0_0, .int .u64 a0_1, .int .u64 a0_2] 32 (0, 0)) (by (with_reducible repeat (first | refine blk_drewN ?_ _ | refine blk_drew ?_ | refine blk_alloc ?_ _)); exact BK141.out)) : gb141 ≠ gb142)); have n6_ := Aside0.mk ((by rw [hg]; exact Nat.ne_of_gt (blk_lt (g := gb141) (o := .cells #[.int .i64 a0_0, .int .u64 a0_1, .int .u64 a0_2] 32 (0, 0)) (by (with_reducible repeat (first | refine blk_drewN ?_ _ | refine blk_drew ?_ | refine blk_alloc ?_ _)); exact BK141.out)) : gb142 ≠ gb141)); clear BK141; clear HB; have BK141 := n0_; have HB := n1_; have BK142 := n2_; have GW142 := n3_; have GE142 := n4_; have NB141_142 := n5_; have NB142_141 := n6_; clear n0_ n1_ n2_ n3_ n4_ n5_ n6_; clear hb hbox hg; have hnb13 := NB141_142.out; have hnc13 := NB142_141.out; have hcz14_0 : w12.cell? ⟨gb141, 0, none⟩ = some (.int .i64 a0_0) := (blk_cell BK141.out 0).trans rfl; have hcz14_1 : w12.cell? ⟨gb141, 1, none⟩ = some (.int .u64 a0_1) := (blk_cell BK141.out 1).trans rfl; have hcz14_2 : w12.cell? ⟨gb141, 2, none⟩ = some (.int .u64 a0_2) := (blk_cell BK141.out 2).trans rfl; have hfz14_0 := blk_frozen BK141.out 0; have hfz14_1 := blk_frozen BK141.out 1; have hfz14_2 := blk_frozen BK141.out 2; have hcz15_0 : w12.cell? ⟨gb142, 0, none⟩ = some (.int .i64 a1_0) := (blk_cell BK142.out 0).trans rfl; have hcz15_1 : w12.cell? ⟨gb142, 1, none⟩ = some (.int .u64 a1_1) := (blk_cell BK142.out 1).trans rfl; have hcz15_2 : w12.cell? ⟨gb142, 2, none⟩ = some (.int .u64 a1_2) := (blk_cell BK142.out 2).trans rfl; have hfz15_0 := blk_frozen BK142.out 0; have hfz15_1 := blk_frozen BK142.out 1; have hfz15_2 := blk_frozen BK142.out 2))
        go_ret
        exact ⟨by first | rfl | (simp [errW_none, errW_some] <;> rfl) | (simp [*, errW_none, errW_some] <;> rfl), by repeat (first | (with_reducible first | exact HB.out | apply below_alloc | apply pw_below_drewN | apply below_drew1 | refine below_set ?_ GE141.out | refine below_set ?_ GE142.out) | exact HB.out)⟩
    · rw [if_neg c4] at H
      have c4b0 : (a0_1 == a1_1) = false := beq_eq_false_iff_ne.mpr c4
      have c4b1 : (a0_1 != a1_1) = true := bne_iff_ne.mpr c4
      obtain rfl := Option.some.inj H
      go_enter Try.func16, Try.ntmps16
      go_wp2_with (first | ((with_reducible refine gate_dst (N := 2) rfl ?_); refine box_event ?hg (N := 2) ?hd (cs := #[.int .i64 a0_0, .int .u64 a0_1, .int .u64 a0_2]) (t := 32) ?hr ?_; (case hd => rfl); (case hg => rfl); (case hr => first | (go_simp; done) | (go_simp; rfl)); intro gb141 hg w16 hbox hb; have n0_ := Aside0.mk (below_step (by repeat (first | (with_reducible first | exact HB.out | apply below_alloc | apply pw_below_drewN | apply below_drew1) | exact HB.out)) hb); have n1_ := Aside0.mk (hbox); have n2_ := Aside0.mk ((by rw [hg]; exact (below_size (by repeat (first | (with_reducible first | exact HB.out | apply below_alloc | apply pw_below_drewN | apply below_drew1) | exact HB.out))) : w.heap.size ≤ gb141)); have n3_ := Aside0.mk ((by rw [hg]; exact (below_size (by repeat (first | (with_reducible first | exact HB.out | apply below_alloc | apply pw_below_drewN | apply below_drew1) | exact HB.out))) : w.heap.size ≤ gb141)); clear HB; have HB := n0_; have BK141 := n1_; have GW141 := n2_; have GE141 := n3_; clear n0_ n1_ n2_ n3_; clear hb hbox hg) | ((with_reducible refine gate_dst (N := 3) rfl ?_); refine box_event ?hg (N := 3) ?hd (cs := #[.int .i64 a1_0, .int .u64 a1_1, .int .u64 a1_2]) (t := 32) ?hr ?_; (case hd => rfl); (case hg => rfl); (case hr => first | (go_simp; done) | (go_simp; rfl)); intro gb142 hg w17 hbox hb; have n0_ := Aside0.mk (blk_below (g := gb141) (o := .cells #[.int .i64 a0_0, .int .u64 a0_1, .int .u64 a0_2] 32 (0, 0)) (by (with_reducible repeat (first | refine blk_drewN ?_ _ | refine blk_drew ?_ | refine blk_alloc ?_ _)); exact BK141.out) hb); have n1_ := Aside0.mk (below_step (by repeat (first | (with_reducible first | exact HB.out | apply below_alloc | apply pw_below_drewN | apply below_drew1 | refine below_set ?_ GE141.out) | exact HB.out)) hb); have n2_ := Aside0.mk (hbox); have n3_ := Aside0.mk ((by rw [hg]; exact (below_size (by repeat (first | (with_reducible first | exact HB.out | apply below_alloc | apply pw_below_drewN | apply below_drew1 | refine below_set ?_ GE141.out) | exact HB.out))) : w.heap.size ≤ gb142)); have n4_ := Aside0.mk ((by rw [hg]; exact (below_size (by repeat (first | (with_reducible first | exact HB.out | apply below_alloc | apply pw_below_drewN | apply below_drew1 | refine below_set ?_ GE141.out) | exact HB.out))) : w.heap.size ≤ gb142)); have n5_ := Aside0.mk ((by rw [hg]; exact Nat.ne_of_lt (blk_lt (g := gb141) (o := .cells #[.int .i64 a0_0, .int .u64 a0_1, .int .u64 a0_2] 32 (0, 0)) (by (with_reducible repeat (first | refine blk_drewN ?_ _ | refine blk_drew ?_ | refine blk_alloc ?_ _)); exact BK141.out)) : gb141 ≠ gb142)); have n6_ := Aside0.mk ((by rw [hg]; exact Nat.ne_of_gt (blk_lt (g := gb141) (o := .cells #[.int .i64 a0_0, .int .u64 a0_1, .int .u64 a0_2] 32 (0, 0)) (by (with_reducible repeat (first | refine blk_drewN ?_ _ | refine blk_drew ?_ | refine blk_alloc ?_ _)); exact BK141.out)) : gb142 ≠ gb141)); clear BK141; clear HB; have BK141 := n0_; have HB := n1_; have BK142 := n2_; have GW142 := n3_; have GE142 := n4_; have NB141_142 := n5_; have NB142_141 := n6_; clear n0_ n1_ n2_ n3_ n4_ n5_ n6_; clear hb hbox hg; have hnb18 := NB141_142.out; have hnc18 := NB142_141.out; have hcz19_0 : w17.cell? ⟨gb141, 0, none⟩ = some (.int .i64 a0_0) := (blk_cell BK141.out 0).trans rfl; have hcz19_1 : w17.cell? ⟨gb141, 1, none⟩ = some (.int .u64 a0_1) := (blk_cell BK141.out 1).trans rfl; have hcz19_2 : w17.cell? ⟨gb141, 2, none⟩ = some (.int .u64 a0_2) := (blk_cell BK141.out 2).trans rfl; have hfz19_0 := blk_frozen BK141.out 0; have hfz19_1 := blk_frozen BK141.out 1; have hfz19_2 := blk_frozen BK141.out 2; have hcz20_0 : w17.cell? ⟨gb142, 0, none⟩ = some (.int .i64 a1_0) := (blk_cell BK142.out 0).trans rfl; have hcz20_1 : w17.cell? ⟨gb142, 1, none⟩ = some (.int .u64 a1_1) := (blk_cell BK142.out 1).trans rfl; have hcz20_2 : w17.cell? ⟨gb142, 2, none⟩ = some (.int .u64 a1_2) := (blk_cell BK142.out 2).trans rfl; have hfz20_0 := blk_frozen BK142.out 0; have hfz20_1 := blk_frozen BK142.out 1; have hfz20_2 := blk_frozen BK142.out 2))
      go_ret
      exact ⟨by first | rfl | (simp [errW_none, errW_some] <;> rfl) | (simp [*, errW_none, errW_some] <;> rfl), by repeat (first | (with_reducible first | exact HB.out | apply below_alloc | apply pw_below_drewN | apply below_drew1 | refine below_set ?_ GE141.out | refine below_set ?_ GE142.out) | exact HB.out)⟩
  · rw [if_neg c3] at H
    have c3b0 : (a0_0 == a1_0) = false := beq_eq_false_iff_ne.mpr c3
    have c3b1 : (a0_0 != a1_0) = true := bne_iff_ne.mpr c3
    obtain rfl := Option.some.inj H
    go_enter Try.func16, Try.ntmps16
    go_wp2_with (first | ((with_reducible refine gate_dst (N := 2) rfl ?_); refine box_event ?hg (N := 2) ?hd (cs := #[.int .i64 a0_0, .int .u64 a0_1, .int .u64 a0_2]) (t := 32) ?hr ?_; (case hd => rfl); (case hg => rfl); (case hr => first | (go_simp; done) | (go_simp; rfl)); intro gb141 hg w21 hbox hb; have n0_ := Aside0.mk (below_step (by repeat (first | (with_reducible first | exact HB.out | apply below_alloc | apply pw_below_drewN | apply below_drew1) | exact HB.out)) hb); have n1_ := Aside0.mk (hbox); have n2_ := Aside0.mk ((by rw [hg]; exact (below_size (by repeat (first | (with_reducible first | exact HB.out | apply below_alloc | apply pw_below_drewN | apply below_drew1) | exact HB.out))) : w.heap.size ≤ gb141)); have n3_ := Aside0.mk ((by rw [hg]; exact (below_size (by repeat (first | (with_reducible first | exact HB.out | apply below_alloc | apply pw_below_drewN | apply below_drew1) | exact HB.out))) : w.heap.size ≤ gb141)); clear HB; have HB := n0_; have BK141 := n1_; have GW141 := n2_; have GE141 := n3_; clear n0_ n1_ n2_ n3_; clear hb hbox hg) | ((with_reducible refine gate_dst (N := 3) rfl ?_); refine box_event ?hg (N := 3) ?hd (cs := #[.int .i64 a1_0, .int .u64 a1_1, .int .u64 a1_2]) (t := 32) ?hr ?_; (case hd => rfl); (case hg => rfl); (case hr => first | (go_simp; done) | (go_simp; rfl)); intro gb142 hg w22 hbox hb; have n0_ := Aside0.mk (blk_below (g := gb141) (o := .cells #[.int .i64 a0_0, .int .u64 a0_1, .int .u64 a0_2] 32 (0, 0)) (by (with_reducible repeat (first | refine blk_drewN ?_ _ | refine blk_drew ?_ | refine blk_alloc ?_ _)); exact BK141.out) hb); have n1_ := Aside0.mk (below_step (by repeat (first | (with_reducible first | exact HB.out | apply below_alloc | apply pw_below_drewN | apply below_drew1 | refine below_set ?_ GE141.out) | exact HB.out)) hb); have n2_ := Aside0.mk (hbox); have n3_ := Aside0.mk ((by rw [hg]; exact (below_size (by repeat (first | (with_reducible first | exact HB.out | apply below_alloc | apply pw_below_drewN | apply below_drew1 | refine below_set ?_ GE141.out) | exact HB.out))) : w.heap.size ≤ gb142)); have n4_ := Aside0.mk ((by rw [hg]; exact (below_size (by repeat (first | (with_reducible first | exact HB.out | apply below_alloc | apply pw_below_drewN | apply below_drew1 | refine below_set ?_ GE141.out) | exact HB.out))) : w.heap.size ≤ gb142)); have n5_ := Aside0.mk ((by rw [hg]; exact Nat.ne_of_lt (blk_lt (g := gb141) (o := .cells #[.int .i64 a0_0, .int .u64 a0_1, .int .u64 a0_2] 32 (0, 0)) (by (with_reducible repeat (first | refine blk_drewN ?_ _ | refine blk_drew ?_ | refine blk_alloc ?_ _)); exact BK141.out)) : gb141 ≠ gb142)); have n6_ := Aside0.mk ((by rw [hg]; exact Nat.ne_of_gt (blk_lt (g := gb141) (o := .cells #[.int .i64 a0_0, .int .u64 a0_1, .int .u64 a0_2] 32 (0, 0)) (by (with_reducible repeat (first | refine blk_drewN ?_ _ | refine blk_drew ?_ | refine blk_alloc ?_ _)); exact BK141.out)) : gb142 ≠ gb141)); clear BK141; clear HB; have BK141 := n0_; have HB := n1_; have BK142 := n2_; have GW142 := n3_; have GE142 := n4_; have NB141_142 := n5_; have NB142_141 := n6_; clear n0_ n1_ n2_ n3_ n4_ n5_ n6_; clear hb hbox hg; have hnb23 := NB141_142.out; have hnc23 := NB142_141.out; have hcz24_0 : w22.cell? ⟨gb141, 0, none⟩ = some (.int .i64 a0_0) := (blk_cell BK141.out 0).trans rfl; have hcz24_1 : w22.cell? ⟨gb141, 1, none⟩ = some (.int .u64 a0_1) := (blk_cell BK141.out 1).trans rfl; have hcz24_2 : w22.cell? ⟨gb141, 2, none⟩ = some (.int .u64 a0_2) := (blk_cell BK141.out 2).trans rfl; have hfz24_0 := blk_frozen BK141.out 0; have hfz24_1 := blk_frozen BK141.out 1; have hfz24_2 := blk_frozen BK141.out 2; have hcz25_0 : w22.cell? ⟨gb142, 0, none⟩ = some (.int .i64 a1_0) := (blk_cell BK142.out 0).trans rfl; have hcz25_1 : w22.cell? ⟨gb142, 1, none⟩ = some (.int .u64 a1_1) := (blk_cell BK142.out 1).trans rfl; have hcz25_2 : w22.cell? ⟨gb142, 2, none⟩ = some (.int .u64 a1_2) := (blk_cell BK142.out 2).trans rfl; have hfz25_0 := blk_frozen BK142.out 0; have hfz25_1 := blk_frozen BK142.out 1; have hfz25_2 := blk_frozen BK142.out 2))
    go_ret
    exact ⟨by first | rfl | (simp [errW_none, errW_some] <;> rfl) | (simp [*, errW_none, errW_some] <;> rfl), by repeat (first | (with_reducible first | exact HB.out | apply below_alloc | apply pw_below_drewN | apply below_drew1 | refine below_set ?_ GE141.out | refine below_set ?_ GE142.out) | exact HB.out)⟩

end Go.Proofs.Ytbeegojdcgliiaa.P
