import Derived.Test.YtbeegojdcgliiaaGFnExactMakeRecord10
import Derived.Test.YtbeegojdcgliiaaGFnExactMakeRecord11
import Derived.Test.YtbeegojdcgliiaaGFnExactMakeRecord1
import Derived.Test.YtbeegojdcgliiaaGFnExactMakeRecord2
namespace Go.Proofs.Ytbeegojdcgliiaa.P
open Go.RowKit Go.Proofs.YtbeegojdcgliiaaW.PrintWords Go.Proofs.YtbeegojdcgliiaaW.PrintLast Go.Proofs.YtbeegojdcgliiaaW.PrintMore
set_option linter.unusedVariables false
set_option linter.unusedSimpArgs false
/-- A record's bytes. -/
def recB (arch nr : Int) (args : List Int) (ip : Int) : List Int := le nr 4 ++ le arch 4 ++ le ip 8 ++ args.flatMap fun v => le v 8
theorem flat8_length (l : List Int) : (l.flatMap fun v => le v 8).length = 8 * l.length := by
  induction l with
  | nil => rfl
  | cons x l ih => rw [List.flatMap_cons, List.length_append, ih, le_length, List.length_cons]; omega
theorem recB_length (arch nr : Int) (args : List Int) (ip : Int) : (recB arch nr args ip).length = 16 + 8 * args.length := by
  simp only [recB, List.length_append, le_length, flat8_length]
theorem flat8_take (l : List Int) (i : Nat) (h : i < l.length) : ((l.take (i + 1)).flatMap fun v => le v 8) = ((l.take i).flatMap fun v => le v 8) ++ le l[i] 8 := by
  rw [List.take_succ_eq_append_getElem h, List.flatMap_append, List.flatMap_cons, List.flatMap_nil, List.append_nil]
theorem specRecord_ev (arch nr : Int) (args : List Int) (ip : Int) (h6 : args.length = 6) (ha : 0 ≤ arch ∧ arch < 4294967296) (hn : 0 ≤ nr ∧ nr < 4294967296) (hi : 0 ≤ ip ∧ ip < 18446744073709551616) (hx : ∀ x ∈ args, 0 ≤ x ∧ x < 18446744073709551616) :
    Ev (fun k => spec_MakeRecord.f k arch nr args ip) (recB arch nr args ip) := by
  have h16 : (le nr 4 ++ le arch 4 ++ le ip 8).length = 16 := by simp [le_length]
  have key := ev_loop (fun k (s : List Int) i => spec_MakeRecord.l0 k s i arch nr args) 6 (fun i => le nr 4 ++ le arch 4 ++ le ip 8 ++ (args.take i).flatMap fun v => le v 8) (le nr 4 ++ le arch 4 ++ le ip 8) (recB arch nr args ip) (by simp) (by unfold recB; rw [← h6, List.take_length]) (fun i hi r hr => by
    have hl : (le nr 4 ++ le arch 4 ++ le ip 8 ++ (args.take i).flatMap fun v => le v 8).length ≤ 64 := by rw [List.length_append, h16, flat8_length, List.length_take]; omega
    have hxi := hx args[i] (List.getElem_mem (by omega))
    obtain ⟨K, h1⟩ := ev_get (l1little_ev args[i] 8 hxi.1 hxi.2 (by omega))
    obtain ⟨K2, h2⟩ := ev_get (hr)
    refine ev_mk (K + K2 + 1) fun k hk => ?_
    obtain ⟨k, rfl⟩ : ∃ m, k = m + 1 := ⟨k - 1, by omega⟩
    simp only [spec_MakeRecord.l0]
    rw [if_pos (by omega), if_pos (by omega), if_pos (by omega), rd_eq args i (by omega)]
    have h1 := h1 k (by omega)
    have h2 := h2 k (by omega)
    rw [show ((8 : Nat) : Int) = 8 from rfl] at h1
    rw [h1, Option.bind_some, le_length, if_pos (by omega), wrap64_id (by omega) (by omega)]
    rw [flat8_take args i (by omega), ← List.append_assoc] at h2
    exact h2) (recB arch nr args ip)
  obtain ⟨K0, h0⟩ := ev_get (key (ev_end fun k => by simp only [spec_MakeRecord.l0]; rw [if_neg (by omega)]))
  obtain ⟨K1, h1⟩ := ev_get (l1little_ev nr 4 hn.1 (by omega) (by omega))
  obtain ⟨K2, h2⟩ := ev_get (l1little_ev arch 4 ha.1 (by omega) (by omega))
  obtain ⟨K3, h3⟩ := ev_get (l1little_ev ip 8 hi.1 hi.2 (by omega))
  refine ev_mk (K0 + K1 + K2 + K3) fun k hk => ?_
  have h1 := h1 k (by omega)
  have h2 := h2 k (by omega)
  have h3 := h3 k (by omega)
  rw [show ((4 : Nat) : Int) = 4 from rfl] at h1 h2
  rw [show ((8 : Nat) : Int) = 8 from rfl] at h3
  unfold spec_MakeRecord.f
  rw [if_pos (by omega), wrap_u64_id' (by omega) (by omega), wrap_u64_id' (by omega) (by omega), h1, Option.bind_some, h2, Option.bind_some, le_length, le_length, if_pos (by omega), Option.bind_some, h3, Option.bind_some, List.length_append, le_length, le_length, le_length, if_pos (by omega)]
  exact h0 k (by omega)
theorem specRecord_bad (arch nr : Int) (args : List Int) (ip : Int) (h6 : args.length ≠ 6) : Ev (fun k => spec_MakeRecord.f k arch nr args ip) [] := ev_is fun k => by unfold spec_MakeRecord.f; rw [if_neg (by omega)]
theorem implRecord_ev (arch nr : Int) (args : List Int) (ip : Int) (h6 : args.length = 6) (ha : 0 ≤ arch ∧ arch < 4294967296) (hn : 0 ≤ nr ∧ nr < 4294967296) :
    Ev (fun k => impl_MakeRecord.f k arch nr args ip) (recB arch nr args ip) := by
  have h16 : (le nr 4 ++ le arch 4 ++ le ip 8).length = 16 := by simp [le_length]
  have key := ev_loop (fun k (s : List Int) i => impl_MakeRecord.l0 k s args (args.length : Int) i) args.length (fun i => le nr 4 ++ le arch 4 ++ le ip 8 ++ (args.take i).flatMap fun v => le v 8) (le nr 4 ++ le arch 4 ++ le ip 8) (recB arch nr args ip) (by simp) (by unfold recB; rw [List.take_length]) (fun i hi r hr => by
    have hl : (le nr 4 ++ le arch 4 ++ le ip 8 ++ (args.take i).flatMap fun v => le v 8).length ≤ 64 := by rw [List.length_append, h16, flat8_length, List.length_take]; omega
    obtain ⟨K, h1⟩ := ev_get (low_ev (le nr 4 ++ le arch 4 ++ le ip 8 ++ (args.take i).flatMap fun v => le v 8) args[i] 8 (by omega) (by omega))
    obtain ⟨K2, h2⟩ := ev_get (hr)
    refine ev_mk (K + K2 + 1) fun k hk => ?_
    obtain ⟨k, rfl⟩ : ∃ m, k = m + 1 := ⟨k - 1, by omega⟩
    simp only [impl_MakeRecord.l0]
    rw [if_pos (by omega), if_pos (by omega), if_pos (by omega), rd_eq args i (by omega)]
    have h1 := h1 k (by omega)
    have h2 := h2 k (by omega)
    rw [show ((8 : Nat) : Int) = 8 from rfl] at h1
    rw [h1, Option.bind_some, wrap64_id (by omega) (by omega)]
    rw [flat8_take args i (by omega), ← List.append_assoc] at h2
    exact h2) (recB arch nr args ip)
  obtain ⟨K0, h0⟩ := ev_get (key (ev_end fun k => by simp only [impl_MakeRecord.l0]; rw [if_neg (by omega)]))
  obtain ⟨K1, h1⟩ := ev_get (low_ev [] nr 4 (by omega) (by simp))
  obtain ⟨K2, h2⟩ := ev_get (low_ev (le nr 4) arch 4 (by omega) (by simp [le_length]))
  obtain ⟨K3, h3⟩ := ev_get (low_ev (le nr 4 ++ le arch 4) ip 8 (by omega) (by simp [le_length]))
  refine ev_mk (K0 + K1 + K2 + K3) fun k hk => ?_
  have h1 := h1 k (by omega)
  have h2 := h2 k (by omega)
  have h3 := h3 k (by omega)
  rw [show ((4 : Nat) : Int) = 4 from rfl] at h1 h2
  rw [show ((8 : Nat) : Int) = 8 from rfl] at h3
  rw [List.nil_append] at h1
  unfold impl_MakeRecord.f impl_validCall.f
  rw [Option.bind_some, if_pos (by rw [beq_iff_eq]; omega), wrap_u64_id' (by omega) (by omega), wrap_u64_id' (by omega) (by omega), h1, Option.bind_some, h2, Option.bind_some, h3, Option.bind_some]
  exact h0 k (by omega)
theorem implRecord_bad (arch nr : Int) (args : List Int) (ip : Int) (h6 : args.length ≠ 6) : Ev (fun k => impl_MakeRecord.f k arch nr args ip) [] := ev_is fun k => by
  unfold impl_MakeRecord.f impl_validCall.f
  rw [Option.bind_some, if_neg (by rw [beq_iff_eq]; omega)]
end Go.Proofs.Ytbeegojdcgliiaa.P

namespace Go.Proofs.Ytbeegojdcgliiaa.P
open Go.RowKit Go.Proofs.YtbeegojdcgliiaaW.PrintWords Go.Proofs.YtbeegojdcgliiaaW.PrintLast Go.Proofs.YtbeegojdcgliiaaW.PrintMore
set_option linter.unusedVariables false
set_option linter.unusedSimpArgs false

/-- What an elder world holds is held behind a call, too. -/
theorem bcell {W w1 : World} (hb : Below W.heap.size W w1) : (∀ b o, b < W.heap.size → w1.cell? ⟨b, o, none⟩ = W.cell? ⟨b, o, none⟩) ∧ (∀ b o, b < W.heap.size → w1.frozen? ⟨b, o, none⟩ = W.frozen? ⟨b, o, none⟩) :=
  ⟨fun b o h => hb.cell (p := ⟨b, o, none⟩) h, fun b o h => hb.frozen (p := ⟨b, o, none⟩) h⟩
/-- Behind a call that began at a later world. -/
theorem below_call {B : Nat} {w W w1 : World} (h : Below B w W) (hb : Below W.heap.size W w1) (hB : B ≤ W.heap.size) : Below B w w1 := h.trans (hb.mono hB)
theorem below_set1 {B : Nat} {w W : World} (h : Below B w W) {p : Addr} (hp : B ≤ p.block) (v : Value) : Below B w (W.setCell p v) := h.setCell hp v
/-- A struct of three fields, stored field by field. -/
theorem blk_put3 {w : World} {g : Nat} {t : TypeId} {x0 x1 x2 : Value} (h : w.heap[g]? = some (.cells #[x0, x1, x2] t (0, 0))) (y0 y1 y2 : Value) :
    (((w.setCell ⟨g, 0, none⟩ y0).setCell ⟨g, 1, none⟩ y1).setCell ⟨g, 2, none⟩ y2).heap[g]? = some (.cells #[y0, y1, y2] t (0, 0)) :=
  blk_put (cs := #[y0, y1, x2]) (blk_put (cs := #[y0, x1, x2]) (blk_put h 0 y0 rfl) 1 y1 rfl) 2 y2 rfl
theorem alloc_size (w : World) (o : Obj) : (w.alloc o).heap.size = w.heap.size + 1 := by simp

end Go.Proofs.Ytbeegojdcgliiaa.P

namespace Go.Proofs.Ytbeegojdcgliiaa.P
open Go.RowKit Go.Proofs.YtbeegojdcgliiaaW.PrintWords Go.Proofs.YtbeegojdcgliiaaW.PrintLast Go.Proofs.YtbeegojdcgliiaaW.PrintMore
set_option linter.unusedVariables false
set_option linter.unusedSimpArgs false

/-! A condition inside: one of three types behind an interface (or nil), and its value. -/
inductive Cd where
  | nil
  | any
  | mask (m v : Int)
  | rng (l h : Int)
  deriving DecidableEq
def Cd.v : Cd → Value
  | .nil => .nilIface
  | .any => .iface 86 (.agg #[])
  | .mask m v => .iface 88 (.agg #[.int .u64 m, .int .u64 v])
  | .rng l h => .iface 91 (.agg #[.int .u64 l, .int .u64 h])
def Cd.con : Cd → Int × Int × Int
  | .nil => (0, 0, 0)
  | .any => (0, 0, 0)
  | .mask m v => (1, m, v)
  | .rng l h => (2, l, h)
def nrN (a b : Int) : Int := IntKind.u64.wrap (IntKind.u64.wrap (b - a) + 1)
def nrRaw (a b : Int) : Cd :=
  if nrN a b = 0 then .any
  else if bits .and .u64 (nrN a b) (IntKind.u64.wrap (nrN a b - 1)) = 0 ∧ bits .and .u64 a (IntKind.u64.wrap (nrN a b - 1)) = 0 then .mask (bits .xor .u64 18446744073709551615 (IntKind.u64.wrap (nrN a b - 1))) a
  else .rng a b
def normRaw (k a b : Int) : Cd × Bool :=
  if k = 0 then (.any, a == 0 && b == 0)
  else if k = 1 then (if a = 0 ∧ b = 0 then (.any, true) else (.mask a b, bits .andNot .u64 b a == 0))
  else if k = 2 then (if a > b then (.nil, false) else (nrRaw a b, true))
  else (.nil, false)
def conV (c : Int × Int × Int) : Value := .agg #[.int .i64 c.1, .int .u64 c.2.1, .int .u64 c.2.2]
/-! Questions for a condition's type. -/
theorem taM_nil (W : World) : (Instr.typeAssert .nilIface 62 88 true).run Try.prog W = .ok (.tuple #[.agg #[.int .u64 0, .int .u64 0], .bool false]) W := by rfl
theorem taM_any (v : Value) (W : World) : (Instr.typeAssert (.iface 86 v) 62 88 true).run Try.prog W = .ok (.tuple #[.agg #[.int .u64 0, .int .u64 0], .bool false]) W := by rfl
theorem taM_mask (v : Value) (W : World) : (Instr.typeAssert (.iface 88 v) 62 88 true).run Try.prog W = .ok (.tuple #[v, .bool true]) W := by rfl
theorem taM_rng (v : Value) (W : World) : (Instr.typeAssert (.iface 91 v) 62 88 true).run Try.prog W = .ok (.tuple #[.agg #[.int .u64 0, .int .u64 0], .bool false]) W := by rfl
theorem taR_nil (W : World) : (Instr.typeAssert .nilIface 62 91 true).run Try.prog W = .ok (.tuple #[.agg #[.int .u64 0, .int .u64 0], .bool false]) W := by rfl
theorem taR_any (v : Value) (W : World) : (Instr.typeAssert (.iface 86 v) 62 91 true).run Try.prog W = .ok (.tuple #[.agg #[.int .u64 0, .int .u64 0], .bool false]) W := by rfl
theorem taR_mask (v : Value) (W : World) : (Instr.typeAssert (.iface 88 v) 62 91 true).run Try.prog W = .ok (.tuple #[.agg #[.int .u64 0, .int .u64 0], .bool false]) W := by rfl
theorem taR_rng (v : Value) (W : World) : (Instr.typeAssert (.iface 91 v) 62 91 true).run Try.prog W = .ok (.tuple #[v, .bool true]) W := by rfl

end Go.Proofs.Ytbeegojdcgliiaa.P

namespace Go.Proofs.Ytbeegojdcgliiaa.P
open Go.RowKit Go.Proofs.YtbeegojdcgliiaaW.PrintWords Go.Proofs.YtbeegojdcgliiaaW.PrintLast Go.Proofs.YtbeegojdcgliiaaW.PrintMore
set_option linter.unusedVariables false
set_option linter.unusedSimpArgs false

/-! Conditions: plain numbers. -/
theorem wf_u64 {x : Int} (h : (Lit.int .u64 x).wf = true) : 0 ≤ x ∧ x < 18446744073709551616 := by
  simp only [Lit.wf, IntKind.min, IntKind.max, IntKind.signed, IntKind.bits, Bool.and_eq_true] at h
  simp at h
  omega
theorem wf_u32 {x : Int} (h : (Lit.int .u32 x).wf = true) : 0 ≤ x ∧ x < 4294967296 := by
  simp only [Lit.wf, IntKind.min, IntKind.max, IntKind.signed, IntKind.bits, Bool.and_eq_true] at h
  simp at h
  omega
theorem nat_u64 {x : Int} (h : (Lit.int .u64 x).wf = true) : ∃ n : Nat, x = (n : Int) ∧ n < 18446744073709551616 := by
  have := wf_u64 h
  exact ⟨x.toNat, by omega, by omega⟩
theorem wrap_u64 (x : Int) : IntKind.u64.wrap x = x % 18446744073709551616 := by simp [IntKind.wrap, IntKind.bits, IntKind.signed]
theorem wrap_u64_id {x : Int} (h0 : 0 ≤ x) (h1 : x < 18446744073709551616) : IntKind.u64.wrap x = x := by rw [wrap_u64]; omega
theorem ones_xor (x : Nat) (h : x < 18446744073709551616) : 18446744073709551615 ^^^ x = 18446744073709551615 - x := by
  have h1 := BitVec.toNat_not (x := BitVec.ofNat 64 x)
  rw [← BitVec.allOnes_xor, BitVec.toNat_xor, BitVec.toNat_allOnes, BitVec.toNat_ofNat] at h1
  have h2 : x % 2 ^ 64 = x := Nat.mod_eq_of_lt (by omega)
  rw [h2] at h1
  have e : (2 : Nat) ^ 64 - 1 = 18446744073709551615 := by decide
  rw [e] at h1
  exact h1
theorem and64 (a b : Nat) (ha : a < 18446744073709551616) (hb : b < 18446744073709551616) : bits .and .u64 (a : Int) (b : Int) = ((a &&& b : Nat) : Int) := bits_and_nat .u64 rfl a b (by simpa [IntKind.bits] using ha) (by simpa [IntKind.bits] using hb)
theorem or64 (a b : Nat) (ha : a < 18446744073709551616) (hb : b < 18446744073709551616) : bits .or .u64 (a : Int) (b : Int) = ((a ||| b : Nat) : Int) := bits_or_nat .u64 rfl a b (by simpa [IntKind.bits] using ha) (by simpa [IntKind.bits] using hb)
theorem xor64 (a b : Nat) (ha : a < 18446744073709551616) (hb : b < 18446744073709551616) : bits .xor .u64 (a : Int) (b : Int) = ((a ^^^ b : Nat) : Int) := bits_xor_nat .u64 rfl a b (by simpa [IntKind.bits] using ha) (by simpa [IntKind.bits] using hb)
theorem not64 (a : Nat) (ha : a < 18446744073709551616) : bits .xor .u64 18446744073709551615 (a : Int) = ((18446744073709551615 - a : Nat) : Int) := by
  rw [show (18446744073709551615 : Int) = ((18446744073709551615 : Nat) : Int) from rfl, xor64 _ a (by omega) ha, ones_xor a ha]
theorem andNot64 (a b : Nat) (ha : a < 18446744073709551616) (hb : b < 18446744073709551616) : bits .andNot .u64 (a : Int) (b : Int) = ((a &&& (18446744073709551615 - b) : Nat) : Int) := by
  rw [bits_andNot_nat .u64 rfl a b (by simpa [IntKind.bits] using ha) (by simpa [IntKind.bits] using hb)]
  rfl
/-- b's bits lie among a's: two ways to say so. -/
theorem sub_bits (a b : Nat) (ha : a < 18446744073709551616) (hb : b < 18446744073709551616) : (b &&& (18446744073709551615 - a) = 0) ↔ (a ||| b = a) := by
  rw [← ones_xor a ha]
  have ones : ∀ i, (18446744073709551615 : Nat).testBit i = decide (i < 64) := fun i => by
    rw [show (18446744073709551615 : Nat) = 2 ^ 64 - 1 by decide, Nat.testBit_two_pow_sub_one]
  constructor
  · intro h
    apply Nat.eq_of_testBit_eq
    intro i
    have h1 := congrArg (fun z => z.testBit i) h
    simp only [Nat.testBit_and, Nat.testBit_xor, ones, Nat.zero_testBit] at h1
    rw [Nat.testBit_or]
    by_cases hi : i < 64
    · simp only [hi, decide_true] at h1
      cases hx : a.testBit i <;> cases hy : b.testBit i <;> simp_all
    · have hz : b.testBit i = false := Nat.testBit_lt_two_pow (Nat.lt_of_lt_of_le (by omega : b < 2 ^ 64) (Nat.pow_le_pow_right (by decide) (by omega)))
      rw [hz, Bool.or_false]
  · intro h
    apply Nat.eq_of_testBit_eq
    intro i
    have h1 := congrArg (fun z => z.testBit i) h
    simp only [Nat.testBit_or] at h1
    simp only [Nat.testBit_and, Nat.testBit_xor, ones, Nat.zero_testBit]
    by_cases hi : i < 64
    · simp only [hi, decide_true]
      cases hx : a.testBit i <;> cases hy : b.testBit i <;> simp_all
    · have hz : b.testBit i = false := Nat.testBit_lt_two_pow (Nat.lt_of_lt_of_le (by omega : b < 2 ^ 64) (Nat.pow_le_pow_right (by decide) (by omega)))
      rw [hz, Bool.false_and]
theorem two_pow_lt (k : Nat) (h : k < 64) : 0 < 2 ^ k ∧ 2 ^ k ≤ 9223372036854775808 := ⟨Nat.two_pow_pos k, by
  have := Nat.pow_le_pow_right (n := 2) (by decide) (show k ≤ 63 by omega)
  simpa using this⟩
theorem two_pow_le (k : Nat) (h : k ≤ 64) : 0 < 2 ^ k ∧ 2 ^ k ≤ 18446744073709551616 := ⟨Nat.two_pow_pos k, by
  have := Nat.pow_le_pow_right (n := 2) (by decide) h
  simpa using this⟩
theorem two_pow_inj {j k : Nat} (h : 2 ^ j = 2 ^ k) : j = k := (Nat.pow_right_inj (by decide : 1 < 2)).1 h
theorem nrN_is (a b : Nat) (hab : a ≤ b) (hb : b < 18446744073709551616) : nrN (a : Int) (b : Int) = (((b - a + 1) % 18446744073709551616 : Nat) : Int) := by
  unfold nrN
  rw [wrap_u64, wrap_u64]
  omega
/-- The normal condition of a range: by the one k, or none. -/
theorem nrRaw_block (a b k : Nat) (hab : a ≤ b) (hb : b < 18446744073709551616) (hk : k ≤ 64) (h : b - a = 2 ^ k - 1) (hm : a % 2 ^ k = 0) :
    (nrRaw (a : Int) (b : Int)).con = if k = 64 then (0, 0, 0) else (1, ((18446744073709551615 - (2 ^ k - 1) : Nat) : Int), (a : Int)) := by
  have hp := two_pow_le k hk
  unfold nrRaw
  rw [nrN_is a b hab hb]
  by_cases e : k = 64
  · subst e
    have : (b - a + 1) % 18446744073709551616 = 0 := by
      rw [h]
    rw [this]
    simp [Cd.con]
  · have hk2 : k < 64 := by omega
    have hp2 := two_pow_lt k hk2
    have e1 : (b - a + 1) % 18446744073709551616 = 2 ^ k := by rw [h, Nat.sub_add_cancel hp.1]; exact Nat.mod_eq_of_lt (by omega)
    have e2 : IntKind.u64.wrap (((2 ^ k : Nat) : Int) - 1) = ((2 ^ k - 1 : Nat) : Int) := by rw [wrap_u64_id (by omega) (by omega)]; omega
    have e3 : 2 ^ k &&& (2 ^ k - 1) = 0 := by rw [Nat.and_two_pow_sub_one_eq_mod]; exact Nat.mod_self _
    have e4 : a &&& (2 ^ k - 1) = 0 := by rw [Nat.and_two_pow_sub_one_eq_mod]; exact hm
    rw [e1, e2, and64 _ _ (by omega) (by omega), and64 _ _ (by omega) (by omega), e3, e4, not64 _ (by omega), if_neg (by omega), if_pos ⟨rfl, rfl⟩, if_neg e]
    rfl
theorem nrRaw_plain (a b : Nat) (hab : a ≤ b) (hb : b < 18446744073709551616) (h : ∀ k, k ≤ 64 → b - a = 2 ^ k - 1 → a % 2 ^ k ≠ 0) : nrRaw (a : Int) (b : Int) = .rng a b := by
  unfold nrRaw
  rw [nrN_is a b hab hb]
  by_cases e0 : b - a + 1 = 18446744073709551616
  · exact absurd (show a % 2 ^ 64 = 0 by omega) (h 64 (Nat.le_refl _) (by rw [show (2 : Nat) ^ 64 - 1 = 18446744073709551615 by decide]; omega))
  · have e1 : (b - a + 1) % 18446744073709551616 = b - a + 1 := Nat.mod_eq_of_lt (by omega)
    have e2 : IntKind.u64.wrap (((b - a + 1 : Nat) : Int) - 1) = ((b - a : Nat) : Int) := by rw [wrap_u64_id (by omega) (by omega)]; omega
    rw [e1, e2, if_neg (by omega), and64 _ _ (by omega) (by omega), and64 _ _ (by omega) (by omega)]
    refine if_neg ?_
    rintro ⟨h1, h2⟩
    have h1' : (b - a + 1) &&& (b - a + 1 - 1) = 0 := by rw [Nat.add_sub_cancel]; omega
    obtain ⟨k, hk⟩ := (Nat.and_sub_one_eq_zero_iff_isPowerOfTwo (by omega)).1 h1'
    have hk2 : k < 64 := by
      rcases Nat.lt_or_ge k 64 with hk2 | hk2
      · exact hk2
      · have := Nat.pow_le_pow_right (n := 2) (by decide) hk2
        omega
    have h3 : b - a = 2 ^ k - 1 := by omega
    refine h k (by omega) h3 ?_
    rw [h3, Nat.and_two_pow_sub_one_eq_mod] at h2
    omega
end Go.Proofs.Ytbeegojdcgliiaa.P
