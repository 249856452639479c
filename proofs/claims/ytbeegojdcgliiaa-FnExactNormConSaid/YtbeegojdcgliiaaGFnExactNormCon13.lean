import Derived.Test.YtbeegojdcgliiaaGFnExactNormCon1
import Derived.Test.YtbeegojdcgliiaaGFnExactNormCon6
import Derived.Test.YtbeegojdcgliiaaGFnExactNormCon12
import Derived.Test.YtbeegojdcgliiaaWWords
import Derived.Test.YtbeegojdcgliiaaWMore
import Derived.Laws.BitsLemmas
import Derived.RowKit
import Derived.Test.YtbeegojdcgliiaaGFnExactNormCon5
namespace Go.Proofs.Ytbeegojdcgliiaa.P
open Go.RowKit Go.Proofs.YtbeegojdcgliiaaW.PrintWords Go.Proofs.YtbeegojdcgliiaaW.PrintLast Go.Proofs.YtbeegojdcgliiaaW.PrintMore
set_option linter.unusedVariables false

def wf3 (x : Int) : Prop := (Lit.int .i64 x).wf = true
theorem op3 : Opens Try.prog 3 (Kd.int .i64) wf3 := opens_int Try.underlying3 (by kernel_rfl)
def wf29 (x : Int) : Prop := (Lit.int .u64 x).wf = true
theorem op29 : Opens Try.prog 29 (Kd.int .u64) wf29 := opens_int Try.underlying29 (by kernel_rfl)
def wf31 (x : S31) : Prop := wf3 x.f0 ∧ wf29 x.f1 ∧ wf29 x.f2
theorem op31 : Opens Try.prog 31 k31 wf31 := opens_struct (fun y => (⟨y.1, y.2.1, y.2.2⟩ : S31)) _ (fun _ => rfl) Try.underlying31 (by kernel_rfl) (opensF_cons rfl op3 (opensF_cons rfl op29 (opensF_one rfl op29)))
/-- THE ONE PURE STATEMENT of laws_FnExactNormCon. -/
def laws_FnExactNormCon.Pure : Prop := ∀ (a0_0 : Int) (a0_1 : Int) (a0_2 : Int), (Lit.int .i64 a0_0).wf = true → (Lit.int .u64 a0_1).wf = true → (Lit.int .u64 a0_2).wf = true → ∃ k, laws_FnExactNormCon.f k a0_0 a0_1 a0_2 = some true
def wf24 (x : Int) : Prop := (Lit.int .u32 x).wf = true
theorem op24 : Opens Try.prog 24 (Kd.int .u32) wf24 := opens_int Try.underlying24 (by kernel_rfl)
def wf46 (x : List Int) : Prop := x.length ≤ maxLen ∧ ∀ y ∈ x, wf29 y
theorem op46 : Opens Try.prog 46 (Kd.slice 29 (Kd.int .u64)) wf46 := opens_slice Try.underlying46 (by kernel_rfl) op29
def wf48 (x : S48) : Prop := wf24 x.f0 ∧ wf24 x.f1 ∧ wf46 x.f2
theorem op48 : Opens Try.prog 48 k48 wf48 := opens_struct (fun y => (⟨y.1, y.2.1, y.2.2⟩ : S48)) _ (fun _ => rfl) Try.underlying48 (by kernel_rfl) (opensF_cons rfl op24 (opensF_cons rfl op24 (opensF_one rfl op46)))
/-- THE ONE PURE STATEMENT of laws_FnExactMakeRecord. -/
def laws_FnExactMakeRecord.Pure : Prop := ∀ (a0_0 : Int) (a0_1 : Int) (l0_2 : List Int) (a1 : Int), (Lit.int .u32 a0_0).wf = true → (Lit.int .u32 a0_1).wf = true → l0_2.length ≤ maxLen → (∀ x ∈ l0_2, wf29 x) → (Lit.int .u64 a1).wf = true → ∃ k, laws_FnExactMakeRecord.f k a0_0 a0_1 l0_2 a1 = some true
end Go.Proofs.Ytbeegojdcgliiaa.P

namespace Go.Proofs.Ytbeegojdcgliiaa.P
open Go.RowKit Go.Proofs.YtbeegojdcgliiaaW.PrintWords Go.Proofs.YtbeegojdcgliiaaW.PrintLast Go.Proofs.YtbeegojdcgliiaaW.PrintMore

set_option linter.unusedVariables false
set_option linter.unusedSimpArgs false

/-! Small words: rounds, wrapped sums, bits as those of whole numbers. -/
theorem wrap64_id {i : Int} (h0 : -9223372036854775808 ≤ i) (h1 : i < 9223372036854775808) : wrap64 i = i := by unfold wrap64; omega
theorem ev_step {α : Type} {g : Nat → Option α} {r : α} (f : Nat → Option α) (h : ∀ k, g (k + 1) = f k) (k : Ev f r) : Ev g r := Ev.step h k
theorem ev_end {α : Type} {g : Nat → Option α} {r : α} (h : ∀ k, g (k + 1) = some r) : Ev g r := Ev.step h (Ev.now r)
theorem ev_is {α : Type} {g : Nat → Option α} {r : α} (h : ∀ k, g k = some r) : Ev g r := ⟨0, fun k _ => h k⟩
theorem ev_get {α : Type} {g : Nat → Option α} {r : α} (h : Ev g r) : ∃ K, ∀ k, K ≤ k → g k = some r := h

theorem bits_and_nat (k : IntKind) (hk : k.signed = false) (a b : Nat) (ha : a < 2 ^ k.bits) (hb : b < 2 ^ k.bits) : bits .and k a b = ((a &&& b : Nat) : Int) := by
  have h1 : (a &&& b) < 2 ^ k.bits := Nat.and_lt_two_pow _ hb
  simp only [bits, BitVec.ofInt_natCast, BitVec.toNat_and, BitVec.toNat_ofNat, Nat.mod_eq_of_lt ha, Nat.mod_eq_of_lt hb, IntKind.wrap, hk]
  have : ((a &&& b : Nat) : Int) < ((2 ^ k.bits : Nat) : Int) := by exact_mod_cast h1
  simp
  exact Int.emod_eq_of_lt (Int.natCast_nonneg _) (by simpa using this)
theorem bits_or_nat (k : IntKind) (hk : k.signed = false) (a b : Nat) (ha : a < 2 ^ k.bits) (hb : b < 2 ^ k.bits) : bits .or k a b = ((a ||| b : Nat) : Int) := by
  have h1 : (a ||| b) < 2 ^ k.bits := Nat.or_lt_two_pow ha hb
  simp only [bits, BitVec.ofInt_natCast, BitVec.toNat_or, BitVec.toNat_ofNat, Nat.mod_eq_of_lt ha, Nat.mod_eq_of_lt hb, IntKind.wrap, hk]
  have : ((a ||| b : Nat) : Int) < ((2 ^ k.bits : Nat) : Int) := by exact_mod_cast h1
  simp
  exact Int.emod_eq_of_lt (Int.natCast_nonneg _) (by simpa using this)
theorem bits_xor_nat (k : IntKind) (hk : k.signed = false) (a b : Nat) (ha : a < 2 ^ k.bits) (hb : b < 2 ^ k.bits) : bits .xor k a b = ((a ^^^ b : Nat) : Int) := by
  have h1 : (a ^^^ b) < 2 ^ k.bits := Nat.xor_lt_two_pow ha hb
  simp only [bits, BitVec.ofInt_natCast, BitVec.toNat_xor, BitVec.toNat_ofNat, Nat.mod_eq_of_lt ha, Nat.mod_eq_of_lt hb, IntKind.wrap, hk]
  have : ((a ^^^ b : Nat) : Int) < ((2 ^ k.bits : Nat) : Int) := by exact_mod_cast h1
  simp
  exact Int.emod_eq_of_lt (Int.natCast_nonneg _) (by simpa using this)
theorem bits_andNot_nat (k : IntKind) (hk : k.signed = false) (a b : Nat) (ha : a < 2 ^ k.bits) (hb : b < 2 ^ k.bits) : bits .andNot k a b = ((a &&& (2 ^ k.bits - 1 - b) : Nat) : Int) := by
  have h1 : (a &&& (2 ^ k.bits - 1 - b)) < 2 ^ k.bits := Nat.lt_of_le_of_lt Nat.and_le_left ha
  simp only [bits, BitVec.ofInt_natCast, BitVec.toNat_and, BitVec.toNat_not, BitVec.toNat_ofNat, Nat.mod_eq_of_lt ha, Nat.mod_eq_of_lt hb, IntKind.wrap, hk]
  have : ((a &&& (2 ^ k.bits - 1 - b) : Nat) : Int) < ((2 ^ k.bits : Nat) : Int) := by exact_mod_cast h1
  simp only [Bool.false_and, Bool.false_eq_true, if_false]
  exact Int.emod_eq_of_lt (Int.natCast_nonneg _) (by simpa using this)
theorem wrap_range (k : IntKind) (hk : k.signed = false) (x : Int) : 0 ≤ k.wrap x ∧ k.wrap x < 2 ^ k.bits := by
  have hp : (0 : Int) < 2 ^ k.bits := Int.pow_pos (by decide)
  simp only [IntKind.wrap, hk, Bool.false_and, Bool.false_eq_true, if_false]
  exact ⟨Int.emod_nonneg _ (Int.ne_of_gt hp), Int.emod_lt_of_pos _ hp⟩
theorem bits_range (op : BinOp) (k : IntKind) (hk : k.signed = false) (x y : Int) : 0 ≤ bits op k x y ∧ bits op k x y < 2 ^ k.bits := wrap_range k hk _
theorem bits_u8 (op : BinOp) (x y : Int) : 0 ≤ bits op .u8 x y ∧ bits op .u8 x y < 256 := by
  have h := bits_range op .u8 rfl x y
  simp only [IntKind.bits] at h
  omega
theorem bits_u16 (op : BinOp) (x y : Int) : 0 ≤ bits op .u16 x y ∧ bits op .u16 x y < 65536 := by
  have h := bits_range op .u16 rfl x y
  simp only [IntKind.bits] at h
  omega
theorem bits_u32 (op : BinOp) (x y : Int) : 0 ≤ bits op .u32 x y ∧ bits op .u32 x y < 4294967296 := by
  have h := bits_range op .u32 rfl x y
  simp only [IntKind.bits] at h
  omega
theorem bits_u64 (op : BinOp) (x y : Int) : 0 ≤ bits op .u64 x y ∧ bits op .u64 x y < 18446744073709551616 := by
  have h := bits_range op .u64 rfl x y
  simp only [IntKind.bits] at h
  omega
theorem bits_xor_comm (k : IntKind) (x y : Int) : bits .xor k x y = bits .xor k y x := by
  simp only [bits, BitVec.xor_comm]
theorem bits_and_comm (k : IntKind) (x y : Int) : bits .and k x y = bits .and k y x := by
  simp only [bits, BitVec.and_comm]
theorem u32_and1 (x : Int) (h0 : 0 ≤ x) (h1 : x < 4294967296) : bits .and .u32 x 1 = x % 2 := by
  obtain ⟨a, rfl⟩ := Int.eq_ofNat_of_zero_le h0
  have : a < 4294967296 := by omega
  rw [show (1 : Int) = ((1 : Nat) : Int) from rfl, bits_and_nat .u32 rfl a 1 (by simpa [IntKind.bits] using this) (by decide), Nat.and_one_is_mod]
  omega

/-! Lists. -/
theorem rd_eq (l : List Int) (i : Nat) (h : i < l.length) : rd l i = l[i] := by
  simp [rd, List.getD_eq_getElem?_getD, List.getElem?_eq_getElem h]
theorem take_set_next {α : Type} (acc l : List α) (i : Nat) (x : α) (h : i < acc.length) (hx : l[i]? = some x) (ht : acc.take i = l.take i) : (acc.set i x).take (i + 1) = l.take (i + 1) := by
  apply List.ext_getElem?
  intro j
  by_cases hj : j < i + 1
  · rw [List.getElem?_take_of_lt hj, List.getElem?_take_of_lt hj]
    by_cases e : j = i
    · subst e; rw [List.getElem?_set_self h, hx]
    · rw [List.getElem?_set_ne (by omega)]
      have h2 : (acc.take i)[j]? = (l.take i)[j]? := by rw [ht]
      rw [List.getElem?_take_of_lt (by omega), List.getElem?_take_of_lt (by omega)] at h2
      exact h2
  · rw [List.getElem?_eq_none (by rw [List.length_take]; omega), List.getElem?_eq_none (by rw [List.length_take]; omega)]
theorem mem_u8 {l : List Int} (h : ∀ x ∈ l, (Lit.int .u8 x).wf = true) (x : Int) (hx : x ∈ l) : 0 ≤ x ∧ x < 256 := by
  have := h x hx
  simp only [Lit.wf, IntKind.min, IntKind.max, IntKind.signed, IntKind.bits, Bool.and_eq_true] at this
  simp at this
  omega

/-! Loops: what they come to, from some number of rounds on. -/
theorem ev_loop_eq {α : Type} (L : Nat → Int → Option Bool) (a b : List α) (hl : a.length = b.length)
    (hend : Ev (fun k => L k (a.length : Int)) true)
    (hyes : ∀ i (h : i < a.length) (h' : i < b.length), a[i] = b[i] → ∀ r, Ev (fun k => L k ((i + 1 : Nat) : Int)) r → Ev (fun k => L k (i : Int)) r)
    (hno : ∀ i (h : i < a.length) (h' : i < b.length), a[i] ≠ b[i] → Ev (fun k => L k (i : Int)) false) :
    ∀ r : Bool, (r = true ↔ a = b) → Ev (fun k => L k 0) r := by
  intro r hr
  have key : ∀ d i, i + d = a.length → a.take i = b.take i → Ev (fun k => L k (i : Int)) r := by
    intro d
    induction d with
    | zero =>
      intro i hi ht
      have e : i = a.length := by omega
      subst e
      rw [List.take_length, hl, List.take_length] at ht
      rw [hr.2 ht]
      exact hend
    | succ d ih =>
      intro i hi ht
      have h : i < a.length := by omega
      have h' : i < b.length := by omega
      by_cases e : a[i] = b[i]
      · refine hyes i h h' e r (ih (i + 1) (by omega) ?_)
        rw [List.take_succ_eq_append_getElem h, List.take_succ_eq_append_getElem h', ht, e]
      · have : r = false := by
          cases r with
          | false => rfl
          | true =>
            have e2 := hr.1 rfl
            subst e2
            exact absurd rfl e
        rw [this]
        exact hno i h h' e
  exact key a.length 0 (by omega) rfl
/-- A loop that counts up to n, with a state: s0 at the begin, sn at the end. -/
theorem ev_loop {σ ρ : Type} (L : Nat → σ → Int → Option ρ) (n : Nat) (S : Nat → σ) (s0 sn : σ) (h0 : S 0 = s0) (hn : S n = sn)
    (hstep : ∀ i, i < n → ∀ r, Ev (fun k => L k (S (i + 1)) ((i + 1 : Nat) : Int)) r → Ev (fun k => L k (S i) (i : Int)) r) :
    ∀ r, Ev (fun k => L k sn (n : Int)) r → Ev (fun k => L k s0 0) r := by
  intro r hr
  subst h0
  subst hn
  have key : ∀ d i, i + d = n → Ev (fun k => L k (S i) (i : Int)) r := by
    intro d
    induction d with
    | zero => intro i hi; have e : i = n := by omega
              subst e; exact hr
    | succ d ih => intro i hi; exact hstep i (by omega) r (ih (i + 1) (by omega))
  exact key n 0 (by omega)
/-- The list that is filled from its begin: i elements done. -/
def filled {α β : Type} (f : α → β) (a : List α) (z : β) (i : Nat) : List β := (a.take i).map f ++ List.replicate (a.length - i) z
theorem filled_zero {α β : Type} (f : α → β) (a : List α) (z : β) : filled f a z 0 = List.replicate a.length z := by simp [filled]
theorem filled_all {α β : Type} (f : α → β) (a : List α) (z : β) : filled f a z a.length = a.map f := by simp [filled]
theorem filled_length {α β : Type} (f : α → β) (a : List α) (z : β) (i : Nat) (h : i ≤ a.length) : (filled f a z i).length = a.length := by simp [filled]; omega
theorem filled_set {α β : Type} (f : α → β) (a : List α) (z : β) (i : Nat) (h : i < a.length) : (filled f a z i).set i (f a[i]) = filled f a z (i + 1) := by
  unfold filled
  have h1 : ((a.take i).map f).length = i := by simp; omega
  rw [List.set_append_right i _ (by omega), h1, Nat.sub_self]
  obtain ⟨m, hm⟩ : ∃ m, a.length - i = m + 1 := ⟨a.length - i - 1, by omega⟩
  rw [hm, show a.length - (i + 1) = m by omega, List.replicate_succ, List.set_cons_zero, List.take_succ_eq_append_getElem h, List.map_append, List.append_assoc]
  rfl
end Go.Proofs.Ytbeegojdcgliiaa.P

namespace Go.Proofs.Ytbeegojdcgliiaa.P
open Go.RowKit Go.Proofs.YtbeegojdcgliiaaW.PrintWords Go.Proofs.YtbeegojdcgliiaaW.PrintLast Go.Proofs.YtbeegojdcgliiaaW.PrintMore
set_option linter.unusedVariables false
set_option linter.unusedSimpArgs false

/-! Conditions: plain numbers. -/
theorem wf_u64 {x : Int} (h : (Lit.int .u64 x).wf = true) : 0 ≤ x ∧ x < 18446744073709551616 := by
  simp only [Lit.wf, IntKind.min, IntKind.max, IntKind.signed, IntKind.bits, Bool.and_eq_true] at h
  simp at h
  omega
theorem wf_u32 {x : Int} (h : (Lit.int .u32 x).wf = true) : 0 ≤ x ∧ x < 4294967296 := by
  simp only [Lit.wf, IntKind.min, IntKind.max, IntKind.signed, IntKind.bits, Bool.and_eq_true] at h
  simp at h
  omega
theorem nat_u64 {x : Int} (h : (Lit.int .u64 x).wf = true) : ∃ n : Nat, x = (n : Int) ∧ n < 18446744073709551616 := by
  have := wf_u64 h
  exact ⟨x.toNat, by omega, by omega⟩
theorem wrap_u64 (x : Int) : IntKind.u64.wrap x = x % 18446744073709551616 := by simp [IntKind.wrap, IntKind.bits, IntKind.signed]
theorem wrap_u64_id {x : Int} (h0 : 0 ≤ x) (h1 : x < 18446744073709551616) : IntKind.u64.wrap x = x := by rw [wrap_u64]; omega
theorem ones_xor (x : Nat) (h : x < 18446744073709551616) : 18446744073709551615 ^^^ x = 18446744073709551615 - x := by
  have h1 := BitVec.toNat_not (x := BitVec.ofNat 64 x)
  rw [← BitVec.allOnes_xor, BitVec.toNat_xor, BitVec.toNat_allOnes, BitVec.toNat_ofNat] at h1
  have h2 : x % 2 ^ 64 = x := Nat.mod_eq_of_lt (by omega)
  rw [h2] at h1
  have e : (2 : Nat) ^ 64 - 1 = 18446744073709551615 := by decide
  rw [e] at h1
  exact h1
theorem and64 (a b : Nat) (ha : a < 18446744073709551616) (hb : b < 18446744073709551616) : bits .and .u64 (a : Int) (b : Int) = ((a &&& b : Nat) : Int) := bits_and_nat .u64 rfl a b (by simpa [IntKind.bits] using ha) (by simpa [IntKind.bits] using hb)
theorem or64 (a b : Nat) (ha : a < 18446744073709551616) (hb : b < 18446744073709551616) : bits .or .u64 (a : Int) (b : Int) = ((a ||| b : Nat) : Int) := bits_or_nat .u64 rfl a b (by simpa [IntKind.bits] using ha) (by simpa [IntKind.bits] using hb)
theorem xor64 (a b : Nat) (ha : a < 18446744073709551616) (hb : b < 18446744073709551616) : bits .xor .u64 (a : Int) (b : Int) = ((a ^^^ b : Nat) : Int) := bits_xor_nat .u64 rfl a b (by simpa [IntKind.bits] using ha) (by simpa [IntKind.bits] using hb)
theorem not64 (a : Nat) (ha : a < 18446744073709551616) : bits .xor .u64 18446744073709551615 (a : Int) = ((18446744073709551615 - a : Nat) : Int) := by
  rw [show (18446744073709551615 : Int) = ((18446744073709551615 : Nat) : Int) from rfl, xor64 _ a (by omega) ha, ones_xor a ha]
theorem andNot64 (a b : Nat) (ha : a < 18446744073709551616) (hb : b < 18446744073709551616) : bits .andNot .u64 (a : Int) (b : Int) = ((a &&& (18446744073709551615 - b) : Nat) : Int) := by
  rw [bits_andNot_nat .u64 rfl a b (by simpa [IntKind.bits] using ha) (by simpa [IntKind.bits] using hb)]
  rfl
/-- b's bits lie among a's: two ways to say so. -/
theorem sub_bits (a b : Nat) (ha : a < 18446744073709551616) (hb : b < 18446744073709551616) : (b &&& (18446744073709551615 - a) = 0) ↔ (a ||| b = a) := by
  rw [← ones_xor a ha]
  have ones : ∀ i, (18446744073709551615 : Nat).testBit i = decide (i < 64) := fun i => by
    rw [show (18446744073709551615 : Nat) = 2 ^ 64 - 1 by decide, Nat.testBit_two_pow_sub_one]
  constructor
  · intro h
    apply Nat.eq_of_testBit_eq
    intro i
    have h1 := congrArg (fun z => z.testBit i) h
    simp only [Nat.testBit_and, Nat.testBit_xor, ones, Nat.zero_testBit] at h1
    rw [Nat.testBit_or]
    by_cases hi : i < 64
    · simp only [hi, decide_true] at h1
      cases hx : a.testBit i <;> cases hy : b.testBit i <;> simp_all
    · have hz : b.testBit i = false := Nat.testBit_lt_two_pow (Nat.lt_of_lt_of_le (by omega : b < 2 ^ 64) (Nat.pow_le_pow_right (by decide) (by omega)))
      rw [hz, Bool.or_false]
  · intro h
    apply Nat.eq_of_testBit_eq
    intro i
    have h1 := congrArg (fun z => z.testBit i) h
    simp only [Nat.testBit_or] at h1
    simp only [Nat.testBit_and, Nat.testBit_xor, ones, Nat.zero_testBit]
    by_cases hi : i < 64
    · simp only [hi, decide_true]
      cases hx : a.testBit i <;> cases hy : b.testBit i <;> simp_all
    · have hz : b.testBit i = false := Nat.testBit_lt_two_pow (Nat.lt_of_lt_of_le (by omega : b < 2 ^ 64) (Nat.pow_le_pow_right (by decide) (by omega)))
      rw [hz, Bool.false_and]
theorem two_pow_lt (k : Nat) (h : k < 64) : 0 < 2 ^ k ∧ 2 ^ k ≤ 9223372036854775808 := ⟨Nat.two_pow_pos k, by
  have := Nat.pow_le_pow_right (n := 2) (by decide) (show k ≤ 63 by omega)
  simpa using this⟩
theorem two_pow_le (k : Nat) (h : k ≤ 64) : 0 < 2 ^ k ∧ 2 ^ k ≤ 18446744073709551616 := ⟨Nat.two_pow_pos k, by
  have := Nat.pow_le_pow_right (n := 2) (by decide) h
  simpa using this⟩
theorem two_pow_inj {j k : Nat} (h : 2 ^ j = 2 ^ k) : j = k := (Nat.pow_right_inj (by decide : 1 < 2)).1 h
theorem nrN_is (a b : Nat) (hab : a ≤ b) (hb : b < 18446744073709551616) : nrN (a : Int) (b : Int) = (((b - a + 1) % 18446744073709551616 : Nat) : Int) := by
  unfold nrN
  rw [wrap_u64, wrap_u64]
  omega
/-- The normal condition of a range: by the one k, or none. -/
theorem nrRaw_block (a b k : Nat) (hab : a ≤ b) (hb : b < 18446744073709551616) (hk : k ≤ 64) (h : b - a = 2 ^ k - 1) (hm : a % 2 ^ k = 0) :
    (nrRaw (a : Int) (b : Int)).con = if k = 64 then (0, 0, 0) else (1, ((18446744073709551615 - (2 ^ k - 1) : Nat) : Int), (a : Int)) := by
  have hp := two_pow_le k hk
  unfold nrRaw
  rw [nrN_is a b hab hb]
  by_cases e : k = 64
  · subst e
    have : (b - a + 1) % 18446744073709551616 = 0 := by
      rw [h]
    rw [this]
    simp [Cd.con]
  · have hk2 : k < 64 := by omega
    have hp2 := two_pow_lt k hk2
    have e1 : (b - a + 1) % 18446744073709551616 = 2 ^ k := by rw [h, Nat.sub_add_cancel hp.1]; exact Nat.mod_eq_of_lt (by omega)
    have e2 : IntKind.u64.wrap (((2 ^ k : Nat) : Int) - 1) = ((2 ^ k - 1 : Nat) : Int) := by rw [wrap_u64_id (by omega) (by omega)]; omega
    have e3 : 2 ^ k &&& (2 ^ k - 1) = 0 := by rw [Nat.and_two_pow_sub_one_eq_mod]; exact Nat.mod_self _
    have e4 : a &&& (2 ^ k - 1) = 0 := by rw [Nat.and_two_pow_sub_one_eq_mod]; exact hm
    rw [e1, e2, and64 _ _ (by omega) (by omega), and64 _ _ (by omega) (by omega), e3, e4, not64 _ (by omega), if_neg (by omega), if_pos ⟨rfl, rfl⟩, if_neg e]
    rfl
theorem nrRaw_plain (a b : Nat) (hab : a ≤ b) (hb : b < 18446744073709551616) (h : ∀ k, k ≤ 64 → b - a = 2 ^ k - 1 → a % 2 ^ k ≠ 0) : nrRaw (a : Int) (b : Int) = .rng a b := by
  unfold nrRaw
  rw [nrN_is a b hab hb]
  by_cases e0 : b - a + 1 = 18446744073709551616
  · exact absurd (show a % 2 ^ 64 = 0 by omega) (h 64 (Nat.le_refl _) (by rw [show (2 : Nat) ^ 64 - 1 = 18446744073709551615 by decide]; omega))
  · have e1 : (b - a + 1) % 18446744073709551616 = b - a + 1 := Nat.mod_eq_of_lt (by omega)
    have e2 : IntKind.u64.wrap (((b - a + 1 : Nat) : Int) - 1) = ((b - a : Nat) : Int) := by rw [wrap_u64_id (by omega) (by omega)]; omega
    rw [e1, e2, if_neg (by omega), and64 _ _ (by omega) (by omega), and64 _ _ (by omega) (by omega)]
    refine if_neg ?_
    rintro ⟨h1, h2⟩
    have h1' : (b - a + 1) &&& (b - a + 1 - 1) = 0 := by rw [Nat.add_sub_cancel]; omega
    obtain ⟨k, hk⟩ := (Nat.and_sub_one_eq_zero_iff_isPowerOfTwo (by omega)).1 h1'
    have hk2 : k < 64 := by
      rcases Nat.lt_or_ge k 64 with hk2 | hk2
      · exact hk2
      · have := Nat.pow_le_pow_right (n := 2) (by decide) hk2
        omega
    have h3 : b - a = 2 ^ k - 1 := by omega
    refine h k (by omega) h3 ?_
    rw [h3, Nat.and_two_pow_sub_one_eq_mod] at h2
    omega
end Go.Proofs.Ytbeegojdcgliiaa.P
