import Derived.Test.YtdipinclchkhjaaWWords
import Derived.Test.YtdipinclchkhjaaWMore
import Derived.Laws.BitsLemmas
import Derived.RowKit
import Derived.Test.YtdipinclchkhjaaGFnExactCover7
import Derived.Lib.ItoaNum
namespace Go.Proofs.Ytdipinclchkhjaa.P
open Go.RowKit Go.Proofs.YtdipinclchkhjaaW.PrintWords Go.Proofs.YtdipinclchkhjaaW.PrintLast Go.Proofs.YtdipinclchkhjaaW.PrintMore

set_option linter.unusedVariables false
set_option linter.unusedSimpArgs false

/-! Small words: rounds, wrapped sums, bits as those of whole numbers. -/
theorem wrap64_id {i : Int} (h0 : -9223372036854775808 ≤ i) (h1 : i < 9223372036854775808) : wrap64 i = i := by unfold wrap64; omega
theorem bo {α β : Type} {o : Option α} {x : α} {f : α → Option β} {r : Option β} (h : o = some x) (k : f x = r) : o.bind f = r := by rw [h]; exact k
theorem ev_step {α : Type} {g : Nat → Option α} {r : α} (f : Nat → Option α) (h : ∀ k, g (k + 1) = f k) (k : Ev f r) : Ev g r := Ev.step h k
theorem ev_end {α : Type} {g : Nat → Option α} {r : α} (h : ∀ k, g (k + 1) = some r) : Ev g r := Ev.step h (Ev.now r)
theorem ev_is {α : Type} {g : Nat → Option α} {r : α} (h : ∀ k, g k = some r) : Ev g r := ⟨0, fun k _ => h k⟩
theorem ev_mk {α : Type} {g : Nat → Option α} {r : α} (K : Nat) (h : ∀ k, K ≤ k → g k = some r) : Ev g r := ⟨K, h⟩
theorem ev_get {α : Type} {g : Nat → Option α} {r : α} (h : Ev g r) : ∃ K, ∀ k, K ≤ k → g k = some r := h

theorem bits_and_nat (k : IntKind) (hk : k.signed = false) (a b : Nat) (ha : a < 2 ^ k.bits) (hb : b < 2 ^ k.bits) : bits .and k a b = ((a &&& b : Nat) : Int) := by
  have h1 : (a &&& b) < 2 ^ k.bits := Nat.and_lt_two_pow _ hb
  simp only [bits, BitVec.ofInt_natCast, BitVec.toNat_and, BitVec.toNat_ofNat, Nat.mod_eq_of_lt ha, Nat.mod_eq_of_lt hb, IntKind.wrap, hk]
  have : ((a &&& b : Nat) : Int) < ((2 ^ k.bits : Nat) : Int) := by exact_mod_cast h1
  simp
  exact Int.emod_eq_of_lt (Int.natCast_nonneg _) (by simpa using this)
theorem bits_or_nat (k : IntKind) (hk : k.signed = false) (a b : Nat) (ha : a < 2 ^ k.bits) (hb : b < 2 ^ k.bits) : bits .or k a b = ((a ||| b : Nat) : Int) := by
  have h1 : (a ||| b) < 2 ^ k.bits := Nat.or_lt_two_pow ha hb
  simp only [bits, BitVec.ofInt_natCast, BitVec.toNat_or, BitVec.toNat_ofNat, Nat.mod_eq_of_lt ha, Nat.mod_eq_of_lt hb, IntKind.wrap, hk]
  have : ((a ||| b : Nat) : Int) < ((2 ^ k.bits : Nat) : Int) := by exact_mod_cast h1
  simp
  exact Int.emod_eq_of_lt (Int.natCast_nonneg _) (by simpa using this)
theorem bits_xor_nat (k : IntKind) (hk : k.signed = false) (a b : Nat) (ha : a < 2 ^ k.bits) (hb : b < 2 ^ k.bits) : bits .xor k a b = ((a ^^^ b : Nat) : Int) := by
  have h1 : (a ^^^ b) < 2 ^ k.bits := Nat.xor_lt_two_pow ha hb
  simp only [bits, BitVec.ofInt_natCast, BitVec.toNat_xor, BitVec.toNat_ofNat, Nat.mod_eq_of_lt ha, Nat.mod_eq_of_lt hb, IntKind.wrap, hk]
  have : ((a ^^^ b : Nat) : Int) < ((2 ^ k.bits : Nat) : Int) := by exact_mod_cast h1
  simp
  exact Int.emod_eq_of_lt (Int.natCast_nonneg _) (by simpa using this)
theorem bits_andNot_nat (k : IntKind) (hk : k.signed = false) (a b : Nat) (ha : a < 2 ^ k.bits) (hb : b < 2 ^ k.bits) : bits .andNot k a b = ((a &&& (2 ^ k.bits - 1 - b) : Nat) : Int) := by
  have h1 : (a &&& (2 ^ k.bits - 1 - b)) < 2 ^ k.bits := Nat.lt_of_le_of_lt Nat.and_le_left ha
  simp only [bits, BitVec.ofInt_natCast, BitVec.toNat_and, BitVec.toNat_not, BitVec.toNat_ofNat, Nat.mod_eq_of_lt ha, Nat.mod_eq_of_lt hb, IntKind.wrap, hk]
  have : ((a &&& (2 ^ k.bits - 1 - b) : Nat) : Int) < ((2 ^ k.bits : Nat) : Int) := by exact_mod_cast h1
  simp only [Bool.false_and, Bool.false_eq_true, if_false]
  exact Int.emod_eq_of_lt (Int.natCast_nonneg _) (by simpa using this)
theorem wrap_range (k : IntKind) (hk : k.signed = false) (x : Int) : 0 ≤ k.wrap x ∧ k.wrap x < 2 ^ k.bits := by
  have hp : (0 : Int) < 2 ^ k.bits := Int.pow_pos (by decide)
  simp only [IntKind.wrap, hk, Bool.false_and, Bool.false_eq_true, if_false]
  exact ⟨Int.emod_nonneg _ (Int.ne_of_gt hp), Int.emod_lt_of_pos _ hp⟩
theorem bits_range (op : BinOp) (k : IntKind) (hk : k.signed = false) (x y : Int) : 0 ≤ bits op k x y ∧ bits op k x y < 2 ^ k.bits := wrap_range k hk _
theorem bits_u8 (op : BinOp) (x y : Int) : 0 ≤ bits op .u8 x y ∧ bits op .u8 x y < 256 := by
  have h := bits_range op .u8 rfl x y
  simp only [IntKind.bits] at h
  omega
theorem bits_u16 (op : BinOp) (x y : Int) : 0 ≤ bits op .u16 x y ∧ bits op .u16 x y < 65536 := by
  have h := bits_range op .u16 rfl x y
  simp only [IntKind.bits] at h
  omega
theorem bits_u32 (op : BinOp) (x y : Int) : 0 ≤ bits op .u32 x y ∧ bits op .u32 x y < 4294967296 := by
  have h := bits_range op .u32 rfl x y
  simp only [IntKind.bits] at h
  omega
theorem bits_u64 (op : BinOp) (x y : Int) : 0 ≤ bits op .u64 x y ∧ bits op .u64 x y < 18446744073709551616 := by
  have h := bits_range op .u64 rfl x y
  simp only [IntKind.bits] at h
  omega
theorem bits_xor_comm (k : IntKind) (x y : Int) : bits .xor k x y = bits .xor k y x := by
  simp only [bits, BitVec.xor_comm]
theorem bits_and_comm (k : IntKind) (x y : Int) : bits .and k x y = bits .and k y x := by
  simp only [bits, BitVec.and_comm]
theorem u32_and1 (x : Int) (h0 : 0 ≤ x) (h1 : x < 4294967296) : bits .and .u32 x 1 = x % 2 := by
  obtain ⟨a, rfl⟩ := Int.eq_ofNat_of_zero_le h0
  have : a < 4294967296 := by omega
  rw [show (1 : Int) = ((1 : Nat) : Int) from rfl, bits_and_nat .u32 rfl a 1 (by simpa [IntKind.bits] using this) (by decide), Nat.and_one_is_mod]
  omega

/-! Lists. -/
theorem rd_eq (l : List Int) (i : Nat) (h : i < l.length) : rd l i = l[i] := by
  simp [rd, List.getD_eq_getElem?_getD, List.getElem?_eq_getElem h]
theorem take_set_next {α : Type} (acc l : List α) (i : Nat) (x : α) (h : i < acc.length) (hx : l[i]? = some x) (ht : acc.take i = l.take i) : (acc.set i x).take (i + 1) = l.take (i + 1) := by
  apply List.ext_getElem?
  intro j
  by_cases hj : j < i + 1
  · rw [List.getElem?_take_of_lt hj, List.getElem?_take_of_lt hj]
    by_cases e : j = i
    · subst e; rw [List.getElem?_set_self h, hx]
    · rw [List.getElem?_set_ne (by omega)]
      have h2 : (acc.take i)[j]? = (l.take i)[j]? := by rw [ht]
      rw [List.getElem?_take_of_lt (by omega), List.getElem?_take_of_lt (by omega)] at h2
      exact h2
  · rw [List.getElem?_eq_none (by rw [List.length_take]; omega), List.getElem?_eq_none (by rw [List.length_take]; omega)]
theorem mem_u8 {l : List Int} (h : ∀ x ∈ l, (Lit.int .u8 x).wf = true) (x : Int) (hx : x ∈ l) : 0 ≤ x ∧ x < 256 := by
  have := h x hx
  simp only [Lit.wf, IntKind.min, IntKind.max, IntKind.signed, IntKind.bits, Bool.and_eq_true] at this
  simp at this
  omega

/-! Loops: what they come to, from some number of rounds on. -/
theorem ev_loop_eq {α : Type} (L : Nat → Int → Option Bool) (a b : List α) (hl : a.length = b.length)
    (hend : Ev (fun k => L k (a.length : Int)) true)
    (hyes : ∀ i (h : i < a.length) (h' : i < b.length), a[i] = b[i] → ∀ r, Ev (fun k => L k ((i + 1 : Nat) : Int)) r → Ev (fun k => L k (i : Int)) r)
    (hno : ∀ i (h : i < a.length) (h' : i < b.length), a[i] ≠ b[i] → Ev (fun k => L k (i : Int)) false) :
    ∀ r : Bool, (r = true ↔ a = b) → Ev (fun k => L k 0) r := by
  intro r hr
  have key : ∀ d i, i + d = a.length → a.take i = b.take i → Ev (fun k => L k (i : Int)) r := by
    intro d
    induction d with
    | zero =>
      intro i hi ht
      have e : i = a.length := by omega
      subst e
      rw [List.take_length, hl, List.take_length] at ht
      rw [hr.2 ht]
      exact hend
    | succ d ih =>
      intro i hi ht
      have h : i < a.length := by omega
      have h' : i < b.length := by omega
      by_cases e : a[i] = b[i]
      · refine hyes i h h' e r (ih (i + 1) (by omega) ?_)
        rw [List.take_succ_eq_append_getElem h, List.take_succ_eq_append_getElem h', ht, e]
      · have : r = false := by
          cases r with
          | false => rfl
          | true =>
            have e2 := hr.1 rfl
            subst e2
            exact absurd rfl e
        rw [this]
        exact hno i h h' e
  exact key a.length 0 (by omega) rfl
/-- A loop that counts up to n, with a state: s0 at the begin, sn at the end. -/
theorem ev_loop {σ ρ : Type} (L : Nat → σ → Int → Option ρ) (n : Nat) (S : Nat → σ) (s0 sn : σ) (h0 : S 0 = s0) (hn : S n = sn)
    (hstep : ∀ i, i < n → ∀ r, Ev (fun k => L k (S (i + 1)) ((i + 1 : Nat) : Int)) r → Ev (fun k => L k (S i) (i : Int)) r) :
    ∀ r, Ev (fun k => L k sn (n : Int)) r → Ev (fun k => L k s0 0) r := by
  intro r hr
  subst h0
  subst hn
  have key : ∀ d i, i + d = n → Ev (fun k => L k (S i) (i : Int)) r := by
    intro d
    induction d with
    | zero => intro i hi; have e : i = n := by omega
              subst e; exact hr
    | succ d ih => intro i hi; exact hstep i (by omega) r (ih (i + 1) (by omega))
  exact key n 0 (by omega)
/-- The list that is filled from its begin: i elements done. -/
def filled {α β : Type} (f : α → β) (a : List α) (z : β) (i : Nat) : List β := (a.take i).map f ++ List.replicate (a.length - i) z
theorem filled_zero {α β : Type} (f : α → β) (a : List α) (z : β) : filled f a z 0 = List.replicate a.length z := by simp [filled]
theorem filled_all {α β : Type} (f : α → β) (a : List α) (z : β) : filled f a z a.length = a.map f := by simp [filled]
theorem filled_length {α β : Type} (f : α → β) (a : List α) (z : β) (i : Nat) (h : i ≤ a.length) : (filled f a z i).length = a.length := by simp [filled]; omega
theorem filled_set {α β : Type} (f : α → β) (a : List α) (z : β) (i : Nat) (h : i < a.length) : (filled f a z i).set i (f a[i]) = filled f a z (i + 1) := by
  unfold filled
  have h1 : ((a.take i).map f).length = i := by simp; omega
  rw [List.set_append_right i _ (by omega), h1, Nat.sub_self]
  obtain ⟨m, hm⟩ : ∃ m, a.length - i = m + 1 := ⟨a.length - i - 1, by omega⟩
  rw [hm, show a.length - (i + 1) = m by omega, List.replicate_succ, List.set_cons_zero, List.take_succ_eq_append_getElem h, List.map_append, List.append_assoc]
  rfl
end Go.Proofs.Ytdipinclchkhjaa.P

namespace Go.Proofs.Ytdipinclchkhjaa.P
open Go.RowKit Go.Proofs.YtdipinclchkhjaaW.PrintWords Go.Proofs.YtdipinclchkhjaaW.PrintLast Go.Proofs.YtdipinclchkhjaaW.PrintMore
set_option linter.unusedVariables false
set_option linter.unusedSimpArgs false

/-! Conditions: plain numbers. -/
theorem wf_u64 {x : Int} (h : (Lit.int .u64 x).wf = true) : 0 ≤ x ∧ x < 18446744073709551616 := by
  simp only [Lit.wf, IntKind.min, IntKind.max, IntKind.signed, IntKind.bits, Bool.and_eq_true] at h
  simp at h
  omega
theorem wf_u32 {x : Int} (h : (Lit.int .u32 x).wf = true) : 0 ≤ x ∧ x < 4294967296 := by
  simp only [Lit.wf, IntKind.min, IntKind.max, IntKind.signed, IntKind.bits, Bool.and_eq_true] at h
  simp at h
  omega
theorem nat_u64 {x : Int} (h : (Lit.int .u64 x).wf = true) : ∃ n : Nat, x = (n : Int) ∧ n < 18446744073709551616 := by
  have := wf_u64 h
  exact ⟨x.toNat, by omega, by omega⟩
theorem wrap_u64 (x : Int) : IntKind.u64.wrap x = x % 18446744073709551616 := by simp [IntKind.wrap, IntKind.bits, IntKind.signed]
theorem wrap_u64_id {x : Int} (h0 : 0 ≤ x) (h1 : x < 18446744073709551616) : IntKind.u64.wrap x = x := by rw [wrap_u64]; omega
theorem ones_xor (x : Nat) (h : x < 18446744073709551616) : 18446744073709551615 ^^^ x = 18446744073709551615 - x := by
  have h1 := BitVec.toNat_not (x := BitVec.ofNat 64 x)
  rw [← BitVec.allOnes_xor, BitVec.toNat_xor, BitVec.toNat_allOnes, BitVec.toNat_ofNat] at h1
  have h2 : x % 2 ^ 64 = x := Nat.mod_eq_of_lt (by omega)
  rw [h2] at h1
  have e : (2 : Nat) ^ 64 - 1 = 18446744073709551615 := by decide
  rw [e] at h1
  exact h1
theorem and64 (a b : Nat) (ha : a < 18446744073709551616) (hb : b < 18446744073709551616) : bits .and .u64 (a : Int) (b : Int) = ((a &&& b : Nat) : Int) := bits_and_nat .u64 rfl a b (by simpa [IntKind.bits] using ha) (by simpa [IntKind.bits] using hb)
theorem or64 (a b : Nat) (ha : a < 18446744073709551616) (hb : b < 18446744073709551616) : bits .or .u64 (a : Int) (b : Int) = ((a ||| b : Nat) : Int) := bits_or_nat .u64 rfl a b (by simpa [IntKind.bits] using ha) (by simpa [IntKind.bits] using hb)
theorem xor64 (a b : Nat) (ha : a < 18446744073709551616) (hb : b < 18446744073709551616) : bits .xor .u64 (a : Int) (b : Int) = ((a ^^^ b : Nat) : Int) := bits_xor_nat .u64 rfl a b (by simpa [IntKind.bits] using ha) (by simpa [IntKind.bits] using hb)
theorem not64 (a : Nat) (ha : a < 18446744073709551616) : bits .xor .u64 18446744073709551615 (a : Int) = ((18446744073709551615 - a : Nat) : Int) := by
  rw [show (18446744073709551615 : Int) = ((18446744073709551615 : Nat) : Int) from rfl, xor64 _ a (by omega) ha, ones_xor a ha]
theorem andNot64 (a b : Nat) (ha : a < 18446744073709551616) (hb : b < 18446744073709551616) : bits .andNot .u64 (a : Int) (b : Int) = ((a &&& (18446744073709551615 - b) : Nat) : Int) := by
  rw [bits_andNot_nat .u64 rfl a b (by simpa [IntKind.bits] using ha) (by simpa [IntKind.bits] using hb)]
  rfl
/-- b's bits lie among a's: two ways to say so. -/
theorem sub_bits (a b : Nat) (ha : a < 18446744073709551616) (hb : b < 18446744073709551616) : (b &&& (18446744073709551615 - a) = 0) ↔ (a ||| b = a) := by
  rw [← ones_xor a ha]
  have ones : ∀ i, (18446744073709551615 : Nat).testBit i = decide (i < 64) := fun i => by
    rw [show (18446744073709551615 : Nat) = 2 ^ 64 - 1 by decide, Nat.testBit_two_pow_sub_one]
  constructor
  · intro h
    apply Nat.eq_of_testBit_eq
    intro i
    have h1 := congrArg (fun z => z.testBit i) h
    simp only [Nat.testBit_and, Nat.testBit_xor, ones, Nat.zero_testBit] at h1
    rw [Nat.testBit_or]
    by_cases hi : i < 64
    · simp only [hi, decide_true] at h1
      cases hx : a.testBit i <;> cases hy : b.testBit i <;> simp_all
    · have hz : b.testBit i = false := Nat.testBit_lt_two_pow (Nat.lt_of_lt_of_le (by omega : b < 2 ^ 64) (Nat.pow_le_pow_right (by decide) (by omega)))
      rw [hz, Bool.or_false]
  · intro h
    apply Nat.eq_of_testBit_eq
    intro i
    have h1 := congrArg (fun z => z.testBit i) h
    simp only [Nat.testBit_or] at h1
    simp only [Nat.testBit_and, Nat.testBit_xor, ones, Nat.zero_testBit]
    by_cases hi : i < 64
    · simp only [hi, decide_true]
      cases hx : a.testBit i <;> cases hy : b.testBit i <;> simp_all
    · have hz : b.testBit i = false := Nat.testBit_lt_two_pow (Nat.lt_of_lt_of_le (by omega : b < 2 ^ 64) (Nat.pow_le_pow_right (by decide) (by omega)))
      rw [hz, Bool.false_and]
theorem two_pow_lt (k : Nat) (h : k < 64) : 0 < 2 ^ k ∧ 2 ^ k ≤ 9223372036854775808 := ⟨Nat.two_pow_pos k, by
  have := Nat.pow_le_pow_right (n := 2) (by decide) (show k ≤ 63 by omega)
  simpa using this⟩
theorem two_pow_le (k : Nat) (h : k ≤ 64) : 0 < 2 ^ k ∧ 2 ^ k ≤ 18446744073709551616 := ⟨Nat.two_pow_pos k, by
  have := Nat.pow_le_pow_right (n := 2) (by decide) h
  simpa using this⟩
theorem two_pow_inj {j k : Nat} (h : 2 ^ j = 2 ^ k) : j = k := (Nat.pow_right_inj (by decide : 1 < 2)).1 h
theorem nrN_is (a b : Nat) (hab : a ≤ b) (hb : b < 18446744073709551616) : nrN (a : Int) (b : Int) = (((b - a + 1) % 18446744073709551616 : Nat) : Int) := by
  unfold nrN
  rw [wrap_u64, wrap_u64]
  omega
/-- The normal condition of a range: by the one k, or none. -/
theorem nrRaw_block (a b k : Nat) (hab : a ≤ b) (hb : b < 18446744073709551616) (hk : k ≤ 64) (h : b - a = 2 ^ k - 1) (hm : a % 2 ^ k = 0) :
    (nrRaw (a : Int) (b : Int)).con = if k = 64 then (0, 0, 0) else (1, ((18446744073709551615 - (2 ^ k - 1) : Nat) : Int), (a : Int)) := by
  have hp := two_pow_le k hk
  unfold nrRaw
  rw [nrN_is a b hab hb]
  by_cases e : k = 64
  · subst e
    have : (b - a + 1) % 18446744073709551616 = 0 := by
      rw [h]
    rw [this]
    simp [Cd.con]
  · have hk2 : k < 64 := by omega
    have hp2 := two_pow_lt k hk2
    have e1 : (b - a + 1) % 18446744073709551616 = 2 ^ k := by rw [h, Nat.sub_add_cancel hp.1]; exact Nat.mod_eq_of_lt (by omega)
    have e2 : IntKind.u64.wrap (((2 ^ k : Nat) : Int) - 1) = ((2 ^ k - 1 : Nat) : Int) := by rw [wrap_u64_id (by omega) (by omega)]; omega
    have e3 : 2 ^ k &&& (2 ^ k - 1) = 0 := by rw [Nat.and_two_pow_sub_one_eq_mod]; exact Nat.mod_self _
    have e4 : a &&& (2 ^ k - 1) = 0 := by rw [Nat.and_two_pow_sub_one_eq_mod]; exact hm
    rw [e1, e2, and64 _ _ (by omega) (by omega), and64 _ _ (by omega) (by omega), e3, e4, not64 _ (by omega), if_neg (by omega), if_pos ⟨rfl, rfl⟩, if_neg e]
    rfl
theorem nrRaw_plain (a b : Nat) (hab : a ≤ b) (hb : b < 18446744073709551616) (h : ∀ k, k ≤ 64 → b - a = 2 ^ k - 1 → a % 2 ^ k ≠ 0) : nrRaw (a : Int) (b : Int) = .rng a b := by
  unfold nrRaw
  rw [nrN_is a b hab hb]
  by_cases e0 : b - a + 1 = 18446744073709551616
  · exact absurd (show a % 2 ^ 64 = 0 by omega) (h 64 (Nat.le_refl _) (by rw [show (2 : Nat) ^ 64 - 1 = 18446744073709551615 by decide]; omega))
  · have e1 : (b - a + 1) % 18446744073709551616 = b - a + 1 := Nat.mod_eq_of_lt (by omega)
    have e2 : IntKind.u64.wrap (((b - a + 1 : Nat) : Int) - 1) = ((b - a : Nat) : Int) := by rw [wrap_u64_id (by omega) (by omega)]; omega
    rw [e1, e2, if_neg (by omega), and64 _ _ (by omega) (by omega), and64 _ _ (by omega) (by omega)]
    refine if_neg ?_
    rintro ⟨h1, h2⟩
    have h1' : (b - a + 1) &&& (b - a + 1 - 1) = 0 := by rw [Nat.add_sub_cancel]; omega
    obtain ⟨k, hk⟩ := (Nat.and_sub_one_eq_zero_iff_isPowerOfTwo (by omega)).1 h1'
    have hk2 : k < 64 := by
      rcases Nat.lt_or_ge k 64 with hk2 | hk2
      · exact hk2
      · have := Nat.pow_le_pow_right (n := 2) (by decide) hk2
        omega
    have h3 : b - a = 2 ^ k - 1 := by omega
    refine h k (by omega) h3 ?_
    rw [h3, Nat.and_two_pow_sub_one_eq_mod] at h2
    omega
end Go.Proofs.Ytdipinclchkhjaa.P

namespace Go.Proofs.Ytdipinclchkhjaa.P
set_option linter.unusedVariables false
set_option linter.unusedSimpArgs false
/-! Numbers and their bits: masks, blocks, ranges. -/
theorem tb_hi {x i : Nat} (h : x < 18446744073709551616) (hi : 64 ≤ i) : x.testBit i = false :=
  Nat.testBit_lt_two_pow (Nat.lt_of_lt_of_le (by omega : x < 2 ^ 64) (Nat.pow_le_pow_right (by decide) hi))
theorem tb_ones (i : Nat) : (18446744073709551615 : Nat).testBit i = decide (i < 64) := by
  rw [show (18446744073709551615 : Nat) = 2 ^ 64 - 1 by decide, Nat.testBit_two_pow_sub_one]
theorem tb_not (x i : Nat) (h : x < 18446744073709551616) : (18446744073709551615 - x).testBit i = (decide (i < 64) && !x.testBit i) := by
  rw [← ones_xor x h, Nat.testBit_xor, tb_ones]
  by_cases hi : i < 64
  · simp [hi]
  · simp [hi, tb_hi h (by omega : 64 ≤ i)]
theorem eq_bits {x y : Nat} (hx : x < 18446744073709551616) (hy : y < 18446744073709551616) (h : ∀ i, i < 64 → x.testBit i = y.testBit i) : x = y := by
  apply Nat.eq_of_testBit_eq
  intro i
  by_cases hi : i < 64
  · exact h i hi
  · rw [tb_hi hx (by omega), tb_hi hy (by omega)]
theorem and_lt (x y : Nat) (h : x < 18446744073709551616) : x &&& y < 18446744073709551616 := Nat.lt_of_le_of_lt Nat.and_le_left h
theorem and_bits {z m v : Nat} (hz : z < 18446744073709551616) (hv : v < 18446744073709551616) : z &&& m = v ↔ ∀ i, i < 64 → (z.testBit i && m.testBit i) = v.testBit i := by
  constructor
  · intro h i _
    rw [← h, Nat.testBit_and]
  · intro h
    refine eq_bits (and_lt z m hz) hv fun i hi => ?_
    rw [Nat.testBit_and]
    exact h i hi
/-- A value's bits lie among a mask's. -/
def Sub (v m : Nat) : Prop := ∀ i, v.testBit i = true → m.testBit i = true
theorem sub_and {v m : Nat} (h : Sub v m) : v &&& m = v := by
  apply Nat.eq_of_testBit_eq
  intro i
  rw [Nat.testBit_and]
  cases hv : v.testBit i
  · rfl
  · rw [h i hv]; rfl
theorem and_sub {v m : Nat} (h : v &&& m = v) : Sub v m := by
  intro i hi
  rw [← h, Nat.testBit_and, Bool.and_eq_true] at hi
  exact hi.2
theorem or_sub {v m : Nat} (h : m ||| v = m) : Sub v m := by
  intro i hi
  rw [← h, Nat.testBit_or, hi, Bool.or_true]
theorem sub_zero {v m : Nat} (hv : v < 18446744073709551616) (hm : m < 18446744073709551616) : v &&& (18446744073709551615 - m) = 0 ↔ Sub v m := by
  rw [sub_bits m v hm hv]
  exact ⟨or_sub, fun h => by
    apply Nat.eq_of_testBit_eq
    intro i
    rw [Nat.testBit_or]
    cases hv : v.testBit i
    · rw [Bool.or_false]
    · rw [h i hv]; rfl⟩
theorem two_lt {i : Nat} (h : i < 64) : 2 ^ i < 18446744073709551616 := by have := two_pow_lt i h; omega
/-- A mask's set within another's. -/
theorem mask_mask {am av bm bv : Nat} (ham : am < 18446744073709551616) (hbm : bm < 18446744073709551616) (hav : av < 18446744073709551616) (hbv : bv < 18446744073709551616) (ha : Sub av am) (hb : Sub bv bm) :
    (∀ z, z < 18446744073709551616 → z &&& am = av → z &&& bm = bv) ↔ ∀ i, i < 64 → bm.testBit i = true → am.testBit i = true ∧ av.testBit i = bv.testBit i := by
  constructor
  · intro h i hi hbi
    have h0 := h av hav (sub_and ha)
    have h1 : av.testBit i = bv.testBit i := by
      rw [← h0, Nat.testBit_and, hbi, Bool.and_true]
    refine ⟨?_, h1⟩
    cases hai : am.testBit i
    · exfalso
      have hx : av ^^^ 2 ^ i < 18446744073709551616 := by
        have := Nat.xor_lt_two_pow (x := av) (y := 2 ^ i) (n := 64) hav (two_lt hi)
        exact this
      have h2 := h (av ^^^ 2 ^ i) hx (by
        apply Nat.eq_of_testBit_eq
        intro j
        rw [Nat.testBit_and, Nat.testBit_xor, Nat.testBit_two_pow]
        by_cases e : i = j
        · subst e
          have : av.testBit i = false := by
            cases hv : av.testBit i
            · rfl
            · rw [ha i hv] at hai; exact absurd hai (by decide)
          simp [hai, this]
        · simp only [e, decide_false, Bool.xor_false]
          cases hv : av.testBit j
          · rfl
          · rw [ha j hv]; rfl)
      have h3 := congrArg (fun x => x.testBit i) h2
      simp only [Nat.testBit_and, Nat.testBit_xor, Nat.testBit_two_pow, hbi, Bool.and_true, decide_true, ← h1] at h3
      cases hv : av.testBit i <;> simp [hv] at h3
    · rfl
  · intro h z hz hza
    rw [and_bits hz hbv]
    intro i hi
    cases hbi : bm.testBit i
    · rw [Bool.and_false]
      cases hv : bv.testBit i
      · rfl
      · rw [hb i hv] at hbi; exact absurd hbi (by decide)
    · obtain ⟨h1, h2⟩ := h i hi hbi
      have h3 := (and_bits hz hav).1 hza i hi
      rw [h1] at h3
      rw [h3, h2]
theorem mask_test {am av bm bv : Nat} (ham : am < 18446744073709551616) (hbm : bm < 18446744073709551616) (hav : av < 18446744073709551616) (hbv : bv < 18446744073709551616) (ha : Sub av am) (hb : Sub bv bm) :
    (bm &&& (18446744073709551615 - am) = 0 ∧ av &&& bm = bv) ↔ ∀ i, i < 64 → bm.testBit i = true → am.testBit i = true ∧ av.testBit i = bv.testBit i := by
  rw [sub_zero hbm ham, and_bits hav hbv]
  constructor
  · rintro ⟨h1, h2⟩ i hi hbi
    refine ⟨h1 i hbi, ?_⟩
    rw [← h2 i hi, hbi, Bool.and_true]
  · intro h
    refine ⟨fun i hbi => ?_, fun i hi => ?_⟩
    · by_cases hi : i < 64
      · exact (h i hi hbi).1
      · rw [tb_hi hbm (by omega)] at hbi; exact absurd hbi (by decide)
    · cases hbi : bm.testBit i
      · rw [Bool.and_false]
        cases hv : bv.testBit i
        · rfl
        · rw [hb i hv] at hbi; exact absurd hbi (by decide)
      · rw [Bool.and_true]; exact (h i hi hbi).2
/-- A mask's set: its least and its greatest. -/
theorem mask_ends {m v : Nat} (hm : m < 18446744073709551616) (hv : v < 18446744073709551616) (hs : Sub v m) :
    v &&& m = v ∧ (v ||| (18446744073709551615 - m)) &&& m = v ∧ (v ||| (18446744073709551615 - m)) < 18446744073709551616 ∧ ∀ z, z < 18446744073709551616 → z &&& m = v → v ≤ z ∧ z ≤ v ||| (18446744073709551615 - m) := by
  have hlt : v ||| (18446744073709551615 - m) < 18446744073709551616 := Nat.or_lt_two_pow (n := 64) hv (by omega)
  refine ⟨sub_and hs, ?_, hlt, fun z hz h => ⟨?_, ?_⟩⟩
  · rw [and_bits hlt hv]
    intro i hi
    rw [Nat.testBit_or, tb_not m i hm]
    cases h1 : m.testBit i
    · cases h2 : v.testBit i
      · simp
      · rw [hs i h2] at h1; exact absurd h1 (by decide)
    · simp
  · rw [← h]; exact Nat.and_le_left
  · apply Nat.le_of_testBit
    intro i hi
    rw [Nat.testBit_or, tb_not m i hm, ← h, Nat.testBit_and, hi]
    have h64 : i < 64 := by
      rcases Nat.lt_or_ge i 64 with h6 | h6
      · exact h6
      · rw [tb_hi hz h6] at hi; exact absurd hi (by decide)
    cases m.testBit i <;> simp [h64]
theorem tb_div {x y i j : Nat} (h : x / 2 ^ i = y / 2 ^ i) (hj : i ≤ j) : x.testBit j = y.testBit j := by
  have h1 := Nat.testBit_div_two_pow (n := i) x (j - i)
  have h2 := Nat.testBit_div_two_pow (n := i) y (j - i)
  rw [Nat.sub_add_cancel hj] at h1 h2
  rw [← h1, ← h2, h]
/-- A mask with no bit below i asks the bits above alone. -/
theorem and_high {m i z x : Nat} (hm : ∀ j, j < i → m.testBit j = false) (h : z / 2 ^ i = x / 2 ^ i) : z &&& m = x &&& m := by
  apply Nat.eq_of_testBit_eq
  intro j
  rw [Nat.testBit_and, Nat.testBit_and]
  by_cases hj : j < i
  · rw [hm j hj, Bool.and_false, Bool.and_false]
  · rw [tb_div h (by omega)]
theorem and_low {m i : Nat} : m &&& (2 ^ i - 1) = 0 ↔ ∀ j, j < i → m.testBit j = false := by
  rw [Nat.and_two_pow_sub_one_eq_mod]
  constructor
  · intro h j hj
    have h1 := Nat.testBit_mod_two_pow m i j
    rw [h, Nat.zero_testBit] at h1
    simpa [hj] using h1.symm
  · intro h
    apply Nat.eq_of_testBit_eq
    intro j
    rw [Nat.testBit_mod_two_pow, Nat.zero_testBit]
    by_cases hj : j < i
    · simp [h j hj]
    · simp [hj]
theorem or_low (x i : Nat) : x ||| (2 ^ i - 1) = 2 ^ i * (x / 2 ^ i) + (2 ^ i - 1) := by
  have hp := Nat.two_pow_pos i
  rw [Nat.two_pow_add_eq_or_of_lt (by omega)]
  apply Nat.eq_of_testBit_eq
  intro j
  rw [Nat.testBit_or, Nat.testBit_or, Nat.mul_comm, Nat.testBit_mul_two_pow, Nat.testBit_two_pow_sub_one, Nat.testBit_div_two_pow]
  by_cases hj : i ≤ j
  · rw [Nat.sub_add_cancel hj]; simp [hj]
  · have : j < i := by omega
    simp [this]
theorem and_pow (m i : Nat) : m &&& 2 ^ i = if m.testBit i = true then 2 ^ i else 0 := by
  apply Nat.eq_of_testBit_eq
  intro j
  rw [Nat.testBit_and, Nat.testBit_two_pow]
  by_cases e : i = j
  · subst e
    cases h : m.testBit i <;> simp
  · simp only [e, decide_false, Bool.and_false]
    split
    · rw [Nat.testBit_two_pow]; simp [e]
    · rw [Nat.zero_testBit]
/-- A block: what its mask's set is. -/
theorem block_set {k a z : Nat} (hk : k ≤ 64) (ha : a % 2 ^ k = 0) (hz : z < 18446744073709551616) : z &&& (18446744073709551615 - (2 ^ k - 1)) = a ↔ a ≤ z ∧ z ≤ a + (2 ^ k - 1) := by
  have hp := two_pow_le k hk
  have e : z &&& (18446744073709551615 - (2 ^ k - 1)) = 2 ^ k * (z / 2 ^ k) := by
    apply Nat.eq_of_testBit_eq
    intro j
    rw [Nat.testBit_and, tb_not _ _ (by omega), Nat.testBit_two_pow_sub_one, Nat.mul_comm, Nat.testBit_mul_two_pow, Nat.testBit_div_two_pow]
    by_cases hj : k ≤ j
    · have : ¬ j < k := by omega
      rw [Nat.sub_add_cancel hj]
      by_cases h6 : j < 64
      · simp [hj, this, h6]
      · have h7 : z.testBit j = false := tb_hi hz (by omega)
        simp [hj, this, h6, h7]
    · have : j < k := by omega
      simp [hj, this]
  rw [e]
  have h1 := Nat.div_add_mod z (2 ^ k)
  have h2 := Nat.div_add_mod a (2 ^ k)
  have h3 := Nat.mod_lt z hp.1
  generalize 2 ^ k = p at h1 h2 h3 ha hp ⊢
  constructor
  · intro h
    rw [h] at h1
    omega
  · rintro ⟨h4, h5⟩
    have hq : z / p = a / p := by
      refine Nat.div_eq_of_lt_le ?_ ?_
      · rw [Nat.mul_comm]; omega
      · rw [Nat.succ_mul, Nat.mul_comm]; omega
    rw [hq]
    omega
/-- A range's bits: which of a mask's may stand there. -/
theorem range_mask {l h m v n : Nat} (hl : l ≤ h) (hn : (l ^^^ h) / 2 ^ n = 0) (htop : n ≠ 0 → (l ^^^ h).testBit (n - 1) = true) :
    (∀ z, l ≤ z → z ≤ h → z &&& m = v) ↔ (m &&& (2 ^ n - 1) = 0 ∧ l &&& m = v) := by
  rw [Nat.xor_div_two_pow] at hn
  have hq : l / 2 ^ n = h / 2 ^ n := by
    apply Nat.eq_of_testBit_eq
    intro i
    have := congrArg (fun x => x.testBit i) hn
    simp only [Nat.testBit_xor, Nat.zero_testBit] at this
    cases h1 : (l / 2 ^ n).testBit i <;> cases h2 : (h / 2 ^ n).testBit i <;> simp_all
  rw [and_low]
  constructor
  · intro hz
    refine ⟨?_, hz l (Nat.le_refl _) hl⟩
    by_cases e : n = 0
    · subst e; intro j hj; omega
    · obtain ⟨t, rfl⟩ : ∃ t, n = t + 1 := ⟨n - 1, by omega⟩
      have ht := htop e
      rw [Nat.add_sub_cancel, Nat.testBit_xor, Nat.testBit_eq_decide_div_mod_eq, Nat.testBit_eq_decide_div_mod_eq] at ht
      have hp := Nat.two_pow_pos t
      have e1 : l / 2 ^ (t + 1) = l / 2 ^ t / 2 := by rw [Nat.pow_succ, Nat.div_div_eq_div_mul]
      have e2 : h / 2 ^ (t + 1) = h / 2 ^ t / 2 := by rw [Nat.pow_succ, Nat.div_div_eq_div_mul]
      rw [e1, e2] at hq
      have hle : l / 2 ^ t ≤ h / 2 ^ t := Nat.div_le_div_right hl
      have hodd : h / 2 ^ t = l / 2 ^ t + 1 ∧ l / 2 ^ t % 2 = 0 := by
        have a1 := Nat.div_add_mod (l / 2 ^ t) 2
        have a2 := Nat.div_add_mod (h / 2 ^ t) 2
        have a3 := Nat.mod_lt (l / 2 ^ t) (by decide : 2 > 0)
        have a4 := Nat.mod_lt (h / 2 ^ t) (by decide : 2 > 0)
        by_cases b1 : l / 2 ^ t % 2 = 1 <;> by_cases b2 : h / 2 ^ t % 2 = 1 <;> simp [b1, b2] at ht <;> omega
      obtain ⟨M, hM⟩ : ∃ M, M = 2 ^ t * (l / 2 ^ t + 1) := ⟨_, rfl⟩
      have c1 := Nat.div_add_mod l (2 ^ t)
      have c2 := Nat.div_add_mod h (2 ^ t)
      have c3 := Nat.mod_lt l hp
      rw [hodd.1, ← hM] at c2
      have hM2 : M = 2 ^ t * (l / 2 ^ t) + 2 ^ t := by rw [hM, Nat.mul_succ]
      have z1 := hz M (by omega) (by omega)
      have z2 := hz (M - 1) (by omega) (by omega)
      have hd : (M - 1) / 2 ^ t = l / 2 ^ t := by
        refine Nat.div_eq_of_lt_le ?_ ?_
        · rw [Nat.mul_comm]; omega
        · rw [Nat.succ_mul, Nat.mul_comm]; omega
      have hm1 : (M - 1) % 2 ^ t = 2 ^ t - 1 := by
        have := Nat.div_add_mod (M - 1) (2 ^ t)
        rw [hd] at this
        omega
      have hdM : M / 2 ^ t = l / 2 ^ t + 1 := by rw [hM]; exact Nat.mul_div_cancel_left _ hp
      intro j hj
      have hb := congrArg (fun x => x.testBit j) (z1.trans z2.symm)
      simp only [Nat.testBit_and] at hb
      have hne : M.testBit j ≠ (M - 1).testBit j := by
        by_cases ej : j = t
        · subst ej
          rw [Nat.testBit_eq_decide_div_mod_eq, Nat.testBit_eq_decide_div_mod_eq, hdM, hd]
          have f1 : (l / 2 ^ j + 1) % 2 = 1 := by omega
          have f2 : ¬ (l / 2 ^ j) % 2 = 1 := by omega
          simp [f1, f2]
        · have hjt : j < t := by omega
          have g1 : M.testBit j = false := by
            rw [hM, Nat.mul_comm, Nat.testBit_mul_two_pow]
            have : ¬ t ≤ j := by omega
            simp [this]
          have g2 : (M - 1).testBit j = true := by
            have h7 := Nat.testBit_mod_two_pow (M - 1) t j
            rw [hm1, Nat.testBit_two_pow_sub_one] at h7
            simpa [hjt] using h7.symm
          rw [g1, g2]
          decide
      cases hmj : m.testBit j
      · rfl
      · rw [hmj, Bool.and_true, Bool.and_true] at hb
        exact absurd hb hne
  · rintro ⟨h1, h2⟩ z hz1 hz2
    rw [← h2]
    refine and_high h1 ?_
    have a := Nat.div_le_div_right (c := 2 ^ n) hz1
    have b := Nat.div_le_div_right (c := 2 ^ n) hz2
    omega
theorem bitLen_top (x : Nat) (hx : x < 18446744073709551616) : Lib.bitLen x ≤ 64 ∧ x / 2 ^ Lib.bitLen x = 0 ∧ (Lib.bitLen x ≠ 0 → x.testBit (Lib.bitLen x - 1) = true) := by
  have h1 := Lib.bitLen_le x 64 (Nat.le_refl _) hx
  refine ⟨h1, ?_⟩
  by_cases e : x = 0
  · subst e
    have h0 := Lib.bitLen_le 0 0 (by decide) (by decide)
    refine ⟨Nat.zero_div _, fun h => absurd (Nat.le_zero.1 h0) h⟩
  · obtain ⟨b1, b2, b3⟩ := Lib.bitLenAux_bounds 64 x hx e
    refine ⟨Nat.div_eq_of_lt b3, fun h => ?_⟩
    rw [Nat.testBit_eq_decide_div_mod_eq, decide_eq_true_eq]
    have hn : Lib.bitLen x = Lib.bitLenAux 64 x := rfl
    rw [hn]
    have hs : Lib.bitLenAux 64 x = (Lib.bitLenAux 64 x - 1) + 1 := by omega
    rw [hs, Nat.pow_succ] at b3
    have : x / 2 ^ (Lib.bitLenAux 64 x - 1) = 1 := Nat.div_eq_of_lt_le (by omega) (by omega)
    rw [this]
end Go.Proofs.Ytdipinclchkhjaa.P
