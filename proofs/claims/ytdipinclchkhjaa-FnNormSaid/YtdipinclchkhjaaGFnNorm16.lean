import Derived.Test.YtdipinclchkhjaaGFnNorm1
import Derived.Test.YtdipinclchkhjaaGFnNorm3
import Derived.Laws.BitsLemmas
import Derived.RowKit
import Derived.Test.YtdipinclchkhjaaGFnNorm7
import Derived.Test.YtdipinclchkhjaaGFnNorm4
import Derived.Test.YtdipinclchkhjaaGFnNorm8
import Derived.Test.YtdipinclchkhjaaGFnNorm10
import Derived.Lib.ItoaNum
namespace Go.Proofs.Ytdipinclchkhjaa.P
open Go.RowKit Go.Proofs.YtdipinclchkhjaaW.PrintWords Go.Proofs.YtdipinclchkhjaaW.PrintLast Go.Proofs.YtdipinclchkhjaaW.PrintMore

set_option linter.unusedVariables false
set_option linter.unusedSimpArgs false

/-! Small words: rounds, wrapped sums, bits as those of whole numbers. -/
theorem wrap64_id {i : Int} (h0 : -9223372036854775808 ≤ i) (h1 : i < 9223372036854775808) : wrap64 i = i := by unfold wrap64; omega
theorem bo {α β : Type} {o : Option α} {x : α} {f : α → Option β} {r : Option β} (h : o = some x) (k : f x = r) : o.bind f = r := by rw [h]; exact k
theorem ev_step {α : Type} {g : Nat → Option α} {r : α} (f : Nat → Option α) (h : ∀ k, g (k + 1) = f k) (k : Ev f r) : Ev g r := Ev.step h k
theorem ev_end {α : Type} {g : Nat → Option α} {r : α} (h : ∀ k, g (k + 1) = some r) : Ev g r := Ev.step h (Ev.now r)
theorem ev_is {α : Type} {g : Nat → Option α} {r : α} (h : ∀ k, g k = some r) : Ev g r := ⟨0, fun k _ => h k⟩
theorem ev_mk {α : Type} {g : Nat → Option α} {r : α} (K : Nat) (h : ∀ k, K ≤ k → g k = some r) : Ev g r := ⟨K, h⟩
theorem ev_get {α : Type} {g : Nat → Option α} {r : α} (h : Ev g r) : ∃ K, ∀ k, K ≤ k → g k = some r := h

theorem bits_and_nat (k : IntKind) (hk : k.signed = false) (a b : Nat) (ha : a < 2 ^ k.bits) (hb : b < 2 ^ k.bits) : bits .and k a b = ((a &&& b : Nat) : Int) := by
  have h1 : (a &&& b) < 2 ^ k.bits := Nat.and_lt_two_pow _ hb
  simp only [bits, BitVec.ofInt_natCast, BitVec.toNat_and, BitVec.toNat_ofNat, Nat.mod_eq_of_lt ha, Nat.mod_eq_of_lt hb, IntKind.wrap, hk]
  have : ((a &&& b : Nat) : Int) < ((2 ^ k.bits : Nat) : Int) := by exact_mod_cast h1
  simp
  exact Int.emod_eq_of_lt (Int.natCast_nonneg _) (by simpa using this)
theorem bits_or_nat (k : IntKind) (hk : k.signed = false) (a b : Nat) (ha : a < 2 ^ k.bits) (hb : b < 2 ^ k.bits) : bits .or k a b = ((a ||| b : Nat) : Int) := by
  have h1 : (a ||| b) < 2 ^ k.bits := Nat.or_lt_two_pow ha hb
  simp only [bits, BitVec.ofInt_natCast, BitVec.toNat_or, BitVec.toNat_ofNat, Nat.mod_eq_of_lt ha, Nat.mod_eq_of_lt hb, IntKind.wrap, hk]
  have : ((a ||| b : Nat) : Int) < ((2 ^ k.bits : Nat) : Int) := by exact_mod_cast h1
  simp
  exact Int.emod_eq_of_lt (Int.natCast_nonneg _) (by simpa using this)
theorem bits_xor_nat (k : IntKind) (hk : k.signed = false) (a b : Nat) (ha : a < 2 ^ k.bits) (hb : b < 2 ^ k.bits) : bits .xor k a b = ((a ^^^ b : Nat) : Int) := by
  have h1 : (a ^^^ b) < 2 ^ k.bits := Nat.xor_lt_two_pow ha hb
  simp only [bits, BitVec.ofInt_natCast, BitVec.toNat_xor, BitVec.toNat_ofNat, Nat.mod_eq_of_lt ha, Nat.mod_eq_of_lt hb, IntKind.wrap, hk]
  have : ((a ^^^ b : Nat) : Int) < ((2 ^ k.bits : Nat) : Int) := by exact_mod_cast h1
  simp
  exact Int.emod_eq_of_lt (Int.natCast_nonneg _) (by simpa using this)
theorem bits_andNot_nat (k : IntKind) (hk : k.signed = false) (a b : Nat) (ha : a < 2 ^ k.bits) (hb : b < 2 ^ k.bits) : bits .andNot k a b = ((a &&& (2 ^ k.bits - 1 - b) : Nat) : Int) := by
  have h1 : (a &&& (2 ^ k.bits - 1 - b)) < 2 ^ k.bits := Nat.lt_of_le_of_lt Nat.and_le_left ha
  simp only [bits, BitVec.ofInt_natCast, BitVec.toNat_and, BitVec.toNat_not, BitVec.toNat_ofNat, Nat.mod_eq_of_lt ha, Nat.mod_eq_of_lt hb, IntKind.wrap, hk]
  have : ((a &&& (2 ^ k.bits - 1 - b) : Nat) : Int) < ((2 ^ k.bits : Nat) : Int) := by exact_mod_cast h1
  simp only [Bool.false_and, Bool.false_eq_true, if_false]
  exact Int.emod_eq_of_lt (Int.natCast_nonneg _) (by simpa using this)
theorem wrap_range (k : IntKind) (hk : k.signed = false) (x : Int) : 0 ≤ k.wrap x ∧ k.wrap x < 2 ^ k.bits := by
  have hp : (0 : Int) < 2 ^ k.bits := Int.pow_pos (by decide)
  simp only [IntKind.wrap, hk, Bool.false_and, Bool.false_eq_true, if_false]
  exact ⟨Int.emod_nonneg _ (Int.ne_of_gt hp), Int.emod_lt_of_pos _ hp⟩
theorem bits_range (op : BinOp) (k : IntKind) (hk : k.signed = false) (x y : Int) : 0 ≤ bits op k x y ∧ bits op k x y < 2 ^ k.bits := wrap_range k hk _
theorem bits_u64 (op : BinOp) (x y : Int) : 0 ≤ bits op .u64 x y ∧ bits op .u64 x y < 18446744073709551616 := by
  have h := bits_range op .u64 rfl x y
  simp only [IntKind.bits] at h
  omega
/-! Lists. -/
theorem rd_eq (l : List Int) (i : Nat) (h : i < l.length) : rd l i = l[i] := by
  simp [rd, List.getD_eq_getElem?_getD, List.getElem?_eq_getElem h]
theorem mem_u8 {l : List Int} (h : ∀ x ∈ l, (Lit.int .u8 x).wf = true) (x : Int) (hx : x ∈ l) : 0 ≤ x ∧ x < 256 := by
  have := h x hx
  simp only [Lit.wf, IntKind.min, IntKind.max, IntKind.signed, IntKind.bits, Bool.and_eq_true] at this
  simp at this
  omega

/-! Loops: what they come to, from some number of rounds on. -/
/-- The list that is filled from its begin: i elements done. -/
def filled {α β : Type} (f : α → β) (a : List α) (z : β) (i : Nat) : List β := (a.take i).map f ++ List.replicate (a.length - i) z
end Go.Proofs.Ytdipinclchkhjaa.P

namespace Go.Proofs.Ytdipinclchkhjaa.P
open Go.RowKit Go.Proofs.YtdipinclchkhjaaW.PrintWords Go.Proofs.YtdipinclchkhjaaW.PrintLast Go.Proofs.YtdipinclchkhjaaW.PrintMore
set_option linter.unusedVariables false
set_option linter.unusedSimpArgs false

/-! Conditions: plain numbers. -/
theorem wrap_u64 (x : Int) : IntKind.u64.wrap x = x % 18446744073709551616 := by simp [IntKind.wrap, IntKind.bits, IntKind.signed]
theorem wrap_u64_id {x : Int} (h0 : 0 ≤ x) (h1 : x < 18446744073709551616) : IntKind.u64.wrap x = x := by rw [wrap_u64]; omega
theorem ones_xor (x : Nat) (h : x < 18446744073709551616) : 18446744073709551615 ^^^ x = 18446744073709551615 - x := by
  have h1 := BitVec.toNat_not (x := BitVec.ofNat 64 x)
  rw [← BitVec.allOnes_xor, BitVec.toNat_xor, BitVec.toNat_allOnes, BitVec.toNat_ofNat] at h1
  have h2 : x % 2 ^ 64 = x := Nat.mod_eq_of_lt (by omega)
  rw [h2] at h1
  have e : (2 : Nat) ^ 64 - 1 = 18446744073709551615 := by decide
  rw [e] at h1
  exact h1
theorem and64 (a b : Nat) (ha : a < 18446744073709551616) (hb : b < 18446744073709551616) : bits .and .u64 (a : Int) (b : Int) = ((a &&& b : Nat) : Int) := bits_and_nat .u64 rfl a b (by simpa [IntKind.bits] using ha) (by simpa [IntKind.bits] using hb)
theorem or64 (a b : Nat) (ha : a < 18446744073709551616) (hb : b < 18446744073709551616) : bits .or .u64 (a : Int) (b : Int) = ((a ||| b : Nat) : Int) := bits_or_nat .u64 rfl a b (by simpa [IntKind.bits] using ha) (by simpa [IntKind.bits] using hb)
theorem xor64 (a b : Nat) (ha : a < 18446744073709551616) (hb : b < 18446744073709551616) : bits .xor .u64 (a : Int) (b : Int) = ((a ^^^ b : Nat) : Int) := bits_xor_nat .u64 rfl a b (by simpa [IntKind.bits] using ha) (by simpa [IntKind.bits] using hb)
theorem not64 (a : Nat) (ha : a < 18446744073709551616) : bits .xor .u64 18446744073709551615 (a : Int) = ((18446744073709551615 - a : Nat) : Int) := by
  rw [show (18446744073709551615 : Int) = ((18446744073709551615 : Nat) : Int) from rfl, xor64 _ a (by omega) ha, ones_xor a ha]
theorem andNot64 (a b : Nat) (ha : a < 18446744073709551616) (hb : b < 18446744073709551616) : bits .andNot .u64 (a : Int) (b : Int) = ((a &&& (18446744073709551615 - b) : Nat) : Int) := by
  rw [bits_andNot_nat .u64 rfl a b (by simpa [IntKind.bits] using ha) (by simpa [IntKind.bits] using hb)]
  rfl
/-- b's bits lie among a's: two ways to say so. -/
theorem sub_bits (a b : Nat) (ha : a < 18446744073709551616) (hb : b < 18446744073709551616) : (b &&& (18446744073709551615 - a) = 0) ↔ (a ||| b = a) := by
  rw [← ones_xor a ha]
  have ones : ∀ i, (18446744073709551615 : Nat).testBit i = decide (i < 64) := fun i => by
    rw [show (18446744073709551615 : Nat) = 2 ^ 64 - 1 by decide, Nat.testBit_two_pow_sub_one]
  constructor
  · intro h
    apply Nat.eq_of_testBit_eq
    intro i
    have h1 := congrArg (fun z => z.testBit i) h
    simp only [Nat.testBit_and, Nat.testBit_xor, ones, Nat.zero_testBit] at h1
    rw [Nat.testBit_or]
    by_cases hi : i < 64
    · simp only [hi, decide_true] at h1
      cases hx : a.testBit i <;> cases hy : b.testBit i <;> simp_all
    · have hz : b.testBit i = false := Nat.testBit_lt_two_pow (Nat.lt_of_lt_of_le (by omega : b < 2 ^ 64) (Nat.pow_le_pow_right (by decide) (by omega)))
      rw [hz, Bool.or_false]
  · intro h
    apply Nat.eq_of_testBit_eq
    intro i
    have h1 := congrArg (fun z => z.testBit i) h
    simp only [Nat.testBit_or] at h1
    simp only [Nat.testBit_and, Nat.testBit_xor, ones, Nat.zero_testBit]
    by_cases hi : i < 64
    · simp only [hi, decide_true]
      cases hx : a.testBit i <;> cases hy : b.testBit i <;> simp_all
    · have hz : b.testBit i = false := Nat.testBit_lt_two_pow (Nat.lt_of_lt_of_le (by omega : b < 2 ^ 64) (Nat.pow_le_pow_right (by decide) (by omega)))
      rw [hz, Bool.false_and]
theorem two_pow_lt (k : Nat) (h : k < 64) : 0 < 2 ^ k ∧ 2 ^ k ≤ 9223372036854775808 := ⟨Nat.two_pow_pos k, by
  have := Nat.pow_le_pow_right (n := 2) (by decide) (show k ≤ 63 by omega)
  simpa using this⟩
theorem two_pow_le (k : Nat) (h : k ≤ 64) : 0 < 2 ^ k ∧ 2 ^ k ≤ 18446744073709551616 := ⟨Nat.two_pow_pos k, by
  have := Nat.pow_le_pow_right (n := 2) (by decide) h
  simpa using this⟩
theorem nrN_is (a b : Nat) (hab : a ≤ b) (hb : b < 18446744073709551616) : nrN (a : Int) (b : Int) = (((b - a + 1) % 18446744073709551616 : Nat) : Int) := by
  unfold nrN
  rw [wrap_u64, wrap_u64]
  omega
/-- The normal condition of a range: by the one k, or none. -/
theorem nrRaw_block (a b k : Nat) (hab : a ≤ b) (hb : b < 18446744073709551616) (hk : k ≤ 64) (h : b - a = 2 ^ k - 1) (hm : a % 2 ^ k = 0) :
    (nrRaw (a : Int) (b : Int)).con = if k = 64 then (0, 0, 0) else (1, ((18446744073709551615 - (2 ^ k - 1) : Nat) : Int), (a : Int)) := by
  have hp := two_pow_le k hk
  unfold nrRaw
  rw [nrN_is a b hab hb]
  by_cases e : k = 64
  · subst e
    have : (b - a + 1) % 18446744073709551616 = 0 := by
      rw [h]
    rw [this]
    simp [Cd.con]
  · have hk2 : k < 64 := by omega
    have hp2 := two_pow_lt k hk2
    have e1 : (b - a + 1) % 18446744073709551616 = 2 ^ k := by rw [h, Nat.sub_add_cancel hp.1]; exact Nat.mod_eq_of_lt (by omega)
    have e2 : IntKind.u64.wrap (((2 ^ k : Nat) : Int) - 1) = ((2 ^ k - 1 : Nat) : Int) := by rw [wrap_u64_id (by omega) (by omega)]; omega
    have e3 : 2 ^ k &&& (2 ^ k - 1) = 0 := by rw [Nat.and_two_pow_sub_one_eq_mod]; exact Nat.mod_self _
    have e4 : a &&& (2 ^ k - 1) = 0 := by rw [Nat.and_two_pow_sub_one_eq_mod]; exact hm
    rw [e1, e2, and64 _ _ (by omega) (by omega), and64 _ _ (by omega) (by omega), e3, e4, not64 _ (by omega), if_neg (by omega), if_pos ⟨rfl, rfl⟩, if_neg e]
    rfl
theorem nrRaw_plain (a b : Nat) (hab : a ≤ b) (hb : b < 18446744073709551616) (h : ∀ k, k ≤ 64 → b - a = 2 ^ k - 1 → a % 2 ^ k ≠ 0) : nrRaw (a : Int) (b : Int) = .rng a b := by
  unfold nrRaw
  rw [nrN_is a b hab hb]
  by_cases e0 : b - a + 1 = 18446744073709551616
  · exact absurd (show a % 2 ^ 64 = 0 by omega) (h 64 (Nat.le_refl _) (by rw [show (2 : Nat) ^ 64 - 1 = 18446744073709551615 by decide]; omega))
  · have e1 : (b - a + 1) % 18446744073709551616 = b - a + 1 := Nat.mod_eq_of_lt (by omega)
    have e2 : IntKind.u64.wrap (((b - a + 1 : Nat) : Int) - 1) = ((b - a : Nat) : Int) := by rw [wrap_u64_id (by omega) (by omega)]; omega
    rw [e1, e2, if_neg (by omega), and64 _ _ (by omega) (by omega), and64 _ _ (by omega) (by omega)]
    refine if_neg ?_
    rintro ⟨h1, h2⟩
    have h1' : (b - a + 1) &&& (b - a + 1 - 1) = 0 := by rw [Nat.add_sub_cancel]; omega
    obtain ⟨k, hk⟩ := (Nat.and_sub_one_eq_zero_iff_isPowerOfTwo (by omega)).1 h1'
    have hk2 : k < 64 := by
      rcases Nat.lt_or_ge k 64 with hk2 | hk2
      · exact hk2
      · have := Nat.pow_le_pow_right (n := 2) (by decide) hk2
        omega
    have h3 : b - a = 2 ^ k - 1 := by omega
    refine h k (by omega) h3 ?_
    rw [h3, Nat.and_two_pow_sub_one_eq_mod] at h2
    omega
end Go.Proofs.Ytdipinclchkhjaa.P

namespace Go.Proofs.Ytdipinclchkhjaa.P
open Go.RowKit Go.Proofs.YtdipinclchkhjaaW.PrintWords Go.Proofs.YtdipinclchkhjaaW.PrintLast Go.Proofs.YtdipinclchkhjaaW.PrintMore
set_option linter.unusedVariables false
set_option linter.unusedSimpArgs false
theorem l3low_is (k : Nat) (hk : k ≤ 64) : spec_l3low.f (k : Int) = some ((2 ^ k - 1 : Nat) : Int) := by
  unfold spec_l3low.f
  by_cases e : k = 64
  · subst e
    rw [if_pos (by decide), show (2 : Nat) ^ 64 - 1 = 18446744073709551615 by decide]
    rfl
  · have hp := two_pow_lt k (by omega)
    have hw : IntKind.u64.wrap (k : Int) = (k : Int) := wrap_u64_id (by omega) (by omega)
    rw [if_neg (by omega), hw, if_pos (by omega)]
    have hs : shl .u64 1 (k : Int) = ((2 ^ k : Nat) : Int) := by
      unfold shl
      have : min (k : Int).toNat IntKind.u64.bits = k := by simp [IntKind.bits]; omega
      rw [this, Int.one_mul]
      have e : ((2 : Int) ^ k) = ((2 ^ k : Nat) : Int) := by simp
      rw [e, wrap_u64_id (by omega) (by omega)]
    rw [hs, wrap_u64_id (by omega) (by omega)]
    congr 1
    omega
/-- The one block that a mask's set is, or none. -/
theorem l3block_mask (a b : Nat) (ha : a < 18446744073709551616) :
    (∃ k, k ≤ 64 ∧ a = 18446744073709551615 - (2 ^ k - 1) ∧ Ev (fun n => spec_l3block.f n 1 a b) ((b : Int), IntKind.u64.wrap ((b : Int) + ((2 ^ k - 1 : Nat) : Int)), true)) ∨
    ((∀ k, k ≤ 64 → a ≠ 18446744073709551615 - (2 ^ k - 1)) ∧ Ev (fun n => spec_l3block.f n 1 a b) (0, 0, false)) := by
  have step : ∀ (i : Nat) (r : Int × Int × Bool), i ≤ 64 → a ≠ 18446744073709551615 - (2 ^ i - 1) → Ev (fun n => spec_l3block.l0 n ((i + 1 : Nat) : Int) 1 a b) r → Ev (fun n => spec_l3block.l0 n (i : Int) 1 a b) r := by
    intro i r hi hne hr
    have hp := two_pow_le i hi
    refine ev_step _ (fun k => ?_) hr
    simp only [spec_l3block.l0]
    rw [if_pos (by omega), l3low_is i hi, Option.bind_some, wrap_u64_id (by omega) (by omega), if_neg (by omega), wrap64_id (by omega) (by omega)]
    rfl
  have hit : ∀ (i : Nat), i ≤ 64 → a = 18446744073709551615 - (2 ^ i - 1) → Ev (fun n => spec_l3block.l0 n (i : Int) 1 a b) ((b : Int), IntKind.u64.wrap ((b : Int) + ((2 ^ i - 1 : Nat) : Int)), true) := by
    intro i hi he
    have hp := two_pow_le i hi
    refine ev_end fun k => ?_
    simp only [spec_l3block.l0]
    rw [if_pos (by omega), l3low_is i hi, Option.bind_some, wrap_u64_id (x := 18446744073709551615 - ((2 ^ i - 1 : Nat) : Int)) (by omega) (by omega), if_pos (by omega)]
  have key : ∀ d i : Nat, i + d = 65 →
      (∃ k, i ≤ k ∧ k ≤ 64 ∧ a = 18446744073709551615 - (2 ^ k - 1) ∧ Ev (fun n => spec_l3block.l0 n (i : Int) 1 a b) ((b : Int), IntKind.u64.wrap ((b : Int) + ((2 ^ k - 1 : Nat) : Int)), true)) ∨
      ((∀ k, i ≤ k → k ≤ 64 → a ≠ 18446744073709551615 - (2 ^ k - 1)) ∧ Ev (fun n => spec_l3block.l0 n (i : Int) 1 a b) (0, 0, false)) := by
    intro d
    induction d with
    | zero =>
      intro i hi
      exact .inr ⟨fun k h1 h2 => by omega, ev_end fun k => by simp only [spec_l3block.l0]; rw [if_neg (by omega)]⟩
    | succ d ih =>
      intro i hi
      by_cases he : a = 18446744073709551615 - (2 ^ i - 1)
      · exact .inl ⟨i, Nat.le_refl _, by omega, he, hit i (by omega) he⟩
      · rcases ih (i + 1) (by omega) with ⟨k, h1, h2, h3, h4⟩ | ⟨h1, h2⟩
        · exact .inl ⟨k, by omega, h2, h3, step i _ (by omega) he h4⟩
        · refine .inr ⟨fun k hk1 hk2 => ?_, step i _ (by omega) he h2⟩
          by_cases e : k = i
          · subst e; exact he
          · exact h1 k (by omega) hk2
  have hf : ∀ r, Ev (fun n => spec_l3block.l0 n ((0 : Nat) : Int) 1 a b) r → Ev (fun n => spec_l3block.f n 1 a b) r := fun r hr => Ev.congr (fun k => by unfold spec_l3block.f; rw [if_neg (by decide), if_neg (by decide)]; rfl) hr
  rcases key 65 0 (by omega) with ⟨k, h1, h2, h3, h4⟩ | ⟨h1, h2⟩
  · exact .inl ⟨k, h2, h3, hf _ h4⟩
  · exact .inr ⟨fun k hk => h1 k (by omega) hk, hf _ h2⟩
theorem l3conOK_is (k : Int) (a b : Nat) (ha : a < 18446744073709551616) (hb : b < 18446744073709551616) : spec_l3conOK.f k a b = some (normRaw k a b).2 := by
  unfold spec_l3conOK.f normRaw
  by_cases h0 : k = 0
  · rw [if_pos h0, if_pos h0]
    by_cases h1 : (a : Int) = 0
    · rw [if_pos h1, h1]; rfl
    · rw [if_neg h1, beq_eq_false_iff_ne.mpr h1]; rfl
  · rw [if_neg h0, if_neg h0]
    by_cases h1 : k = 1
    · rw [if_pos h1, if_pos h1, or64 a b ha hb]
      have hs := sub_bits a b ha hb
      by_cases h2 : (a : Int) = 0 ∧ (b : Int) = 0
      · rw [if_pos h2]
        have ea : a = 0 := by omega
        have eb : b = 0 := by omega
        subst ea; subst eb; rfl
      · rw [if_neg h2, andNot64 b a hb ha]
        congr 1
        rw [Bool.eq_iff_iff, beq_iff_eq, beq_iff_eq]
        constructor
        · intro h
          have := hs.2 (by omega)
          omega
        · intro h
          have := hs.1 (by omega)
          omega
    · rw [if_neg h1, if_neg h1]
      by_cases h2 : k = 2
      · rw [if_pos h2, if_pos h2]
        by_cases h3 : (a : Int) > b
        · rw [if_pos h3, decide_eq_false (by omega)]
        · rw [if_neg h3, decide_eq_true (by omega)]
      · rw [if_neg h2, if_neg h2]
end Go.Proofs.Ytdipinclchkhjaa.P

namespace Go.Proofs.Ytdipinclchkhjaa.P
open Go.RowKit Go.Proofs.YtdipinclchkhjaaW.PrintWords Go.Proofs.YtdipinclchkhjaaW.PrintLast Go.Proofs.YtdipinclchkhjaaW.PrintMore
set_option linter.unusedVariables false
set_option linter.unusedSimpArgs false
/-- The reference's search for a block, from 64 down, comes to what the program makes of a range. -/
theorem l3norm_range (a b : Nat) (hab : a ≤ b) (hb : b < 18446744073709551616) : Ev (fun n => spec_l3norm.l0 n a b 64) (nrRaw (a : Int) (b : Int)).con := by
  have hw : IntKind.u64.wrap ((b : Int) - (a : Int)) = ((b - a : Nat) : Int) := by rw [wrap_u64_id (by omega) (by omega)]; omega
  have and_is : ∀ i : Nat, i ≤ 64 → (bits .and .u64 (a : Int) ((2 ^ i - 1 : Nat) : Int) == 0) = decide (a % 2 ^ i = 0) := by
    intro i hi
    have hp := two_pow_le i hi
    rw [and64 _ _ (by omega) (by omega), Nat.and_two_pow_sub_one_eq_mod, Bool.eq_iff_iff, beq_iff_eq, decide_eq_true_eq]
    omega
  have key : ∀ i : Nat, i ≤ 64 → (∀ k, i < k → k ≤ 64 → b - a = 2 ^ k - 1 → a % 2 ^ k ≠ 0) → Ev (fun n => spec_l3norm.l0 n a b (i : Int)) (nrRaw (a : Int) (b : Int)).con := by
    intro i
    induction i with
    | zero =>
      intro hi hno
      have hlast : (∀ k, k ≤ 64 → b - a = 2 ^ k - 1 → a % 2 ^ k ≠ 0) → Ev (fun n => spec_l3norm.l0 n a b (-1)) (nrRaw (a : Int) (b : Int)).con := by
        intro h
        rw [nrRaw_plain a b hab hb h]
        exact ev_end fun k => by simp only [spec_l3norm.l0]; rw [if_neg (by decide)]; rfl
      by_cases h1 : b - a = 2 ^ 0 - 1
      · have h2 : a % 2 ^ 0 = 0 := Nat.mod_one a
        rw [nrRaw_block a b 0 hab hb (by omega) h1 h2]
        refine ev_step (fun n => spec_l3norm.j1 n a b ((0 : Nat) : Int) ((2 ^ 0 - 1 : Nat) : Int) true) (fun k => ?_) (ev_end fun k => ?_)
        · simp only [spec_l3norm.l0]
          rw [if_pos (by omega), l3low_is 0 hi, Option.bind_some, hw, h1, if_pos rfl, and_is 0 hi, h2]
          rfl
        · simp only [spec_l3norm.j1]
          rw [if_pos trivial, if_neg (by omega), if_neg (by omega)]
          rfl
      · refine ev_step (fun n => spec_l3norm.j1 n a b ((0 : Nat) : Int) ((2 ^ 0 - 1 : Nat) : Int) false) (fun k => ?_) (ev_step _ (fun k => ?_) (hlast fun k hk e => ?_))
        · simp only [spec_l3norm.l0]
          rw [if_pos (by omega), l3low_is 0 hi, Option.bind_some, hw, if_neg (by omega)]
        · simp only [spec_l3norm.j1]
          rw [if_neg (by decide), wrap64_id (by omega) (by omega)]
          rfl
        · by_cases e0 : k = 0
          · subst e0; exact absurd e h1
          · exact hno k (by omega) hk e
    | succ i ih =>
      intro hi hno
      have hp := two_pow_le (i + 1) hi
      by_cases h : b - a = 2 ^ (i + 1) - 1 ∧ a % 2 ^ (i + 1) = 0
      · rw [nrRaw_block a b (i + 1) hab hb hi h.1 h.2]
        refine ev_step (fun n => spec_l3norm.j1 n a b ((i + 1 : Nat) : Int) ((2 ^ (i + 1) - 1 : Nat) : Int) true) (fun k => ?_) (ev_end fun k => ?_)
        · simp only [spec_l3norm.l0]
          rw [if_pos (by omega), l3low_is (i + 1) hi, Option.bind_some, hw, h.1, if_pos rfl, and_is (i + 1) hi, h.2]
          rfl
        · simp only [spec_l3norm.j1]
          rw [if_pos trivial]
          by_cases e : i + 1 = 64
          · rw [if_pos (by omega), if_pos e]
          · rw [if_neg (by omega), if_neg e, wrap_u64_id (by omega) (by omega)]
            congr 3
            omega
      · have hd : Ev (fun n => spec_l3norm.j1 n a b ((i + 1 : Nat) : Int) ((2 ^ (i + 1) - 1 : Nat) : Int) false) (nrRaw (a : Int) (b : Int)).con := by
          refine ev_step _ (fun k => ?_) (ih (by omega) fun k hk1 hk2 e => ?_)
          · simp only [spec_l3norm.j1]
            rw [if_neg (by decide), wrap64_id (by omega) (by omega), show ((i + 1 : Nat) : Int) - 1 = (i : Int) by omega]
          · by_cases e0 : k = i + 1
            · subst e0; exact fun h2 => h ⟨e, h2⟩
            · exact hno k (by omega) hk2 e
        by_cases h1 : b - a = 2 ^ (i + 1) - 1
        · have h2 : decide (a % 2 ^ (i + 1) = 0) = false := decide_eq_false fun h2 => h ⟨h1, h2⟩
          refine ev_step _ (fun k => ?_) hd
          simp only [spec_l3norm.l0]
          rw [if_pos (by omega), l3low_is (i + 1) hi, Option.bind_some, hw, h1, if_pos rfl, and_is (i + 1) hi, h2]
        · refine ev_step _ (fun k => ?_) hd
          simp only [spec_l3norm.l0]
          rw [if_pos (by omega), l3low_is (i + 1) hi, Option.bind_some, hw, if_neg (by omega)]
  exact key 64 (Nat.le_refl _) fun k h1 h2 => by omega
/-- The reference's normal condition is the program's, of a valid one. -/
theorem l3norm_ev (k : Int) (a b : Nat) (ha : a < 18446744073709551616) (hb : b < 18446744073709551616) (hok : (normRaw k a b).2 = true) : Ev (fun n => spec_l3norm.f n k a b) (normRaw k a b).1.con := by
  have hblock : ∀ (x y : Nat), x ≤ y → y < 18446744073709551616 → Ev (fun n => spec_l3block.f n k a b) ((x : Int), (y : Int), true) → Ev (fun n => spec_l3norm.f n k a b) (nrRaw (x : Int) (y : Int)).con := by
    intro x y hxy hy h
    have h2 := Ev.bind (f := fun n bt => if bt.2.2 = true then spec_l3norm.l0 n bt.1 bt.2.1 64 else some (k, (a : Int), (b : Int))) h (r := (nrRaw (x : Int) (y : Int)).con) (by
      refine Ev.congr (fun n => ?_) (l3norm_range x y hxy hy)
      rw [if_pos rfl])
    exact h2
  have hokc := hok
  unfold normRaw at hok ⊢
  by_cases h0 : k = 0
  · rw [if_pos h0]
    have h := hblock 0 18446744073709551615 (by omega) (by omega) (ev_is fun n => by unfold spec_l3block.f; rw [if_pos h0]; rfl)
    have e := nrRaw_block 0 18446744073709551615 64 (by omega) (by omega) (by omega) (by decide) (by decide)
    rw [if_pos rfl] at e
    rw [e] at h
    exact h
  · rw [if_neg h0] at hok ⊢
    by_cases h1 : k = 1
    · subst h1
      have hval := l3conOK_is 1 a b ha hb
      rw [hokc] at hval
      have hsub : a ||| b = a := by
        unfold spec_l3conOK.f at hval
        rw [if_neg (by decide), if_pos rfl, or64 a b ha hb] at hval
        have := Option.some.inj hval
        rw [beq_iff_eq] at this
        omega
      rw [if_pos rfl]
      rcases l3block_mask a b ha with ⟨j, hj, he, hev⟩ | ⟨hno, hev⟩
      · have hp := two_pow_le j hj
        have hmod : b % 2 ^ j = 0 := by
          have h3 := (sub_bits a b ha hb).2 hsub
          have e2 : 18446744073709551615 - a = 2 ^ j - 1 := by omega
          rw [e2, Nat.and_two_pow_sub_one_eq_mod] at h3
          exact h3
        have hle : b + (2 ^ j - 1) < 18446744073709551616 := by
          have hb2 : b ≤ a := by rw [← hsub]; exact Nat.right_le_or
          omega
        have hw : IntKind.u64.wrap ((b : Int) + ((2 ^ j - 1 : Nat) : Int)) = ((b + (2 ^ j - 1) : Nat) : Int) := by rw [wrap_u64_id (by omega) (by omega)]; omega
        rw [hw] at hev
        have h := hblock b (b + (2 ^ j - 1)) (by omega) hle hev
        rw [nrRaw_block b _ j (by omega) hle hj (by omega) hmod] at h
        by_cases e64 : j = 64
        · subst e64
          have ea : a = 0 := by rw [he]
          have eb : b = 0 := by
            have hb2 : b ≤ a := by rw [← hsub]; exact Nat.right_le_or
            omega
          rw [if_pos rfl] at h
          rw [if_pos ⟨by omega, by omega⟩]
          exact h
        · have hp2 := two_pow_lt j (by omega)
          rw [if_neg e64, ← he] at h
          rw [if_neg (by omega)]
          exact h
      · have hne : ¬ ((a : Int) = 0 ∧ (b : Int) = 0) := by
          rintro ⟨h2, _⟩
          refine hno 64 (by omega) ?_
          rw [show (18446744073709551615 : Nat) - (2 ^ 64 - 1) = 0 by decide]
          omega
        rw [if_neg hne]
        have h2 := Ev.bind (f := fun n bt => if bt.2.2 = true then spec_l3norm.l0 n bt.1 bt.2.1 64 else some (1, (a : Int), (b : Int))) hev (r := ((1 : Int), (a : Int), (b : Int))) (ev_is fun n => by rw [if_neg (by decide)])
        exact h2
    · rw [if_neg h1] at hok ⊢
      by_cases h2 : k = 2
      · rw [if_pos h2] at hok ⊢
        by_cases h3 : (a : Int) > b
        · rw [if_pos h3] at hok; exact absurd hok (by decide)
        · rw [if_neg h3]
          exact hblock a b (by omega) hb (ev_is fun n => by unfold spec_l3block.f; rw [if_neg h0, if_pos h2])
      · rw [if_neg h2] at hok
        exact absurd hok (by decide)
end Go.Proofs.Ytdipinclchkhjaa.P

namespace Go.Proofs.Ytdipinclchkhjaa.P
open Go.RowKit Go.Proofs.YtdipinclchkhjaaW.PrintWords Go.Proofs.YtdipinclchkhjaaW.PrintLast Go.Proofs.YtdipinclchkhjaaW.PrintMore
set_option linter.unusedVariables false
set_option linter.unusedSimpArgs false
/-! What comes to something. -/
def EvT {α : Type} (g : Nat → Option α) (P : α → Prop) : Prop := ∃ r, Ev g r ∧ P r
theorem evt_bind {α β : Type} {g : Nat → Option α} {f : Nat → α → Option β} {P : α → Prop} {Q : β → Prop} (h : EvT g P) (h2 : ∀ x, P x → EvT (fun k => f k x) Q) : EvT (fun k => (g k).bind (f k)) Q := by
  obtain ⟨x, hx, px⟩ := h
  obtain ⟨r, hr, pr⟩ := h2 x px
  exact ⟨r, Ev.bind hx hr, pr⟩
theorem evt_some {α : Type} {P : α → Prop} {r : α} (h : P r) : EvT (fun _ => some r) P := ⟨r, ev_is fun _ => rfl, h⟩
theorem evt_ite {α : Type} {c : Prop} [Decidable c] {g h : Nat → Option α} {P : α → Prop} (h1 : c → EvT g P) (h2 : ¬ c → EvT h P) : EvT (fun k => if c then g k else h k) P := by
  by_cases hc : c
  · obtain ⟨r, hr, pr⟩ := h1 hc
    exact ⟨r, Ev.congr (fun k => by rw [if_pos hc]) hr, pr⟩
  · obtain ⟨r, hr, pr⟩ := h2 hc
    exact ⟨r, Ev.congr (fun k => by rw [if_neg hc]) hr, pr⟩
theorem evt_step {α : Type} {g : Nat → Option α} {P : α → Prop} (f : Nat → Option α) (h : ∀ k, g (k + 1) = f k) (k : EvT f P) : EvT g P := by
  obtain ⟨r, hr, pr⟩ := k
  exact ⟨r, ev_step f h hr, pr⟩
theorem evt_ev {α : Type} {g : Nat → Option α} {P : α → Prop} {r : α} (h : Ev g r) (p : P r) : EvT g P := ⟨r, h, p⟩
theorem evt_is {α : Type} {o : Option α} {P : α → Prop} {r : α} (h : o = some r) (p : P r) : EvT (fun _ => o) P := ⟨r, ev_is fun _ => h, p⟩
end Go.Proofs.Ytdipinclchkhjaa.P

namespace Go.Proofs.Ytdipinclchkhjaa.P
open Go.RowKit Go.Proofs.YtdipinclchkhjaaW.PrintWords Go.Proofs.YtdipinclchkhjaaW.PrintLast Go.Proofs.YtdipinclchkhjaaW.PrintMore
set_option linter.unusedVariables false
set_option linter.unusedSimpArgs false
/-! Draws: they all come to something. -/
def U (x : Int) : Prop := 0 ≤ x ∧ x < 18446744073709551616
theorem u_wrap (x : Int) : U (IntKind.u64.wrap x) := by unfold U; rw [wrap_u64]; omega
theorem u_shl (x y : Int) : U (shl .u64 x y) := u_wrap _
theorem u_bits (op : BinOp) (x y : Int) : U (bits op .u64 x y) := bits_u64 op x y
theorem u_nat {x : Int} (h : U x) : ∃ n : Nat, x = (n : Int) ∧ n < 18446744073709551616 := ⟨x.toNat, by unfold U at h; omega, by unfold U at h; omega⟩
/-- A reader: bytes, and a place among them. -/
def Rd (l : List Int) (i : Int) : Prop := (∀ x ∈ l, 0 ≤ x ∧ x < 256) ∧ l.length ≤ 600 ∧ 0 ≤ i ∧ i ≤ l.length
theorem open_t (l : List Int) (h : ∀ x ∈ l, (Lit.int .u8 x).wf = true) : EvT (fun _ => spec_l1open.f l) (fun r => Rd r.1 r.2) := by
  have hb := mem_u8 h
  unfold spec_l1open.f
  by_cases c : (l.length : Int) > 600
  · refine evt_is (r := (l.take 600, 0)) (by rw [if_pos c, if_pos (by omega)]) ⟨fun x hx => hb x (List.mem_of_mem_take hx), by rw [List.length_take]; omega, by omega, by omega⟩
  · refine evt_is (r := (l.take ((l.length : Int) : Int).toNat, 0)) (by rw [if_neg c, if_pos (by omega), if_pos (by omega)]) ⟨fun x hx => hb x (List.mem_of_mem_take hx), by rw [List.length_take]; omega, by omega, by omega⟩
theorem next_t (l : List Int) (i : Int) (h : Rd l i) : EvT (fun _ => spec_l1rd_next.f l i) (fun r => 0 ≤ r.1 ∧ r.1 < 256 ∧ Rd l r.2) := by
  obtain ⟨h1, h2, h3, h4⟩ := h
  unfold spec_l1rd_next.f
  by_cases c : i ≥ (l.length : Int)
  · exact evt_is (r := (0, i)) (by rw [if_pos c]) ⟨by omega, by omega, h1, h2, h3, h4⟩
  · obtain ⟨n, rfl⟩ := Int.eq_ofNat_of_zero_le h3
    have hn : n < l.length := by omega
    have hx := h1 _ (List.getElem_mem hn)
    refine evt_is (r := (l[n], (n : Int) + 1)) (by rw [if_neg c, if_pos h3, if_pos (by omega), rd_eq l n hn, wrap64_id (by omega) (by omega), wrap64_id (by omega) (by omega)]) ⟨hx.1, hx.2, h1, h2, by omega, by omega⟩
theorem tmod_bd {x : Int} {m : Int} (h : 0 ≤ x) (hm : 0 < m) : 0 ≤ Int.tmod x m ∧ Int.tmod x m < m := by
  rw [Int.tmod_eq_emod_of_nonneg h]
  exact ⟨Int.emod_nonneg _ (by omega), Int.emod_lt_of_pos _ hm⟩
theorem low_t (x : Int) (h0 : 0 ≤ x) (h1 : x ≤ 64) : EvT (fun _ => spec_l3low.f x) U := by
  obtain ⟨n, rfl⟩ := Int.eq_ofNat_of_zero_le h0
  have hp := two_pow_le n (by omega)
  exact evt_is (l3low_is n (by omega)) ⟨by omega, by omega⟩
theorem word_t (l : List Int) (i : Int) (h : Rd l i) : EvT (fun _ => spec_l1drawWord.f l i) (fun r => (0 ≤ r.1 ∧ r.1 < 4294967296) ∧ Rd l r.2) := by
  unfold spec_l1drawWord.f
  refine evt_bind (next_t l i h) ?_
  rintro ⟨v, j⟩ ⟨h1, h2, h3⟩
  dsimp only at *
  have hm := @tmod_bd v 5 h1 (by decide)
  refine evt_ite (fun _ => evt_some ⟨by omega, h3⟩) fun _ => evt_ite (fun _ => evt_some ⟨?_, h3⟩) fun _ => evt_ite (fun _ => evt_some ⟨by dsimp only; omega, h3⟩) fun _ => evt_ite (fun _ => evt_some ⟨by omega, h3⟩) fun _ => ?_
  · exact wrap_range .u32 rfl _
  · refine evt_bind (next_t l j h3) ?_
    rintro ⟨v2, j2⟩ ⟨_, _, h4⟩
    refine evt_bind (next_t l j2 h4) ?_
    rintro ⟨v3, j3⟩ ⟨_, _, h5⟩
    exact evt_some ⟨by omega, h5⟩
theorem arg_t (l : List Int) (i : Int) (h : Rd l i) : EvT (fun _ => spec_l2drawArg.f l i) (fun r => U r.1 ∧ Rd l r.2) := by
  unfold spec_l2drawArg.f
  refine evt_bind (next_t l i h) ?_
  rintro ⟨v, j⟩ ⟨h1, h2, h3⟩
  dsimp only at *
  refine evt_ite (fun _ => evt_some ⟨u_wrap _, h3⟩) fun _ => evt_ite (fun _ => evt_some ⟨u_wrap _, h3⟩) fun _ => evt_ite (fun _ => evt_some ⟨u_wrap _, h3⟩) fun _ => evt_ite (fun _ => ?_) fun _ => evt_ite (fun _ => evt_some ⟨u_wrap _, h3⟩) fun _ => evt_ite (fun _ => evt_some ⟨u_wrap _, h3⟩) fun _ => ?_
  · exact evt_ite (fun _ => evt_some ⟨u_shl _ _, h3⟩) fun c => absurd (u_wrap _).1 c
  · refine evt_bind (word_t l j h3) ?_
    rintro ⟨v2, j2⟩ ⟨_, h4⟩
    refine evt_bind (word_t l j2 h4) ?_
    rintro ⟨v3, j3⟩ ⟨_, h5⟩
    exact evt_some ⟨(by (try dsimp only); exact u_bits _ _ _), h5⟩
theorem near_t (x : Int) (hx : U x) (l : List Int) (i : Int) (h : Rd l i) : EvT (fun _ => spec_l2near.f x l i) (fun r => U r.1 ∧ Rd l r.2) := by
  unfold spec_l2near.f
  refine evt_bind (next_t l i h) ?_
  rintro ⟨v, j⟩ ⟨h1, h2, h3⟩
  dsimp only at *
  refine evt_ite (fun _ => evt_some ⟨hx, h3⟩) fun _ => evt_ite (fun _ => evt_some ⟨u_wrap _, h3⟩) fun _ => evt_ite (fun _ => evt_some ⟨u_wrap _, h3⟩) fun _ => evt_ite (fun _ => ?_) fun _ => evt_ite (fun _ => ?_) fun _ => ?_
  · exact evt_ite (fun _ => evt_some ⟨(by (try dsimp only); exact u_bits _ _ _), h3⟩) fun c => absurd (u_wrap _).1 c
  · exact evt_ite (fun _ => evt_some ⟨(by (try dsimp only); exact u_bits _ _ _), h3⟩) fun c => absurd (u_wrap _).1 c
  · refine evt_bind (arg_t l j h3) ?_
    rintro ⟨v2, j2⟩ ⟨h4, h5⟩
    exact evt_some ⟨h4, h5⟩
end Go.Proofs.Ytdipinclchkhjaa.P

namespace Go.Proofs.Ytdipinclchkhjaa.P
set_option linter.unusedVariables false
set_option linter.unusedSimpArgs false
/-! Numbers and their bits: masks, blocks, ranges. -/
theorem tb_hi {x i : Nat} (h : x < 18446744073709551616) (hi : 64 ≤ i) : x.testBit i = false :=
  Nat.testBit_lt_two_pow (Nat.lt_of_lt_of_le (by omega : x < 2 ^ 64) (Nat.pow_le_pow_right (by decide) hi))
theorem tb_ones (i : Nat) : (18446744073709551615 : Nat).testBit i = decide (i < 64) := by
  rw [show (18446744073709551615 : Nat) = 2 ^ 64 - 1 by decide, Nat.testBit_two_pow_sub_one]
theorem tb_not (x i : Nat) (h : x < 18446744073709551616) : (18446744073709551615 - x).testBit i = (decide (i < 64) && !x.testBit i) := by
  rw [← ones_xor x h, Nat.testBit_xor, tb_ones]
  by_cases hi : i < 64
  · simp [hi]
  · simp [hi, tb_hi h (by omega : 64 ≤ i)]
theorem eq_bits {x y : Nat} (hx : x < 18446744073709551616) (hy : y < 18446744073709551616) (h : ∀ i, i < 64 → x.testBit i = y.testBit i) : x = y := by
  apply Nat.eq_of_testBit_eq
  intro i
  by_cases hi : i < 64
  · exact h i hi
  · rw [tb_hi hx (by omega), tb_hi hy (by omega)]
theorem and_lt (x y : Nat) (h : x < 18446744073709551616) : x &&& y < 18446744073709551616 := Nat.lt_of_le_of_lt Nat.and_le_left h
theorem and_bits {z m v : Nat} (hz : z < 18446744073709551616) (hv : v < 18446744073709551616) : z &&& m = v ↔ ∀ i, i < 64 → (z.testBit i && m.testBit i) = v.testBit i := by
  constructor
  · intro h i _
    rw [← h, Nat.testBit_and]
  · intro h
    refine eq_bits (and_lt z m hz) hv fun i hi => ?_
    rw [Nat.testBit_and]
    exact h i hi
/-- A value's bits lie among a mask's. -/
def Sub (v m : Nat) : Prop := ∀ i, v.testBit i = true → m.testBit i = true
theorem sub_and {v m : Nat} (h : Sub v m) : v &&& m = v := by
  apply Nat.eq_of_testBit_eq
  intro i
  rw [Nat.testBit_and]
  cases hv : v.testBit i
  · rfl
  · rw [h i hv]; rfl
theorem and_sub {v m : Nat} (h : v &&& m = v) : Sub v m := by
  intro i hi
  rw [← h, Nat.testBit_and, Bool.and_eq_true] at hi
  exact hi.2
theorem or_sub {v m : Nat} (h : m ||| v = m) : Sub v m := by
  intro i hi
  rw [← h, Nat.testBit_or, hi, Bool.or_true]
theorem sub_zero {v m : Nat} (hv : v < 18446744073709551616) (hm : m < 18446744073709551616) : v &&& (18446744073709551615 - m) = 0 ↔ Sub v m := by
  rw [sub_bits m v hm hv]
  exact ⟨or_sub, fun h => by
    apply Nat.eq_of_testBit_eq
    intro i
    rw [Nat.testBit_or]
    cases hv : v.testBit i
    · rw [Bool.or_false]
    · rw [h i hv]; rfl⟩
theorem two_lt {i : Nat} (h : i < 64) : 2 ^ i < 18446744073709551616 := by have := two_pow_lt i h; omega
/-- A mask's set within another's. -/
theorem mask_mask {am av bm bv : Nat} (ham : am < 18446744073709551616) (hbm : bm < 18446744073709551616) (hav : av < 18446744073709551616) (hbv : bv < 18446744073709551616) (ha : Sub av am) (hb : Sub bv bm) :
    (∀ z, z < 18446744073709551616 → z &&& am = av → z &&& bm = bv) ↔ ∀ i, i < 64 → bm.testBit i = true → am.testBit i = true ∧ av.testBit i = bv.testBit i := by
  constructor
  · intro h i hi hbi
    have h0 := h av hav (sub_and ha)
    have h1 : av.testBit i = bv.testBit i := by
      rw [← h0, Nat.testBit_and, hbi, Bool.and_true]
    refine ⟨?_, h1⟩
    cases hai : am.testBit i
    · exfalso
      have hx : av ^^^ 2 ^ i < 18446744073709551616 := by
        have := Nat.xor_lt_two_pow (x := av) (y := 2 ^ i) (n := 64) hav (two_lt hi)
        exact this
      have h2 := h (av ^^^ 2 ^ i) hx (by
        apply Nat.eq_of_testBit_eq
        intro j
        rw [Nat.testBit_and, Nat.testBit_xor, Nat.testBit_two_pow]
        by_cases e : i = j
        · subst e
          have : av.testBit i = false := by
            cases hv : av.testBit i
            · rfl
            · rw [ha i hv] at hai; exact absurd hai (by decide)
          simp [hai, this]
        · simp only [e, decide_false, Bool.xor_false]
          cases hv : av.testBit j
          · rfl
          · rw [ha j hv]; rfl)
      have h3 := congrArg (fun x => x.testBit i) h2
      simp only [Nat.testBit_and, Nat.testBit_xor, Nat.testBit_two_pow, hbi, Bool.and_true, decide_true, ← h1] at h3
      cases hv : av.testBit i <;> simp [hv] at h3
    · rfl
  · intro h z hz hza
    rw [and_bits hz hbv]
    intro i hi
    cases hbi : bm.testBit i
    · rw [Bool.and_false]
      cases hv : bv.testBit i
      · rfl
      · rw [hb i hv] at hbi; exact absurd hbi (by decide)
    · obtain ⟨h1, h2⟩ := h i hi hbi
      have h3 := (and_bits hz hav).1 hza i hi
      rw [h1] at h3
      rw [h3, h2]
theorem mask_test {am av bm bv : Nat} (ham : am < 18446744073709551616) (hbm : bm < 18446744073709551616) (hav : av < 18446744073709551616) (hbv : bv < 18446744073709551616) (ha : Sub av am) (hb : Sub bv bm) :
    (bm &&& (18446744073709551615 - am) = 0 ∧ av &&& bm = bv) ↔ ∀ i, i < 64 → bm.testBit i = true → am.testBit i = true ∧ av.testBit i = bv.testBit i := by
  rw [sub_zero hbm ham, and_bits hav hbv]
  constructor
  · rintro ⟨h1, h2⟩ i hi hbi
    refine ⟨h1 i hbi, ?_⟩
    rw [← h2 i hi, hbi, Bool.and_true]
  · intro h
    refine ⟨fun i hbi => ?_, fun i hi => ?_⟩
    · by_cases hi : i < 64
      · exact (h i hi hbi).1
      · rw [tb_hi hbm (by omega)] at hbi; exact absurd hbi (by decide)
    · cases hbi : bm.testBit i
      · rw [Bool.and_false]
        cases hv : bv.testBit i
        · rfl
        · rw [hb i hv] at hbi; exact absurd hbi (by decide)
      · rw [Bool.and_true]; exact (h i hi hbi).2
/-- A mask's set: its least and its greatest. -/
theorem mask_ends {m v : Nat} (hm : m < 18446744073709551616) (hv : v < 18446744073709551616) (hs : Sub v m) :
    v &&& m = v ∧ (v ||| (18446744073709551615 - m)) &&& m = v ∧ (v ||| (18446744073709551615 - m)) < 18446744073709551616 ∧ ∀ z, z < 18446744073709551616 → z &&& m = v → v ≤ z ∧ z ≤ v ||| (18446744073709551615 - m) := by
  have hlt : v ||| (18446744073709551615 - m) < 18446744073709551616 := Nat.or_lt_two_pow (n := 64) hv (by omega)
  refine ⟨sub_and hs, ?_, hlt, fun z hz h => ⟨?_, ?_⟩⟩
  · rw [and_bits hlt hv]
    intro i hi
    rw [Nat.testBit_or, tb_not m i hm]
    cases h1 : m.testBit i
    · cases h2 : v.testBit i
      · simp
      · rw [hs i h2] at h1; exact absurd h1 (by decide)
    · simp
  · rw [← h]; exact Nat.and_le_left
  · apply Nat.le_of_testBit
    intro i hi
    rw [Nat.testBit_or, tb_not m i hm, ← h, Nat.testBit_and, hi]
    have h64 : i < 64 := by
      rcases Nat.lt_or_ge i 64 with h6 | h6
      · exact h6
      · rw [tb_hi hz h6] at hi; exact absurd hi (by decide)
    cases m.testBit i <;> simp [h64]
theorem tb_div {x y i j : Nat} (h : x / 2 ^ i = y / 2 ^ i) (hj : i ≤ j) : x.testBit j = y.testBit j := by
  have h1 := Nat.testBit_div_two_pow (n := i) x (j - i)
  have h2 := Nat.testBit_div_two_pow (n := i) y (j - i)
  rw [Nat.sub_add_cancel hj] at h1 h2
  rw [← h1, ← h2, h]
/-- A mask with no bit below i asks the bits above alone. -/
theorem and_high {m i z x : Nat} (hm : ∀ j, j < i → m.testBit j = false) (h : z / 2 ^ i = x / 2 ^ i) : z &&& m = x &&& m := by
  apply Nat.eq_of_testBit_eq
  intro j
  rw [Nat.testBit_and, Nat.testBit_and]
  by_cases hj : j < i
  · rw [hm j hj, Bool.and_false, Bool.and_false]
  · rw [tb_div h (by omega)]
theorem and_low {m i : Nat} : m &&& (2 ^ i - 1) = 0 ↔ ∀ j, j < i → m.testBit j = false := by
  rw [Nat.and_two_pow_sub_one_eq_mod]
  constructor
  · intro h j hj
    have h1 := Nat.testBit_mod_two_pow m i j
    rw [h, Nat.zero_testBit] at h1
    simpa [hj] using h1.symm
  · intro h
    apply Nat.eq_of_testBit_eq
    intro j
    rw [Nat.testBit_mod_two_pow, Nat.zero_testBit]
    by_cases hj : j < i
    · simp [h j hj]
    · simp [hj]
theorem or_low (x i : Nat) : x ||| (2 ^ i - 1) = 2 ^ i * (x / 2 ^ i) + (2 ^ i - 1) := by
  have hp := Nat.two_pow_pos i
  rw [Nat.two_pow_add_eq_or_of_lt (by omega)]
  apply Nat.eq_of_testBit_eq
  intro j
  rw [Nat.testBit_or, Nat.testBit_or, Nat.mul_comm, Nat.testBit_mul_two_pow, Nat.testBit_two_pow_sub_one, Nat.testBit_div_two_pow]
  by_cases hj : i ≤ j
  · rw [Nat.sub_add_cancel hj]; simp [hj]
  · have : j < i := by omega
    simp [this]
theorem and_pow (m i : Nat) : m &&& 2 ^ i = if m.testBit i = true then 2 ^ i else 0 := by
  apply Nat.eq_of_testBit_eq
  intro j
  rw [Nat.testBit_and, Nat.testBit_two_pow]
  by_cases e : i = j
  · subst e
    cases h : m.testBit i <;> simp
  · simp only [e, decide_false, Bool.and_false]
    split
    · rw [Nat.testBit_two_pow]; simp [e]
    · rw [Nat.zero_testBit]
/-- A block: what its mask's set is. -/
theorem block_set {k a z : Nat} (hk : k ≤ 64) (ha : a % 2 ^ k = 0) (hz : z < 18446744073709551616) : z &&& (18446744073709551615 - (2 ^ k - 1)) = a ↔ a ≤ z ∧ z ≤ a + (2 ^ k - 1) := by
  have hp := two_pow_le k hk
  have e : z &&& (18446744073709551615 - (2 ^ k - 1)) = 2 ^ k * (z / 2 ^ k) := by
    apply Nat.eq_of_testBit_eq
    intro j
    rw [Nat.testBit_and, tb_not _ _ (by omega), Nat.testBit_two_pow_sub_one, Nat.mul_comm, Nat.testBit_mul_two_pow, Nat.testBit_div_two_pow]
    by_cases hj : k ≤ j
    · have : ¬ j < k := by omega
      rw [Nat.sub_add_cancel hj]
      by_cases h6 : j < 64
      · simp [hj, this, h6]
      · have h7 : z.testBit j = false := tb_hi hz (by omega)
        simp [hj, this, h6, h7]
    · have : j < k := by omega
      simp [hj, this]
  rw [e]
  have h1 := Nat.div_add_mod z (2 ^ k)
  have h2 := Nat.div_add_mod a (2 ^ k)
  have h3 := Nat.mod_lt z hp.1
  generalize 2 ^ k = p at h1 h2 h3 ha hp ⊢
  constructor
  · intro h
    rw [h] at h1
    omega
  · rintro ⟨h4, h5⟩
    have hq : z / p = a / p := by
      refine Nat.div_eq_of_lt_le ?_ ?_
      · rw [Nat.mul_comm]; omega
      · rw [Nat.succ_mul, Nat.mul_comm]; omega
    rw [hq]
    omega
/-- A range's bits: which of a mask's may stand there. -/
theorem range_mask {l h m v n : Nat} (hl : l ≤ h) (hn : (l ^^^ h) / 2 ^ n = 0) (htop : n ≠ 0 → (l ^^^ h).testBit (n - 1) = true) :
    (∀ z, l ≤ z → z ≤ h → z &&& m = v) ↔ (m &&& (2 ^ n - 1) = 0 ∧ l &&& m = v) := by
  rw [Nat.xor_div_two_pow] at hn
  have hq : l / 2 ^ n = h / 2 ^ n := by
    apply Nat.eq_of_testBit_eq
    intro i
    have := congrArg (fun x => x.testBit i) hn
    simp only [Nat.testBit_xor, Nat.zero_testBit] at this
    cases h1 : (l / 2 ^ n).testBit i <;> cases h2 : (h / 2 ^ n).testBit i <;> simp_all
  rw [and_low]
  constructor
  · intro hz
    refine ⟨?_, hz l (Nat.le_refl _) hl⟩
    by_cases e : n = 0
    · subst e; intro j hj; omega
    · obtain ⟨t, rfl⟩ : ∃ t, n = t + 1 := ⟨n - 1, by omega⟩
      have ht := htop e
      rw [Nat.add_sub_cancel, Nat.testBit_xor, Nat.testBit_eq_decide_div_mod_eq, Nat.testBit_eq_decide_div_mod_eq] at ht
      have hp := Nat.two_pow_pos t
      have e1 : l / 2 ^ (t + 1) = l / 2 ^ t / 2 := by rw [Nat.pow_succ, Nat.div_div_eq_div_mul]
      have e2 : h / 2 ^ (t + 1) = h / 2 ^ t / 2 := by rw [Nat.pow_succ, Nat.div_div_eq_div_mul]
      rw [e1, e2] at hq
      have hle : l / 2 ^ t ≤ h / 2 ^ t := Nat.div_le_div_right hl
      have hodd : h / 2 ^ t = l / 2 ^ t + 1 ∧ l / 2 ^ t % 2 = 0 := by
        have a1 := Nat.div_add_mod (l / 2 ^ t) 2
        have a2 := Nat.div_add_mod (h / 2 ^ t) 2
        have a3 := Nat.mod_lt (l / 2 ^ t) (by decide : 2 > 0)
        have a4 := Nat.mod_lt (h / 2 ^ t) (by decide : 2 > 0)
        by_cases b1 : l / 2 ^ t % 2 = 1 <;> by_cases b2 : h / 2 ^ t % 2 = 1 <;> simp [b1, b2] at ht <;> omega
      obtain ⟨M, hM⟩ : ∃ M, M = 2 ^ t * (l / 2 ^ t + 1) := ⟨_, rfl⟩
      have c1 := Nat.div_add_mod l (2 ^ t)
      have c2 := Nat.div_add_mod h (2 ^ t)
      have c3 := Nat.mod_lt l hp
      rw [hodd.1, ← hM] at c2
      have hM2 : M = 2 ^ t * (l / 2 ^ t) + 2 ^ t := by rw [hM, Nat.mul_succ]
      have z1 := hz M (by omega) (by omega)
      have z2 := hz (M - 1) (by omega) (by omega)
      have hd : (M - 1) / 2 ^ t = l / 2 ^ t := by
        refine Nat.div_eq_of_lt_le ?_ ?_
        · rw [Nat.mul_comm]; omega
        · rw [Nat.succ_mul, Nat.mul_comm]; omega
      have hm1 : (M - 1) % 2 ^ t = 2 ^ t - 1 := by
        have := Nat.div_add_mod (M - 1) (2 ^ t)
        rw [hd] at this
        omega
      have hdM : M / 2 ^ t = l / 2 ^ t + 1 := by rw [hM]; exact Nat.mul_div_cancel_left _ hp
      intro j hj
      have hb := congrArg (fun x => x.testBit j) (z1.trans z2.symm)
      simp only [Nat.testBit_and] at hb
      have hne : M.testBit j ≠ (M - 1).testBit j := by
        by_cases ej : j = t
        · subst ej
          rw [Nat.testBit_eq_decide_div_mod_eq, Nat.testBit_eq_decide_div_mod_eq, hdM, hd]
          have f1 : (l / 2 ^ j + 1) % 2 = 1 := by omega
          have f2 : ¬ (l / 2 ^ j) % 2 = 1 := by omega
          simp [f1, f2]
        · have hjt : j < t := by omega
          have g1 : M.testBit j = false := by
            rw [hM, Nat.mul_comm, Nat.testBit_mul_two_pow]
            have : ¬ t ≤ j := by omega
            simp [this]
          have g2 : (M - 1).testBit j = true := by
            have h7 := Nat.testBit_mod_two_pow (M - 1) t j
            rw [hm1, Nat.testBit_two_pow_sub_one] at h7
            simpa [hjt] using h7.symm
          rw [g1, g2]
          decide
      cases hmj : m.testBit j
      · rfl
      · rw [hmj, Bool.and_true, Bool.and_true] at hb
        exact absurd hb hne
  · rintro ⟨h1, h2⟩ z hz1 hz2
    rw [← h2]
    refine and_high h1 ?_
    have a := Nat.div_le_div_right (c := 2 ^ n) hz1
    have b := Nat.div_le_div_right (c := 2 ^ n) hz2
    omega
theorem bitLen_top (x : Nat) (hx : x < 18446744073709551616) : Lib.bitLen x ≤ 64 ∧ x / 2 ^ Lib.bitLen x = 0 ∧ (Lib.bitLen x ≠ 0 → x.testBit (Lib.bitLen x - 1) = true) := by
  have h1 := Lib.bitLen_le x 64 (Nat.le_refl _) hx
  refine ⟨h1, ?_⟩
  by_cases e : x = 0
  · subst e
    have h0 := Lib.bitLen_le 0 0 (by decide) (by decide)
    refine ⟨Nat.zero_div _, fun h => absurd (Nat.le_zero.1 h0) h⟩
  · obtain ⟨b1, b2, b3⟩ := Lib.bitLenAux_bounds 64 x hx e
    refine ⟨Nat.div_eq_of_lt b3, fun h => ?_⟩
    rw [Nat.testBit_eq_decide_div_mod_eq, decide_eq_true_eq]
    have hn : Lib.bitLen x = Lib.bitLenAux 64 x := rfl
    rw [hn]
    have hs : Lib.bitLenAux 64 x = (Lib.bitLenAux 64 x - 1) + 1 := by omega
    rw [hs, Nat.pow_succ] at b3
    have : x / 2 ^ (Lib.bitLenAux 64 x - 1) = 1 := Nat.div_eq_of_lt_le (by omega) (by omega)
    rw [this]
end Go.Proofs.Ytdipinclchkhjaa.P
