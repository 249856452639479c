import Derived.Test.YtgodbniphkfgfaaGFnExactDecodeProgram1
import Derived.Test.YtgodbniphkfgfaaGFnExactDecodeProgram5
import Derived.Laws.BitsLemmas
import Derived.RowKit
import Derived.Test.YtgodbniphkfgfaaGFnExactDecodeProgram6
import Derived.Test.YtgodbniphkfgfaaGFnExactDecodeProgram10
import Derived.Test.YtgodbniphkfgfaaGFnExactDecodeProgram8
namespace Go.Proofs.Ytgodbniphkfgfaa.P
open Go.RowKit Go.Proofs.YtgodbniphkfgfaaW.PrintWords Go.Proofs.YtgodbniphkfgfaaW.PrintLast Go.Proofs.YtgodbniphkfgfaaW.PrintMore

set_option linter.unusedVariables false
set_option linter.unusedSimpArgs false

/-! Small words: rounds, wrapped sums, bits as those of whole numbers. -/
theorem wrap64_id {i : Int} (h0 : -9223372036854775808 ≤ i) (h1 : i < 9223372036854775808) : wrap64 i = i := by unfold wrap64; omega
theorem bo {α β : Type} {o : Option α} {x : α} {f : α → Option β} {r : Option β} (h : o = some x) (k : f x = r) : o.bind f = r := by rw [h]; exact k
theorem ev_step {α : Type} {g : Nat → Option α} {r : α} (f : Nat → Option α) (h : ∀ k, g (k + 1) = f k) (k : Ev f r) : Ev g r := Ev.step h k
theorem ev_end {α : Type} {g : Nat → Option α} {r : α} (h : ∀ k, g (k + 1) = some r) : Ev g r := Ev.step h (Ev.now r)
theorem ev_is {α : Type} {g : Nat → Option α} {r : α} (h : ∀ k, g k = some r) : Ev g r := ⟨0, fun k _ => h k⟩
theorem ev_mk {α : Type} {g : Nat → Option α} {r : α} (K : Nat) (h : ∀ k, K ≤ k → g k = some r) : Ev g r := ⟨K, h⟩
theorem ev_get {α : Type} {g : Nat → Option α} {r : α} (h : Ev g r) : ∃ K, ∀ k, K ≤ k → g k = some r := h

theorem bits_or_nat (k : IntKind) (hk : k.signed = false) (a b : Nat) (ha : a < 2 ^ k.bits) (hb : b < 2 ^ k.bits) : bits .or k a b = ((a ||| b : Nat) : Int) := by
  have h1 : (a ||| b) < 2 ^ k.bits := Nat.or_lt_two_pow ha hb
  simp only [bits, BitVec.ofInt_natCast, BitVec.toNat_or, BitVec.toNat_ofNat, Nat.mod_eq_of_lt ha, Nat.mod_eq_of_lt hb, IntKind.wrap, hk]
  have : ((a ||| b : Nat) : Int) < ((2 ^ k.bits : Nat) : Int) := by exact_mod_cast h1
  simp
  exact Int.emod_eq_of_lt (Int.natCast_nonneg _) (by simpa using this)
/-! Lists. -/
theorem rd_eq (l : List Int) (i : Nat) (h : i < l.length) : rd l i = l[i] := by
  simp [rd, List.getD_eq_getElem?_getD, List.getElem?_eq_getElem h]
theorem mem_u8 {l : List Int} (h : ∀ x ∈ l, (Lit.int .u8 x).wf = true) (x : Int) (hx : x ∈ l) : 0 ≤ x ∧ x < 256 := by
  have := h x hx
  simp only [Lit.wf, IntKind.min, IntKind.max, IntKind.signed, IntKind.bits, Bool.and_eq_true] at this
  simp at this
  omega

/-! Loops: what they come to, from some number of rounds on. -/
theorem ev_loop_eq {α : Type} (L : Nat → Int → Option Bool) (a b : List α) (hl : a.length = b.length)
    (hend : Ev (fun k => L k (a.length : Int)) true)
    (hyes : ∀ i (h : i < a.length) (h' : i < b.length), a[i] = b[i] → ∀ r, Ev (fun k => L k ((i + 1 : Nat) : Int)) r → Ev (fun k => L k (i : Int)) r)
    (hno : ∀ i (h : i < a.length) (h' : i < b.length), a[i] ≠ b[i] → Ev (fun k => L k (i : Int)) false) :
    ∀ r : Bool, (r = true ↔ a = b) → Ev (fun k => L k 0) r := by
  intro r hr
  have key : ∀ d i, i + d = a.length → a.take i = b.take i → Ev (fun k => L k (i : Int)) r := by
    intro d
    induction d with
    | zero =>
      intro i hi ht
      have e : i = a.length := by omega
      subst e
      rw [List.take_length, hl, List.take_length] at ht
      rw [hr.2 ht]
      exact hend
    | succ d ih =>
      intro i hi ht
      have h : i < a.length := by omega
      have h' : i < b.length := by omega
      by_cases e : a[i] = b[i]
      · refine hyes i h h' e r (ih (i + 1) (by omega) ?_)
        rw [List.take_succ_eq_append_getElem h, List.take_succ_eq_append_getElem h', ht, e]
      · have : r = false := by
          cases r with
          | false => rfl
          | true =>
            have e2 := hr.1 rfl
            subst e2
            exact absurd rfl e
        rw [this]
        exact hno i h h' e
  exact key a.length 0 (by omega) rfl
/-- A loop that counts up to n, with a state: s0 at the begin, sn at the end. -/
theorem ev_loop {σ ρ : Type} (L : Nat → σ → Int → Option ρ) (n : Nat) (S : Nat → σ) (s0 sn : σ) (h0 : S 0 = s0) (hn : S n = sn)
    (hstep : ∀ i, i < n → ∀ r, Ev (fun k => L k (S (i + 1)) ((i + 1 : Nat) : Int)) r → Ev (fun k => L k (S i) (i : Int)) r) :
    ∀ r, Ev (fun k => L k sn (n : Int)) r → Ev (fun k => L k s0 0) r := by
  intro r hr
  subst h0
  subst hn
  have key : ∀ d i, i + d = n → Ev (fun k => L k (S i) (i : Int)) r := by
    intro d
    induction d with
    | zero => intro i hi; have e : i = n := by omega
              subst e; exact hr
    | succ d ih => intro i hi; exact hstep i (by omega) r (ih (i + 1) (by omega))
  exact key n 0 (by omega)
/-- The list that is filled from its begin: i elements done. -/
def filled {α β : Type} (f : α → β) (a : List α) (z : β) (i : Nat) : List β := (a.take i).map f ++ List.replicate (a.length - i) z
theorem filled_zero {α β : Type} (f : α → β) (a : List α) (z : β) : filled f a z 0 = List.replicate a.length z := by simp [filled]
theorem filled_all {α β : Type} (f : α → β) (a : List α) (z : β) : filled f a z a.length = a.map f := by simp [filled]
theorem filled_length {α β : Type} (f : α → β) (a : List α) (z : β) (i : Nat) (h : i ≤ a.length) : (filled f a z i).length = a.length := by simp [filled]; omega
theorem filled_set {α β : Type} (f : α → β) (a : List α) (z : β) (i : Nat) (h : i < a.length) : (filled f a z i).set i (f a[i]) = filled f a z (i + 1) := by
  unfold filled
  have h1 : ((a.take i).map f).length = i := by simp; omega
  rw [List.set_append_right i _ (by omega), h1, Nat.sub_self]
  obtain ⟨m, hm⟩ : ∃ m, a.length - i = m + 1 := ⟨a.length - i - 1, by omega⟩
  rw [hm, show a.length - (i + 1) = m by omega, List.replicate_succ, List.set_cons_zero, List.take_succ_eq_append_getElem h, List.map_append, List.append_assoc]
  rfl
end Go.Proofs.Ytgodbniphkfgfaa.P

namespace Go.Proofs.Ytgodbniphkfgfaa.P
open Go.RowKit Go.Proofs.YtgodbniphkfgfaaW.PrintWords Go.Proofs.YtgodbniphkfgfaaW.PrintLast Go.Proofs.YtgodbniphkfgfaaW.PrintMore
attribute [local go_sem] max2_int min2_int max_two min_two max_three min_three max_four min_four   -- for this text's walks alone
set_option linter.unusedVariables false
set_option linter.unusedSimpArgs false

/-! ### laws_toIns: function 39 -/
end Go.Proofs.Ytgodbniphkfgfaa.P

namespace Go.Proofs.Ytgodbniphkfgfaa.P
open Go.RowKit Go.Proofs.YtgodbniphkfgfaaW.PrintWords Go.Proofs.YtgodbniphkfgfaaW.PrintLast Go.Proofs.YtgodbniphkfgfaaW.PrintMore
attribute [local go_sem] max2_int min2_int max_two min_two max_three min_three max_four min_four   -- for this text's walks alone
set_option linter.unusedVariables false
set_option linter.unusedSimpArgs false

/-! ### laws_toInsS: function 23 -/
end Go.Proofs.Ytgodbniphkfgfaa.P

namespace Go.Proofs.Ytgodbniphkfgfaa.P
open Go.RowKit Go.Proofs.YtgodbniphkfgfaaW.PrintWords Go.Proofs.YtgodbniphkfgfaaW.PrintLast Go.Proofs.YtgodbniphkfgfaaW.PrintMore
attribute [local go_sem] max2_int min2_int max_two min_two max_three min_three max_four min_four   -- for this text's walks alone
set_option linter.unusedVariables false
set_option linter.unusedSimpArgs false

/-! ### laws_szInsS: function 21 -/
end Go.Proofs.Ytgodbniphkfgfaa.P

namespace Go.Proofs.Ytgodbniphkfgfaa.P
open Go.RowKit Go.Proofs.YtgodbniphkfgfaaW.PrintWords Go.Proofs.YtgodbniphkfgfaaW.PrintLast Go.Proofs.YtgodbniphkfgfaaW.PrintMore
set_option linter.unusedVariables false
set_option linter.unusedSimpArgs false
theorem rdIns_eq (l : List S54) (i : Nat) (h : i < l.length) : rd_T54 l (i : Int) = l[i] := by
  simp [rd_T54, List.getD_eq_getElem?_getD, List.getElem?_eq_getElem h]
theorem eqIns_is (a b : S54) : laws_eqIns.f a.f0 a.f1 a.f2 a.f3 b.f0 b.f1 b.f2 b.f3 = some true ∧ a = b ∨ laws_eqIns.f a.f0 a.f1 a.f2 a.f3 b.f0 b.f1 b.f2 b.f3 = some false ∧ a ≠ b := by
  obtain ⟨a0, a1, a2, a3⟩ := a
  obtain ⟨b0, b1, b2, b3⟩ := b
  simp only [laws_eqIns.f, S54.mk.injEq, ne_eq]
  by_cases h0 : a0 = b0 <;> by_cases h1 : a1 = b1 <;> by_cases h2 : a2 = b2 <;> by_cases h3 : a3 = b3 <;> simp [h0, h1, h2, h3]
theorem eqInsS_ev (a b : List S54) (ha : a.length ≤ 35184372088832) (r : Bool) (hr : r = true ↔ a = b) : Ev (fun k => laws_eqInsS.f k a b) r := by
  by_cases h : a.length = b.length
  · refine Ev.congr (f := fun k => laws_eqInsS.l0 k a b 0) (fun k => by unfold laws_eqInsS.f; rw [if_pos (by omega)]) ?_
    refine ev_loop_eq (fun k i => laws_eqInsS.l0 k a b i) a b h (ev_end fun k => ?_) (fun i hi hi' e r hr => ev_step _ (fun k => ?_) hr) (fun i hi hi' e => ev_end fun k => ?_) r hr
    · simp only [laws_eqInsS.l0]; rw [if_neg (by omega)]
    · simp only [laws_eqInsS.l0]
      rcases eqIns_is a[i] b[i] with ⟨h1, _⟩ | ⟨_, h1⟩
      · rw [if_pos (by omega), if_pos (by omega), if_pos (by omega), rdIns_eq a i hi, rdIns_eq b i hi', h1, Option.bind_some, if_pos rfl, wrap64_id (by omega) (by omega)]; rfl
      · exact absurd e h1
    · simp only [laws_eqInsS.l0]
      rcases eqIns_is a[i] b[i] with ⟨_, h1⟩ | ⟨h1, _⟩
      · exact absurd h1 e
      · rw [if_pos (by omega), if_pos (by omega), if_pos (by omega), rdIns_eq a i hi, rdIns_eq b i hi', h1, Option.bind_some, if_neg (by decide)]
  · have e : r = false := by
      cases r with
      | false => rfl
      | true => exact absurd (congrArg List.length (hr.1 rfl)) h
    rw [e]
    exact ev_is fun k => by unfold laws_eqInsS.f; rw [if_neg (by omega)]
end Go.Proofs.Ytgodbniphkfgfaa.P

namespace Go.Proofs.Ytgodbniphkfgfaa.P
open Go.RowKit Go.Proofs.YtgodbniphkfgfaaW.PrintWords Go.Proofs.YtgodbniphkfgfaaW.PrintLast Go.Proofs.YtgodbniphkfgfaaW.PrintMore
set_option linter.unusedVariables false
set_option linter.unusedSimpArgs false
/-! Bytes put together. -/
theorem or4_nat (b0 b1 b2 b3 : Nat) (h0 : b0 < 256) (h1 : b1 < 256) (h2 : b2 < 256) (h3 : b3 < 256) : ((b0 ||| b1 * 256) ||| b2 * 65536) ||| b3 * 16777216 = b0 + 256 * b1 + 65536 * b2 + 16777216 * b3 := by
  have e1 : b0 ||| b1 * 256 = b0 + 256 * b1 := by
    have : 256 * b1 + b0 = 256 * b1 ||| b0 := Nat.two_pow_add_eq_or_of_lt (i := 8) h0 b1
    rw [Nat.or_comm, Nat.mul_comm]
    omega
  rw [e1]
  have l1 : b0 + 256 * b1 < 2 ^ 16 := by omega
  have e2 : (b0 + 256 * b1) ||| b2 * 65536 = b0 + 256 * b1 + 65536 * b2 := by
    have : 65536 * b2 + (b0 + 256 * b1) = 65536 * b2 ||| (b0 + 256 * b1) := Nat.two_pow_add_eq_or_of_lt (i := 16) l1 b2
    rw [Nat.or_comm, Nat.mul_comm]
    omega
  rw [e2]
  have l2 : b0 + 256 * b1 + 65536 * b2 < 2 ^ 24 := by omega
  have : 16777216 * b3 + (b0 + 256 * b1 + 65536 * b2) = 16777216 * b3 ||| (b0 + 256 * b1 + 65536 * b2) := Nat.two_pow_add_eq_or_of_lt (i := 24) l2 b3
  rw [Nat.or_comm, Nat.mul_comm]
  omega
theorem or2_nat (b0 b1 : Nat) (h0 : b0 < 256) : b0 ||| b1 * 256 = b0 + 256 * b1 := by
  have : 256 * b1 + b0 = 256 * b1 ||| b0 := Nat.two_pow_add_eq_or_of_lt (i := 8) h0 b1
  rw [Nat.or_comm, Nat.mul_comm]
  omega
theorem u16_of2 (x0 x1 : Int) (h0 : 0 ≤ x0 ∧ x0 < 256) (h1 : 0 ≤ x1 ∧ x1 < 256) : bits .or .u16 (IntKind.u16.wrap x0) (IntKind.u16.wrap (IntKind.u16.wrap x1 * 256)) = x0 + 256 * x1 := by
  obtain ⟨b0, rfl⟩ := Int.eq_ofNat_of_zero_le h0.1
  obtain ⟨b1, rfl⟩ := Int.eq_ofNat_of_zero_le h1.1
  have w : ∀ z : Int, IntKind.u16.wrap z = z % 65536 := fun z => by simp [IntKind.wrap, IntKind.bits, IntKind.signed]
  have g0 : (b0 : Int) % 65536 = ((b0 : Nat) : Int) := by omega
  have g1 : (b1 : Int) % 65536 * 256 % 65536 = ((b1 * 256 : Nat) : Int) := by omega
  have hb : ∀ z : Nat, z < 65536 → z < 2 ^ IntKind.u16.bits := fun z h => h
  rw [w, w, w, g0, g1, bits_or_nat .u16 rfl b0 (b1 * 256) (hb _ (by omega)) (hb _ (by omega)), or2_nat b0 b1 (by omega)]
  omega
theorem u32_of4 (x0 x1 x2 x3 : Int) (h0 : 0 ≤ x0 ∧ x0 < 256) (h1 : 0 ≤ x1 ∧ x1 < 256) (h2 : 0 ≤ x2 ∧ x2 < 256) (h3 : 0 ≤ x3 ∧ x3 < 256) :
    bits .or .u32 (bits .or .u32 (bits .or .u32 (IntKind.u32.wrap x0) (IntKind.u32.wrap (IntKind.u32.wrap x1 * 256))) (IntKind.u32.wrap (IntKind.u32.wrap x2 * 65536))) (IntKind.u32.wrap (IntKind.u32.wrap x3 * 16777216)) = x0 + 256 * x1 + 65536 * x2 + 16777216 * x3 := by
  obtain ⟨b0, rfl⟩ := Int.eq_ofNat_of_zero_le h0.1
  obtain ⟨b1, rfl⟩ := Int.eq_ofNat_of_zero_le h1.1
  obtain ⟨b2, rfl⟩ := Int.eq_ofNat_of_zero_le h2.1
  obtain ⟨b3, rfl⟩ := Int.eq_ofNat_of_zero_le h3.1
  have w : ∀ z : Int, IntKind.u32.wrap z = z % 4294967296 := fun z => by simp [IntKind.wrap, IntKind.bits, IntKind.signed]
  have g0 : (b0 : Int) % 4294967296 = ((b0 : Nat) : Int) := by omega
  have g1 : (b1 : Int) % 4294967296 * 256 % 4294967296 = ((b1 * 256 : Nat) : Int) := by omega
  have g2 : (b2 : Int) % 4294967296 * 65536 % 4294967296 = ((b2 * 65536 : Nat) : Int) := by omega
  have g3 : (b3 : Int) % 4294967296 * 16777216 % 4294967296 = ((b3 * 16777216 : Nat) : Int) := by omega
  have n0 : b0 < 256 := by omega
  have n1 : b1 < 256 := by omega
  have n2 : b2 < 256 := by omega
  have n3 : b3 < 256 := by omega
  have hb : ∀ z : Nat, z < 4294967296 → z < 2 ^ IntKind.u32.bits := fun z h => h
  have o1 : b0 ||| b1 * 256 < 4294967296 := Nat.or_lt_two_pow (n := 32) (by omega) (by omega)
  have o2 : b0 ||| b1 * 256 ||| b2 * 65536 < 4294967296 := Nat.or_lt_two_pow (n := 32) o1 (by omega)
  simp only [w]
  rw [g0, g1, g2, g3]
  rw [bits_or_nat .u32 rfl b0 (b1 * 256) (hb _ (by omega)) (hb _ (by omega)), bits_or_nat .u32 rfl (b0 ||| b1 * 256) (b2 * 65536) (hb _ o1) (hb _ (by omega)), bits_or_nat .u32 rfl (b0 ||| b1 * 256 ||| b2 * 65536) (b3 * 16777216) (hb _ o2) (hb _ (by omega)), or4_nat b0 b1 b2 b3 n0 n1 n2 n3]
  omega
end Go.Proofs.Ytgodbniphkfgfaa.P

namespace Go.Proofs.Ytgodbniphkfgfaa.P
open Go.RowKit Go.Proofs.YtgodbniphkfgfaaW.PrintWords Go.Proofs.YtgodbniphkfgfaaW.PrintLast Go.Proofs.YtgodbniphkfgfaaW.PrintMore
set_option linter.unusedVariables false
set_option linter.unusedSimpArgs false
/-! The decoded program. -/
def decN (l : List Int) : List S54 × Int := if l.length % 8 = 0 ∧ l.length ≤ 32768 then ((List.range (l.length / 8)).map (pieceI l), 0) else ([], 1)
theorem implDecProg_is (l : List Int) : impl_DecodeProgram.f l = some (decN l) := by
  unfold impl_DecodeProgram.f decN
  split <;> rfl
theorem number_step (k : Nat) (l : List Int) (v : Int) (i : Nat) (h : i < l.length) (hl : l.length ≤ 1000000) : spec_l1number.l0 (k + 1) l v (i : Int) = spec_l1number.l0 k l (IntKind.u64.wrap (IntKind.u64.wrap (v * 256) + IntKind.u64.wrap l[i])) ((i : Int) - 1) := by
  rw [spec_l1number.l0, if_pos (by omega), if_pos (by omega), if_pos (by omega), rd_eq l i h, wrap64_id (by omega) (by omega)]
theorem number_end (k : Nat) (l : List Int) (v : Int) : spec_l1number.l0 (k + 1) l v (-1) = some v := by
  rw [spec_l1number.l0, if_neg (by decide)]
theorem wu64 {x : Int} (h0 : 0 ≤ x) (h1 : x < 18446744073709551616) : IntKind.u64.wrap x = x := by
  simp [IntKind.wrap, IntKind.bits, IntKind.signed]; omega
theorem number2 (k : Nat) (b0 b1 : Int) (h0 : 0 ≤ b0 ∧ b0 < 256) (h1 : 0 ≤ b1 ∧ b1 < 256) : spec_l1number.f (k + 3) [b0, b1] = some (b0 + 256 * b1) := by
  unfold spec_l1number.f
  have e : wrap64 ((([b0, b1] : List Int).length : Int) - 1) = ((1 : Nat) : Int) := by show wrap64 ((2 : Int) - 1) = 1; rw [wrap64_id (by omega) (by omega)]; rfl
  rw [e, number_step (k + 2) [b0, b1] 0 1 (by simp) (by simp)]
  rw [show ((1 : Nat) : Int) - 1 = ((0 : Nat) : Int) from rfl, number_step (k + 1) [b0, b1] _ 0 (by simp) (by simp), show ((0 : Nat) : Int) - 1 = -1 from rfl, number_end]
  simp only [List.getElem_cons_zero, List.getElem_cons_succ]
  rw [wu64 (x := (0 : Int) * 256) (by decide) (by decide), wu64 (x := b1) (by omega) (by omega), wu64 (x := b0) (by omega) (by omega), wu64 (x := 0 * 256 + b1) (by omega) (by omega), wu64 (x := (0 * 256 + b1) * 256) (by omega) (by omega), wu64 (by omega) (by omega)]
  congr 1
  omega
theorem number4 (k : Nat) (b0 b1 b2 b3 : Int) (h0 : 0 ≤ b0 ∧ b0 < 256) (h1 : 0 ≤ b1 ∧ b1 < 256) (h2 : 0 ≤ b2 ∧ b2 < 256) (h3 : 0 ≤ b3 ∧ b3 < 256) : spec_l1number.f (k + 5) [b0, b1, b2, b3] = some (b0 + 256 * b1 + 65536 * b2 + 16777216 * b3) := by
  unfold spec_l1number.f
  have e : wrap64 ((([b0, b1, b2, b3] : List Int).length : Int) - 1) = ((3 : Nat) : Int) := by show wrap64 ((4 : Int) - 1) = 3; rw [wrap64_id (by omega) (by omega)]; rfl
  rw [e, number_step (k + 4) [b0, b1, b2, b3] 0 3 (by simp) (by simp)]
  rw [show ((3 : Nat) : Int) - 1 = ((2 : Nat) : Int) from rfl, number_step (k + 3) [b0, b1, b2, b3] _ 2 (by simp) (by simp)]
  rw [show ((2 : Nat) : Int) - 1 = ((1 : Nat) : Int) from rfl, number_step (k + 2) [b0, b1, b2, b3] _ 1 (by simp) (by simp)]
  rw [show ((1 : Nat) : Int) - 1 = ((0 : Nat) : Int) from rfl, number_step (k + 1) [b0, b1, b2, b3] _ 0 (by simp) (by simp), show ((0 : Nat) : Int) - 1 = -1 from rfl, number_end]
  simp only [List.getElem_cons_zero, List.getElem_cons_succ]
  rw [wu64 (x := (0 : Int) * 256) (by decide) (by decide), wu64 (x := b3) (by omega) (by omega), wu64 (x := b2) (by omega) (by omega), wu64 (x := b1) (by omega) (by omega), wu64 (x := b0) (by omega) (by omega), wu64 (x := 0 * 256 + b3) (by omega) (by omega), wu64 (x := (0 * 256 + b3) * 256) (by omega) (by omega), wu64 (x := (0 * 256 + b3) * 256 + b2) (by omega) (by omega), wu64 (x := ((0 * 256 + b3) * 256 + b2) * 256) (by omega) (by omega), wu64 (x := ((0 * 256 + b3) * 256 + b2) * 256 + b1) (by omega) (by omega), wu64 (x := (((0 * 256 + b3) * 256 + b2) * 256 + b1) * 256) (by omega) (by omega), wu64 (by omega) (by omega)]
  congr 1
  omega
theorem cut2 (l : List Int) (i : Nat) (h : i + 1 < l.length) : (l.take (i + 2)).drop i = [l[i], l[i + 1]] := by
  apply List.ext_getElem
  · simp; omega
  · intro j h1 h2
    rw [List.getElem_drop, List.getElem_take]
    have : j = 0 ∨ j = 1 := by simp at h2; omega
    rcases this with rfl | rfl <;> rfl
theorem cut4 (l : List Int) (i : Nat) (h : i + 3 < l.length) : (l.take (i + 4)).drop i = [l[i], l[i + 1], l[i + 2], l[i + 3]] := by
  apply List.ext_getElem
  · simp; omega
  · intro j h1 h2
    rw [List.getElem_drop, List.getElem_take]
    have : j = 0 ∨ j = 1 ∨ j = 2 ∨ j = 3 := by simp at h2; omega
    rcases this with rfl | rfl | rfl | rfl <;> rfl
theorem pieceI_eq (l : List Int) (i : Nat) (h : 8 * i + 7 < l.length) (hr : ∀ x ∈ l, 0 ≤ x ∧ x < 256) : pieceI l i = ⟨l[8 * i] + 256 * l[8 * i + 1], l[8 * i + 2], l[8 * i + 3], l[8 * i + 4] + 256 * l[8 * i + 5] + 65536 * l[8 * i + 6] + 16777216 * l[8 * i + 7]⟩ := by
  have c := fun (j : Nat) (hj : j < l.length) => hr _ (List.getElem_mem hj)
  unfold pieceI
  rw [rd_eq l (8 * i) (by omega), rd_eq l (8 * i + 1) (by omega), rd_eq l (8 * i + 2) (by omega), rd_eq l (8 * i + 3) (by omega), rd_eq l (8 * i + 4) (by omega), rd_eq l (8 * i + 5) (by omega), rd_eq l (8 * i + 6) (by omega), rd_eq l (8 * i + 7) (by omega)]
  rw [u16_of2 _ _ (c _ _) (c _ _), u32_of4 _ _ _ _ (c _ _) (c _ _) (c _ _) (c _ _)]
theorem specDecProg_ev (l : List Int) (hr : ∀ x ∈ l, 0 ≤ x ∧ x < 256) (hl : l.length ≤ 1048576) : Ev (fun k => spec_DecodeProgram.f k l) (decN l) := by
  have hw : wrap64 ((l.length : Int) / 8) = ((l.length / 8 : Nat) : Int) := by rw [wrap64_id (by omega) (by omega)]; omega
  unfold decN
  by_cases c : l.length % 8 = 0 ∧ l.length ≤ 32768
  · rw [if_pos c]
    obtain ⟨N, hN⟩ : ∃ N, l.length / 8 = N := ⟨_, rfl⟩
    rw [hN]
    have key : ∀ d i : Nat, i + d = N → Ev (fun k => spec_DecodeProgram.l0 k l ((List.range i).map (pieceI l)) ((8 * i : Nat) : Int)) ((List.range N).map (pieceI l), 0) := by
      intro d
      induction d with
      | zero =>
        intro i hi
        obtain rfl : i = N := by omega
        exact ev_end fun k => by simp only [spec_DecodeProgram.l0]; rw [if_neg (by omega)]
      | succ d ih =>
        intro i hi
        obtain ⟨K, h⟩ := ev_get (ih (i + 1) (by omega))
        refine ev_mk (K + 10) fun k hk => ?_
        obtain ⟨k, rfl⟩ : ∃ j, k = j + 6 := ⟨k - 6, by omega⟩
        have hlt : 8 * i + 7 < l.length := by omega
        have cc := fun (j : Nat) (hj : j < l.length) => hr _ (List.getElem_mem hj)
        have w2 : wrap64 (((8 * i : Nat) : Int) + 2) = ((8 * i + 2 : Nat) : Int) := by rw [wrap64_id (by omega) (by omega)]; omega
        have w3 : wrap64 (((8 * i : Nat) : Int) + 3) = ((8 * i + 3 : Nat) : Int) := by rw [wrap64_id (by omega) (by omega)]; omega
        have w4 : wrap64 (((8 * i : Nat) : Int) + 4) = ((8 * i + 4 : Nat) : Int) := by rw [wrap64_id (by omega) (by omega)]; omega
        have w8 : wrap64 (((8 * i : Nat) : Int) + 8) = ((8 * (i + 1) : Nat) : Int) := by rw [wrap64_id (by omega) (by omega)]; omega
        have h2 := h (k + 5) (by omega)
        rw [List.range_succ, List.map_append, List.map_cons, List.map_nil, pieceI_eq l i hlt hr] at h2
        rw [show k + 6 = (k + 5) + 1 from rfl, spec_DecodeProgram.l0, w2, w3, w4, w8]
        rw [if_pos (by omega), if_pos (by omega), if_pos (by omega), if_pos (by omega), Int.toNat_natCast, Int.toNat_natCast, cut2 l (8 * i) (by omega), number2 (k + 2) _ _ (cc _ _) (cc _ _), Option.bind_some]
        rw [if_pos (by omega), if_pos (by omega), if_pos (by omega), if_pos (by omega), if_pos (by omega), if_pos (by omega), if_pos (by omega), Int.toNat_natCast, Int.toNat_natCast, show 8 * (i + 1) = 8 * i + 4 + 4 by omega, cut4 l (8 * i + 4) (by omega), number4 k _ _ _ _ (cc _ _) (cc _ _) (cc _ _) (cc _ _), Option.bind_some, if_pos (by rw [List.length_map, List.length_range]; omega)]
        rw [rd_eq l (8 * i + 2) (by omega), rd_eq l (8 * i + 3) (by omega)]
        have m0 := cc (8 * i) (by omega)
        have m1 := cc (8 * i + 1) (by omega)
        have m4 := cc (8 * i + 4) (by omega)
        have m5 := cc (8 * i + 4 + 1) (by omega)
        have m6 := cc (8 * i + 4 + 2) (by omega)
        have m7 := cc (8 * i + 4 + 3) (by omega)
        have e16 : IntKind.u16.wrap (l[8 * i] + 256 * l[8 * i + 1]) = l[8 * i] + 256 * l[8 * i + 1] := by
          generalize l[8 * i] = a at *
          generalize l[8 * i + 1] = b at *
          simp [IntKind.wrap, IntKind.bits, IntKind.signed]; omega
        have e32 : (l[8 * i + 4] + 256 * l[8 * i + 4 + 1] + 65536 * l[8 * i + 4 + 2] + 16777216 * l[8 * i + 4 + 3]) % 4294967296 = l[8 * i + 4] + 256 * l[8 * i + 4 + 1] + 65536 * l[8 * i + 4 + 2] + 16777216 * l[8 * i + 4 + 3] := by
          generalize l[8 * i + 4] = a at *
          generalize l[8 * i + 4 + 1] = b at *
          generalize l[8 * i + 4 + 2] = c at *
          generalize l[8 * i + 4 + 3] = d at *
          omega
        rw [e16, e32, show ((8 * i + 4 + 4 : Nat) : Int) = ((8 * (i + 1) : Nat) : Int) by omega]
        exact h2
    have h := key N 0 (by omega)
    refine Ev.congr (fun k => ?_) (ev_step (g := fun k => spec_DecodeProgram.j0 k l false) _ (fun k => ?_) h)
    · unfold spec_DecodeProgram.f
      rw [if_pos (by omega), hw, decide_eq_false (by omega)]
    · rw [spec_DecodeProgram.j0, if_neg (by decide)]
      rfl
  · rw [if_neg c]
    refine ev_mk 1 fun k hk => ?_
    obtain ⟨k, rfl⟩ : ∃ j, k = j + 1 := ⟨k - 1, by omega⟩
    unfold spec_DecodeProgram.f
    by_cases h8 : l.length % 8 = 0
    · rw [if_pos (by omega), hw, decide_eq_true (by omega), spec_DecodeProgram.j0, if_pos rfl]
    · rw [if_neg (by omega), spec_DecodeProgram.j0, if_pos rfl]
theorem decN_length (l : List Int) : (decN l).1.length ≤ 4096 := by
  unfold decN
  split
  · simp; omega
  · simp
end Go.Proofs.Ytgodbniphkfgfaa.P
