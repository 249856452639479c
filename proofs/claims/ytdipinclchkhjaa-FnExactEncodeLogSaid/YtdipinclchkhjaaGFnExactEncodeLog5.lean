import Derived.Test.YtdipinclchkhjaaGFnExactEncodeLog2
import Derived.Test.YtdipinclchkhjaaGFnExactEncodeLog4
import Derived.Test.YtdipinclchkhjaaGFnExactEncodeLog1
namespace Go.Proofs.Ytdipinclchkhjaa.P
open Go.RowKit Go.Proofs.YtdipinclchkhjaaW.PrintWords Go.Proofs.YtdipinclchkhjaaW.PrintLast Go.Proofs.YtdipinclchkhjaaW.PrintMore
set_option linter.unusedVariables false
set_option linter.unusedSimpArgs false

/-! What both sums come to. -/
def crcHalf (h : Int) : Int := if h % 2 = 1 then bits .xor .u32 (h / 2) 3988292384 else h / 2
def crcHalves : Nat → Int → Int
  | 0, h => h
  | n + 1, h => crcHalves n (crcHalf h)
def crcByte (h c : Int) : Int := crcHalves 8 (bits .xor .u32 h c)
def crcSum (l : List Int) : Int := bits .xor .u32 (l.foldl crcByte 4294967295) 4294967295
theorem crcHalf_range (h : Int) (h0 : 0 ≤ h) (h1 : h < 4294967296) : 0 ≤ crcHalf h ∧ crcHalf h < 4294967296 := by
  unfold crcHalf
  split
  · exact bits_u32 .xor _ _
  · omega
theorem crcHalves_range : ∀ (n : Nat) (h : Int), 0 ≤ h → h < 4294967296 → 0 ≤ crcHalves n h ∧ crcHalves n h < 4294967296
  | 0, h, h0, h1 => ⟨h0, h1⟩
  | n + 1, h, h0, h1 => crcHalves_range n _ (crcHalf_range h h0 h1).1 (crcHalf_range h h0 h1).2
theorem crcByte_range (h c : Int) : 0 ≤ crcByte h c ∧ crcByte h c < 4294967296 := crcHalves_range 8 _ (bits_u32 .xor _ _).1 (bits_u32 .xor _ _).2
theorem crcHalves_succ : ∀ (n : Nat) (h : Int), crcHalves (n + 1) h = crcHalf (crcHalves n h)
  | 0, h => rfl
  | n + 1, h => crcHalves_succ n (crcHalf h)
theorem crcFold_range (l : List Int) : ∀ h, 0 ≤ h → h < 4294967296 → 0 ≤ l.foldl crcByte h ∧ l.foldl crcByte h < 4294967296 := by
  induction l with
  | nil => intro h h0 h1; exact ⟨h0, h1⟩
  | cons c l ih => intro h h0 h1; exact ih _ (crcByte_range h c).1 (crcByte_range h c).2
theorem foldl_take_succ {α β : Type} (f : β → α → β) (l : List α) (z : β) (i : Nat) (h : i < l.length) : (l.take (i + 1)).foldl f z = f ((l.take i).foldl f z) l[i] := by
  rw [List.take_succ_eq_append_getElem h, List.foldl_append]; rfl

theorem l2half_is (h : Int) (h0 : 0 ≤ h) (h1 : h < 4294967296) : spec_l2half.f h = some (crcHalf h) := by
  unfold spec_l2half.f crcHalf
  rw [Int.tmod_eq_emod_of_nonneg h0, Int.tdiv_eq_ediv_of_nonneg h0]
  split
  · rw [show h / 2 % 4294967296 = h / 2 by omega]
  · rw [show h / 2 % 4294967296 = h / 2 by omega]

theorem specChecksum_ev (l : List Int) (hl : l.length ≤ 140737488355328) (hb : ∀ x ∈ l, 0 ≤ x ∧ x < 256) : Ev (fun k => spec_Checksum.f k l) (crcSum l) := by
  have inner : ∀ (i : Nat) (r : Int) (h : Int), 0 ≤ h → h < 4294967296 → Ev (fun k => spec_Checksum.l0 k l (crcHalves 8 h) (wrap64 ((i : Int) + 1))) r → Ev (fun k => spec_Checksum.l1 k l h i 0) r := by
    intro i r h h0 h1 hr
    have key := ev_loop (fun k s j => spec_Checksum.l1 k l s i j) 8 (fun j => crcHalves j h) h (crcHalves 8 h) rfl rfl (fun j hj r hr => by
      have hh := crcHalves_range j h h0 h1
      refine ev_step _ (fun k => ?_) hr
      simp only [spec_Checksum.l1]
      rw [if_pos (by omega), l2half_is _ hh.1 hh.2, Option.bind_some, wrap64_id (by omega) (by omega), crcHalves_succ]
      rfl) r
    refine key (ev_step _ (fun k => ?_) hr)
    simp only [spec_Checksum.l1]
    rw [if_neg (by omega)]
  have key := ev_loop (fun k s i => spec_Checksum.l0 k l s i) l.length (fun i => (l.take i).foldl crcByte 4294967295) 4294967295 (l.foldl crcByte 4294967295) (by simp) (by simp) (fun i hi r hr => by
    have hx := hb l[i] (List.getElem_mem hi)
    rw [foldl_take_succ _ _ _ _ hi] at hr
    have hb := bits_u32 .xor ((l.take i).foldl crcByte 4294967295) l[i]
    have h1 := inner i r (bits .xor .u32 ((l.take i).foldl crcByte 4294967295) l[i]) hb.1 hb.2 (by rw [wrap64_id (by omega) (by omega)]; exact hr)
    refine ev_step _ (fun k => ?_) h1
    simp only [spec_Checksum.l0]
    rw [if_pos (by omega), if_pos (by omega), rd_eq l i hi, show l[i] % 4294967296 = l[i] by omega]) (crcSum l)
  refine key (ev_end fun k => ?_)
  simp only [spec_Checksum.l0]
  rw [if_neg (by omega)]
  rfl

theorem implChecksum_ev (l : List Int) (hl : l.length ≤ 140737488355328) (hb : ∀ x ∈ l, 0 ≤ x ∧ x < 256) : Ev (fun k => impl_Checksum.f k l) (crcSum l) := by
  have inner : ∀ (i : Nat) (r : Int) (h : Int), 0 ≤ h → h < 4294967296 → Ev (fun k => impl_Checksum.l0 k (crcHalves 8 h) l (l.length : Int) (wrap64 ((i : Int) + 1))) r → Ev (fun k => impl_Checksum.l1 k h l (l.length : Int) i 0) r := by
    intro i r h h0 h1 hr
    have key := ev_loop (fun k s j => impl_Checksum.l1 k s l (l.length : Int) i j) 8 (fun j => crcHalves j h) h (crcHalves 8 h) rfl rfl (fun j hj r hr => by
      have hh := crcHalves_range j h h0 h1
      refine ev_step _ (fun k => ?_) hr
      simp only [impl_Checksum.l1]
      rw [if_pos (by omega), u32_and1 _ hh.1 hh.2, wrap64_id (by omega) (by omega), crcHalves_succ]
      unfold crcHalf
      split <;> rfl) r
    refine key (ev_step _ (fun k => ?_) hr)
    simp only [impl_Checksum.l1]
    rw [if_neg (by omega)]
  have key := ev_loop (fun k s i => impl_Checksum.l0 k s l (l.length : Int) i) l.length (fun i => (l.take i).foldl crcByte 4294967295) 4294967295 (l.foldl crcByte 4294967295) (by simp) (by simp) (fun i hi r hr => by
    have hx := hb l[i] (List.getElem_mem hi)
    rw [foldl_take_succ _ _ _ _ hi] at hr
    have hb := bits_u32 .xor ((l.take i).foldl crcByte 4294967295) l[i]
    have h1 := inner i r (bits .xor .u32 ((l.take i).foldl crcByte 4294967295) l[i]) hb.1 hb.2 (by rw [wrap64_id (by omega) (by omega)]; exact hr)
    refine ev_step _ (fun k => ?_) h1
    simp only [impl_Checksum.l0]
    rw [if_pos (by omega), if_pos (by omega), if_pos (by omega), rd_eq l i hi, show l[i] % 4294967296 = l[i] by omega]) (crcSum l)
  refine key (ev_end fun k => ?_)
  simp only [impl_Checksum.l0]
  rw [if_neg (by omega), bits_xor_comm]
  rfl
end Go.Proofs.Ytdipinclchkhjaa.P

namespace Go.Proofs.Ytdipinclchkhjaa.P
open Go.RowKit Go.Proofs.YtdipinclchkhjaaW.PrintWords Go.Proofs.YtdipinclchkhjaaW.PrintLast Go.Proofs.YtdipinclchkhjaaW.PrintMore
set_option linter.unusedVariables false
set_option linter.unusedSimpArgs false

/-- What an elder world holds is held behind a call, too. -/
theorem bcell {W w1 : World} (hb : Below W.heap.size W w1) : (∀ b o, b < W.heap.size → w1.cell? ⟨b, o, none⟩ = W.cell? ⟨b, o, none⟩) ∧ (∀ b o, b < W.heap.size → w1.frozen? ⟨b, o, none⟩ = W.frozen? ⟨b, o, none⟩) :=
  ⟨fun b o h => hb.cell (p := ⟨b, o, none⟩) h, fun b o h => hb.frozen (p := ⟨b, o, none⟩) h⟩
/-- Behind a call that began at a later world. -/
theorem below_call {B : Nat} {w W w1 : World} (h : Below B w W) (hb : Below W.heap.size W w1) (hB : B ≤ W.heap.size) : Below B w w1 := h.trans (hb.mono hB)
theorem below_set1 {B : Nat} {w W : World} (h : Below B w W) {p : Addr} (hp : B ≤ p.block) (v : Value) : Below B w (W.setCell p v) := h.setCell hp v
/-- A struct of three fields, stored field by field. -/
theorem blk_put3 {w : World} {g : Nat} {t : TypeId} {x0 x1 x2 : Value} (h : w.heap[g]? = some (.cells #[x0, x1, x2] t (0, 0))) (y0 y1 y2 : Value) :
    (((w.setCell ⟨g, 0, none⟩ y0).setCell ⟨g, 1, none⟩ y1).setCell ⟨g, 2, none⟩ y2).heap[g]? = some (.cells #[y0, y1, y2] t (0, 0)) :=
  blk_put (cs := #[y0, y1, x2]) (blk_put (cs := #[y0, x1, x2]) (blk_put h 0 y0 rfl) 1 y1 rfl) 2 y2 rfl
theorem alloc_size (w : World) (o : Obj) : (w.alloc o).heap.size = w.heap.size + 1 := by simp

end Go.Proofs.Ytdipinclchkhjaa.P

namespace Go.Proofs.Ytdipinclchkhjaa.P
open Go.RowKit Go.Proofs.YtdipinclchkhjaaW.PrintWords Go.Proofs.YtdipinclchkhjaaW.PrintLast Go.Proofs.YtdipinclchkhjaaW.PrintMore
set_option linter.unusedVariables false
set_option linter.unusedSimpArgs false

/-! A condition inside: one of three types behind an interface (or nil), and its value. -/
inductive Cd where
  | nil
  | any
  | mask (m v : Int)
  | rng (l h : Int)
  deriving DecidableEq
def Cd.v : Cd → Value
  | .nil => .nilIface
  | .any => .iface 160 (.agg #[])
  | .mask m v => .iface 162 (.agg #[.int .u64 m, .int .u64 v])
  | .rng l h => .iface 167 (.agg #[.int .u64 l, .int .u64 h])
def Cd.con : Cd → Int × Int × Int
  | .nil => (0, 0, 0)
  | .any => (0, 0, 0)
  | .mask m v => (1, m, v)
  | .rng l h => (2, l, h)
def nrN (a b : Int) : Int := IntKind.u64.wrap (IntKind.u64.wrap (b - a) + 1)
def nrRaw (a b : Int) : Cd :=
  if nrN a b = 0 then .any
  else if bits .and .u64 (nrN a b) (IntKind.u64.wrap (nrN a b - 1)) = 0 ∧ bits .and .u64 a (IntKind.u64.wrap (nrN a b - 1)) = 0 then .mask (bits .xor .u64 18446744073709551615 (IntKind.u64.wrap (nrN a b - 1))) a
  else .rng a b
def normRaw (k a b : Int) : Cd × Bool :=
  if k = 0 then (.any, a == 0 && b == 0)
  else if k = 1 then (if a = 0 ∧ b = 0 then (.any, true) else (.mask a b, bits .andNot .u64 b a == 0))
  else if k = 2 then (if a > b then (.nil, false) else (nrRaw a b, true))
  else (.nil, false)
def conV (c : Int × Int × Int) : Value := .agg #[.int .i64 c.1, .int .u64 c.2.1, .int .u64 c.2.2]
/-! Questions for a condition's type. -/
theorem taM_nil (W : World) : (Instr.typeAssert .nilIface 95 162 true).run Try.prog W = .ok (.tuple #[.agg #[.int .u64 0, .int .u64 0], .bool false]) W := by kernel_rfl
theorem taM_any (v : Value) (W : World) : (Instr.typeAssert (.iface 160 v) 95 162 true).run Try.prog W = .ok (.tuple #[.agg #[.int .u64 0, .int .u64 0], .bool false]) W := by kernel_rfl
theorem taM_mask (v : Value) (W : World) : (Instr.typeAssert (.iface 162 v) 95 162 true).run Try.prog W = .ok (.tuple #[v, .bool true]) W := by kernel_rfl
theorem taM_rng (v : Value) (W : World) : (Instr.typeAssert (.iface 167 v) 95 162 true).run Try.prog W = .ok (.tuple #[.agg #[.int .u64 0, .int .u64 0], .bool false]) W := by kernel_rfl
theorem taR_nil (W : World) : (Instr.typeAssert .nilIface 95 167 true).run Try.prog W = .ok (.tuple #[.agg #[.int .u64 0, .int .u64 0], .bool false]) W := by kernel_rfl
theorem taR_any (v : Value) (W : World) : (Instr.typeAssert (.iface 160 v) 95 167 true).run Try.prog W = .ok (.tuple #[.agg #[.int .u64 0, .int .u64 0], .bool false]) W := by kernel_rfl
theorem taR_mask (v : Value) (W : World) : (Instr.typeAssert (.iface 162 v) 95 167 true).run Try.prog W = .ok (.tuple #[.agg #[.int .u64 0, .int .u64 0], .bool false]) W := by kernel_rfl
theorem taR_rng (v : Value) (W : World) : (Instr.typeAssert (.iface 167 v) 95 167 true).run Try.prog W = .ok (.tuple #[v, .bool true]) W := by kernel_rfl

end Go.Proofs.Ytdipinclchkhjaa.P

namespace Go.Proofs.Ytdipinclchkhjaa.P
open Go.RowKit Go.Proofs.YtdipinclchkhjaaW.PrintWords Go.Proofs.YtdipinclchkhjaaW.PrintLast Go.Proofs.YtdipinclchkhjaaW.PrintMore
set_option linter.unusedVariables false
set_option linter.unusedSimpArgs false

/-! Conditions: plain numbers. -/
theorem wf_u64 {x : Int} (h : (Lit.int .u64 x).wf = true) : 0 ≤ x ∧ x < 18446744073709551616 := by
  simp only [Lit.wf, IntKind.min, IntKind.max, IntKind.signed, IntKind.bits, Bool.and_eq_true] at h
  simp at h
  omega
theorem wf_u32 {x : Int} (h : (Lit.int .u32 x).wf = true) : 0 ≤ x ∧ x < 4294967296 := by
  simp only [Lit.wf, IntKind.min, IntKind.max, IntKind.signed, IntKind.bits, Bool.and_eq_true] at h
  simp at h
  omega
theorem nat_u64 {x : Int} (h : (Lit.int .u64 x).wf = true) : ∃ n : Nat, x = (n : Int) ∧ n < 18446744073709551616 := by
  have := wf_u64 h
  exact ⟨x.toNat, by omega, by omega⟩
theorem wrap_u64 (x : Int) : IntKind.u64.wrap x = x % 18446744073709551616 := by simp [IntKind.wrap, IntKind.bits, IntKind.signed]
theorem wrap_u64_id {x : Int} (h0 : 0 ≤ x) (h1 : x < 18446744073709551616) : IntKind.u64.wrap x = x := by rw [wrap_u64]; omega
theorem ones_xor (x : Nat) (h : x < 18446744073709551616) : 18446744073709551615 ^^^ x = 18446744073709551615 - x := by
  have h1 := BitVec.toNat_not (x := BitVec.ofNat 64 x)
  rw [← BitVec.allOnes_xor, BitVec.toNat_xor, BitVec.toNat_allOnes, BitVec.toNat_ofNat] at h1
  have h2 : x % 2 ^ 64 = x := Nat.mod_eq_of_lt (by omega)
  rw [h2] at h1
  have e : (2 : Nat) ^ 64 - 1 = 18446744073709551615 := by decide
  rw [e] at h1
  exact h1
theorem and64 (a b : Nat) (ha : a < 18446744073709551616) (hb : b < 18446744073709551616) : bits .and .u64 (a : Int) (b : Int) = ((a &&& b : Nat) : Int) := bits_and_nat .u64 rfl a b (by simpa [IntKind.bits] using ha) (by simpa [IntKind.bits] using hb)
theorem or64 (a b : Nat) (ha : a < 18446744073709551616) (hb : b < 18446744073709551616) : bits .or .u64 (a : Int) (b : Int) = ((a ||| b : Nat) : Int) := bits_or_nat .u64 rfl a b (by simpa [IntKind.bits] using ha) (by simpa [IntKind.bits] using hb)
theorem xor64 (a b : Nat) (ha : a < 18446744073709551616) (hb : b < 18446744073709551616) : bits .xor .u64 (a : Int) (b : Int) = ((a ^^^ b : Nat) : Int) := bits_xor_nat .u64 rfl a b (by simpa [IntKind.bits] using ha) (by simpa [IntKind.bits] using hb)
theorem not64 (a : Nat) (ha : a < 18446744073709551616) : bits .xor .u64 18446744073709551615 (a : Int) = ((18446744073709551615 - a : Nat) : Int) := by
  rw [show (18446744073709551615 : Int) = ((18446744073709551615 : Nat) : Int) from rfl, xor64 _ a (by omega) ha, ones_xor a ha]
theorem andNot64 (a b : Nat) (ha : a < 18446744073709551616) (hb : b < 18446744073709551616) : bits .andNot .u64 (a : Int) (b : Int) = ((a &&& (18446744073709551615 - b) : Nat) : Int) := by
  rw [bits_andNot_nat .u64 rfl a b (by simpa [IntKind.bits] using ha) (by simpa [IntKind.bits] using hb)]
  rfl
/-- b's bits lie among a's: two ways to say so. -/
theorem sub_bits (a b : Nat) (ha : a < 18446744073709551616) (hb : b < 18446744073709551616) : (b &&& (18446744073709551615 - a) = 0) ↔ (a ||| b = a) := by
  rw [← ones_xor a ha]
  have ones : ∀ i, (18446744073709551615 : Nat).testBit i = decide (i < 64) := fun i => by
    rw [show (18446744073709551615 : Nat) = 2 ^ 64 - 1 by decide, Nat.testBit_two_pow_sub_one]
  constructor
  · intro h
    apply Nat.eq_of_testBit_eq
    intro i
    have h1 := congrArg (fun z => z.testBit i) h
    simp only [Nat.testBit_and, Nat.testBit_xor, ones, Nat.zero_testBit] at h1
    rw [Nat.testBit_or]
    by_cases hi : i < 64
    · simp only [hi, decide_true] at h1
      cases hx : a.testBit i <;> cases hy : b.testBit i <;> simp_all
    · have hz : b.testBit i = false := Nat.testBit_lt_two_pow (Nat.lt_of_lt_of_le (by omega : b < 2 ^ 64) (Nat.pow_le_pow_right (by decide) (by omega)))
      rw [hz, Bool.or_false]
  · intro h
    apply Nat.eq_of_testBit_eq
    intro i
    have h1 := congrArg (fun z => z.testBit i) h
    simp only [Nat.testBit_or] at h1
    simp only [Nat.testBit_and, Nat.testBit_xor, ones, Nat.zero_testBit]
    by_cases hi : i < 64
    · simp only [hi, decide_true]
      cases hx : a.testBit i <;> cases hy : b.testBit i <;> simp_all
    · have hz : b.testBit i = false := Nat.testBit_lt_two_pow (Nat.lt_of_lt_of_le (by omega : b < 2 ^ 64) (Nat.pow_le_pow_right (by decide) (by omega)))
      rw [hz, Bool.false_and]
theorem two_pow_lt (k : Nat) (h : k < 64) : 0 < 2 ^ k ∧ 2 ^ k ≤ 9223372036854775808 := ⟨Nat.two_pow_pos k, by
  have := Nat.pow_le_pow_right (n := 2) (by decide) (show k ≤ 63 by omega)
  simpa using this⟩
theorem two_pow_le (k : Nat) (h : k ≤ 64) : 0 < 2 ^ k ∧ 2 ^ k ≤ 18446744073709551616 := ⟨Nat.two_pow_pos k, by
  have := Nat.pow_le_pow_right (n := 2) (by decide) h
  simpa using this⟩
theorem two_pow_inj {j k : Nat} (h : 2 ^ j = 2 ^ k) : j = k := (Nat.pow_right_inj (by decide : 1 < 2)).1 h
theorem nrN_is (a b : Nat) (hab : a ≤ b) (hb : b < 18446744073709551616) : nrN (a : Int) (b : Int) = (((b - a + 1) % 18446744073709551616 : Nat) : Int) := by
  unfold nrN
  rw [wrap_u64, wrap_u64]
  omega
/-- The normal condition of a range: by the one k, or none. -/
theorem nrRaw_block (a b k : Nat) (hab : a ≤ b) (hb : b < 18446744073709551616) (hk : k ≤ 64) (h : b - a = 2 ^ k - 1) (hm : a % 2 ^ k = 0) :
    (nrRaw (a : Int) (b : Int)).con = if k = 64 then (0, 0, 0) else (1, ((18446744073709551615 - (2 ^ k - 1) : Nat) : Int), (a : Int)) := by
  have hp := two_pow_le k hk
  unfold nrRaw
  rw [nrN_is a b hab hb]
  by_cases e : k = 64
  · subst e
    have : (b - a + 1) % 18446744073709551616 = 0 := by
      rw [h]
    rw [this]
    simp [Cd.con]
  · have hk2 : k < 64 := by omega
    have hp2 := two_pow_lt k hk2
    have e1 : (b - a + 1) % 18446744073709551616 = 2 ^ k := by rw [h, Nat.sub_add_cancel hp.1]; exact Nat.mod_eq_of_lt (by omega)
    have e2 : IntKind.u64.wrap (((2 ^ k : Nat) : Int) - 1) = ((2 ^ k - 1 : Nat) : Int) := by rw [wrap_u64_id (by omega) (by omega)]; omega
    have e3 : 2 ^ k &&& (2 ^ k - 1) = 0 := by rw [Nat.and_two_pow_sub_one_eq_mod]; exact Nat.mod_self _
    have e4 : a &&& (2 ^ k - 1) = 0 := by rw [Nat.and_two_pow_sub_one_eq_mod]; exact hm
    rw [e1, e2, and64 _ _ (by omega) (by omega), and64 _ _ (by omega) (by omega), e3, e4, not64 _ (by omega), if_neg (by omega), if_pos ⟨rfl, rfl⟩, if_neg e]
    rfl
theorem nrRaw_plain (a b : Nat) (hab : a ≤ b) (hb : b < 18446744073709551616) (h : ∀ k, k ≤ 64 → b - a = 2 ^ k - 1 → a % 2 ^ k ≠ 0) : nrRaw (a : Int) (b : Int) = .rng a b := by
  unfold nrRaw
  rw [nrN_is a b hab hb]
  by_cases e0 : b - a + 1 = 18446744073709551616
  · exact absurd (show a % 2 ^ 64 = 0 by omega) (h 64 (Nat.le_refl _) (by rw [show (2 : Nat) ^ 64 - 1 = 18446744073709551615 by decide]; omega))
  · have e1 : (b - a + 1) % 18446744073709551616 = b - a + 1 := Nat.mod_eq_of_lt (by omega)
    have e2 : IntKind.u64.wrap (((b - a + 1 : Nat) : Int) - 1) = ((b - a : Nat) : Int) := by rw [wrap_u64_id (by omega) (by omega)]; omega
    rw [e1, e2, if_neg (by omega), and64 _ _ (by omega) (by omega), and64 _ _ (by omega) (by omega)]
    refine if_neg ?_
    rintro ⟨h1, h2⟩
    have h1' : (b - a + 1) &&& (b - a + 1 - 1) = 0 := by rw [Nat.add_sub_cancel]; omega
    obtain ⟨k, hk⟩ := (Nat.and_sub_one_eq_zero_iff_isPowerOfTwo (by omega)).1 h1'
    have hk2 : k < 64 := by
      rcases Nat.lt_or_ge k 64 with hk2 | hk2
      · exact hk2
      · have := Nat.pow_le_pow_right (n := 2) (by decide) hk2
        omega
    have h3 : b - a = 2 ^ k - 1 := by omega
    refine h k (by omega) h3 ?_
    rw [h3, Nat.and_two_pow_sub_one_eq_mod] at h2
    omega
end Go.Proofs.Ytdipinclchkhjaa.P
