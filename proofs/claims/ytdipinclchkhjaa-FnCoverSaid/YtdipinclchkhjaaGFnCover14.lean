import Derived.Test.YtdipinclchkhjaaGFnCover10
import Derived.Test.YtdipinclchkhjaaGFnCover11
import Derived.Test.YtdipinclchkhjaaGFnCover13
import Derived.Test.YtdipinclchkhjaaGFnCover3
namespace Go.Proofs.Ytdipinclchkhjaa.P
open Go.RowKit Go.Proofs.YtdipinclchkhjaaW.PrintWords Go.Proofs.YtdipinclchkhjaaW.PrintLast Go.Proofs.YtdipinclchkhjaaW.PrintMore
set_option linter.unusedVariables false
set_option linter.unusedSimpArgs false
/-! A cover: what differs, the least, the greatest. -/
def ints (ln : List Nat) : List Int := ln.map fun v : Nat => (v : Int)
theorem ints_length (ln : List Nat) : (ints ln).length = ln.length := by simp [ints]
theorem ints_rd (ln : List Nat) (i : Nat) (h : i < ln.length) : rd (ints ln) (i : Int) = (ln[i] : Int) := by
  rw [rd_eq _ _ (by rw [ints_length]; exact h)]
  simp [ints]
theorem ints_of (l : List Int) (h : ∀ x ∈ l, (Lit.int .u64 x).wf = true) : ∃ ln : List Nat, l = ints ln ∧ ∀ v ∈ ln, v < 18446744073709551616 := by
  refine ⟨l.map Int.toNat, ?_, ?_⟩
  · unfold ints
    rw [List.map_map]
    conv => lhs; rw [← List.map_id l]
    refine List.map_congr_left fun x hx => ?_
    have := wf_u64 (h x hx)
    simp only [id, Function.comp]
    omega
  · intro v hv
    obtain ⟨x, hx, rfl⟩ := List.mem_map.1 hv
    have := wf_u64 (h x hx)
    omega
def dif (v0 : Nat) (ln : List Nat) : Nat := ln.foldl (fun acc v => acc ||| (v ^^^ v0)) 0
theorem dif_next (v0 : Nat) (ln : List Nat) (i : Nat) (h : i < ln.length) : dif v0 (ln.take (i + 1)) = dif v0 (ln.take i) ||| (ln[i] ^^^ v0) := by
  unfold dif
  rw [← List.take_append_getElem h, List.foldl_append]
  rfl
theorem dif_lt (v0 : Nat) (h0 : v0 < 18446744073709551616) (ln : List Nat) (h : ∀ v ∈ ln, v < 18446744073709551616) : dif v0 ln < 18446744073709551616 := by
  have key : ∀ (ln : List Nat) (acc : Nat), acc < 18446744073709551616 → (∀ v ∈ ln, v < 18446744073709551616) → ln.foldl (fun acc v => acc ||| (v ^^^ v0)) acc < 18446744073709551616 := by
    intro ln
    induction ln with
    | nil => intro acc h1 _; exact h1
    | cons v ln ih =>
      intro acc h1 h2
      refine ih _ ?_ fun x hx => h2 x (List.mem_cons_of_mem _ hx)
      exact Nat.or_lt_two_pow (n := 64) h1 (Nat.xor_lt_two_pow (n := 64) (h2 v (List.mem_cons_self ..)) h0)
  exact key ln 0 (by decide) h
theorem dif_bit (v0 : Nat) (ln : List Nat) (i : Nat) : (dif v0 ln).testBit i = false ↔ ∀ v ∈ ln, v.testBit i = v0.testBit i := by
  have key : ∀ (ln : List Nat) (acc : Nat), (ln.foldl (fun acc v => acc ||| (v ^^^ v0)) acc).testBit i = false ↔ acc.testBit i = false ∧ ∀ v ∈ ln, v.testBit i = v0.testBit i := by
    intro ln
    induction ln with
    | nil => intro acc; simp
    | cons v ln ih =>
      intro acc
      rw [List.foldl_cons, ih, Nat.testBit_or, Nat.testBit_xor, List.forall_mem_cons]
      cases acc.testBit i <;> cases v.testBit i <;> cases v0.testBit i <;> simp
  unfold dif
  rw [key]
  simp
theorem shl_is (k : Nat) (h : k < 64) : shl .u64 1 (k : Int) = ((2 ^ k : Nat) : Int) := by
  have hp := two_pow_lt k h
  unfold shl
  have : min (k : Int).toNat IntKind.u64.bits = k := by simp [IntKind.bits]; omega
  rw [this, Int.one_mul]
  have e : ((2 : Int) ^ k) = ((2 ^ k : Nat) : Int) := by simp
  rw [e, wrap_u64_id (by omega) (by omega)]
theorem pow_bit (m i : Nat) (hm : m < 18446744073709551616) (hi : i < 64) : bits .and .u64 (m : Int) ((2 ^ i : Nat) : Int) = if m.testBit i = true then ((2 ^ i : Nat) : Int) else 0 := by
  have hp := two_pow_lt i hi
  rw [and64 m _ hm (by omega), and_pow]
  split <;> rfl
theorem pop_le : ∀ (m x : Nat), Lib.popAux m x ≤ m
  | 0, x => Nat.le_refl _
  | m + 1, x => by
    rw [Lib.popAux]
    have := pop_le m (x / 2)
    omega
theorem pop_next (i x : Nat) : Lib.popAux (i + 1) x = Lib.popAux i x + if x.testBit i = true then 1 else 0 := by
  rw [pop_more i 1 x]
  congr 1
  rw [Nat.testBit_eq_decide_div_mod_eq]
  simp only [Lib.popAux, decide_eq_true_eq]
  split <;> omega
/-- What the reference's count of free bits says. -/
theorem l4more_is (D : Nat) (hD : D < 18446744073709551616) : Ev (fun n => spec_l4more.f n ((18446744073709551615 - D : Nat) : Int)) ((2 ^ Lib.popAux 64 D - 1 : Nat) : Int) := by
  have key := ev_loop (fun n (s : Int) i => spec_l4more.l0 n ((18446744073709551615 - D : Nat) : Int) s i) 64 (fun i => ((2 ^ Lib.popAux i D - 1 : Nat) : Int)) 0 _ (by simp [Lib.popAux]) rfl (fun i hi r hr => by
    have hle := pop_le i D
    have hp := two_pow_lt (Lib.popAux i D) (by omega)
    have hp' := two_pow_lt i hi
    refine ev_step _ (fun n => ?_) hr
    simp only [spec_l4more.l0]
    have hw : IntKind.u64.wrap (i : Int) = (i : Int) := wrap_u64_id (by omega) (by omega)
    have hbit : bits .and .u64 ((18446744073709551615 - D : Nat) : Int) ((2 ^ i : Nat) : Int) = if D.testBit i = true then 0 else ((2 ^ i : Nat) : Int) := by
      rw [pow_bit _ i (by omega) hi, tb_not D i hD]
      cases D.testBit i <;> simp [hi]
    rw [if_pos (by omega), hw, if_pos (by omega), shl_is i hi, hbit, wrap64_id (by omega) (by omega), pop_next i D]
    by_cases hb : D.testBit i = true
    · rw [if_pos hb, if_pos rfl, if_pos hb, Nat.pow_succ]
      have e1 : IntKind.u64.wrap (((2 ^ Lib.popAux i D - 1 : Nat) : Int) * 2) = ((2 ^ Lib.popAux i D - 1 : Nat) : Int) * 2 := wrap_u64_id (by omega) (by omega)
      rw [e1, wrap_u64_id (by omega) (by omega)]
      congr 1
      omega
    · rw [if_neg hb, if_neg (by omega), if_neg hb, Nat.add_zero]
      rfl)
  refine Ev.congr (fun n => ?_) (key _ (ev_end fun n => by simp only [spec_l4more.l0]; rw [if_neg (by decide)]))
  rfl
end Go.Proofs.Ytdipinclchkhjaa.P

namespace Go.Proofs.Ytdipinclchkhjaa.P
open Go.RowKit Go.Proofs.YtdipinclchkhjaaW.PrintWords Go.Proofs.YtdipinclchkhjaaW.PrintLast Go.Proofs.YtdipinclchkhjaaW.PrintMore
set_option linter.unusedVariables false
set_option linter.unusedSimpArgs false
/-! The two covers, one answer. -/
theorem foldl_min (l : List Int) : ∀ a : Int, (l.foldl min a = a ∨ l.foldl min a ∈ l) ∧ l.foldl min a ≤ a ∧ ∀ x ∈ l, l.foldl min a ≤ x := by
  induction l with
  | nil => intro a; simp
  | cons y l ih =>
    intro a
    obtain ⟨h1, h2, h3⟩ := ih (min a y)
    rw [List.foldl_cons]
    refine ⟨?_, by omega, ?_⟩
    · rcases h1 with h1 | h1
      · rw [h1]
        rcases Int.le_total a y with h | h
        · left; omega
        · right; rw [Int.min_eq_right h]; exact List.mem_cons_self
      · exact .inr (List.mem_cons_of_mem _ h1)
    · intro x hx
      rcases List.mem_cons.1 hx with rfl | hx
      · omega
      · exact h3 x hx
theorem foldl_max (l : List Int) : ∀ a : Int, (l.foldl max a = a ∨ l.foldl max a ∈ l) ∧ a ≤ l.foldl max a ∧ ∀ x ∈ l, x ≤ l.foldl max a := by
  induction l with
  | nil => intro a; simp
  | cons y l ih =>
    intro a
    obtain ⟨h1, h2, h3⟩ := ih (max a y)
    rw [List.foldl_cons]
    refine ⟨?_, by omega, ?_⟩
    · rcases h1 with h1 | h1
      · rw [h1]
        rcases Int.le_total a y with h | h
        · right; rw [Int.max_eq_right h]; exact List.mem_cons_self
        · left; omega
      · exact .inr (List.mem_cons_of_mem _ h1)
    · intro x hx
      rcases List.mem_cons.1 hx with rfl | hx
      · omega
      · exact h3 x hx
theorem minOf_spec (l : List Int) (h : l ≠ []) : Lib.minOf l ∈ l ∧ ∀ x ∈ l, Lib.minOf l ≤ x := by
  obtain ⟨y, l, rfl⟩ := List.exists_cons_of_ne_nil h
  obtain ⟨h1, h2, h3⟩ := foldl_min l y
  have e : Lib.minOf (y :: l) = l.foldl min y := by unfold Lib.minOf; rw [List.foldl_cons, List.headD_cons, Int.min_self]
  rw [e]
  refine ⟨?_, fun x hx => ?_⟩
  · rcases h1 with h1 | h1
    · rw [h1]; exact List.mem_cons_self
    · exact List.mem_cons_of_mem _ h1
  · rcases List.mem_cons.1 hx with rfl | hx
    · exact h2
    · exact h3 x hx
theorem maxOf_spec (l : List Int) (h : l ≠ []) : Lib.maxOf l ∈ l ∧ ∀ x ∈ l, x ≤ Lib.maxOf l := by
  obtain ⟨y, l, rfl⟩ := List.exists_cons_of_ne_nil h
  obtain ⟨h1, h2, h3⟩ := foldl_max l y
  have e : Lib.maxOf (y :: l) = l.foldl max y := by unfold Lib.maxOf; rw [List.foldl_cons, List.headD_cons, Int.max_self]
  rw [e]
  refine ⟨?_, fun x hx => ?_⟩
  · rcases h1 with h1 | h1
    · rw [h1]; exact List.mem_cons_self
    · exact List.mem_cons_of_mem _ h1
  · rcases List.mem_cons.1 hx with rfl | hx
    · exact h2
    · exact h3 x hx
def loN (ln : List Nat) : Nat := (Lib.minOf (ints ln)).toNat
def hiN (ln : List Nat) : Nat := (Lib.maxOf (ints ln)).toNat
theorem cov_ends (ln : List Nat) (hne : ln ≠ []) (hb : ∀ v ∈ ln, v < 18446744073709551616) :
    Lib.minOf (ints ln) = (loN ln : Int) ∧ Lib.maxOf (ints ln) = (hiN ln : Int) ∧ loN ln ≤ hiN ln ∧ hiN ln < 18446744073709551616 ∧ ∀ v ∈ ln, loN ln ≤ v ∧ v ≤ hiN ln := by
  have hne2 : ints ln ≠ [] := by simpa [ints] using hne
  obtain ⟨a1, a2⟩ := minOf_spec (ints ln) hne2
  obtain ⟨b1, b2⟩ := maxOf_spec (ints ln) hne2
  have a3 := b2 _ a1
  have hm : ∀ v ∈ ln, (v : Int) ∈ ints ln := fun v hv => List.mem_map.2 ⟨v, hv, rfl⟩
  obtain ⟨x, hx, ex⟩ := List.mem_map.1 (show Lib.minOf (ints ln) ∈ ln.map _ from a1)
  obtain ⟨y, hy, ey⟩ := List.mem_map.1 (show Lib.maxOf (ints ln) ∈ ln.map _ from b1)
  have e1 : Lib.minOf (ints ln) = (loN ln : Int) := by unfold loN; omega
  have e2 : Lib.maxOf (ints ln) = (hiN ln : Int) := by unfold hiN; omega
  have := hb y hy
  refine ⟨e1, e2, by omega, by omega, fun v hv => ?_⟩
  have c1 := a2 _ (hm v hv)
  have c2 := b2 _ (hm v hv)
  omega
def v0N (ln : List Nat) : Nat := ln.headD 0
def difN (ln : List Nat) : Nat := dif (v0N ln) ln
def mX (ln : List Nat) : Nat := 18446744073709551615 - difN ln
def mY (ln : List Nat) : Nat := v0N ln &&& mX ln
theorem v0_mem (ln : List Nat) (hne : ln ≠ []) : v0N ln ∈ ln := by
  obtain ⟨y, l, rfl⟩ := List.exists_cons_of_ne_nil hne
  exact List.mem_cons_self
theorem v0_rd (ln : List Nat) (hne : ln ≠ []) : rd (ints ln) 0 = (v0N ln : Int) := by
  obtain ⟨y, l, rfl⟩ := List.exists_cons_of_ne_nil hne
  rfl
theorem difN_lt (ln : List Nat) (hne : ln ≠ []) (hb : ∀ v ∈ ln, v < 18446744073709551616) : difN ln < 18446744073709551616 := dif_lt _ (hb _ (v0_mem ln hne)) ln hb
/-- What stands from bit j on. -/
def hib (j x : Nat) : Nat := 2 ^ j * (x / 2 ^ j)
theorem hib_tb (j x i : Nat) : (hib j x).testBit i = (decide (j ≤ i) && x.testBit i) := by
  unfold hib
  rw [Nat.mul_comm, Nat.testBit_mul_two_pow, Nat.testBit_div_two_pow]
  by_cases h : j ≤ i
  · rw [Nat.sub_add_cancel h]
  · simp [h]
theorem hib_zero (x : Nat) : hib 0 x = x := by simp [hib]
theorem hib_top (x : Nat) (h : x < 18446744073709551616) : hib 64 x = 0 := by
  unfold hib
  rw [Nat.div_eq_of_lt (by omega)]
theorem hib_lt (j x : Nat) (h : x < 18446744073709551616) : hib j x < 18446744073709551616 := Nat.lt_of_le_of_lt (by unfold hib; exact Nat.mul_div_le _ _) h
theorem hib_yes (j x : Nat) (h : x.testBit j = true) : hib j x = hib (j + 1) x ||| 2 ^ j := by
  apply Nat.eq_of_testBit_eq
  intro i
  rw [Nat.testBit_or, hib_tb, hib_tb, Nat.testBit_two_pow]
  by_cases e : j = i
  · subst e; simp [h]
  · by_cases h1 : j ≤ i
    · have : j + 1 ≤ i := by omega
      simp [h1, this, e]
    · have : ¬ j + 1 ≤ i := by omega
      simp [h1, this, e]
theorem hib_no (j x : Nat) (h : x.testBit j = false) : hib j x = hib (j + 1) x := by
  apply Nat.eq_of_testBit_eq
  intro i
  rw [hib_tb, hib_tb]
  by_cases e : j = i
  · subst e; simp [h]
  · by_cases h1 : j ≤ i
    · have : j + 1 ≤ i := by omega
      simp [h1, this]
    · have : ¬ j + 1 ≤ i := by omega
      simp [h1, this]
def cnt (j : Nat) (l : List Nat) : Nat := l.countP fun v => v.testBit j
theorem cnt_next (j : Nat) (ln : List Nat) (i : Nat) (h : i < ln.length) : cnt j (ln.take (i + 1)) = cnt j (ln.take i) + if ln[i].testBit j = true then 1 else 0 := by
  unfold cnt
  rw [← List.take_append_getElem h, List.countP_append]
  simp [List.countP_cons]
theorem cnt_le (j : Nat) (l : List Nat) : cnt j l ≤ l.length := List.countP_le_length
theorem mX_tb (ln : List Nat) (hne : ln ≠ []) (hb : ∀ v ∈ ln, v < 18446744073709551616) (j : Nat) (hj : j < 64) : (mX ln).testBit j = true ↔ ∀ v ∈ ln, v.testBit j = (v0N ln).testBit j := by
  unfold mX
  rw [tb_not _ _ (difN_lt ln hne hb)]
  unfold difN
  rw [← dif_bit]
  simp [hj]
theorem mY_tb (ln : List Nat) (j : Nat) : (mY ln).testBit j = ((v0N ln).testBit j && (mX ln).testBit j) := Nat.testBit_and _ _ _
theorem mX_lt (ln : List Nat) : mX ln < 18446744073709551616 := by unfold mX; omega
theorem mY_lt (ln : List Nat) : mY ln < 18446744073709551616 := Nat.lt_of_le_of_lt Nat.and_le_right (mX_lt ln)
theorem l4mask_ev (ln : List Nat) (hne : ln ≠ []) (hl : ln.length ≤ 35184372088832) (hb : ∀ v ∈ ln, v < 18446744073709551616) :
    Ev (fun k => spec_l4mask.f k (ints ln)) (1, (mX ln : Int), (mY ln : Int)) := by
  have hlen := ints_length ln
  have hpos : 0 < ln.length := List.length_pos_iff.2 hne
  have inner : ∀ (j : Nat), j < 64 → ∀ (A B : Int) r, Ev (fun k => spec_l4mask.l1 k (ints ln) (j : Int) ((2 ^ j : Nat) : Int) ((cnt j ln : Nat) : Int) (ln.length : Int) 1 A B) r → Ev (fun k => spec_l4mask.l1 k (ints ln) (j : Int) ((2 ^ j : Nat) : Int) 0 0 1 A B) r := by
    intro j hj A B
    have hp := two_pow_lt j hj
    refine ev_loop (fun k (s : Int) i => spec_l4mask.l1 k (ints ln) (j : Int) ((2 ^ j : Nat) : Int) s i 1 A B) ln.length (fun i => ((cnt j (ln.take i) : Nat) : Int)) 0 _ (by simp [cnt]) (by simp [List.take_length]) (fun i hi r hr => ?_)
    have hc := cnt_le j (ln.take i)
    have hc2 : (ln.take i).length ≤ i := List.length_take_le _ _
    have hn := cnt_next j ln i hi
    refine ev_step _ (fun k => ?_) hr
    simp only [spec_l4mask.l1]
    rw [if_pos (by omega), if_pos (by omega), ints_rd ln i hi, pow_bit _ j (hb _ (List.getElem_mem hi)) hj, wrap64_id (i := (i : Int) + 1) (by omega) (by omega)]
    by_cases hbit : ln[i].testBit j = true
    · rw [if_pos hbit, if_neg (by omega), wrap64_id (by omega) (by omega)]
      rw [if_pos hbit] at hn
      rw [hn]
      rfl
    · rw [if_neg hbit, if_pos rfl]
      rw [if_neg hbit] at hn
      rw [hn]
      rfl
  have key : ∀ d j : Nat, j + d = 64 → Ev (fun k => spec_l4mask.l0 k (ints ln) ((j : Int) - 1) 1 ((hib j (mX ln) : Nat) : Int) ((hib j (mY ln) : Nat) : Int)) (1, (mX ln : Int), (mY ln : Int)) := by
    have down : ∀ j : Nat, j ≤ 64 → Ev (fun k => spec_l4mask.l0 k (ints ln) ((j : Int) - 1) 1 ((hib j (mX ln) : Nat) : Int) ((hib j (mY ln) : Nat) : Int)) (1, (mX ln : Int), (mY ln : Int)) := by
      intro j
      induction j with
      | zero =>
        intro _
        rw [hib_zero, hib_zero]
        exact ev_end fun k => by simp only [spec_l4mask.l0]; rw [if_neg (by omega)]
      | succ j ih =>
        intro hj
        have hj2 : j < 64 := by omega
        have hp := two_pow_lt j hj2
        have hX1 := hib_lt (j + 1) (mX ln) (mX_lt ln)
        have hY1 := hib_lt (j + 1) (mY ln) (mY_lt ln)
        have next := ih (by omega)
        have e1 : ((j + 1 : Nat) : Int) - 1 = (j : Int) := by omega
        rw [e1]
        have hw : IntKind.u64.wrap (j : Int) = (j : Int) := wrap_u64_id (by omega) (by omega)
        refine ev_step _ (fun k => by simp only [spec_l4mask.l0]; rw [if_pos (by omega), hw, if_pos (by omega), shl_is j hj2]) ?_
        refine inner j hj2 _ _ _ ?_
        have hx := mX_tb ln hne hb j hj2
        have hy := mY_tb ln j
        have hc := cnt_le j ln
        have hwd : wrap64 ((j : Int) - 1) = (j : Int) - 1 := wrap64_id (by omega) (by omega)
        by_cases c0 : cnt j ln = 0
        · have hall : ∀ v ∈ ln, v.testBit j = false := by
            intro v hv
            have := List.countP_eq_zero.1 c0 v hv
            simpa using this
          have hx1 : (mX ln).testBit j = true := hx.2 fun v hv => by rw [hall v hv, hall _ (v0_mem ln hne)]
          have hy1 : (mY ln).testBit j = false := by rw [hy, hall _ (v0_mem ln hne)]; rfl
          rw [hib_yes j _ hx1, hib_no j _ hy1] at next
          refine ev_step (fun k => spec_l4mask.j2 k (ints ln) (j : Int) ((2 ^ j : Nat) : Int) ((cnt j ln : Nat) : Int) true 1 ((hib (j + 1) (mX ln) : Nat) : Int) ((hib (j + 1) (mY ln) : Nat) : Int)) (fun k => ?_) (ev_step _ (fun k => ?_) next)
          · simp only [spec_l4mask.l1]
            rw [if_neg (by omega), if_pos (by omega)]
          · simp only [spec_l4mask.j2]
            rw [if_pos trivial, if_neg (by omega), hwd, or64 _ _ hX1 (by omega)]
        · by_cases c1 : cnt j ln = ln.length
          · have hall : ∀ v ∈ ln, v.testBit j = true := by
              intro v hv
              exact List.countP_eq_length.1 c1 v hv
            have hx1 : (mX ln).testBit j = true := hx.2 fun v hv => by rw [hall v hv, hall _ (v0_mem ln hne)]
            have hy1 : (mY ln).testBit j = true := by rw [hy, hall _ (v0_mem ln hne), hx1]; rfl
            rw [hib_yes j _ hx1, hib_yes j _ hy1] at next
            refine ev_step (fun k => spec_l4mask.j2 k (ints ln) (j : Int) ((2 ^ j : Nat) : Int) ((cnt j ln : Nat) : Int) true 1 ((hib (j + 1) (mX ln) : Nat) : Int) ((hib (j + 1) (mY ln) : Nat) : Int)) (fun k => ?_) (ev_step _ (fun k => ?_) next)
            · simp only [spec_l4mask.l1]
              rw [if_neg (by omega), if_neg (by omega), show (((cnt j ln : Nat) : Int) == ((ints ln).length : Int)) = true by rw [beq_iff_eq]; omega]
            · simp only [spec_l4mask.j2]
              rw [if_pos trivial, if_pos (by omega), hwd, or64 _ _ hX1 (by omega), or64 _ _ hY1 (by omega)]
          · have hx1 : (mX ln).testBit j = false := by
              cases h : (mX ln).testBit j
              · rfl
              · exfalso
                have hs := hx.1 h
                cases h0 : (v0N ln).testBit j
                · exact c0 (List.countP_eq_zero.2 fun v hv => by rw [hs v hv, h0]; decide)
                · exact c1 (List.countP_eq_length.2 fun v hv => by rw [hs v hv, h0])
            have hy1 : (mY ln).testBit j = false := by rw [hy, hx1, Bool.and_false]
            rw [hib_no j _ hx1, hib_no j _ hy1] at next
            refine ev_step (fun k => spec_l4mask.j2 k (ints ln) (j : Int) ((2 ^ j : Nat) : Int) ((cnt j ln : Nat) : Int) false 1 ((hib (j + 1) (mX ln) : Nat) : Int) ((hib (j + 1) (mY ln) : Nat) : Int)) (fun k => ?_) (ev_step _ (fun k => ?_) next)
            · simp only [spec_l4mask.l1]
              rw [if_neg (by omega), if_neg (by omega), show (((cnt j ln : Nat) : Int) == ((ints ln).length : Int)) = false by rw [beq_eq_false_iff_ne]; omega]
            · simp only [spec_l4mask.j2]
              rw [if_neg (by decide), if_neg (by omega), hwd]
    intro d j h
    exact down j (by omega)
  have h64 := key 0 64 rfl
  rw [hib_top _ (mX_lt ln), hib_top _ (mY_lt ln)] at h64
  exact h64
theorem l4range_ev (ln : List Nat) (hne : ln ≠ []) (hl : ln.length ≤ 35184372088832) (hb : ∀ v ∈ ln, v < 18446744073709551616) :
    Ev (fun k => spec_l4range.f k (ints ln)) (2, (loN ln : Int), (hiN ln : Int)) := by
  have hlen := ints_length ln
  have hpos : 0 < ln.length := List.length_pos_iff.2 hne
  obtain ⟨e1, e2, _⟩ := cov_ends ln hne hb
  have h0 : (ints ln).getD 0 0 = rd (ints ln) 0 := rfl
  have key := ev_loop (fun k (s : Int × Int) i => spec_l4range.l0 k (ints ln) i 2 s.1 s.2) ln.length (fun i => (Lib.minOf ((ints ln).take (max i 1)), Lib.maxOf ((ints ln).take (max i 1)))) (rd (ints ln) 0, rd (ints ln) 0) ((loN ln : Int), (hiN ln : Int))
    (by show (Lib.minOf ((ints ln).take 1), Lib.maxOf ((ints ln).take 1)) = _; rw [Lib.minOf_one, Lib.maxOf_one]; rfl) (by show (Lib.minOf ((ints ln).take (max ln.length 1)), Lib.maxOf ((ints ln).take (max ln.length 1))) = _; rw [show max ln.length 1 = (ints ln).length by omega, List.take_length, e1, e2]) (fun i hi r hr => by
      refine ev_step _ (fun k => ?_) hr
      simp only [spec_l4range.l0]
      rw [if_pos (by omega), if_pos (by omega), wrap64_id (i := (i : Int) + 1) (by omega) (by omega)]
      have hrd : rd (ints ln) (i : Int) = (ints ln).getD i 0 := rfl
      by_cases hi0 : i = 0
      · subst hi0
        have m1 : max (0 + 1) 1 = 1 := rfl
        have m0 : max 0 1 = 1 := rfl
        rw [m1, m0, Lib.minOf_one, Lib.maxOf_one, hrd, if_neg (by omega), if_neg (by omega)]
        rfl
      · rw [show max (i + 1) 1 = i + 1 by omega, show max i 1 = i by omega, Lib.minOf_step _ i (by omega) (by omega), Lib.maxOf_step _ i (by omega) (by omega), hrd]
        generalize Lib.minOf ((ints ln).take i) = p
        generalize Lib.maxOf ((ints ln).take i) = q
        generalize (ints ln).getD i 0 = x
        by_cases c1 : x < p <;> by_cases c2 : x > q
        · rw [if_pos c1, if_pos c2, Int.min_eq_right (by omega), Int.max_eq_right (by omega)]; rfl
        · rw [if_pos c1, if_neg c2, Int.min_eq_right (by omega), Int.max_eq_left (by omega)]; rfl
        · rw [if_neg c1, if_pos c2, Int.min_eq_left (by omega), Int.max_eq_right (by omega)]; rfl
        · rw [if_neg c1, if_neg c2, Int.min_eq_left (by omega), Int.max_eq_left (by omega)]; rfl)
  refine Ev.congr (fun n => ?_) (key _ (ev_end fun n => by simp only [spec_l4range.l0]; rw [if_neg (by omega)]))
  unfold spec_l4range.f
  rw [if_pos (by omega)]
/-- Does the mask cover stand? -/
def cvPick (ln : List Nat) (form : Int) : Bool := decide (form = 1) || (decide (form = 0) && decide (2 ^ Lib.popAux 64 (difN ln) - 1 ≤ hiN ln - loN ln))
def cvCon (ln : List Nat) (form : Int) : Int × Int × Int := if cvPick ln form = true then (normRaw 1 (mX ln) (mY ln)).1.con else (normRaw 2 (loN ln) (hiN ln)).1.con
theorem cvMask_ok (ln : List Nat) : (normRaw 1 (mX ln) (mY ln)).2 = true := by
  unfold normRaw
  rw [if_neg (by decide), if_pos rfl]
  by_cases h : ((mX ln : Nat) : Int) = 0 ∧ ((mY ln : Nat) : Int) = 0
  · rw [if_pos h]
  · rw [if_neg h, andNot64 _ _ (mY_lt ln) (mX_lt ln)]
    have hs : Sub (mY ln) (mX ln) := fun i hi => by
      rw [mY_tb, Bool.and_eq_true] at hi
      exact hi.2
    rw [(sub_zero (mY_lt ln) (mX_lt ln)).2 hs]
    rfl
theorem cvRange_ok (ln : List Nat) (hne : ln ≠ []) (hb : ∀ v ∈ ln, v < 18446744073709551616) : (normRaw 2 (loN ln) (hiN ln)).2 = true := by
  obtain ⟨_, _, h, _⟩ := cov_ends ln hne hb
  unfold normRaw
  rw [if_neg (by decide), if_neg (by decide), if_pos rfl, if_neg (by omega)]
theorem specCover_ev (ln : List Nat) (hne : ln ≠ []) (hl : ln.length ≤ 35184372088832) (hb : ∀ v ∈ ln, v < 18446744073709551616) (form : Int) (hf0 : 0 ≤ form) (hf2 : form ≤ 2) :
    Ev (fun k => spec_Cover.f k (ints ln) form) (cvCon ln form) := by
  have hlen := ints_length ln
  have hpos : 0 < ln.length := List.length_pos_iff.2 hne
  obtain ⟨e1, e2, e3, e4, _⟩ := cov_ends ln hne hb
  have hd := difN_lt ln hne hb
  have hpop := pop_le 64 (difN ln)
  obtain ⟨K1, h1⟩ := ev_get (l4mask_ev ln hne hl hb)
  obtain ⟨K2, h2⟩ := ev_get (l4range_ev ln hne hl hb)
  obtain ⟨K3, h3⟩ := ev_get (l4more_is (difN ln) hd)
  obtain ⟨K4, h4⟩ := ev_get (l3norm_ev 1 (mX ln) (mY ln) (mX_lt ln) (mY_lt ln) (cvMask_ok ln))
  obtain ⟨K5, h5⟩ := ev_get (l3norm_ev 2 (loN ln) (hiN ln) (by omega) e4 (cvRange_ok ln hne hb))
  have hw : IntKind.u64.wrap (((hiN ln : Nat) : Int) - ((loN ln : Nat) : Int)) = ((hiN ln - loN ln : Nat) : Int) := by rw [wrap_u64_id (by omega) (by omega)]; omega
  have hj1 : ∀ m, K4 ≤ m → K5 ≤ m → ∀ p, p = cvPick ln form → spec_Cover.j1 (m + 1) p 1 (mX ln) (mY ln) 2 (loN ln) (hiN ln) = some (cvCon ln form) := by
    intro m hm4 hm5 p hp
    simp only [spec_Cover.j1]
    unfold cvCon
    rw [← hp]
    by_cases hp1 : p = true
    · rw [if_pos hp1, if_pos hp1, h4 m hm4, Option.bind_some]
    · rw [if_neg hp1, if_neg hp1, h5 m hm5, Option.bind_some]
  refine ev_mk (K1 + K2 + K3 + K4 + K5 + 3) fun k hk => ?_
  obtain ⟨m, rfl⟩ : ∃ m, k = m + 1 + 1 := ⟨k - 2, by omega⟩
  unfold spec_Cover.f
  rw [if_neg (by omega), if_neg (by omega), decide_eq_false (by omega)]
  simp only [spec_Cover.j0]
  rw [if_neg (by decide), h1 (m + 1) (by omega), Option.bind_some, h2 (m + 1) (by omega), Option.bind_some]
  by_cases f1 : form = 1
  · rw [if_pos f1]
    exact hj1 m (by omega) (by omega) true (by unfold cvPick; rw [decide_eq_true f1]; rfl)
  · rw [if_neg f1]
    by_cases f0 : form = 0
    · rw [if_pos f0]
      show (spec_l4more.f (m + 1) ((mX ln : Nat) : Int)).bind _ = _
      have h3' := h3 (m + 1) (by omega)
      rw [show ((mX ln : Nat) : Int) = ((18446744073709551615 - difN ln : Nat) : Int) from rfl, h3', Option.bind_some, hw]
      refine hj1 m (by omega) (by omega) _ ?_
      unfold cvPick
      rw [decide_eq_false f1, decide_eq_true f0, Bool.false_or, Bool.true_and, decide_eq_decide]
      omega
    · rw [if_neg f0]
      exact hj1 m (by omega) (by omega) false (by unfold cvPick; rw [decide_eq_false f1, decide_eq_false f0]; rfl)
theorem implCover_ev (ln : List Nat) (hne : ln ≠ []) (hl : ln.length ≤ 35184372088832) (hb : ∀ v ∈ ln, v < 18446744073709551616) (form : Int) (hf0 : 0 ≤ form) (hf2 : form ≤ 2) :
    Ev (fun k => impl_Cover.f k (ints ln) form) (cvCon ln form) := by
  have hlen := ints_length ln
  have hpos : 0 < ln.length := List.length_pos_iff.2 hne
  obtain ⟨e1, e2, e3, e4, _⟩ := cov_ends ln hne hb
  have hd := difN_lt ln hne hb
  have hv0 := hb _ (v0_mem ln hne)
  have hpop := pop_le 64 (difN ln)
  have hw : IntKind.u64.wrap (((hiN ln : Nat) : Int) - ((loN ln : Nat) : Int)) = ((hiN ln - loN ln : Nat) : Int) := by rw [wrap_u64_id (by omega) (by omega)]; omega
  have hj2 : ∀ p, p = !cvPick ln form → Ev (fun k => impl_Cover.j2 k (ints ln) ((difN ln : Nat) : Int) ((loN ln : Nat) : Int) ((hiN ln : Nat) : Int) p) (cvCon ln form) := by
    intro p hp
    refine ev_end fun k => ?_
    simp only [impl_Cover.j2]
    unfold cvCon
    cases hc : cvPick ln form with
    | false =>
      rw [hc] at hp
      rw [hp]
      have h := cvRange_ok ln hne hb
      rw [if_pos (show (!false) = true from rfl), if_neg (by decide)]
      unfold impl_NormCon.f
      rw [if_pos h, Option.bind_some]
    | true =>
      rw [hc] at hp
      rw [hp]
      have h := cvMask_ok ln
      rw [if_neg (by decide), if_pos (by omega), if_pos rfl, not64 _ hd, v0_rd ln hne, andNot64 _ _ hv0 hd]
      unfold impl_NormCon.f
      rw [show ((18446744073709551615 - difN ln : Nat) : Int) = ((mX ln : Nat) : Int) from rfl, show ((v0N ln &&& (18446744073709551615 - difN ln) : Nat) : Int) = ((mY ln : Nat) : Int) from rfl, if_pos h, Option.bind_some]
  have hend : Ev (fun k => impl_Cover.l0 k (ints ln) form ((difN ln : Nat) : Int) (ints ln) (ln.length : Int) (ln.length : Int)) (cvCon ln form) := by
    have hmin : slices_Min_uint64_uint64.f (ints ln) = some ((loN ln : Nat) : Int) := by unfold slices_Min_uint64_uint64.f; rw [if_pos (by omega), e1]
    have hmax : slices_Max_uint64_uint64.f (ints ln) = some ((hiN ln : Nat) : Int) := by unfold slices_Max_uint64_uint64.f; rw [if_pos (by omega), e2]
    have hones := onesCount64_is (difN ln) hd
    by_cases f0 : form = 0
    · have hpick : cvPick ln form = decide (2 ^ Lib.popAux 64 (difN ln) - 1 ≤ hiN ln - loN ln) := by unfold cvPick; rw [decide_eq_false (by omega), decide_eq_true f0, Bool.false_or, Bool.true_and]
      generalize Lib.popAux 64 (difN ln) = n at hpick hones hpop
      have p64 : (2 : Nat) ^ 64 - 1 = 18446744073709551615 := by decide
      by_cases n64 : n = 64
      · by_cases hall : hiN ln - loN ln = 18446744073709551615
        · refine ev_step _ (fun k => ?_) (hj2 false (by rw [hpick, n64, p64, decide_eq_true (by omega)]; rfl))
          simp only [impl_Cover.l0]
          rw [if_neg (by omega), hmin, Option.bind_some, hmax, Option.bind_some, if_pos f0, hones, Option.bind_some, if_pos (by omega), hw, if_pos (by omega), if_neg (by omega)]
        · refine ev_step _ (fun k => ?_) (hj2 true (by rw [hpick, n64, p64, decide_eq_false (by omega)]; rfl))
          simp only [impl_Cover.l0]
          rw [if_neg (by omega), hmin, Option.bind_some, hmax, Option.bind_some, if_pos f0, hones, Option.bind_some, if_pos (by omega), hw, if_neg (by omega)]
      · have hlt : n < 64 := by omega
        have hp := two_pow_lt n hlt
        refine ev_step _ (fun k => ?_) (hj2 (decide (((2 ^ n - 1 : Nat) : Int) > ((hiN ln - loN ln : Nat) : Int))) (by
          rw [hpick, Bool.eq_iff_iff]
          simp only [decide_eq_true_eq, Bool.not_eq_true', decide_eq_false_iff_not]
          omega))
        simp only [impl_Cover.l0]
        rw [if_neg (by omega), hmin, Option.bind_some, hmax, Option.bind_some, if_pos f0, hones, Option.bind_some, if_neg (by omega), if_pos (by omega), if_pos (by omega), shl_is n hlt, hw, wrap_u64_id (by omega) (by omega)]
        congr 3
        omega
    · have hpick : cvPick ln form = decide (form = 1) := by unfold cvPick; rw [decide_eq_false f0, Bool.false_and, Bool.or_false]
      refine ev_step _ (fun k => ?_) (hj2 (form == 2) (by
        rw [hpick, Bool.eq_iff_iff, beq_iff_eq]
        simp only [Bool.not_eq_true', decide_eq_false_iff_not]
        omega))
      simp only [impl_Cover.l0]
      rw [if_neg (by omega), hmin, Option.bind_some, hmax, Option.bind_some, if_neg f0]
  have key := ev_loop (fun k (s : Int) i => impl_Cover.l0 k (ints ln) form s (ints ln) (ln.length : Int) i) ln.length (fun i => ((dif (v0N ln) (ln.take i) : Nat) : Int)) 0 ((difN ln : Nat) : Int) (by simp [dif]) (by simp [difN, List.take_length]) (fun i hi r hr => by
    have hlt := dif_lt (v0N ln) hv0 (ln.take i) fun v hv => hb v (List.mem_of_mem_take hv)
    have hvi := hb _ (List.getElem_mem hi)
    have hx : ln[i] ^^^ v0N ln < 18446744073709551616 := Nat.xor_lt_two_pow (n := 64) hvi hv0
    refine ev_step _ (fun k => ?_) hr
    simp only [impl_Cover.l0]
    rw [if_pos (by omega), if_pos (by omega), if_pos (by omega), if_pos (by omega), ints_rd ln i hi, v0_rd ln hne, xor64 _ _ hvi hv0, or64 _ _ hlt hx, wrap64_id (i := (i : Int) + 1) (by omega) (by omega), dif_next (v0N ln) ln i hi]
    rfl) _ hend
  obtain ⟨K, hK⟩ := ev_get key
  refine ev_mk (K + 1) fun k hk => ?_
  obtain ⟨m, rfl⟩ : ∃ m, k = m + 1 := ⟨k - 1, by omega⟩
  unfold impl_Cover.f
  rw [if_neg (by omega), if_neg (by omega), decide_eq_false (by omega)]
  simp only [impl_Cover.j0]
  rw [if_neg (by decide), hlen]
  exact hK m (by omega)
theorem cover_both (l : List Int) (hl : l.length ≤ 35184372088832) (hb : ∀ x ∈ l, (Lit.int .u64 x).wf = true) (form : Int) :
    ∃ c : Int × Int × Int, Ev (fun k => spec_Cover.f k l form) c ∧ Ev (fun k => impl_Cover.f k l form) c := by
  by_cases h : l ≠ [] ∧ 0 ≤ form ∧ form ≤ 2
  · obtain ⟨hne, h0, h2⟩ := h
    obtain ⟨ln, rfl, hln⟩ := ints_of l hb
    have hne2 : ln ≠ [] := by rintro rfl; exact hne rfl
    rw [ints_length] at hl
    exact ⟨_, specCover_ev ln hne2 hl hln form h0 h2, implCover_ev ln hne2 hl hln form h0 h2⟩
  · have hb : (l.length : Int) = 0 ∨ form < 0 ∨ form > 2 := by
      by_cases e : l = []
      · subst e; exact .inl rfl
      · by_cases e1 : 0 ≤ form
        · exact .inr (.inr (by have : ¬ form ≤ 2 := fun h3 => h ⟨e, e1, h3⟩
                               omega))
        · exact .inr (.inl (by omega))
    refine ⟨(0, 0, 0), ev_end fun k => ?_, ev_end fun k => ?_⟩
    · unfold spec_Cover.f
      by_cases c1 : (l.length : Int) = 0
      · rw [if_pos c1]; simp only [spec_Cover.j0]; rfl
      · rw [if_neg c1]
        by_cases c2 : form < 0
        · rw [if_pos c2]; simp only [spec_Cover.j0]; rfl
        · rw [if_neg c2, decide_eq_true (by omega)]; simp only [spec_Cover.j0]; rfl
    · unfold impl_Cover.f
      by_cases c1 : (l.length : Int) = 0
      · rw [if_pos c1]; simp only [impl_Cover.j0]; rfl
      · rw [if_neg c1]
        by_cases c2 : form < 0
        · rw [if_pos c2]; simp only [impl_Cover.j0]; rfl
        · rw [if_neg c2, decide_eq_true (by omega)]; simp only [impl_Cover.j0]; rfl
end Go.Proofs.Ytdipinclchkhjaa.P
