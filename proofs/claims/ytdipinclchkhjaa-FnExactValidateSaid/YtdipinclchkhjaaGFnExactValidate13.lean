import Derived.Test.YtdipinclchkhjaaGFnExactValidate5
import Derived.Test.YtdipinclchkhjaaGFnExactValidate9
import Derived.Test.YtdipinclchkhjaaGFnExactValidate10
import Derived.Test.YtdipinclchkhjaaGFnExactValidate12
namespace Go.Proofs.Ytdipinclchkhjaa.P
open Go.RowKit Go.Proofs.YtdipinclchkhjaaW.PrintWords Go.Proofs.YtdipinclchkhjaaW.PrintLast Go.Proofs.YtdipinclchkhjaaW.PrintMore
set_option linter.unusedVariables false
set_option linter.unusedSimpArgs false
/-- An instruction's fields in their ranges. -/
def InsR (x : S101) : Prop := (0 ≤ x.f0 ∧ x.f0 < 65536) ∧ (0 ≤ x.f1 ∧ x.f1 < 256) ∧ (0 ≤ x.f2 ∧ x.f2 < 256) ∧ 0 ≤ x.f3 ∧ x.f3 < 4294967296
/-! The faults of one instruction, from the last that is looked for to the first. -/
def ft5 (c i n : Int) : Int := if i = n - 1 ∧ c ≠ 6 ∧ c ≠ 22 then 7 else 0
def ft4 (c k i n : Int) : Int := if (c = 100 ∨ c = 116) ∧ k ≥ 32 then 6 else ft5 c i n
def ft3 (c k i n : Int) : Int := if c = 52 ∧ k = 0 then 6 else ft4 c k i n
def ft2 (c t f k i n : Int) : Int := if sortN c = 2 ∧ (i + 1 + t ≥ n ∨ i + 1 + f ≥ n) then 5 else ft3 c k i n
def ft1 (c t f k i n : Int) : Int := if c = 5 ∧ i + 1 + k ≥ n then 5 else ft2 c t f k i n
def ft0 (c t f k i n : Int) : Int := if (c = 96 ∨ c = 97 ∨ c = 2 ∨ c = 3) ∧ k ≥ 16 then 4 else ft1 c t f k i n
def insFault (x : S101) (i n : Int) : Int := if sortN x.f0 = 0 then 2 else if x.f0 = 32 ∧ (x.f3 % 4 ≠ 0 ∨ x.f3 > 60) then 3 else ft0 x.f0 x.f1 x.f2 x.f3 i n
theorem sort_end (c : Int) : sortN c = 4 ↔ c = 6 ∨ c = 22 := by
  unfold sortN
  split
  · rename_i h
    simp only [plainCodes, List.mem_cons, List.not_mem_nil, or_false] at h
    rcases h with rfl | rfl | rfl | rfl | rfl | rfl | rfl | rfl | rfl | rfl | rfl | rfl | rfl | rfl | rfl | rfl | rfl | rfl | rfl | rfl | rfl | rfl | rfl | rfl | rfl | rfl | rfl | rfl <;> decide
  · split
    · rename_i h; subst h; decide
    · split
      · rename_i h
        simp only [testCodes, List.mem_cons, List.not_mem_nil, or_false] at h
        rcases h with rfl | rfl | rfl | rfl | rfl | rfl | rfl | rfl <;> decide
      · split <;> rename_i h
        · simpa [endCodes] using h
        · simpa [endCodes] using h
theorem sort_skip (c : Int) : sortN c = 3 ↔ c = 5 := by
  unfold sortN
  split
  · rename_i h
    simp only [plainCodes, List.mem_cons, List.not_mem_nil, or_false] at h
    rcases h with rfl | rfl | rfl | rfl | rfl | rfl | rfl | rfl | rfl | rfl | rfl | rfl | rfl | rfl | rfl | rfl | rfl | rfl | rfl | rfl | rfl | rfl | rfl | rfl | rfl | rfl | rfl | rfl <;> decide
  · split
    · rename_i h; simp [h]
    · rename_i h
      split
      · simp [h]
      · split <;> simp [h]
theorem specFault_ev (l : List S101) (i : Nat) (hi : i < l.length) (hl : l.length ≤ 4096) (hr : InsR l[i]) : Ev (fun k => spec_l1fault.f k l (i : Int)) (insFault l[i] i l.length) := by
  obtain ⟨⟨a0, a1⟩, ⟨b0, b1⟩, ⟨c0, c1⟩, d0, d1⟩ := hr
  obtain ⟨c, hc⟩ : ∃ c, c = l[i].f0 := ⟨_, rfl⟩
  obtain ⟨t, ht⟩ : ∃ c, c = l[i].f1 := ⟨_, rfl⟩
  obtain ⟨f, hf⟩ : ∃ c, c = l[i].f2 := ⟨_, rfl⟩
  obtain ⟨kk, hkk⟩ : ∃ c, c = l[i].f3 := ⟨_, rfl⟩
  obtain ⟨n, hn⟩ : ∃ n : Int, n = (l.length : Int) := ⟨_, rfl⟩
  obtain ⟨K1, h1⟩ := ev_get (l1known_ev c)
  obtain ⟨K2, h2⟩ := ev_get (l1isTest_ev c (by omega))
  have j5 : ∀ k b, spec_l1fault.j5 (k + 1) i n c b = some (if b = true then 6 else ft5 c i n) := by
    intro k b
    rw [spec_l1fault.j5, wrap64_id (by omega) (by omega)]
    unfold ft5
    by_cases hb : b = true
    · simp [hb]
    · rw [if_neg hb, if_neg hb]
      by_cases e : (i : Int) = n - 1
      · rw [if_pos e]
        by_cases e1 : c = 6
        · rw [if_pos e1, if_neg (by simp [e1])]
        · rw [if_neg e1]
          by_cases e2 : c = 22
          · rw [if_pos e2, if_neg (by simp [e2])]
          · rw [if_neg e2, if_pos ⟨e, e1, e2⟩]
      · rw [if_neg e, if_neg (fun h => e h.1)]
  have j4 : ∀ k b, spec_l1fault.j4 (k + 2) i n c kk b = some (if b = true then 6 else ft4 c kk i n) := by
    intro k b
    rw [spec_l1fault.j4]
    simp only [j5]
    unfold ft4
    by_cases hb : b = true
    · simp [hb]
    · rw [if_neg hb, if_neg hb]
      by_cases e1 : c = 100
      · rw [if_pos e1]; simp only [decide_eq_true_eq]; congr 1; by_cases e : kk ≥ 32 <;> simp [e, e1]
      · rw [if_neg e1]
        by_cases e2 : c = 116
        · rw [if_pos e2]; simp only [decide_eq_true_eq]; congr 1; by_cases e : kk ≥ 32 <;> simp [e, e2]
        · rw [if_neg e2]; simp [e1, e2]
  have j3 : ∀ k b, spec_l1fault.j3 (k + 3) i n c kk b = some (if b = true then 5 else ft3 c kk i n) := by
    intro k b
    rw [spec_l1fault.j3]
    simp only [j4]
    unfold ft3
    by_cases hb : b = true
    · simp [hb]
    · rw [if_neg hb, if_neg hb]
      by_cases e1 : c = 52
      · rw [if_pos e1]; simp only [beq_iff_eq]; congr 1; by_cases e : kk = 0 <;> simp [e, e1]
      · rw [if_neg e1]; simp [e1]
  have j2 : ∀ k b, K2 ≤ k → spec_l1fault.j2 (k + 4) l i n c kk b = some (if b = true then 5 else ft2 c t f kk i n) := by
    intro k b hk
    rw [spec_l1fault.j2]
    simp only [j3]
    rw [h2 (k + 3) (by omega), Option.bind_some, rdIns_eq l i hi, ← ht, ← hf, if_pos (by omega : (0 : Int) ≤ i), if_pos (by omega : (i : Int) < l.length)]
    rw [wrap64_id (i := (i : Int) + 1) (by omega) (by omega), wrap64_id (i := t) (by omega) (by omega), wrap64_id (i := f) (by omega) (by omega), wrap64_id (i := (i : Int) + 1 + t) (by omega) (by omega), wrap64_id (i := (i : Int) + 1 + f) (by omega) (by omega)]
    unfold ft2
    by_cases hb : b = true
    · simp [hb]
    · rw [if_neg hb, if_neg hb]
      by_cases e : sortN c = 2
      · rw [if_pos (by simp [e])]
        by_cases e1 : (i : Int) + 1 + t ≥ n
        · rw [if_pos e1]; simp [e, e1]
        · rw [if_neg e1]; simp only [decide_eq_true_eq]; congr 1; by_cases e2 : (i : Int) + 1 + f ≥ n <;> simp [e, e1, e2]
      · rw [if_neg (by simp [e])]; simp [e]
  have j1 : ∀ k b, K2 ≤ k → spec_l1fault.j1 (k + 5) l i n c kk b = some (if b = true then 4 else ft1 c t f kk i n) := by
    intro k b hk
    rw [spec_l1fault.j1]
    simp only [j2 _ _ hk]
    rw [wrap64_id (i := (i : Int) + 1) (by omega) (by omega), wrap64_id (i := (i : Int) + 1 + kk) (by omega) (by omega)]
    unfold ft1
    by_cases hb : b = true
    · simp [hb]
    · rw [if_neg hb, if_neg hb]
      by_cases e1 : c = 5
      · rw [if_pos e1]; simp only [decide_eq_true_eq]; congr 1; by_cases e : (i : Int) + 1 + kk ≥ n <;> simp [e, e1]
      · rw [if_neg e1]; simp [e1]
  have j0 : ∀ k b, K2 ≤ k → spec_l1fault.j0 (k + 6) l i n c kk b = some (if b = true then 3 else ft0 c t f kk i n) := by
    intro k b hk
    rw [spec_l1fault.j0]
    simp only [j1 _ _ hk]
    unfold ft0
    by_cases hb : b = true
    · simp [hb]
    · rw [if_neg hb, if_neg hb]
      simp only [decide_eq_true_eq, Bool.false_eq_true, if_false]
      by_cases e1 : c = 96
      · rw [if_pos e1]; congr 1; by_cases e : kk ≥ 16 <;> simp [e, e1]
      · rw [if_neg e1]
        by_cases e2 : c = 97
        · rw [if_pos e2]; congr 1; by_cases e : kk ≥ 16 <;> simp [e, e2]
        · rw [if_neg e2]
          by_cases e3 : c = 2
          · rw [if_pos e3]; congr 1; by_cases e : kk ≥ 16 <;> simp [e, e3]
          · rw [if_neg e3]
            by_cases e4 : c = 3
            · rw [if_pos e4]; congr 1; by_cases e : kk ≥ 16 <;> simp [e, e4]
            · rw [if_neg e4]; simp [e1, e2, e3, e4]
  refine ev_mk (K1 + K2 + 6) fun k hk => ?_
  obtain ⟨k, rfl⟩ : ∃ m, k = m + 6 := ⟨k - 6, by omega⟩
  unfold spec_l1fault.f insFault
  rw [if_pos (by omega), if_pos (by omega), rdIns_eq l i hi, ← hc, ← ht, ← hf, ← hkk, ← hn, wrap64_id (i := c) (by omega) (by omega), wrap64_id (i := kk) (by omega) (by omega), h1 _ (by omega), Option.bind_some]
  simp only [j0 _ _ (show K2 ≤ k by omega)]
  rw [Int.tmod_eq_emod_of_nonneg (by omega)]
  by_cases e0 : sortN c = 0
  · rw [if_neg (by simp [e0]), if_pos e0]
  · rw [if_pos (by simp [e0]), if_neg e0]
    by_cases e1 : c = 32
    · rw [if_pos e1]
      by_cases e2 : kk % 4 = 0
      · rw [if_pos e2]; simp only [decide_eq_true_eq]; congr 1; by_cases e : kk > 60 <;> simp [e, e1, e2]
      · rw [if_neg e2]; simp [e1, e2]
    · rw [if_neg e1]; simp [e1]
theorem contains4_ev (c : Int) : Ev (fun k => slices_Contains_uint16_uint16.f k [96, 97, 2, 3] c) (decide (c = 96 ∨ c = 97 ∨ c = 2 ∨ c = 3)) := by
  refine ev_mk 6 fun k hk => ?_
  obtain ⟨k, rfl⟩ : ∃ m, k = m + 5 := ⟨k - 5, by omega⟩
  have r0 : rd [96, 97, 2, 3] 0 = 96 := rfl
  have r1 : rd [96, 97, 2, 3] 1 = 97 := rfl
  have r2 : rd [96, 97, 2, 3] 2 = 2 := rfl
  have r3 : rd [96, 97, 2, 3] 3 = 3 := rfl
  have w0 : wrap64 (0 + 1) = 1 := by rw [wrap64_id (by omega) (by omega)]; rfl
  have w1 : wrap64 (1 + 1) = 2 := by rw [wrap64_id (by omega) (by omega)]; rfl
  have w2 : wrap64 (2 + 1) = 3 := by rw [wrap64_id (by omega) (by omega)]; rfl
  have w3 : wrap64 (3 + 1) = 4 := by rw [wrap64_id (by omega) (by omega)]; rfl
  have hl : (([96, 97, 2, 3] : List Int).length : Int) = 4 := rfl
  unfold slices_Contains_uint16_uint16.f slices_Index_uint16_uint16.f
  rw [hl]
  by_cases e0 : c = 96
  · rw [slices_Index_uint16_uint16.l0, hl, if_pos (by decide), if_pos (by decide), if_pos (by decide), r0, if_pos e0]; simp [e0]
  · rw [slices_Index_uint16_uint16.l0, hl, if_pos (by decide), if_pos (by decide), if_pos (by decide), r0, if_neg e0, w0]
    by_cases e1 : c = 97
    · rw [slices_Index_uint16_uint16.l0, hl, if_pos (by decide), if_pos (by decide), if_pos (by decide), r1, if_pos e1]; simp [e1]
    · rw [slices_Index_uint16_uint16.l0, hl, if_pos (by decide), if_pos (by decide), if_pos (by decide), r1, if_neg e1, w1]
      by_cases e2 : c = 2
      · rw [slices_Index_uint16_uint16.l0, hl, if_pos (by decide), if_pos (by decide), if_pos (by decide), r2, if_pos e2]; simp [e2]
      · rw [slices_Index_uint16_uint16.l0, hl, if_pos (by decide), if_pos (by decide), if_pos (by decide), r2, if_neg e2, w2]
        by_cases e3 : c = 3
        · rw [slices_Index_uint16_uint16.l0, hl, if_pos (by decide), if_pos (by decide), if_pos (by decide), r3, if_pos e3]; simp [e3]
        · rw [slices_Index_uint16_uint16.l0, hl, if_pos (by decide), if_pos (by decide), if_pos (by decide), r3, if_neg e3, w3, slices_Index_uint16_uint16.l0, if_neg (by decide)]
          simp [e0, e1, e2, e3]
theorem implFault_ev (x : S101) (i n : Int) (h0 : 0 ≤ i) (h1 : i < n) (hn : n ≤ 4096) (hr : InsR x) : Ev (fun k => impl_Ins_fault.f k x.f0 x.f1 x.f2 x.f3 i n) (insFault x i n) := by
  obtain ⟨c, t, f, kk⟩ := x
  obtain ⟨⟨a0, a1⟩, ⟨b0, b1⟩, ⟨c0, c1⟩, d0, d1⟩ := hr
  simp only at a0 a1 b0 b1 c0 c1 d0 d1
  obtain ⟨K1, hc⟩ := ev_get (contains4_ev c)
  obtain ⟨s, hs⟩ : ∃ s, s = sortN c := ⟨_, rfl⟩
  have hs4 := sort_end c
  have hs3 := sort_skip c
  rw [← hs] at hs4 hs3
  have wu : ∀ x : Int, IntKind.u64.wrap x = x % 18446744073709551616 := fun x => by simp [IntKind.wrap, IntKind.bits, IntKind.signed]
  have j5 : ∀ k b, impl_Ins_fault.j5 (k + 1) i n s b = some (if b = true then 6 else ft5 c i n) := by
    intro k b
    rw [impl_Ins_fault.j5, wrap64_id (by omega) (by omega)]
    unfold ft5
    by_cases hb : b = true
    · simp [hb]
    · rw [if_neg hb, if_neg hb]
      by_cases e : i = n - 1
      · rw [if_pos e]
        by_cases e1 : s = 4
        · rw [if_pos e1, if_neg (fun h => (hs4.1 e1).elim h.2.1 h.2.2)]
        · rw [if_neg e1, if_pos ⟨e, fun h => e1 (hs4.2 (.inl h)), fun h => e1 (hs4.2 (.inr h))⟩]
      · rw [if_neg e, if_neg (fun h => e h.1)]
  have j4 : ∀ k b, impl_Ins_fault.j4 (k + 2) i n s b c t f kk = some (if b = true then 6 else ft4 c kk i n) := by
    intro k b
    rw [impl_Ins_fault.j4]
    simp only [j5]
    unfold ft4
    by_cases hb : b = true
    · simp [hb]
    · rw [if_neg hb, if_neg hb]
      by_cases e1 : c = 100
      · rw [if_pos e1]; simp only [decide_eq_true_eq]; congr 1; by_cases e : kk ≥ 32 <;> simp [e, e1]
      · rw [if_neg e1]
        by_cases e2 : c = 116
        · rw [if_pos e2]; simp only [decide_eq_true_eq]; congr 1; by_cases e : kk ≥ 32 <;> simp [e, e2]
        · rw [if_neg e2]; simp [e1, e2]
  have j3 : ∀ k b, impl_Ins_fault.j3 (k + 3) i n s b c t f kk = some (if b = true then 5 else ft3 c kk i n) := by
    intro k b
    rw [impl_Ins_fault.j3]
    simp only [j4]
    unfold ft3
    by_cases hb : b = true
    · simp [hb]
    · rw [if_neg hb, if_neg hb]
      by_cases e1 : c = 52
      · rw [if_pos e1]; simp only [beq_iff_eq]; congr 1; by_cases e : kk = 0 <;> simp [e, e1]
      · rw [if_neg e1]; simp [e1]
  have j2 : ∀ k b, impl_Ins_fault.j2 (k + 4) i n s b c t f kk = some (if b = true then 5 else ft2 c t f kk i n) := by
    intro k b
    have hm : mx t f = if t < f then f else t := rfl
    have hm0 : 0 ≤ mx t f ∧ mx t f < 256 := by rw [hm]; split <;> omega
    rw [impl_Ins_fault.j2]
    simp only [j3]
    rw [wrap64_id (i := i + 1) (by omega) (by omega), wrap64_id (i := mx t f) (by omega) (by omega), wrap64_id (i := i + 1 + mx t f) (by omega) (by omega)]
    unfold ft2
    rw [← hs]
    by_cases hb : b = true
    · simp [hb]
    · rw [if_neg hb, if_neg hb]
      by_cases e : s = 2
      · rw [if_pos e]
        simp only [decide_eq_true_eq]
        congr 1
        by_cases e1 : i + 1 + mx t f ≥ n
        · rw [if_pos e1, if_pos ⟨e, by rw [hm] at e1; split at e1 <;> omega⟩]
        · rw [if_neg e1, if_neg (fun h => by rw [hm] at e1; have h2 := h.2; split at e1 <;> omega)]
      · rw [if_neg e]; simp [e]
  have j1 : ∀ k b, impl_Ins_fault.j1 (k + 5) i n s b c t f kk = some (if b = true then 4 else ft1 c t f kk i n) := by
    intro k b
    rw [impl_Ins_fault.j1]
    simp only [j2]
    unfold ft1
    by_cases hb : b = true
    · simp [hb]
    · rw [if_neg hb, if_neg hb]
      by_cases e1 : c = 5
      · rw [if_pos (hs3.2 e1)]
        have hw : IntKind.u64.wrap (IntKind.u64.wrap (IntKind.u64.wrap i + 1) + IntKind.u64.wrap kk) = i + 1 + kk := by rw [wu, wu, wu, wu]; omega
        have hw2 : IntKind.u64.wrap n = n := by rw [wu]; omega
        rw [hw, hw2]
        simp only [decide_eq_true_eq]; congr 1; by_cases e : i + 1 + kk ≥ n <;> simp [e, e1]
      · rw [if_neg (fun h => e1 (hs3.1 h))]; simp [e1]
  have j0 : ∀ k b, K1 ≤ k → impl_Ins_fault.j0 (k + 6) i n s b c t f kk = some (if b = true then 3 else ft0 c t f kk i n) := by
    intro k b hk
    rw [impl_Ins_fault.j0, hc _ (by omega), Option.bind_some]
    simp only [j1]
    unfold ft0
    by_cases hb : b = true
    · simp [hb]
    · rw [if_neg hb, if_neg hb]
      simp only [decide_eq_true_eq, Bool.false_eq_true, if_false]
      by_cases e : c = 96 ∨ c = 97 ∨ c = 2 ∨ c = 3
      · rw [if_pos e]; congr 1; by_cases e2 : kk ≥ 16 <;> simp [e, e2]
      · rw [if_neg e]; simp [e]
  refine ev_mk (K1 + 8) fun k hk => ?_
  obtain ⟨k, rfl⟩ : ∃ m, k = m + 6 := ⟨k - 6, by omega⟩
  unfold impl_Ins_fault.f insFault
  rw [sortOf_is c (k + 6) (by omega), Option.bind_some, ← hs]
  simp only [j0 _ _ (show K1 ≤ k by omega)]
  rw [Int.tmod_eq_emod_of_nonneg d0]
  by_cases e0 : s = 0
  · rw [if_pos e0, if_pos e0]
  · rw [if_neg e0, if_neg e0]
    by_cases e1 : c = 32
    · rw [if_pos e1]
      by_cases e2 : kk % 4 = 0
      · rw [if_pos e2]; simp only [decide_eq_true_eq]; congr 1; by_cases e : kk > 60 <;> simp [e, e1, e2]
      · rw [if_neg e2]; simp [e1, e2]
    · rw [if_neg e1]; simp [e1]
/-! A program's first fault, and where. -/
def faultFrom (l : List S101) (n : Int) : Nat → List S101 → Int × Int
  | _, [] => (0, 0)
  | i, x :: r => if insFault x i n = 0 then faultFrom l n (i + 1) r else (insFault x i n, i)
def validN (l : List S101) : Int × Int := if l.length < 1 ∨ l.length > 4096 then (1, 0) else faultFrom l l.length 0 l
theorem specValidate_ev (l : List S101) (hr : ∀ x ∈ l, InsR x) : Ev (fun k => spec_Validate.f k l) (validN l) := by
  have key : l.length ≤ 4096 → ∀ d i : Nat, i + d = l.length → Ev (fun k => spec_Validate.l0 k l (i : Int)) (faultFrom l l.length i (l.drop i)) := by
    intro hl d
    induction d with
    | zero =>
      intro i hi
      refine ev_end fun k => ?_
      rw [spec_Validate.l0, if_neg (by omega), List.drop_of_length_le (by omega)]
      rfl
    | succ d ih =>
      intro i hi
      have hlt : i < l.length := by omega
      rw [List.drop_eq_getElem_cons hlt]
      obtain ⟨K1, h1⟩ := ev_get (specFault_ev l i hlt hl (hr _ (List.getElem_mem hlt)))
      obtain ⟨K2, h2⟩ := ev_get (ih (i + 1) (by omega))
      refine ev_mk (K1 + K2 + 1) fun k hk => ?_
      obtain ⟨k, rfl⟩ : ∃ m, k = m + 1 := ⟨k - 1, by omega⟩
      rw [spec_Validate.l0, if_pos (by omega), h1 k (by omega), Option.bind_some, faultFrom]
      by_cases e : insFault l[i] i l.length = 0
      · rw [if_pos e, if_pos e, wrap64_id (by omega) (by omega)]
        exact h2 k (by omega)
      · rw [if_neg e, if_neg e]
  unfold validN
  by_cases h1 : l.length < 1
  · rw [if_pos (.inl h1)]
    refine ev_mk 1 fun k hk => ?_
    obtain ⟨k, rfl⟩ : ∃ m, k = m + 1 := ⟨k - 1, by omega⟩
    unfold spec_Validate.f
    rw [if_pos (by omega), spec_Validate.j0, if_pos rfl]
  · by_cases h2 : l.length > 4096
    · rw [if_pos (.inr h2)]
      refine ev_mk 1 fun k hk => ?_
      obtain ⟨k, rfl⟩ : ∃ m, k = m + 1 := ⟨k - 1, by omega⟩
      unfold spec_Validate.f
      rw [if_neg (by omega), spec_Validate.j0, if_pos (by simp; omega)]
    · rw [if_neg (by omega)]
      have h := key (by omega) l.length 0 (by omega)
      rw [List.drop_zero] at h
      refine ev_step _ (g := fun k => spec_Validate.f k l) (fun k => ?_) h
      unfold spec_Validate.f
      rw [if_neg (by omega), spec_Validate.j0, if_neg (by simp; omega)]
      rfl
theorem implValidate_ev (l : List S101) (hr : ∀ x ∈ l, InsR x) : Ev (fun k => impl_Validate.f k l) (validN l) := by
  have key : l.length ≤ 4096 → ∀ d i : Nat, i + d = l.length → Ev (fun k => impl_Validate.l0 k l l (l.length : Int) (i : Int)) (faultFrom l l.length i (l.drop i)) := by
    intro hl d
    induction d with
    | zero =>
      intro i hi
      refine ev_end fun k => ?_
      rw [impl_Validate.l0, if_neg (by omega), List.drop_of_length_le (by omega)]
      rfl
    | succ d ih =>
      intro i hi
      have hlt : i < l.length := by omega
      rw [List.drop_eq_getElem_cons hlt]
      obtain ⟨K1, h1⟩ := ev_get (implFault_ev l[i] i l.length (by omega) (by omega) (by omega) (hr _ (List.getElem_mem hlt)))
      obtain ⟨K2, h2⟩ := ev_get (ih (i + 1) (by omega))
      refine ev_mk (K1 + K2 + 1) fun k hk => ?_
      obtain ⟨k, rfl⟩ : ∃ m, k = m + 1 := ⟨k - 1, by omega⟩
      rw [impl_Validate.l0, if_pos (by omega), if_pos (by omega), if_pos (by omega), rdIns_eq l i hlt, h1 k (by omega), Option.bind_some, faultFrom]
      by_cases e : insFault l[i] i l.length = 0
      · rw [if_pos e, if_pos e, wrap64_id (by omega) (by omega)]
        exact h2 k (by omega)
      · rw [if_neg e, if_neg e]
  unfold validN
  by_cases h1 : l.length < 1
  · rw [if_pos (.inl h1)]
    refine ev_mk 1 fun k hk => ?_
    obtain ⟨k, rfl⟩ : ∃ m, k = m + 1 := ⟨k - 1, by omega⟩
    unfold impl_Validate.f
    rw [if_pos (by omega), impl_Validate.j0, if_pos rfl]
  · by_cases h2 : l.length > 4096
    · rw [if_pos (.inr h2)]
      refine ev_mk 1 fun k hk => ?_
      obtain ⟨k, rfl⟩ : ∃ m, k = m + 1 := ⟨k - 1, by omega⟩
      unfold impl_Validate.f
      rw [if_neg (by omega), impl_Validate.j0, if_pos (by simp; omega)]
    · rw [if_neg (by omega)]
      have h := key (by omega) l.length 0 (by omega)
      rw [List.drop_zero] at h
      refine ev_step _ (g := fun k => impl_Validate.f k l) (fun k => ?_) h
      unfold impl_Validate.f
      rw [if_neg (by omega), impl_Validate.j0, if_neg (by simp; omega)]
      rfl
end Go.Proofs.Ytdipinclchkhjaa.P
