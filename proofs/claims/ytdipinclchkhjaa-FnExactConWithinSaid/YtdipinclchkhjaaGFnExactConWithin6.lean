import Derived.Test.YtdipinclchkhjaaGFnExactConWithin1
import Derived.Test.YtdipinclchkhjaaGFnExactConWithin5
import Derived.Test.YtdipinclchkhjaaGFnExactConWithin3
import Derived.Sort.AtCall
import Derived.Test.YtdipinclchkhjaaGFnExactConWithin4
namespace Go.Proofs.Ytdipinclchkhjaa.P
open Go.RowKit Go.Proofs.YtdipinclchkhjaaW.PrintWords Go.Proofs.YtdipinclchkhjaaW.PrintLast Go.Proofs.YtdipinclchkhjaaW.PrintMore
attribute [local go_sem] max2_int min2_int max_two min_two max_three min_three max_four min_four   -- for this text's walks alone
set_option linter.unusedVariables false
set_option linter.unusedSimpArgs false

-- HAND 15
-- IMPORT Derived.Test.YtdipinclchkhjaaHCond
-- IMPORT Derived.Sort.AtCall
def impl_ConWithin.f (a0_0 : Int) (a0_1 : Int) (a0_2 : Int) (a1_0 : Int) (a1_1 : Int) (a1_2 : Int) : Option Bool := some ((normRaw a0_0 a0_1 a0_2).2 && ((normRaw a1_0 a1_1 a1_2).2 && insRaw (normRaw a0_0 a0_1 a0_2).1 (normRaw a1_0 a1_1 a1_2).1))
theorem normRaw_ne {k a b : Int} (h : (normRaw k a b).2 = true) : (normRaw k a b).1 ≠ .nil := by
  unfold normRaw nrRaw at h ⊢
  by_cases h0 : k = 0
  · rw [if_pos h0]; simp
  · rw [if_neg h0] at h ⊢
    by_cases h1 : k = 1
    · rw [if_pos h1]; split <;> simp
    · rw [if_neg h1] at h ⊢
      by_cases h2 : k = 2
      · rw [if_pos h2] at h ⊢
        by_cases h3 : a > b
        · rw [if_pos h3] at h; simp at h
        · rw [if_neg h3]
          dsimp only
          split
          · simp
          · split <;> simp
      · rw [if_neg h2] at h; simp at h
set_option maxHeartbeats 1000000 in
theorem impl_ConWithin.calls (a0_0 : Int) (a0_1 : Int) (a0_2 : Int) (a1_0 : Int) (a1_1 : Int) (a1_2 : Int) (r : Bool) (w : World) (h : impl_ConWithin.f a0_0 a0_1 a0_2 a1_0 a1_1 a1_2 = some r) :
    Calls Try.prog 15 #[.agg #[.int .i64 a0_0, .int .u64 a0_1, .int .u64 a0_2], .agg #[.int .i64 a1_0, .int .u64 a1_1, .int .u64 a1_2]] w fun e w' => e = .returned (.bool r) ∧ Below w.heap.size w w' := by
  have hn1 := normRaw_ne (k := a0_0) (a := a0_1) (b := a0_2)
  unfold impl_ConWithin.f at h
  have H1 := impl_normal.does a0_0 a0_1 a0_2
  have H2 := impl_normal.does a1_0 a1_1 a1_2
  generalize normRaw a0_0 a0_1 a0_2 = p at h H1 hn1
  generalize normRaw a1_0 a1_1 a1_2 = q at h H2
  obtain ⟨c1, b1⟩ := p
  obtain ⟨c2, b2⟩ := q
  simp only at h H1 H2 hn1
  have HN1 := Aside0.mk H1
  have HN2 := Aside0.mk H2
  clear H1 H2
  cases b1 with
  | false =>
    simp only [Bool.false_and, Option.some.injEq] at h
    subst h
    cases b2 <;> (
      go_enter Try.func15, Try.ntmps15
      go_wp2_with (first | (go_at_call_has 62 a0_0; refine (HN1.out _).mono ?_; rintro e w1 ⟨rfl, hb1⟩; obtain ⟨hc, hf⟩ := bcell hb1; have HB1 := Aside0.mk hb1; clear hb1) | (go_at_call_has 62 a1_0; refine (HN2.out _).mono ?_; rintro e w2 ⟨rfl, hb2⟩; have HB2 := Aside0.mk hb2; clear hb2))
      go_ret
      exact ⟨rfl, by
        refine below_call (below_call ?_ HB1.out ?_) HB2.out ?_
        · exact below_alloc (below_alloc (Below.refl _ _) _) _
        · simp; omega
        · exact Nat.le_trans (by simp; omega) HB1.out.size⟩)
  | true =>
    cases b2 with
    | false =>
      simp only [Bool.false_and, Bool.and_false, Option.some.injEq] at h
      subst h
      go_enter Try.func15, Try.ntmps15
      go_wp2_with (first | (go_at_call_has 62 a0_0; refine (HN1.out _).mono ?_; rintro e w1 ⟨rfl, hb1⟩; obtain ⟨hc, hf⟩ := bcell hb1; have HB1 := Aside0.mk hb1; clear hb1) | (go_at_call_has 62 a1_0; refine (HN2.out _).mono ?_; rintro e w2 ⟨rfl, hb2⟩; have HB2 := Aside0.mk hb2; clear hb2))
      go_ret
      exact ⟨rfl, by
        refine below_call (below_call ?_ HB1.out ?_) HB2.out ?_
        · exact below_alloc (below_alloc (Below.refl _ _) _) _
        · simp; omega
        · exact Nat.le_trans (by simp; omega) HB1.out.size⟩
    | true =>
      simp only [Bool.true_and, Option.some.injEq] at h
      have HI := Aside0.mk (impl_inside.does c1 c2 (hn1 rfl))
      rw [h] at HI
      go_enter Try.func15, Try.ntmps15
      go_wp2_with (first | (first | (go_at_call_has 62 a0_0; refine (HN1.out _).mono ?_; rintro e w1 ⟨rfl, hb1⟩; obtain ⟨hc, hf⟩ := bcell hb1; have HB1 := Aside0.mk hb1; clear hb1) | (go_at_call_has 62 a1_0; refine (HN2.out _).mono ?_; rintro e w2 ⟨rfl, hb2⟩; have HB2 := Aside0.mk hb2; clear hb2)) | (go_at_call 63; refine (HI.out _).mono ?_; rintro e w3 ⟨rfl, hb3⟩; have HB3 := Aside0.mk hb3; clear hb3))
      go_ret
      exact ⟨rfl, by
        refine below_call (below_call (below_call ?_ HB1.out ?_) HB2.out ?_) HB3.out ?_
        · exact below_alloc (below_alloc (Below.refl _ _) _) _
        · simp; omega
        · exact Nat.le_trans (by simp; omega) HB1.out.size
        · exact Nat.le_trans (Nat.le_trans (by simp; omega) HB1.out.size) HB2.out.size⟩

end Go.Proofs.Ytdipinclchkhjaa.P

namespace Go.Proofs.Ytdipinclchkhjaa.P
open Go.RowKit Go.Proofs.YtdipinclchkhjaaW.PrintWords Go.Proofs.YtdipinclchkhjaaW.PrintLast Go.Proofs.YtdipinclchkhjaaW.PrintMore
set_option linter.unusedVariables false
set_option linter.unusedSimpArgs false
/-! A condition's set; which lies in which. -/
def InC (k : Int) (a b z : Nat) : Prop := if k = 1 then z &&& a = b else if k = 2 then a ≤ z ∧ z ≤ b else True
def Lies (k : Int) (a b : Nat) (k2 : Int) (a2 b2 : Nat) : Prop := ∀ z, z < 18446744073709551616 → InC k a b z → InC k2 a2 b2 z
/-- A condition inside, and that it is sound. -/
inductive NC where
  | any
  | mask (m v : Nat)
  | rng (l h : Nat)
def NC.cd : NC → Cd
  | .any => .any
  | .mask m v => .mask m v
  | .rng l h => .rng l h
def NC.In : NC → Nat → Prop
  | .any, _ => True
  | .mask m v, z => z &&& m = v
  | .rng l h, z => l ≤ z ∧ z ≤ h
def NC.Good : NC → Prop
  | .any => True
  | .mask m v => m < 18446744073709551616 ∧ v < 18446744073709551616 ∧ m ≠ 0 ∧ Sub v m
  | .rng l h => l ≤ h ∧ h < 18446744073709551616
/-- What the program makes of a range: a sound one, and the same set. -/
theorem nrRaw_nc (a b : Nat) (hab : a ≤ b) (hb : b < 18446744073709551616) : ∃ c : NC, nrRaw (a : Int) (b : Int) = c.cd ∧ c.Good ∧ ∀ z, z < 18446744073709551616 → (c.In z ↔ a ≤ z ∧ z ≤ b) := by
  by_cases h : ∃ k, k ≤ 64 ∧ b - a = 2 ^ k - 1 ∧ a % 2 ^ k = 0
  · obtain ⟨k, hk, h1, h2⟩ := h
    have hp := two_pow_le k hk
    unfold nrRaw
    rw [nrN_is a b hab hb]
    by_cases e : k = 64
    · subst e
      have e0 : (b - a + 1) % 18446744073709551616 = 0 := by rw [h1]
      rw [e0]
      have e1 : (2 : Nat) ^ 64 - 1 = 18446744073709551615 := by decide
      rw [e1] at h1
      exact ⟨.any, by simp [NC.cd], trivial, fun z hz => ⟨fun _ => by omega, fun _ => trivial⟩⟩
    · have hk2 : k < 64 := by omega
      have hp2 := two_pow_lt k hk2
      have e1 : (b - a + 1) % 18446744073709551616 = 2 ^ k := by rw [h1, Nat.sub_add_cancel hp.1]; exact Nat.mod_eq_of_lt (by omega)
      have e2 : IntKind.u64.wrap (((2 ^ k : Nat) : Int) - 1) = ((2 ^ k - 1 : Nat) : Int) := by rw [wrap_u64_id (by omega) (by omega)]; omega
      have e3 : 2 ^ k &&& (2 ^ k - 1) = 0 := by rw [Nat.and_two_pow_sub_one_eq_mod]; exact Nat.mod_self _
      have e4 : a &&& (2 ^ k - 1) = 0 := by rw [Nat.and_two_pow_sub_one_eq_mod]; exact h2
      rw [e1, e2, and64 _ _ (by omega) (by omega), and64 _ _ (by omega) (by omega), e3, e4, not64 _ (by omega), if_neg (by omega), if_pos ⟨rfl, rfl⟩]
      refine ⟨.mask (18446744073709551615 - (2 ^ k - 1)) a, rfl, ⟨by omega, by omega, by omega, ?_⟩, fun z hz => ?_⟩
      · exact and_sub ((block_set hk h2 (by omega)).2 ⟨Nat.le_refl _, by omega⟩)
      · show z &&& _ = a ↔ _
        rw [block_set hk h2 hz]
        omega
  · refine ⟨.rng a b, nrRaw_plain a b hab hb (fun k h1 h2 h3 => h ⟨k, h1, h2, h3⟩), ⟨hab, hb⟩, fun z hz => Iff.rfl⟩
theorem normRaw_nc (k : Int) (a b : Nat) (ha : a < 18446744073709551616) (hb : b < 18446744073709551616) (hok : (normRaw k a b).2 = true) : ∃ c : NC, (normRaw k a b).1 = c.cd ∧ c.Good ∧ ∀ z, z < 18446744073709551616 → (c.In z ↔ InC k a b z) := by
  unfold normRaw at hok ⊢
  unfold InC
  by_cases h0 : k = 0
  · subst h0
    exact ⟨.any, by simp [NC.cd], trivial, fun z hz => by simp [NC.In]⟩
  · rw [if_neg h0] at hok ⊢
    by_cases h1 : k = 1
    · rw [if_pos h1] at hok ⊢
      by_cases h2 : (a : Int) = 0 ∧ (b : Int) = 0
      · rw [if_pos h2]
        refine ⟨.any, rfl, trivial, fun z hz => ?_⟩
        rw [if_pos h1, show a = 0 by omega, show b = 0 by omega, Nat.and_zero]
        simp [NC.In]
      · rw [if_neg h2] at hok ⊢
        rw [andNot64 b a hb ha] at hok
        simp only [beq_iff_eq] at hok
        have hs := (sub_zero hb ha).1 (by omega)
        refine ⟨.mask a b, rfl, ⟨ha, hb, ?_, hs⟩, fun z hz => ?_⟩
        · rintro rfl
          have : b = 0 := by
            apply Nat.eq_of_testBit_eq
            intro i
            rw [Nat.zero_testBit]
            cases hbi : b.testBit i
            · rfl
            · have := hs i hbi
              rw [Nat.zero_testBit] at this
              exact absurd this (by decide)
          omega
        · rw [if_pos h1]; exact Iff.rfl
    · rw [if_neg h1] at hok ⊢
      by_cases h2 : k = 2
      · rw [if_pos h2] at hok ⊢
        by_cases h3 : (a : Int) > b
        · rw [if_pos h3] at hok; exact absurd hok (by decide)
        · rw [if_neg h3]
          obtain ⟨c, c1, c2, c3⟩ := nrRaw_nc a b (by omega) hb
          refine ⟨c, c1, c2, fun z hz => ?_⟩
          rw [if_neg h1, if_pos h2]
          exact c3 z hz
      · rw [if_neg h2] at hok; exact absurd hok (by decide)
/-- The program's question, of sound ones: the sets' own. -/
theorem insRaw_iff (x y : NC) (hx : x.Good) (hy : y.Good) : insRaw x.cd y.cd = true ↔ ∀ z, z < 18446744073709551616 → x.In z → y.In z := by
  cases y with
  | any => simp [NC.cd, insRaw, NC.In]
  | rng l h =>
    obtain ⟨y1, y2⟩ := hy
    have key : ∀ lo hi : Nat, lo < 18446744073709551616 → hi < 18446744073709551616 → x.In lo → x.In hi → (∀ z, z < 18446744073709551616 → x.In z → lo ≤ z ∧ z ≤ hi) → x.cd.ends = ((lo : Int), (hi : Int)) → (insRaw x.cd (NC.rng l h).cd = true ↔ ∀ z, z < 18446744073709551616 → x.In z → (NC.rng l h).In z) := by
      intro lo hi hlo hhi i1 i2 hb he
      have e : insRaw x.cd (NC.rng l h).cd = ((decide ((l : Int) ≤ lo) && decide ((lo : Int) ≤ h)) && (decide ((l : Int) ≤ hi) && decide ((hi : Int) ≤ h))) := by
        show ((Cd.rng l h).holds x.cd.ends.1 && (Cd.rng l h).holds x.cd.ends.2) = _
        rw [he]
        rfl
      rw [e]
      simp only [Bool.and_eq_true, decide_eq_true_eq]
      show _ ↔ ∀ z, z < 18446744073709551616 → x.In z → l ≤ z ∧ z ≤ h
      constructor
      · intro hh z hz hzi
        have := hb z hz hzi
        omega
      · intro hh
        have a1 := hh lo hlo i1
        have a2 := hh hi hhi i2
        omega
    cases x with
    | any => exact key 0 18446744073709551615 (by omega) (by omega) trivial trivial (fun z hz _ => by omega) rfl
    | mask m v =>
      obtain ⟨x1, x2, x3, x4⟩ := hx
      obtain ⟨e1, e2, e3, e4⟩ := mask_ends x1 x2 x4
      refine key v (v ||| (18446744073709551615 - m)) x2 e3 e1 e2 e4 ?_
      simp only [NC.cd, Cd.ends]
      rw [not64 m x1, or64 v _ x2 (by omega)]
    | rng l2 h2 =>
      obtain ⟨x1, x2⟩ := hx
      exact key l2 h2 (by omega) x2 ⟨Nat.le_refl _, x1⟩ ⟨x1, Nat.le_refl _⟩ (fun z _ h => h) rfl
  | mask m v =>
    obtain ⟨y1, y2, y3, y4⟩ := hy
    cases x with
    | any =>
      simp only [NC.cd, insRaw, NC.In, Bool.false_eq_true, false_iff]
      intro hh
      have hex : ∃ i, i < 64 ∧ m.testBit i = true := by
        refine Classical.byContradiction fun hn => y3 ?_
        refine eq_bits y1 (by omega) fun i hi => ?_
        rw [Nat.zero_testBit]
        cases hmi : m.testBit i
        · rfl
        · exact absurd ⟨i, hi, hmi⟩ hn
      obtain ⟨i, hi, hmi⟩ := hex
      have a1 := hh 0 (by omega) trivial
      have a2 := hh (2 ^ i) (two_lt hi) trivial
      rw [Nat.zero_and] at a1
      rw [← a1, Nat.and_comm, and_pow, if_pos hmi] at a2
      have := Nat.two_pow_pos i
      omega
    | mask m2 v2 =>
      obtain ⟨x1, x2, x3, x4⟩ := hx
      simp only [NC.cd, insRaw, NC.In, Bool.and_eq_true, beq_iff_eq]
      rw [andNot64 m m2 y1 x1, and64 v2 m x2 y1, mask_mask x1 y1 x2 y2 x4 y4, ← mask_test x1 y1 x2 y2 x4 y4]
      omega
    | rng l h =>
      obtain ⟨x1, x2⟩ := hx
      have hxl : l ^^^ h < 18446744073709551616 := Nat.xor_lt_two_pow (n := 64) (by omega) x2
      obtain ⟨n1, n2, n3⟩ := bitLen_top (l ^^^ h) hxl
      simp only [NC.cd, insRaw, NC.In, Bool.and_eq_true, beq_iff_eq]
      rw [xor64 l h (by omega) x2, show ((l ^^^ h : Nat) : Int).toNat = l ^^^ h from rfl, Nat.min_eq_left n1]
      generalize Lib.bitLen (l ^^^ h) = n at n1 n2 n3
      have hp := two_pow_le n n1
      have e : IntKind.u64.wrap (IntKind.u64.wrap (2 ^ n) - 1) = ((2 ^ n - 1 : Nat) : Int) := by
        have e0 : ((2 : Int) ^ n) = ((2 ^ n : Nat) : Int) := by simp
        rw [e0, wrap_u64, wrap_u64]
        omega
      rw [e, and64 m _ y1 (by omega), and64 l m (by omega) y1]
      have hr := range_mask (m := m) (v := v) x1 n2 n3
      constructor
      · rintro ⟨a1, a2⟩ z hz hzi
        exact hr.2 ⟨by omega, by omega⟩ z hzi.1 hzi.2
      · intro hh
        have := hr.1 fun z z1 z2 => hh z (by omega) ⟨z1, z2⟩
        omega
theorem implConWithin_iff (k : Int) (a b : Nat) (k2 : Int) (a2 b2 : Nat) (ha : a < 18446744073709551616) (hb : b < 18446744073709551616) (ha2 : a2 < 18446744073709551616) (hb2 : b2 < 18446744073709551616) :
    ∃ r, impl_ConWithin.f k a b k2 a2 b2 = some r ∧ (r = true ↔ (normRaw k a b).2 = true ∧ (normRaw k2 a2 b2).2 = true ∧ Lies k a b k2 a2 b2) := by
  refine ⟨_, rfl, ?_⟩
  rw [Bool.and_eq_true, Bool.and_eq_true]
  refine and_congr_right fun h1 => and_congr_right fun h2 => ?_
  obtain ⟨c, c1, c2, c3⟩ := normRaw_nc k a b ha hb h1
  obtain ⟨d, d1, d2, d3⟩ := normRaw_nc k2 a2 b2 ha2 hb2 h2
  rw [c1, d1, insRaw_iff c d c2 d2]
  unfold Lies
  exact ⟨fun h z hz hi => (d3 z hz).1 (h z hz ((c3 z hz).2 hi)), fun h z hz hi => (d3 z hz).2 (h z hz ((c3 z hz).1 hi))⟩
end Go.Proofs.Ytdipinclchkhjaa.P
